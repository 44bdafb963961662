/-
  Layer 8 (option): Put, walked.
-/
import Derived.Test.YtjkhmnipffdliaaFlt
import Derived.Test.YtjkhmnipffdliaaBld
import Derived.Test.YtjkhmnipffdliaaShelf
set_option linter.unusedVariables false
set_option linter.unusedSimpArgs false
namespace Go.Proofs.Ytjkhmnipffdliaa
open Go.RowKit Go.Proofs.YtjkhmnipffdliaaW.PrintWords Go.Proofs.YtjkhmnipffdliaaW.PrintLast

/-- An option's bytes; a row's bytes. -/
def enc1 (o : Opt) : List UInt8 := o.t :: UInt8.ofNat (2 + o.d.size) :: o.d.data.toList
def enc : List Opt → List UInt8
  | [] => []
  | o :: l => enc1 o ++ enc l
theorem enc_append (l m : List Opt) : enc (l ++ m) = enc l ++ enc m := by
  induction l with
  | nil => rfl
  | cons o l ih => simp [enc, ih]
theorem enc1_len (o : Opt) : (enc1 o).length = 2 + o.d.size := by
  simp only [enc1, List.length_cons, Array.length_toList]
  rw [show o.d.data.size = o.d.size from rfl]; omega
theorem enc_snoc (l : List Opt) (o : Opt) : enc (l ++ [o]) = enc l ++ enc1 o := by rw [enc_append]; simp [enc]
/-- All are short enough. -/
def fits (l : List Opt) : Bool := l.all fun o => decide (o.d.size ≤ 253)
theorem fits_snoc (l : List Opt) (o : Opt) : fits (l ++ [o]) = (fits l && decide (o.d.size ≤ 253)) := by simp [fits]
theorem enc_len (l : List Opt) (h : fits l = true) : (enc l).length ≤ 255 * l.length := by
  induction l with
  | nil => simp [enc]
  | cons o l ih =>
    simp only [fits, List.all_cons, Bool.and_eq_true, decide_eq_true_eq] at h
    have := ih h.2
    simp only [enc, List.length_append, enc1_len, List.length_cons]
    omega
theorem fits_take (l : List Opt) (k : Nat) (h : fits l = true) : fits (l.take k) = true := by
  simp only [fits, List.all_eq_true] at h ⊢
  exact fun o ho => h o (List.mem_of_mem_take ho)
theorem fits_not (l : List Opt) (k : Nat) (hk : k < l.length) (h : ¬ l[k].d.size ≤ 253) : fits l = false := by
  rw [← Bool.not_eq_true]
  intro hf
  simp only [fits, List.all_eq_true, decide_eq_true_eq] at hf
  exact h (hf _ (List.getElem_mem hk))
/-- What Put answers. -/
def put (l : List Opt) : List UInt8 × Int :=
  if 64 < l.length then ([], 4) else if fits l = false then ([], 2) else if 1496 < (enc l).length then ([], 5) else (enc l, 0)
def putV (l : List Opt) : Value := .tuple #[.string ⟨(put l).1.toArray⟩, .int .i64 (put l).2]
theorem put_full {l : List Opt} (h : 64 < l.length) : put l = ([], 4) := if_pos h
theorem put_arg {l : List Opt} (h : l.length ≤ 64) (h2 : fits l = false) : put l = ([], 2) := by rw [put, if_neg (by omega), if_pos h2]
theorem put_long {l : List Opt} (h : l.length ≤ 64) (h2 : fits l = true) (h3 : 1496 < (enc l).length) : put l = ([], 5) := by rw [put, if_neg (by omega), if_neg (by rw [h2]; decide), if_pos h3]
theorem put_ok {l : List Opt} (h : l.length ≤ 64) (h2 : fits l = true) (h3 : (enc l).length ≤ 1496) : put l = (enc l, 0) := by rw [put, if_neg (by omega), if_neg (by rw [h2]; decide), if_neg (by omega)]
theorem cells_two_bytes (o : Opt) (h : o.d.size ≤ 253) (bs : List UInt8) : Lib.byteCells bs ++ [Value.int .u8 (tv o.t), .int .u8 (2 + (o.d.size : Int))] ++ Lib.strCells o.d = Lib.byteCells (bs ++ enc1 o) := by
  have e : (UInt8.ofNat (2 + o.d.size)).toNat = 2 + o.d.size := by simp; omega
  simp only [Lib.byteCells, List.map_append, enc1, List.map_cons, e, List.append_assoc, List.cons_append, List.nil_append, Lib.strCells, tv]
  norm_cast
set_option maxHeartbeats 1000000 in
set_option maxRecDepth 100000 in
theorem put_calls (l : List Opt) (a : Option Addr) (c : Nat) (w : World) (h : Row w a c l) (hs : l.length < 1000000) :
    Calls Try.prog 9 #[.slice a l.length c] w fun e w' => e = .returned (putV l) ∧ Below w.heap.size w w' := by
  have c0 := Lib.hid h.1
  have hu32 := Try.underlying32
  unfold putV
  by_cases h64 : 64 < l.length
  · have h1 : decide ((64 : Int) < (l.length : Int)) = true := by simp; omega
    have h2 : decide (64 < l.length) = true := by simp; omega
    rw [put_full h64]
    clear h64
    go_enter Try.func9, Try.ntmps9
    go_wp2
    go_ret2
    exact ⟨rfl, Below.refl _ _⟩
  · have h1 : decide ((64 : Int) < (l.length : Int)) = false := by simp; omega
    have h2 : decide (64 < l.length) = false := by simp; omega
    have h64 : l.length ≤ 64 := by omega
    go_enter Try.func9, Try.ntmps9
    go_wp2
    clear h1 h2
    go_loopg [12] l.length (fun q i wr => ∃ k : Nat, k ≤ l.length ∧ q = l.length - k ∧ i = .int .i64 (k : Int) ∧ Hid (fits (l.take k) = true) ∧ Lib.IsBuilder 45 5 w.heap.size w.heap.size (Lib.byteCells (enc (l.take k))) wr ∧ Below w.heap.size w wr)
    case atStart => exact ⟨0, by omega, rfl, rfl, Lib.hid rfl, Lib.fresh_isBuilder 45 5 w, (Below.refl _ _).alloc (Nat.le_refl _) _⟩
    case round =>
      obtain ⟨k, hk, hq, rfl, hfit, hbd, hB⟩ := hrel
      have A := Lib.hid hq; clear hq
      have hbt : w.heap.size < wr.heap.size := by rcases hbd with hh | hh <;> exact hh.lt
      by_cases hlt : k < l.length
      · have h1 : decide ((k : Int) < (l.length : Int)) = true := by simp; omega
        obtain ⟨x, rfl, x0, x1⟩ := (h.below hB).at_ k hlt
        have hsn : Hid (enc (l.take (k + 1)) = enc (l.take k) ++ enc1 l[k] ∧ fits (l.take (k + 1)) = (fits (l.take k) && decide (l[k].d.size ≤ 253))) := Lib.hid (by
          rw [List.take_succ_eq_append_getElem hlt, enc_snoc, fits_snoc]; exact ⟨rfl, rfl⟩)
        have hnf := Lib.hid (fits_not l k hlt)
        have hel := enc_len (l.take k) hfit.out
        rw [List.length_take, Nat.min_eq_left hk] at hel
        generalize l[k] = o at *
        generalize enc (l.take k) = bs at *
        by_cases hz : o.d.size ≤ 253
        · have h2 : decide ((253 : Int) < (o.d.size : Int)) = false := by simp; omega
          have h2' : decide (253 < o.d.size) = false := by simp; omega
          have h3 : (o.d.size : Int) ≤ 253 := by omega
          go_wp2_with (first
            | (go_at_call 19; with_reducible refine (write_calls w.heap.size w.heap.size (Lib.byteCells bs) (wr.heap.size + 1) 2 2 [.int .u8 (tv o.t), .int .u8 (2 + (o.d.size : Int))] _ (isBuilder_alloc (isBuilder_alloc hbd _) _) (by rw [Lib.byteCells_length]; omega) (by simp; omega) (by omega) rfl ?_ (by simp [Value.oneCell'])).mono ?_
               · have := cell_two (wr.alloc (.cells #[.int .u8 (tv o.t), .string o.d] 32)) (.int .u8 (tv o.t)) (.int .u8 (2 + (o.d.size : Int))) 5
                 rw [World.size_alloc] at this
                 exact this
               rintro e w1 ⟨rfl, hbd1, hb1, hap1⟩
               have hx1 : w1.heap[wr.heap.size]? = some (.cells #[.int .u8 (tv o.t), .string o.d] 32 (0, 0)) := by
                 have e0 : ((wr.alloc (.cells #[.int .u8 (tv o.t), .string o.d] 32)).alloc (.cells #[.int .u8 (tv o.t), .int .u8 (2 + (o.d.size : Int))] 5)).heap[wr.heap.size]? = some (.cells #[.int .u8 (tv o.t), .string o.d] 32 (0, 0)) := by
                   rw [Lib.alloc_old _ _ _ (by simp)]
                   exact heap_alloc_new wr _
                 rw [hap1 _ _ _ (by omega) (by decide) e0]
                 exact e0
               have d1 : w1.cell? ⟨wr.heap.size, 1, none⟩ = some (.string o.d) := by rw [Lib.cell_of_heap hx1]; rfl
               have hB1 := ((hB.alloc hB.size (.cells #[.int .u8 (tv o.t), .string o.d] 32)).alloc (by simp; omega) (.cells #[.int .u8 (tv o.t), .int .u8 (2 + (o.d.size : Int))] 5)).trans hb1
               have hbi1 : Lib.IsBuilder 45 5 w.heap.size w.heap.size (Lib.byteCells bs ++ [.int .u8 (tv o.t), .int .u8 (2 + (o.d.size : Int))]) w1 := .inr hbd1)
            | (go_at_call 20; with_reducible refine (writeString_calls w.heap.size w.heap.size _ o.d _ hbi1 (by rw [List.length_append, Lib.byteCells_length]; simp; omega) hB1.size).mono ?_
               rintro e w2 ⟨rfl, hbd2, hb2, hap2⟩))
          go_roundg (l.length - (k + 1))
          case measure => have := A.out; omega
          case rel =>
            refine ⟨k + 1, by omega, rfl, by go_num, Lib.hid (by rw [hsn.out.2, hfit.out, decide_eq_true hz]; rfl), .inr ?_, hB1.trans hb2⟩
            rw [hsn.out.1, ← cells_two_bytes o hz bs]
            exact hbd2
        · have h2 : decide ((253 : Int) < (o.d.size : Int)) = true := by simp; omega
          have h2' : decide (253 < o.d.size) = true := by simp; omega
          have hp := Lib.hid (put_arg h64 (hnf.out hz))
          go_wp2
          go_ret2
          exact ⟨by rw [hp.out]; rfl, hB.alloc hB.size _⟩
      · obtain rfl : k = l.length := by omega
        have h1 : decide ((l.length : Int) < (l.length : Int)) = false := by simp
        have hf := hfit.out
        rw [List.take_length] at hf hbd
        have hel := enc_len l hf
        by_cases h5 : 1496 < (enc l).length
        · have hp := Lib.hid (put_long h64 hf h5)
          have h6 : decide ((1496 : Int) < ((enc l).length : Int)) = true := by simp; omega
          have h6' : decide (1496 < (enc l).length) = true := by simp; omega
          have hbl := Lib.byteCells_length (enc l)
          generalize enc l = bs at *
          go_wp2_with (first
            | (go_at_call 21; with_reducible refine (Try.Builder_Len w.heap.size w.heap.size (Lib.byteCells bs) _ hbd).mono ?_
               rintro e w1 ⟨rfl, hw⟩
               obtain rfl := hw.symm
               rw [hbl]))
          go_ret2
          exact ⟨by rw [hp.out]; rfl, hB⟩
        · have hp := Lib.hid (put_ok h64 hf (by omega))
          have h6 : decide ((1496 : Int) < ((enc l).length : Int)) = false := by simp; omega
          have h6' : decide (1496 < (enc l).length) = false := by simp; omega
          have hbl := Lib.byteCells_length (enc l)
          generalize enc l = bs at *
          go_wp2_with (first
            | (go_at_call 21; with_reducible refine (Try.Builder_Len w.heap.size w.heap.size (Lib.byteCells bs) _ hbd).mono ?_
               rintro e w1 ⟨rfl, hw⟩
               obtain rfl := hw.symm
               rw [hbl])
            | (go_at_call 22; with_reducible refine (Try.Builder_String_any w.heap.size w.heap.size bs _ hbd hB.size).mono ?_
               rintro e w1 ⟨rfl, hb1⟩))
          go_ret2
          exact ⟨by rw [hp.out]; rfl, hB.trans hb1⟩
end Go.Proofs.Ytjkhmnipffdliaa
