/-
  Layer 4 (hdlc): rows that come in: of strings, of bytes; Same over them; fits and clean, walked.
-/
import Derived.Test.YtphoemgnfmlngaaHh
set_option linter.unusedVariables false
set_option linter.unusedSimpArgs false
namespace Go.Proofs.Ytphoemgnfmlngaa
open Go.RowKit Go.Proofs.YtphoemgnfmlngaaW.PrintWords Go.Proofs.YtphoemgnfmlngaaW.PrintLast

theorem cell_in {W : World} {a : Addr} {v : Value} (h : W.cell? a = some v) : a.block < W.heap.size := by
  rcases Nat.lt_or_ge a.block W.heap.size with h' | h'
  · exact h'
  · unfold World.cell? at h
    rw [Array.getElem?_eq_none h'] at h
    cases h
/-- A row of strings that can be read. -/
def SRow (w : World) (a : Option Addr) (l : List (List UInt8)) : Prop := ∀ k (hk : k < l.length), ∃ x, a = some x ∧ w.cell? (x.add k) = some (.string (str l[k]))
theorem SRow.below {w W : World} {a : Option Addr} {l : List (List UInt8)} (h : SRow w a l) (hb : Below w.heap.size w W) : SRow W a l := fun k hk => by
  obtain ⟨x, rfl, hc⟩ := h k hk
  exact ⟨x, rfl, (hb.cell (cell_in hc)).trans hc⟩
theorem own_srow {w : World} {B c : Nat} {a : Option Addr} {l : List (List UInt8)} (h : w.ownsRow B 9 1 (.slice a l.length c) l.length (strs l)) : SRow w a l := fun k hk => by
  obtain ⟨g, rfl⟩ := row_some h (by omega)
  exact ⟨⟨g, 0, none⟩, rfl, h.cells (g := g) rfl k _ (by simp [strs, List.getElem?_eq_getElem hk])⟩
/-- A row of bytes that can be read. -/
def BRow (w : World) (a : Option Addr) (l : List UInt8) : Prop := ∀ k (hk : k < l.length), ∃ x, a = some x ∧ w.cell? (x.add k) = some (.int .u8 ((l[k].toNat : Nat) : Int))
theorem BRow.below {w W : World} {a : Option Addr} {l : List UInt8} (h : BRow w a l) (hb : Below w.heap.size w W) : BRow W a l := fun k hk => by
  obtain ⟨x, rfl, hc⟩ := h k hk
  exact ⟨x, rfl, (hb.cell (cell_in hc)).trans hc⟩
set_option maxRecDepth 100000 in
theorem same2_calls (l m : List (List UInt8)) (va ua : Option Addr) (vc uc : Nat) (w : World) (h1 : SRow w va l) (h2 : SRow w ua m) (hl : l.length ≤ 1000000) (hm : m.length ≤ 1000000) :
    Calls Try.prog 41 #[.slice va l.length vc, .slice ua m.length uc] w fun e w' => e = .returned (.bool (decide (l = m))) ∧ Below w.heap.size w w' := by
  by_cases hlen : l.length = m.length
  · have q0 : ((l.length : Int) == (m.length : Int)) = true := by rw [hlen]; simp
    rw [← hlen]
    generalize hN : m.length = N at *
    go_enter Try.func41, Try.ntmps41
    go_wp2
    go_loopg [5] l.length (fun q i wr => ∃ k : Nat, k ≤ l.length ∧ q = l.length - k ∧ i = .int .i64 (k : Int) ∧ Hid (l.take k = m.take k) ∧ Below w.heap.size w wr)
    case atStart => exact ⟨0, by omega, rfl, rfl, Lib.hid rfl, Below.refl _ _⟩
    case round =>
      obtain ⟨k, hk, hq, rfl, hT, hB⟩ := hrel
      have A := Lib.hid hq; clear hq
      by_cases hlt : k < l.length
      · have hh : decide ((k : Int) < (l.length : Int)) = true := by simp; omega
        have hltm : k < m.length := by omega
        obtain ⟨x1, rfl, e1⟩ := h1 k hlt
        obtain ⟨x2, rfl, e2⟩ := h2 k hltm
        have d1 := (hB.cell (cell_in e1)).trans e1
        have d2 := (hB.cell (cell_in e2)).trans e2
        have c1 : ∀ n, (wr.drewN n).cell? (x1.add k) = _ := fun n => d1
        have c2 : ∀ n, (wr.drewN n).cell? (x2.add k) = _ := fun n => d2
        by_cases he : l[k] = m[k]
        · rw [he] at c1 d1
          go_wp2
          go_quiet (fail)
          go_wp2
          go_roundg (l.length - (k + 1))
          case measure => have := A.out; omega
          case rel => exact ⟨k + 1, by omega, rfl, by go_num, Lib.hid (by rw [List.take_succ_eq_append_getElem hlt, List.take_succ_eq_append_getElem hltm, hT.out, he]), below_drewN hB _⟩
        · have he2 : ¬ str l[k] = str m[k] := by intro e; rw [str_eq] at e; exact he e
          have he3 : ((str l[k]).toList == (str m[k]).toList) = false := by rw [toList_data, toList_data, beq_eq_false_iff_ne]; exact he
          have hne : l ≠ m := by intro e; subst e; exact he rfl
          go_wp2
          go_quiet (fail)
          go_wp2
          go_ret
          exact ⟨by rw [decide_eq_false hne]; rfl, below_drewN hB _⟩
      · obtain rfl : k = l.length := by omega
        have hh : decide (((l.length : Nat) : Int) < (l.length : Int)) = false := by simp
        have hT2 := hT.out
        rw [List.take_of_length_le (Nat.le_refl _), List.take_of_length_le (by omega)] at hT2
        go_wp2
        go_ret
        exact ⟨by rw [decide_eq_true hT2]; rfl, hB⟩
  · have q0 : ((l.length : Int) == (m.length : Int)) = false := by rw [beq_eq_false_iff_ne]; omega
    have hne : l ≠ m := by rintro rfl; exact hlen rfl
    go_enter Try.func41, Try.ntmps41
    go_wp2
    go_ret
    exact ⟨by rw [decide_eq_false hne]; rfl, Below.refl _ _⟩
/-- Informations that may be received. -/
def Fits (l : List (List UInt8)) : Prop := l.length ≤ 60 ∧ (∀ x ∈ l, 2 ≤ x.length ∧ x.length ≤ 1508) ∧ (l.map List.length).sum < 4096
theorem sum_take (l : List (List UInt8)) (k : Nat) (hk : k < l.length) : ((l.take (k + 1)).map List.length).sum = ((l.take k).map List.length).sum + l[k].length := by
  rw [List.take_succ_eq_append_getElem hk, List.map_append, List.sum_append]
  simp only [List.map_cons, List.map_nil, List.sum_cons, List.sum_nil, Nat.add_zero]
theorem sum_le (l : List (List UInt8)) (m : Nat) (h : ∀ x ∈ l, x.length ≤ m) : (l.map List.length).sum ≤ l.length * m := by
  induction l with
  | nil => simp
  | cons a l ih =>
    have h1 := h a List.mem_cons_self
    have h2 := ih fun x hx => h x (List.mem_cons_of_mem _ hx)
    simp only [List.map_cons, List.sum_cons, List.length_cons, Nat.succ_mul]
    omega
set_option maxRecDepth 100000 in
theorem fits_calls (l : List (List UInt8)) (a : Option Addr) (c : Nat) (w : World) (h : SRow w a l) (hl : l.length ≤ maxLen) (hs : ∀ x ∈ l, x.length ≤ maxLen) (t : Bool) (ht : t = true ↔ Fits l) :
    Calls Try.prog 35 #[.slice a l.length c, .int .i64 1508] w fun e w' => e = .returned (.bool t) ∧ Below w.heap.size w w' := by
  unfold maxLen at hl hs
  have hno : ¬ Fits l → t = false := fun hn => by cases t; rfl; exact absurd (ht.1 rfl) hn
  go_enter Try.func35, Try.ntmps35
  go_wp2
  go_loopg [5, 6] 100 (fun q n i wr => ∃ k : Nat, k ≤ l.length ∧ k ≤ 100 ∧ q = 100 - k ∧ i = .int .i64 (k : Int) ∧ n = .int .i64 ((((l.take k).map List.length).sum : Nat) : Int) ∧ Hid (∀ x ∈ l.take k, 2 ≤ x.length ∧ x.length ≤ 1508) ∧ Below w.heap.size w wr)
  case atStart => exact ⟨0, by omega, by omega, rfl, rfl, rfl, Lib.hid (by simp), Below.refl _ _⟩
  case round =>
    obtain ⟨k, hk, hk1, hq, rfl, rfl, hT, hB⟩ := hrel
    have A := Lib.hid hq; clear hq
    have hsm := sum_le (l.take k) 1508 (fun x hx => (hT.out x hx).2)
    rw [List.length_take] at hsm
    have hsm2 : ((l.take k).map List.length).sum ≤ 150800 := by
      refine Nat.le_trans hsm ?_
      have : min k l.length ≤ 100 := by omega
      exact Nat.le_trans (Nat.mul_le_mul_right _ this) (by decide)
    clear hsm
    by_cases hlt : k < l.length
    · have hh : decide ((k : Int) < (l.length : Int)) = true := by simp; omega
      by_cases hlt2 : k < 100
      · have hh2 : decide ((k : Int) < 100) = true := by simp; omega
        obtain ⟨x, rfl, e1⟩ := h k hlt
        have d1 := (hB.cell (cell_in e1)).trans e1
        have hz := str_size l[k]
        have hzm := hs l[k] (List.getElem_mem _)
        have hsum := Lib.hid (sum_take l k hlt)
        generalize ((l.take k).map List.length).sum = n at *
        by_cases hx1 : l[k].length < 2
        · have q1 : decide (((l[k].length : Nat) : Int) < 2) = true := by simp; omega
          obtain rfl := hno (fun hf => by have := (hf.2.1 l[k] (List.getElem_mem _)).1; omega)
          clear ht hno
          go_wp2
          go_ret
          exact ⟨rfl, hB⟩
        · have q1 : decide (((l[k].length : Nat) : Int) < 2) = false := by simp; omega
          by_cases hx2 : 1508 < l[k].length
          · have q2 : decide ((1508 : Int) < ((l[k].length : Nat) : Int)) = true := by simp; omega
            obtain rfl := hno (fun hf => by have := (hf.2.1 l[k] (List.getElem_mem _)).2; omega)
            clear ht hno
            go_wp2
            go_ret
            exact ⟨rfl, hB⟩
          · have q2 : decide ((1508 : Int) < ((l[k].length : Nat) : Int)) = false := by simp; omega
            go_wp2
            go_roundg (100 - (k + 1))
            case measure => have := A.out; omega
            case rel =>
              refine ⟨k + 1, by omega, by omega, rfl, by go_num, ?_, Lib.hid ?_, hB⟩
              · rw [hsum.out]; go_num
              · intro y hy
                rw [List.take_succ_eq_append_getElem hlt] at hy
                rcases List.mem_append.1 hy with hy | hy
                · exact hT.out y hy
                · obtain rfl := List.mem_singleton.1 hy
                  omega
      · have hh2 : decide ((k : Int) < 100) = false := by simp; omega
        have hh3 : decide ((l.length : Int) ≤ 60) = false := by simp; omega
        obtain rfl := hno (fun hf => by have := hf.1; omega)
        clear ht hno
        go_wp2
        go_ret
        exact ⟨rfl, hB⟩
    · obtain rfl : k = l.length := by omega
      have hh : decide (((l.length : Nat) : Int) < (l.length : Int)) = false := by simp
      have hT2 := hT.out
      rw [List.take_of_length_le (Nat.le_refl _)] at hT2 hsm2 ⊢
      by_cases h60 : l.length ≤ 60
      · have hh3 : decide ((l.length : Int) ≤ 60) = true := by simp; omega
        obtain ⟨n, hn⟩ : ∃ n, (l.map List.length).sum = n := ⟨_, rfl⟩
        rw [hn] at hsm2 ⊢
        by_cases h4 : n < 4096
        · have hh4 : decide ((n : Int) < 4096) = true := by simp; omega
          obtain rfl := ht.2 ⟨h60, hT2, by omega⟩
          clear ht hno
          go_wp2
          go_ret
          exact ⟨rfl, hB⟩
        · have hh4 : decide ((n : Int) < 4096) = false := by simp; omega
          obtain rfl := hno (fun hf => by have := hf.2.2; omega)
          clear ht hno
          go_wp2
          go_ret
          exact ⟨rfl, hB⟩
      · have hh3 : decide ((l.length : Int) ≤ 60) = false := by simp; omega
        obtain rfl := hno (fun hf => by have := hf.1; omega)
        clear ht hno
        go_wp2
        go_ret
        exact ⟨rfl, hB⟩
/-- A text without flags. -/
def cleanL (l : List UInt8) : List UInt8 := l.filter fun b => b != 126
theorem clean_snoc (l : List UInt8) (b : UInt8) : cleanL (l ++ [b]) = if b = 126 then cleanL l else cleanL l ++ [b] := by
  unfold cleanL
  rw [List.filter_append]
  by_cases h : b = 126
  · subst h; simp
  · rw [if_neg h]; simp [h]
theorem own_conv {W : World} {B n : Nat} {v : Value} {l : List UInt8} (h : W.ownsRow B 5 1 v n (nums .u8 (ints l))) : (convert 24 9 v).run Try.prog W = .ok (.string (str l)) W := by
  have := own_string (P := Try.prog) Try.underlying24 Try.underlying5 Try.underlying9 h
  rw [ints_str] at this
  exact this
set_option maxRecDepth 100000 in
theorem clean_calls (s : ByteArray) (hs : s.size ≤ 100000) (w : World) : Calls Try.prog 38 #[.string s] w fun e w' => e = .returned (.string (str (cleanL s.data.toList))) ∧ Below w.heap.size w w' := by
  have hlen : s.data.toList.length = s.size := by rw [Array.length_toList]; rfl
  obtain ⟨i5, hi5, ha0, ha1, ha2⟩ := info_parts infoE5
  go_enter Try.func38, Try.ntmps38
  go_wp2
  go_loopg [3, 4] s.size (fun q v i wr => ∃ k : Nat, k ≤ s.size ∧ q = s.size - k ∧ i = .int .i64 (k : Int) ∧ wr.ownsRow w.heap.size 5 1 v (cleanL (s.data.toList.take k)).length (nums .u8 (ints (cleanL (s.data.toList.take k)))) ∧ Below w.heap.size w wr)
  case atStart => exact ⟨0, by omega, rfl, rfl, World.ownsRow_nil _ _ _ _, Below.refl _ _⟩
  case round =>
    obtain ⟨k, hk, hq, rfl, hown, hB⟩ := hrel
    have A := Lib.hid hq; clear hq
    by_cases hlt : k < s.size
    · have hh : decide ((k : Int) < (s.size : Int)) = true := by simp; omega
      have hsk : s.data.toList[k]? = some s[k] := by rw [List.getElem?_eq_getElem (by omega)]; rfl
      have htk : s.data.toList.take (k + 1) = s.data.toList.take k ++ [s[k]] := by rw [List.take_add_one, hsk]; rfl
      have hcl := Lib.hid (clean_snoc (s.data.toList.take k) s[k])
      rw [← htk] at hcl
      have hcn : (cleanL (s.data.toList.take k)).length ≤ k := Nat.le_trans (List.length_filter_le _ _) (by rw [List.length_take]; omega)
      clear hsk htk
      generalize cleanL (s.data.toList.take k) = r at *
      obtain ⟨pa, pc, rfl⟩ := own_form hown
      by_cases hx : s[k] = 126
      · have hb : ((s[k].toNat : Int) != 126) = false := by rw [hx]; rfl
        have hb2 : s[k].toNat = 126 := by rw [hx]; rfl
        go_wp2
        go_roundg (s.size - (k + 1))
        case measure => have := A.out; omega
        case rel => exact ⟨k + 1, by omega, rfl, by go_num, by rw [hcl.out, if_pos hx]; exact hown, hB⟩
      · have hb2 : s[k].toNat ≠ 126 := fun e => hx (UInt8.toNat_inj.1 e)
        have hb3 : (s[k].toNat : Int) ≠ 126 := by omega
        have hb : ((s[k].toNat : Int) != 126) = true := by rw [bne_iff_ne]; exact hb3
        go_wp2_with (first
          | (at_builtin; refine wpList_append_own_at _ rfl _ _ 24 rfl w.heap.size 5 i5 (.int .u8 0) 1 1 Try.underlying24 hi5 ha0 ha1 ha2 rfl (by decide) (.slice pa r.length pc) r.length (nums .u8 (ints r)) rfl (hown.alloc _) ⟨wr.heap.size, 0, none⟩ 1 1 [.int .u8 ((s[k].toNat : Nat) : Int)] rfl rfl (cell_one_new _ _ _) (by simp [Value.oneCell']) (by unfold maxLen; omega) (by omega) (by have := hB.size; simp; omega) ?_; intro v' w3 hown3 hg _ hat))
        go_roundg (s.size - (k + 1))
        case measure => have := A.out; omega
        case rel =>
          refine ⟨k + 1, by omega, rfl, by go_num, ?_, ?_⟩
          · rw [hcl.out, if_neg hx, List.length_append]
            simpa [nums, ints] using hown3
          · exact (hB.alloc hB.size _).grown hg (by have := hB.size; simp; omega) (own_base (hown.alloc (.cells #[.int .u8 ((s[k].toNat : Nat) : Int)] 5)))
    · obtain rfl : k = s.size := by omega
      have hh : decide (((s.size : Nat) : Int) < (s.size : Int)) = false := by simp
      rw [List.take_of_length_le (by omega)] at hown
      have hcv := own_conv hown
      go_wp2
      go_ret
      exact ⟨rfl, hB⟩
end Go.Proofs.Ytphoemgnfmlngaa
