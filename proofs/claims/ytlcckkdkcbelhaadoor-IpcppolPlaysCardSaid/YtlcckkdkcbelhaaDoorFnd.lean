/-
  Layer 8 (option): Find, Without, and the document's, walked.
-/
import Derived.Test.YtlcckkdkcbelhaaDoorFlt
import Derived.Laws.ResultCell
import Derived.Lib.Builder
set_option linter.unusedVariables false
set_option linter.unusedSimpArgs false
namespace Go.Proofs.YtlcckkdkcbelhaaDoor
open Go.RowKit Go.Proofs.YtlcckkdkcbelhaaDoorW.PrintWords Go.Proofs.YtlcckkdkcbelhaaDoorW.PrintLast

def headV : List Opt → Value
  | o :: _ => .tuple #[.agg #[.int .u8 (tv o.t), .string o.d], .bool true]
  | [] => .tuple #[.agg #[.int .u8 0, .string ⟨#[]⟩], .bool false]
set_option maxRecDepth 100000 in
theorem find_calls (u : UInt8) (l : List Opt) (a : Option Addr) (c : Nat) (w : World) (h : Row w a c l) (hs : l.length < 1000000) :
    Calls Tryd.prog 43 #[.int .u8 (tv u), .slice a l.length c] w fun e w' => e = .returned (headV (l.filter (hasT u))) ∧ Below w.heap.size w w' := by
  have hu57 := Tryd.underlying57
  have hr2 : ∀ c1 c2, Row ((w.alloc c1).alloc c2) a c l := fun _ _ => h.below (((Below.refl _ _).alloc (Nat.le_refl _) _).alloc (by simp) _)
  have hb2 : ∀ cs, ((w.alloc (.cells #[.int .u8 (tv u)] 5)).alloc cs).cell? ⟨w.heap.size, 0, none⟩ = some (.int .u8 (tv u)) := fun cs => by simp
  go_enter Tryd.func43, Tryd.ntmps43
  go_wp2_with (first
    | (go_at_call 54; with_reducible refine (filter_has u w.heap.size l a c _ (hr2 _ _) (hb2 _) hs).mono ?_; rintro e w1 ⟨v, rfl, hown, hb1⟩
       obtain ⟨ra, rc, rfl, hrow⟩ := row_own hown
       have hB1 := (((Below.refl w.heap.size w).alloc (Nat.le_refl _) (.cells #[.int .u8 (tv u)] 5)).alloc (by simp) (.cells #[.int .u8 0, .string ⟨#[]⟩] 57)).trans (hb1.mono (by simp; omega))
       have hh : w1.heap[w.heap.size + 1]? = some (.cells #[.int .u8 0, .string ⟨#[]⟩] 57 (0, 0)) := by
         rw [hb1.block (w.heap.size + 1) (by simp)]
         have := heap_alloc_new (w.alloc (.cells #[.int .u8 (tv u)] 5)) (.cells #[.int .u8 0, .string ⟨#[]⟩] 57)
         rw [World.size_alloc] at this
         exact this))
  have hlt1 : w.heap.size + 1 < w1.heap.size := (Array.getElem?_eq_some_iff.1 hh).1
  clear hown
  generalize hf0 : l.filter (hasT u) = f at *
  have Hf := Lib.hid hf0; clear hf0
  cases f with
  | nil =>
    have d0 : w1.cell? ⟨w.heap.size + 1, 0, none⟩ = some (.int .u8 0) := by rw [Lib.cell_of_heap hh]; rfl
    have d1 : w1.cell? ⟨w.heap.size + 1, 1, none⟩ = some (.string ⟨#[]⟩) := by rw [Lib.cell_of_heap hh]; rfl
    have f0 : w1.frozen? ⟨w.heap.size + 1, 0, none⟩ = false := Lib.frozen_of_heap hh 0
    have f1 : w1.frozen? ⟨w.heap.size + 1, 1, none⟩ = false := Lib.frozen_of_heap hh 1
    simp only [List.length_nil] at *
    go_loopg [12] 0 (fun q i wr => i = .int .i64 0 ∧ wr = w1)
    case atStart => exact ⟨rfl, rfl⟩
    case round =>
      obtain ⟨rfl, rfl⟩ := hrel
      go_wp2
      (try simp only [Exit.inBlock, Exit.then])
      refine bodyPost_ret (v := headV []) ?_ rfl ⟨by rw [Hf.out], ?_⟩
      · rw [results_cell_tmp rfl]
        go_simp
        rfl
      · exact ((hB1.setCell (p := ⟨w.heap.size + 1, 0, none⟩) (by simp) _).setCell (p := ⟨w.heap.size + 1, 1, none⟩) (by simp) _)
  | cons o f =>
    have d0 : w1.cell? ⟨w.heap.size + 1, 0, none⟩ = some (.int .u8 0) := by rw [Lib.cell_of_heap hh]; rfl
    have d1 : w1.cell? ⟨w.heap.size + 1, 1, none⟩ = some (.string ⟨#[]⟩) := by rw [Lib.cell_of_heap hh]; rfl
    have f0 : w1.frozen? ⟨w.heap.size + 1, 0, none⟩ = false := Lib.frozen_of_heap hh 0
    have f1 : w1.frozen? ⟨w.heap.size + 1, 1, none⟩ = false := Lib.frozen_of_heap hh 1
    obtain ⟨x, rfl, x0, x1⟩ := hrow.at_ 0 (by simp)
    simp only [List.getElem_cons_zero] at x0 x1
    rw [show x.add (0 * 2) = x from if_pos rfl] at x0 x1
    have hl1 : decide ((0 : Int) < (((o :: f).length : Nat) : Int)) = true := by rw [decide_eq_true_eq, List.length_cons]; omega
    have hl2 : decide (0 < (o :: f).length) = true := by simp
    have hn0 : 0 < (o :: f).length := by simp
    have hn1 : (0 : Int) < (((o :: f).length : Nat) : Int) := by omega
    generalize (o :: f).length = n at *
    go_loopg [12] 0 (fun q i wr => i = .int .i64 0 ∧ wr = w1)
    case atStart => exact ⟨rfl, rfl⟩
    case round =>
      obtain ⟨rfl, rfl⟩ := hrel
      go_wp2
      (try simp only [Exit.inBlock, Exit.then])
      refine bodyPost_ret (v := headV (o :: f)) ?_ rfl ⟨by rw [Hf.out], ?_⟩
      · rw [results_cell_tmp rfl]
        go_simp
        rfl
      · exact (((hB1.setCell (p := ⟨w.heap.size + 1, 0, none⟩) (by simp) _).setCell (p := ⟨w.heap.size + 1, 1, none⟩) (by simp) _).alloc (by simp; omega) _)
theorem head_none (u : UInt8) (l : List Opt) (k : Nat) (hk : k < l.length) (h : (l.take k).filter (hasT u) = []) (h2 : hasT u l[k] = true) : headV (l.filter (hasT u)) = .tuple #[.agg #[.int .u8 (tv l[k].t), .string l[k].d], .bool true] := by
  have e : l = l.take k ++ (l[k] :: l.drop (k + 1)) := by
    rw [List.getElem_cons_drop, List.take_append_drop]
  conv => lhs; rw [e]
  rw [List.filter_append, h, List.nil_append, List.filter_cons, if_pos h2]
  rfl
set_option maxRecDepth 100000 in
theorem rfind_calls (u : UInt8) (l : List Opt) (a : Option Addr) (c : Nat) (w : World) (h : Row w a c l) (hs : l.length < 1000000) :
    Calls Tryd.prog 32 #[.int .u8 (tv u), .slice a l.length c] w fun e w' => e = .returned (headV (l.filter (hasT u))) ∧ Below w.heap.size w w' := by
  have c0 := Lib.hid h.1
  have hu57 := Tryd.underlying57
  have hr2 : ∀ c1, Row (w.alloc c1) a c l := fun _ => h.below ((Below.refl _ _).alloc (Nat.le_refl _) _)
  have hB2 : ∀ c1, Below w.heap.size w (w.alloc c1) := fun _ => (Below.refl _ _).alloc (Nat.le_refl _) _
  go_enter Tryd.func32, Tryd.ntmps32
  go_wp2
  go_loopg [6] l.length (fun q i wr => ∃ k : Nat, k ≤ l.length ∧ q = l.length - k ∧ i = .int .i64 (k : Int) ∧ (l.take k).filter (hasT u) = [] ∧ wr = w.alloc (.cells #[.int .u8 0, .string ⟨#[]⟩] 57))
  case atStart => exact ⟨0, by omega, rfl, rfl, rfl, rfl⟩
  case round =>
    obtain ⟨k, hk, hq, rfl, hno, rfl⟩ := hrel
    have A := Lib.hid hq; clear hq
    by_cases hlt : k < l.length
    · have h1 : decide ((k : Int) < (l.length : Int)) = true := by simp; omega
      obtain ⟨x, rfl, x0, x1⟩ := (hr2 (.cells #[.int .u8 0, .string ⟨#[]⟩] 57)).at_ k hlt
      have hsn : Hid ((l.take (k + 1)).filter (hasT u) = (l.take k).filter (hasT u) ++ (if hasT u l[k] = true then [l[k]] else [])) := Lib.hid (by
        rw [List.take_succ_eq_append_getElem hlt, filter_snoc])
      have hhd := Lib.hid (head_none u l k hlt hno)
      have e1 : (tv l[k].t == tv u) = hasT u l[k] := ti_bool _ _
      have Hno := Lib.hid hno; clear hno
      generalize l[k] = o at *
      generalize hz1' : tv o.t = z1 at *
      generalize hz2' : tv u = z2 at *
      have Hz := Lib.hid hz1'; clear hz1'
      have Hz2 := Lib.hid hz2'; clear hz2'
      cases hp : hasT u o with
      | true =>
        rw [hp] at e1
        have Hp := Lib.hid hp; clear hp
        go_wp2
        (try simp only [Exit.inBlock, Exit.then])
        refine bodyPost_ret (v := .tuple #[.agg #[.int .u8 z1, .string o.d], .bool true]) ?_ rfl ⟨by rw [hhd.out Hp.out], ?_⟩
        · rw [results_cell_tmp rfl]
          go_simp
        · exact hB2 _
      | false =>
        rw [hp] at e1
        have Hp := Lib.hid hp; clear hp
        go_wp2
        go_roundg (l.length - (k + 1))
        case measure => have := A.out; omega
        case rel =>
          refine ⟨k + 1, by omega, rfl, by go_num, ?_, rfl⟩
          rw [hsn.out, if_neg (by rw [Hp.out]; decide), List.append_nil]
          exact Hno.out
    · obtain rfl : k = l.length := by omega
      have h1 : decide ((l.length : Int) < (l.length : Int)) = false := by simp
      rw [List.take_length] at hno
      have Hno := Lib.hid hno; clear hno
      go_wp2
      (try simp only [Exit.inBlock, Exit.then])
      refine bodyPost_ret (v := headV []) ?_ rfl ⟨by rw [Hno.out], ?_⟩
      · rw [results_cell_tmp rfl]
        go_simp
        rfl
      · exact hB2 _
end Go.Proofs.YtlcckkdkcbelhaaDoor
