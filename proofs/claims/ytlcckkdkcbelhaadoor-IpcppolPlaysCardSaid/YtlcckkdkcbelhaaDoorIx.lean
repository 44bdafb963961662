/-
  Layer 15 (ipcppol): slices.Index of options, walked.
-/
import Derived.Test.YtlcckkdkcbelhaaDoorAk
set_option linter.unusedVariables false
set_option linter.unusedSimpArgs false
namespace Go.Proofs.YtlcckkdkcbelhaaDoor
open Go.RowKit Go.Proofs.YtlcckkdkcbelhaaDoorW.PrintWords Go.Proofs.YtlcckkdkcbelhaaDoorW.PrintLast

/-- Where an option lies first. -/
def idxN : List Opt → Opt → Option Nat
  | [], _ => none
  | x :: l, o => if o = x then some 0 else (idxN l o).map (· + 1)
def idxI (l : List Opt) (o : Opt) : Int := match idxN l o with
  | none => -1
  | some k => (k : Int)
theorem idx_hit : ∀ (l : List Opt) (o : Opt) (k : Nat) (hk : k < l.length), (∀ p ∈ l.take k, o ≠ p) → o = l[k] → idxN l o = some k
  | x :: l, o, 0, hk, h1, h2 => if_pos h2
  | x :: l, o, k + 1, hk, h1, h2 => by
    rw [idxN, if_neg (h1 x (by simp)), idx_hit l o k (by simpa using hk) (fun p hp => h1 p (by simp [hp])) h2]
    rfl
theorem idx_no : ∀ (l : List Opt) (o : Opt), (∀ p ∈ l, o ≠ p) → idxN l o = none
  | [], o, _ => rfl
  | x :: l, o, h => by
    rw [idxN, if_neg (h x (by simp)), idx_no l o (fun p hp => h p (by simp [hp]))]
    rfl
attribute [local go_sem high] eqA57
set_option maxRecDepth 100000 in
theorem index_calls (l : List Opt) (o : Opt) (a : Option Addr) (c : Nat) (w : World) (hl : Row w a c l) (hs : l.length < 140737488355328) :
    Calls Tryd.prog 49 #[.slice a l.length c, .agg #[.int .u8 (tv o.t), .string o.d]] w fun e w' => e = .returned (.int .i64 (idxI l o)) ∧ Below w.heap.size w w' := by
  have hu57 := Tryd.underlying57
  have c0 := Lib.hid hl.1
  have hB := (Below.refl w.heap.size w).alloc (Nat.le_refl _) (.cells #[.int .u8 (tv o.t), .string o.d] 57)
  have hb := alloc_new w _ (.cells #[.int .u8 (tv o.t), .string o.d] 57) rfl
  have hlw := hl.below hB
  have hg : w.heap.size < (w.alloc (.cells #[.int .u8 (tv o.t), .string o.d] 57)).heap.size := by simp
  go_enter Tryd.func49, Tryd.ntmps49
  go_wp2
  generalize w.alloc (.cells #[.int .u8 (tv o.t), .string o.d] 57) = wb at *
  go_loopg [8] l.length (fun q i wr => ∃ k : Nat, k ≤ l.length ∧ q = l.length - k ∧ i = .int .i64 (k : Int) ∧ Hid (∀ p ∈ l.take k, o ≠ p) ∧ ∃ n, wr = wb.drewN n)
  case atStart => exact ⟨0, by omega, rfl, rfl, Lib.hid (by simp), 0, rfl⟩
  case round =>
    obtain ⟨k, hk, hq, rfl, heq, n, rfl⟩ := hrel
    have A := Lib.hid hq; clear hq
    have b0 : wb.cell? ⟨w.heap.size, 0, none⟩ = some (.int .u8 (tv o.t)) := blk_cell hb _
    have b1 : wb.cell? ⟨w.heap.size, 1, none⟩ = some (.string o.d) := blk_cell hb _
    by_cases hlt : k < l.length
    · have h1 : decide ((k : Int) < (l.length : Int)) = true := by simp; omega
      obtain ⟨x, rfl, x0, x1⟩ := hlw.at_ k hlt
      have hsn : Hid (l.take (k + 1) = l.take k ++ [l[k]]) := Lib.hid (List.take_succ_eq_append_getElem hlt)
      have hhit : Hid (o = l[k] → idxN l o = some k) := Lib.hid (fun e => idx_hit l o k hlt heq.out e)
      have hdf := same_bool o l[k]
      generalize l[k] = p at *
      by_cases hop : o = p
      · rw [decide_eq_true hop] at hdf
        have Hop := Lib.hid hop; clear hop
        go_wp2
        repeat (go_quiet (fail); try go_wp2)
        go_ret
        refine ⟨?_, below_drewN (below_drewN hB _) _⟩
        unfold idxI
        rw [hhit.out Hop.out]; rfl
      · rw [decide_eq_false hop] at hdf
        have Hop := Lib.hid hop; clear hop
        go_wp2
        repeat (go_quiet (fail); try go_wp2)
        go_roundg (l.length - (k + 1))
        case measure => have := A.out; omega
        case rel =>
          refine ⟨k + 1, by omega, rfl, by go_num, Lib.hid ?_, n + nq, rfl⟩
          rw [hsn.out]
          intro q hq
          rcases List.mem_append.1 hq with hq | hq
          · exact heq.out q hq
          · rw [List.mem_singleton.1 hq]; exact Hop.out
    · obtain rfl : k = l.length := by omega
      have h1 : decide ((l.length : Int) < (l.length : Int)) = false := by simp
      go_wp2
      go_ret
      refine ⟨?_, below_drewN hB _⟩
      have := heq.out
      rw [List.take_length] at this
      unfold idxI
      rw [idx_no l o this]; rfl
end Go.Proofs.YtlcckkdkcbelhaaDoor
