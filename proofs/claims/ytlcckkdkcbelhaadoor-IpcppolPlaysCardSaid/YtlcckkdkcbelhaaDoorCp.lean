/-
  Layer 15 (ipcppol): Copy, and the functions of a nil policy, walked.
-/
import Derived.Test.YtlcckkdkcbelhaaDoorRj
import Derived.Test.YtlcckkdkcbelhaaDoorNk
set_option linter.unusedVariables false
set_option linter.unusedSimpArgs false
namespace Go.Proofs.YtlcckkdkcbelhaaDoor
open Go.RowKit Go.Proofs.YtlcckkdkcbelhaaDoorW.PrintWords Go.Proofs.YtlcckkdkcbelhaaDoorW.PrintLast

theorem below_row {B : Nat} {a W : World} (h : Below B a W) (g : Nat) (hg : B ≤ g) (cs : Array Value) : Below B a (W.setRow g cs) :=
  ⟨h.os, h.tape, h.output, by simp; exact h.size, fun k hk => (setRow_other W g k cs (by omega)).trans (h.block k hk)⟩
set_option maxRecDepth 100000 in
theorem copy_calls (s : Pol) (pb : Nat) (w : World) (hp : IsPol w pb s) :
    Calls Tryd.prog 23 #[.pointer (some ⟨pb, 0, none⟩)] w fun e w' => e = .returned (.pointer (some ⟨w.heap.size, 0, none⟩)) ∧ Below w.heap.size w w' ∧ IsPol w' w.heap.size s := by
  obtain ⟨CS, hCS⟩ : ∃ cs, s.cells = cs := ⟨_, rfl⟩
  have hpc : w.heap[pb]? = some (.cells CS 66 (0, 0)) := by rw [← hCS]; exact hp
  have hsz : (Tryd.prog.info? 66).map (·.size) = some CS.size := by rw [← hCS]; exact size66
  have hs25 : CS.size = 25 := by rw [← hCS]; rfl
  have hone : CS.all (·.oneCell') = true := by rw [← hCS]; simp [Pol.cells, Value.oneCell']
  have hu66 := Tryd.underlying66
  have hres : ∀ W, W.heap[w.heap.size]? = some (.cells CS 66 (0, 0)) → IsPol W w.heap.size s := fun W h => by rw [← hCS] at h; exact h
  clear hCS hp
  go_enter Tryd.func23, Tryd.ntmps23
  go_upto_region 3 with fail
  go_wp2_with (first
    | (refine wpList_load_row rfl 66 (.tmp 7) rfl pb rfl 66 CS (0, 0) _ hpc hu66 rfl hsz ?_)
    | (refine wpList_store_row rfl 66 (.tmp 3) (.tmp 8) rfl w.heap.size CS rfl rfl 66 _ (alloc_new w _ _ rfl) hsz (by rw [hs25]; rfl) hone ?_))
  go_ret
  exact ⟨rfl, below_row ((Below.refl w.heap.size w).alloc (Nat.le_refl _) _) _ (Nat.le_refl _) _, hres _ (setRow_heap _ _ _ _ _ _ (alloc_new w _ _ rfl))⟩
/-! A nil policy. -/
theorem nil_judge (w : World) : Calls Tryd.prog 10 #[.pointer none, .slice none 0 0] w fun e w' => e = .returned (.tuple #[.int .u8 0, .slice none 0 0]) ∧ Below w.heap.size w w' := by
  go_enter Tryd.func10, Tryd.ntmps10
  go_wp2
  go_ret2
  exact ⟨rfl, Below.refl _ _⟩
theorem nil_request (w : World) : Calls Tryd.prog 15 #[.pointer none] w fun e w' => e = .returned (.slice none 0 0) ∧ Below w.heap.size w w' := by
  go_enter Tryd.func15, Tryd.ntmps15
  go_wp2
  go_ret
  exact ⟨rfl, Below.refl _ _⟩
theorem nil_acked (w : World) : Calls Tryd.prog 16 #[.pointer none, .slice none 0 0] w fun e w' => e = .returned (.bool false) ∧ Below w.heap.size w w' := by
  go_enter Tryd.func16, Tryd.ntmps16
  go_wp2
  go_ret
  exact ⟨rfl, Below.refl _ _⟩
theorem nil_naked (w : World) (hK : K w) : Calls Tryd.prog 17 #[.pointer none, .slice none 0 0] w fun e w' => e = .returned (.bool false) ∧ Below w.heap.size w w' := by
  have hG : Calls Tryd.prog 11 #[.slice none 0 0] w fun e w' => ∃ v, e = .returned (.tuple #[.agg #[.bool false, .int .u32 0, .bool false, .int .u32 0, .bool false, .int .u32 0], v, .int .i64 0]) ∧ IsRow w' v [] ∧ Below w.heap.size w w' := geti_calls [] none 0 w (row_nil _ _ _) (by decide) hK
  go_enter Tryd.func17, Tryd.ntmps17
  go_wp2_with (first
    | (go_at_call 11; with_reducible refine hG.mono ?_; rintro e w1 ⟨v, rfl, _, hb1⟩))
  go_ret
  exact ⟨rfl, hb1.alloc hb1.size _⟩
theorem nil_rejected (w : World) : Calls Tryd.prog 18 #[.pointer none, .slice none 0 0] w fun e w' => e = .returned (.bool false) ∧ Below w.heap.size w w' := by
  go_enter Tryd.func18, Tryd.ntmps18
  go_wp2
  go_ret
  exact ⟨rfl, Below.refl _ _⟩
theorem nil_wish (w : World) : Calls Tryd.prog 21 #[.pointer none] w fun e w' => e = .returned (.agg #[.bool false, .int .u32 0, .bool false, .int .u32 0, .bool false, .int .u32 0]) ∧ Below w.heap.size w w' := by
  go_enter Tryd.func21, Tryd.ntmps21
  go_wp2
  (try simp only [Exit.inBlock, Exit.then])
  refine bodyPost_ret (v := .agg noI.cells) ?_ rfl ⟨rfl, (Below.refl _ _).alloc (Nat.le_refl _) _⟩
  exact results_cell1 rfl _ _ _ rfl (by go_simp; rfl)
theorem nil_mine (w : World) : Calls Tryd.prog 19 #[.pointer none] w fun e w' => e = .returned (.agg #[.bool false, .int .u32 0, .bool false, .int .u32 0, .bool false, .int .u32 0]) ∧ Below w.heap.size w w' := by
  go_enter Tryd.func19, Tryd.ntmps19
  go_wp2
  (try simp only [Exit.inBlock, Exit.then])
  refine bodyPost_ret (v := .agg noI.cells) ?_ rfl ⟨rfl, (Below.refl _ _).alloc (Nat.le_refl _) _⟩
  exact results_cell1 rfl _ _ _ rfl (by go_simp; rfl)
theorem nil_peer (w : World) : Calls Tryd.prog 13 #[.pointer none] w fun e w' => e = .returned (.agg #[.bool false, .int .u32 0, .bool false, .int .u32 0, .bool false, .int .u32 0]) ∧ Below w.heap.size w w' := by
  go_enter Tryd.func13, Tryd.ntmps13
  go_wp2
  (try simp only [Exit.inBlock, Exit.then])
  refine bodyPost_ret (v := .agg noI.cells) ?_ rfl ⟨rfl, (Below.refl _ _).alloc (Nat.le_refl _) _⟩
  exact results_cell1 rfl _ _ _ rfl (by go_simp; rfl)
theorem nil_reset (w : World) : Calls Tryd.prog 22 #[.pointer none] w fun e w' => e = .returned (.int .i64 1) ∧ Below w.heap.size w w' := by
  go_enter Tryd.func22, Tryd.ntmps22
  go_wp2
  go_ret
  exact ⟨rfl, Below.refl _ _⟩
theorem nil_copy (w : World) : Calls Tryd.prog 23 #[.pointer none] w fun e w' => e = .returned (.pointer none) ∧ Below w.heap.size w w' := by
  go_enter Tryd.func23, Tryd.ntmps23
  go_wp2
  go_ret
  exact ⟨rfl, Below.refl _ _⟩
end Go.Proofs.YtlcckkdkcbelhaaDoor
