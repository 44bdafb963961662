/-
  Layer 15 (ipcppol): Request, Mine, Wish, walked.
-/
import Derived.Test.YtlcckkdkcbelhaaDoorJd
set_option linter.unusedVariables false
set_option linter.unusedSimpArgs false
namespace Go.Proofs.YtlcckkdkcbelhaaDoor
open Go.RowKit Go.Proofs.YtlcckkdkcbelhaaDoorW.PrintWords Go.Proofs.YtlcckkdkcbelhaaDoorW.PrintLast

theorem request_calls (s : Pol) (pb : Nat) (w : World) (hK : K w) (hp : IsPol w pb s) :
    Calls Tryd.prog 15 #[.pointer (some ⟨pb, 0, none⟩)] w fun e w' => ∃ v, e = .returned v ∧ OwnL w' w.heap.size v (putI s.w).1 ∧ Below w.heap.size w w' := by
  have hP := puti_calls s.w w hK
  rw [show s.w.cells = #[.bool s.w.ha, .int .u32 (nv s.w.a), .bool s.w.h1, .int .u32 (nv s.w.d1), .bool s.w.h2, .int .u32 (nv s.w.d2)] from rfl] at hP
  generalize putI s.w = P at *
  have t1 := fun i => blk_cell hp i
  simp only [Pol.cells] at t1
  go_enter Tryd.func15, Tryd.ntmps15
  go_wp2_with (first
    | (go_at_call 33; with_reducible refine hP.mono ?_; rintro e w1 ⟨v, rfl, ho, hb1⟩))
  go_ret
  exact ⟨_, rfl, ho, hb1⟩
theorem mine_calls (s : Pol) (pb : Nat) (w : World) (hp : IsPol w pb s) : Calls Tryd.prog 19 #[.pointer (some ⟨pb, 0, none⟩)] w fun e w' => e = .returned (.agg s.mine.cells) ∧ Below w.heap.size w w' := by
  have p1 : ∀ ob, (w.alloc ob).heap[pb]? = some (.cells s.cells 66 (0, 0)) := fun ob => (Lib.alloc_old _ _ _ hp.lt).trans hp
  have p2 := fun ob i => blk_cell (p1 ob) i
  simp only [Pol.cells] at p2
  go_enter Tryd.func19, Tryd.ntmps19
  go_wp2
  (try simp only [Exit.inBlock, Exit.then])
  refine bodyPost_ret (v := .agg s.mine.cells) ?_ rfl ⟨rfl, (Below.refl _ _).alloc (Nat.le_refl _) _⟩
  exact results_cell1 rfl _ _ _ rfl (by go_simp; rfl)
theorem wish_calls (s : Pol) (pb : Nat) (w : World) (hp : IsPol w pb s) : Calls Tryd.prog 21 #[.pointer (some ⟨pb, 0, none⟩)] w fun e w' => e = .returned (.agg s.w.cells) ∧ Below w.heap.size w w' := by
  have p1 : ∀ ob, (w.alloc ob).heap[pb]? = some (.cells s.cells 66 (0, 0)) := fun ob => (Lib.alloc_old _ _ _ hp.lt).trans hp
  have p2 := fun ob i => blk_cell (p1 ob) i
  simp only [Pol.cells] at p2
  go_enter Tryd.func21, Tryd.ntmps21
  go_wp2
  (try simp only [Exit.inBlock, Exit.then])
  refine bodyPost_ret (v := .agg s.w.cells) ?_ rfl ⟨rfl, (Below.refl _ _).alloc (Nat.le_refl _) _⟩
  exact results_cell1 rfl _ _ _ rfl (by go_simp; rfl)
end Go.Proofs.YtlcckkdkcbelhaaDoor
