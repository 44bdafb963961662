/-
  Layer 15 (ipcppol): the kinds' forget functions, slices.Index, walked.
-/
import Derived.Test.YtlcckkdkcbelhaaDoorAk
set_option linter.unusedVariables false
set_option linter.unusedSimpArgs false
namespace Go.Proofs.YtlcckkdkcbelhaaDoor
open Go.RowKit Go.Proofs.YtlcckkdkcbelhaaDoorW.PrintWords Go.Proofs.YtlcckkdkcbelhaaDoorW.PrintLast

/-- A kind that is asked for no more. -/
def Icp.clr (x : Icp) (k : Nat) : Icp := if k = 0 then { x with ha := false, a := 0 } else if k = 1 then { x with h1 := false, d1 := 0 } else { x with h2 := false, d2 := 0 }
set_option maxRecDepth 100000 in
theorem forget0_calls (s : Pol) (pb : Nat) (w : World) (hp : IsPol w pb s) :
    Calls Tryd.prog 80 #[.pointer (some ⟨pb, 0, none⟩)] w fun e w' => e = .returned (.tuple #[]) ∧ But pb w w' ∧ IsPol w' pb { s with w := s.w.clr 0 } := by
  have t1 := fun i => blk_cell hp i
  have t2 := fun i => blk_frozen hp i
  have t3 := fun u i => blk_cell (blk_set hp 0 u) i
  have t4 := fun u i => blk_frozen (blk_set hp 0 u) i
  simp only [Pol.cells] at t1 t3
  go_enter Tryd.func80, Tryd.ntmps80
  go_wp2
  go_end0
  exact ⟨rfl, ((But.refl pb w).set 0 _).set 1 _, blk_set (blk_set hp 0 (.bool false)) 1 (.int .u32 0)⟩
set_option maxRecDepth 100000 in
theorem forget1_calls (s : Pol) (pb : Nat) (w : World) (hp : IsPol w pb s) :
    Calls Tryd.prog 84 #[.pointer (some ⟨pb, 0, none⟩)] w fun e w' => e = .returned (.tuple #[]) ∧ But pb w w' ∧ IsPol w' pb { s with w := s.w.clr 1 } := by
  have t1 := fun i => blk_cell hp i
  have t2 := fun i => blk_frozen hp i
  have t3 := fun u i => blk_cell (blk_set hp 2 u) i
  have t4 := fun u i => blk_frozen (blk_set hp 2 u) i
  simp only [Pol.cells] at t1 t3
  go_enter Tryd.func84, Tryd.ntmps84
  go_wp2
  go_end0
  exact ⟨rfl, ((But.refl pb w).set 2 _).set 3 _, blk_set (blk_set hp 2 (.bool false)) 3 (.int .u32 0)⟩
set_option maxRecDepth 100000 in
theorem forget2_calls (s : Pol) (pb : Nat) (w : World) (hp : IsPol w pb s) :
    Calls Tryd.prog 88 #[.pointer (some ⟨pb, 0, none⟩)] w fun e w' => e = .returned (.tuple #[]) ∧ But pb w w' ∧ IsPol w' pb { s with w := s.w.clr 2 } := by
  have t1 := fun i => blk_cell hp i
  have t2 := fun i => blk_frozen hp i
  have t3 := fun u i => blk_cell (blk_set hp 4 u) i
  have t4 := fun u i => blk_frozen (blk_set hp 4 u) i
  simp only [Pol.cells] at t1 t3
  go_enter Tryd.func88, Tryd.ntmps88
  go_wp2
  go_end0
  exact ⟨rfl, ((But.refl pb w).set 4 _).set 5 _, blk_set (blk_set hp 4 (.bool false)) 5 (.int .u32 0)⟩
end Go.Proofs.YtlcckkdkcbelhaaDoor
