/-
  DERIVED. GIVEN WITH THE SEED: THE PROGRAM's TIES (one call each: nine closed facts by the kernel) AND EACH ROW's TIE, after the 31st guide's Derived/Test/Toyas{Tie, Card}.lean. No idea stands in it: it is a product of the set-up. Laid BY PROGRAM, IN A SANDBOX (cutbox-door.mjs). By AI agents, Wed Nov 11 2026. No macro, syntax, notation, axiom, sorry.
-/
import Derived.Test.YtlcckkdkcbelhaaDoorRows
import Derived.LaidByTextLater
import Derived.SevenTiedAt
import Derived.LaidSub
import Derived.LaidOnce
namespace Go.Proofs.YtlcckkdkcbelhaaDoor
open Go
set_option maxRecDepth 100000
theorem seatTie1 : Tryd.prog.laidByTextLater [("halyard/ipcpopt.kinds", Rows.laid_halyard_ipcpopt_kinds), ("halyard/ipcppol.kinds", Rows.laid_halyard_ipcppol_kinds)] [.funcs, .funcs] true :=
  Program.laidByTextLater_by_one 40 8 2 (by kernel_rfl) (by kernel_rfl) (by kernel_rfl) (by kernel_rfl) (by kernel_rfl) (by kernel_rfl) (fun _ _ => by kernel_rfl)
theorem noOwnUnsafe : Tryd.pinned.checked.prog.headLifts.contains "ownunsafe" = false := by kernel_rfl
theorem tie : Tryd.prog.laidByTextLater [("halyard/ipcpopt.kinds", Rows.laid_halyard_ipcpopt_kinds), ("halyard/ipcppol.kinds", Rows.laid_halyard_ipcppol_kinds)] [.funcs, .funcs] true :=
  Program.laidByTextLater.sub seatTie1 ["halyard/ipcpopt.kinds", "halyard/ipcppol.kinds"] (by kernel_rfl) (by kernel_rfl)
theorem ipcppolOnly_row_tie : Rows.ipcppolOnlyRow.laidByTextAt .later Tryd.pinned [.funcs, .funcs] true :=
  OpenClaim.laidByTextAt_later rfl rfl tie noOwnUnsafe
theorem ipcppolMeets_row_tie : Rows.ipcppolMeetsRow.laidByTextAt .later Tryd.pinned [.funcs, .funcs] true :=
  OpenClaim.laidByTextAt_later rfl rfl tie noOwnUnsafe
theorem ipcppolBoth_row_tie : Rows.ipcppolBothRow.laidByTextAt .later Tryd.pinned [.funcs, .funcs] true :=
  OpenClaim.laidByTextAt_later rfl rfl tie noOwnUnsafe
theorem ipcppolPlays_row_tie : Rows.ipcppolPlaysRow.laidByTextAt .later Tryd.pinned [.funcs, .funcs] true :=
  OpenClaim.laidByTextAt_later rfl rfl tie noOwnUnsafe
theorem ipcppolOnlyUpto_row_tie : Rows.ipcppolOnlyUptoRow.laidByTextAt .later Tryd.pinned [.funcs, .funcs] true :=
  OpenClaim.laidByTextAt_later rfl rfl tie noOwnUnsafe
theorem ipcppolMeetsUpto_row_tie : Rows.ipcppolMeetsUptoRow.laidByTextAt .later Tryd.pinned [.funcs, .funcs] true :=
  OpenClaim.laidByTextAt_later rfl rfl tie noOwnUnsafe
theorem ipcppolBothUpto_row_tie : Rows.ipcppolBothUptoRow.laidByTextAt .later Tryd.pinned [.funcs, .funcs] true :=
  OpenClaim.laidByTextAt_later rfl rfl tie noOwnUnsafe
theorem ipcppolPlaysUpto_row_tie : Rows.ipcppolPlaysUptoRow.laidByTextAt .later Tryd.pinned [.funcs, .funcs] true :=
  OpenClaim.laidByTextAt_later rfl rfl tie noOwnUnsafe
end Go.Proofs.YtlcckkdkcbelhaaDoor
