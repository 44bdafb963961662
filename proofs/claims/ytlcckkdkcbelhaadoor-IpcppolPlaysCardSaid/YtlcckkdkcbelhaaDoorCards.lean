/-
  DERIVED. GIVEN WITH THE SEED: THE CARDS: each row of YtlcckkdkcbelhaaDoorRows.lean that lists a variable, with what it lists TIED to the program's text (the seventh form; the later family's looks); each row that meets fmt, with fmt's text TOLD by the authors' own Lean function (tested against real Go, not proved from fmt's source: count such statements apart). THE CARD IS WHAT COUNTS. Prove the row's statement (the work); the ties are given (YtlcckkdkcbelhaaDoorTie.lean); close each card by the builder's one call (the guide's Derived/Test/ToyasCard.lean, 'card_holds'). Laid BY PROGRAM, IN A SANDBOX (cutbox-door.mjs). By AI agents, Wed Nov 11 2026. No macro, syntax, notation, axiom, sorry.
-/
import Derived.Test.YtlcckkdkcbelhaaDoorRows
import GoSem.ClaimSeven
namespace Go.Proofs.YtlcckkdkcbelhaaDoor
namespace Rows

/-- THE TIED CARD OF 'halyardlaw15.IpcppolOnly'. -/
def ipcppolOnlyCard : Claim7 := { stood := { row := ipcppolOnlyRow, standIns := [], harness := (true, "b13f581a349c904861ed69752a23c937b0429c353c83e4d10fdb445816c29da9"), looks := false }, kinds := [], alts := [], laidByText := true, laidKinds := [.funcs, .funcs], laidTests := true, laidLooks := .later }
def IpcppolOnlyCardSaid : Prop := Claim7.holds Tryd.pinned (.plain (OpenSpec.ofChange ipcppolOnlySpec)) ipcppolOnlyCard

/-- THE TIED CARD OF 'halyardlaw15.IpcppolMeets'. -/
def ipcppolMeetsCard : Claim7 := { stood := { row := ipcppolMeetsRow, standIns := [], harness := (true, "b13f581a349c904861ed69752a23c937b0429c353c83e4d10fdb445816c29da9"), looks := false }, kinds := [], alts := [], laidByText := true, laidKinds := [.funcs, .funcs], laidTests := true, laidLooks := .later }
def IpcppolMeetsCardSaid : Prop := Claim7.holds Tryd.pinned (.plain (OpenSpec.ofChange ipcppolMeetsSpec)) ipcppolMeetsCard

/-- THE TIED CARD OF 'halyardlaw15.IpcppolBoth'. -/
def ipcppolBothCard : Claim7 := { stood := { row := ipcppolBothRow, standIns := [], harness := (true, "b13f581a349c904861ed69752a23c937b0429c353c83e4d10fdb445816c29da9"), looks := false }, kinds := [], alts := [], laidByText := true, laidKinds := [.funcs, .funcs], laidTests := true, laidLooks := .later }
def IpcppolBothCardSaid : Prop := Claim7.holds Tryd.pinned (.plain (OpenSpec.ofChange ipcppolBothSpec)) ipcppolBothCard

/-- THE TIED CARD OF 'halyardlaw15.IpcppolPlays'. -/
def ipcppolPlaysCard : Claim7 := { stood := { row := ipcppolPlaysRow, standIns := [], harness := (true, "b13f581a349c904861ed69752a23c937b0429c353c83e4d10fdb445816c29da9"), looks := false }, kinds := [], alts := [], laidByText := true, laidKinds := [.funcs, .funcs], laidTests := true, laidLooks := .later }
def IpcppolPlaysCardSaid : Prop := Claim7.holds Tryd.pinned (.plain (OpenSpec.ofChange ipcppolPlaysSpec)) ipcppolPlaysCard

/-- THE SECOND FORM's CARD OF 'halyardlaw15.IpcppolOnly'. -/
def ipcppolOnlyUptoCard : Claim7 := { stood := { row := ipcppolOnlyUptoRow, standIns := [], harness := (true, "b13f581a349c904861ed69752a23c937b0429c353c83e4d10fdb445816c29da9"), looks := false }, kinds := [], alts := [], laidByText := true, laidKinds := [.funcs, .funcs], laidTests := true, laidLooks := .later }
def IpcppolOnlyUptoCardSaid : Prop := Claim7.holds Tryd.pinned (.plain (OpenSpec.upto ipcppolOnlySpec)) ipcppolOnlyUptoCard

/-- THE SECOND FORM's CARD OF 'halyardlaw15.IpcppolMeets'. -/
def ipcppolMeetsUptoCard : Claim7 := { stood := { row := ipcppolMeetsUptoRow, standIns := [], harness := (true, "b13f581a349c904861ed69752a23c937b0429c353c83e4d10fdb445816c29da9"), looks := false }, kinds := [], alts := [], laidByText := true, laidKinds := [.funcs, .funcs], laidTests := true, laidLooks := .later }
def IpcppolMeetsUptoCardSaid : Prop := Claim7.holds Tryd.pinned (.plain (OpenSpec.upto ipcppolMeetsSpec)) ipcppolMeetsUptoCard

/-- THE SECOND FORM's CARD OF 'halyardlaw15.IpcppolBoth'. -/
def ipcppolBothUptoCard : Claim7 := { stood := { row := ipcppolBothUptoRow, standIns := [], harness := (true, "b13f581a349c904861ed69752a23c937b0429c353c83e4d10fdb445816c29da9"), looks := false }, kinds := [], alts := [], laidByText := true, laidKinds := [.funcs, .funcs], laidTests := true, laidLooks := .later }
def IpcppolBothUptoCardSaid : Prop := Claim7.holds Tryd.pinned (.plain (OpenSpec.upto ipcppolBothSpec)) ipcppolBothUptoCard

/-- THE SECOND FORM's CARD OF 'halyardlaw15.IpcppolPlays'. -/
def ipcppolPlaysUptoCard : Claim7 := { stood := { row := ipcppolPlaysUptoRow, standIns := [], harness := (true, "b13f581a349c904861ed69752a23c937b0429c353c83e4d10fdb445816c29da9"), looks := false }, kinds := [], alts := [], laidByText := true, laidKinds := [.funcs, .funcs], laidTests := true, laidLooks := .later }
def IpcppolPlaysUptoCardSaid : Prop := Claim7.holds Tryd.pinned (.plain (OpenSpec.upto ipcppolPlaysSpec)) ipcppolPlaysUptoCard
end Rows
end Go.Proofs.YtlcckkdkcbelhaaDoor
