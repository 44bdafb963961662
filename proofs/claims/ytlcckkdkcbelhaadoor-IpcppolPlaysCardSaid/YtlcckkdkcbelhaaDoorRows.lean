/-
  NARROWER THAN 'FOR EVERY INPUT', by the rows' own cells (each row's printed sentence says how): IpcppolOnly: laid · IpcppolMeets: laid · IpcppolBoth: laid · IpcppolPlays: laid.
  DERIVED. THE GIVEN ROWS OF THIS SEAT. 4 by the template 'for every input the law returns true; each argument reads behind the call as it read before'; 0 by the template 'total and deterministic' (their statements: YtlcckkdkcbelhaaDoorTotals.lean).
  GIVEN WITH THE SEED: the statements are not yours to turn. If you find one false, say at which input.
  Laid BY PROGRAM, IN A SANDBOX (cutbox-rows.mjs): the forced cells as the released guide's own fill.sh prints them over the translation 3e5d2fcb32770df4… (all of the seat's roots in one cut). By AI agents, Wed Nov 11 2026. No macro, syntax, notation, axiom, sorry.
-/
import Derived.Test.YtlcckkdkcbelhaaDoorChecked
import GoSem.Claim
import GoSem.ClaimJoined
import GoSem.ClaimMapViews
import Derived.JoinedTies
import Derived.KernelRfl
namespace Go.Proofs.YtlcckkdkcbelhaaDoor
/- THE CELL 'sum', in the pinned program and in every row, IS THE sha256 OF THE DUMP (.gsa) THAT YtlcckkdkcbelhaaDoorProg.lean LOADS. Nothing in Lean hashes anything: it is a label: what it is worth is what the hold of that sum in a sandbox is worth. -/
noncomputable def Tryd.pinned : Pinned := { name := "ytlcckkdkcbelhaadoor", sum := "3e5d2fcb32770df4a80413c72274f45506df50a76c7936e7e721ef156a8209fb", checked := Tryd.checked }
namespace Rows
def none {H : Type} : Left H := { results := [], args := [] }

/- WHAT THE LISTED PACKAGE-LEVEL VARIABLES READ AS WHEN THE CALL BEGINS. Each datum BY PROGRAM (the guide's laid-datum.mjs) off the statement by which the dump's own 'gosem.cut.vars' lays the variable. In a bare row this is a premise. The card (YtlcckkdkcbelhaaDoorCards.lean) ties it to the program's text. -/
def laid_halyard_ipcpopt_kinds {H : Type} : DataW H := .iface "func table" (.agg [.agg [.lit (.int .u8 3), .iface "func" (.lit (.string [104, 97, 108, 121, 97, 114, 100, 47, 105, 112, 99, 112, 111, 112, 116, 46, 107, 105, 110, 100, 115, 36, 49]))], .agg [.lit (.int .u8 129), .iface "func" (.lit (.string [104, 97, 108, 121, 97, 114, 100, 47, 105, 112, 99, 112, 111, 112, 116, 46, 107, 105, 110, 100, 115, 36, 50]))], .agg [.lit (.int .u8 131), .iface "func" (.lit (.string [104, 97, 108, 121, 97, 114, 100, 47, 105, 112, 99, 112, 111, 112, 116, 46, 107, 105, 110, 100, 115, 36, 51]))]])
def laid_halyard_ipcppol_kinds {H : Type} : DataW H := .iface "func table" (.map [(.int .u8 3, .agg [.iface "func" (.lit (.string [104, 97, 108, 121, 97, 114, 100, 47, 105, 112, 99, 112, 112, 111, 108, 46, 107, 105, 110, 100, 115, 36, 49])), .iface "func" (.lit (.string [104, 97, 108, 121, 97, 114, 100, 47, 105, 112, 99, 112, 112, 111, 108, 46, 107, 105, 110, 100, 115, 36, 50])), .iface "func" (.lit (.string [104, 97, 108, 121, 97, 114, 100, 47, 105, 112, 99, 112, 112, 111, 108, 46, 107, 105, 110, 100, 115, 36, 51])), .iface "func" (.lit (.string [104, 97, 108, 121, 97, 114, 100, 47, 105, 112, 99, 112, 112, 111, 108, 46, 107, 105, 110, 100, 115, 36, 52]))]), (.int .u8 129, .agg [.iface "func" (.lit (.string [104, 97, 108, 121, 97, 114, 100, 47, 105, 112, 99, 112, 112, 111, 108, 46, 107, 105, 110, 100, 115, 36, 53])), .iface "func" (.lit (.string [104, 97, 108, 121, 97, 114, 100, 47, 105, 112, 99, 112, 112, 111, 108, 46, 107, 105, 110, 100, 115, 36, 54])), .iface "func" (.lit (.string [104, 97, 108, 121, 97, 114, 100, 47, 105, 112, 99, 112, 112, 111, 108, 46, 107, 105, 110, 100, 115, 36, 55])), .iface "func" (.lit (.string [104, 97, 108, 121, 97, 114, 100, 47, 105, 112, 99, 112, 112, 111, 108, 46, 107, 105, 110, 100, 115, 36, 56]))]), (.int .u8 131, .agg [.iface "func" (.lit (.string [104, 97, 108, 121, 97, 114, 100, 47, 105, 112, 99, 112, 112, 111, 108, 46, 107, 105, 110, 100, 115, 36, 57])), .iface "func" (.lit (.string [104, 97, 108, 121, 97, 114, 100, 47, 105, 112, 99, 112, 112, 111, 108, 46, 107, 105, 110, 100, 115, 36, 49, 48])), .iface "func" (.lit (.string [104, 97, 108, 121, 97, 114, 100, 47, 105, 112, 99, 112, 112, 111, 108, 46, 107, 105, 110, 100, 115, 36, 49, 49])), .iface "func" (.lit (.string [104, 97, 108, 121, 97, 114, 100, 47, 105, 112, 99, 112, 112, 111, 108, 46, 107, 105, 110, 100, 115, 36, 49, 50]))])])

/-- 'halyardlaw15.IpcppolOnly': WHATEVER THE INPUT: true; the input reads as it did. -/
def ipcppolOnlySpec : ChangeSpec := { name := "ipcppolOnly", fn := fun _ => fun
  | [d1, d2] => { results := [.lit (.bool true)], args := [d1, d2] }
  | _ => none }
def ipcppolOnlyRow : OpenClaim := { program := "ytlcckkdkcbelhaadoor", sum := "3e5d2fcb32770df4a80413c72274f45506df50a76c7936e7e721ef156a8209fb", func := "halyard/halyardlaw15.IpcppolOnly", spec := "ipcppolOnly", unfollowed := true, recurses := true, named := ["halyard/ipcppol.kinds", "halyard/ipcpopt.kinds"], apart := false, laid := [("halyard/ipcpopt.kinds", laid_halyard_ipcpopt_kinds), ("halyard/ipcppol.kinds", laid_halyard_ipcppol_kinds)] }
def IpcppolOnlySaid : Prop := ipcppolOnlyRow.holds Tryd.pinned (OpenSpec.ofChange ipcppolOnlySpec)

/-- ITS FALSE NEIGHBOUR: 'it returns false'. Refute it at one input. -/
def ipcppolOnlyWrong : ChangeSpec := { name := "ipcppolOnly", fn := fun _ => fun
  | [d1, d2] => { results := [.lit (.bool false)], args := [d1, d2] }
  | _ => none }
def IpcppolOnlyWrongFalsely : Prop := ipcppolOnlyRow.holds Tryd.pinned (OpenSpec.ofChange ipcppolOnlyWrong)

/-- 'halyardlaw15.IpcppolMeets': WHATEVER THE INPUT: true; the input reads as it did. -/
def ipcppolMeetsSpec : ChangeSpec := { name := "ipcppolMeets", fn := fun _ => fun
  | [d1, d2] => { results := [.lit (.bool true)], args := [d1, d2] }
  | _ => none }
def ipcppolMeetsRow : OpenClaim := { program := "ytlcckkdkcbelhaadoor", sum := "3e5d2fcb32770df4a80413c72274f45506df50a76c7936e7e721ef156a8209fb", func := "halyard/halyardlaw15.IpcppolMeets", spec := "ipcppolMeets", unfollowed := true, recurses := true, named := ["halyard/ipcppol.kinds", "halyard/ipcpopt.kinds"], apart := false, laid := [("halyard/ipcpopt.kinds", laid_halyard_ipcpopt_kinds), ("halyard/ipcppol.kinds", laid_halyard_ipcppol_kinds)] }
def IpcppolMeetsSaid : Prop := ipcppolMeetsRow.holds Tryd.pinned (OpenSpec.ofChange ipcppolMeetsSpec)

/-- ITS FALSE NEIGHBOUR: 'it returns false'. Refute it at one input. -/
def ipcppolMeetsWrong : ChangeSpec := { name := "ipcppolMeets", fn := fun _ => fun
  | [d1, d2] => { results := [.lit (.bool false)], args := [d1, d2] }
  | _ => none }
def IpcppolMeetsWrongFalsely : Prop := ipcppolMeetsRow.holds Tryd.pinned (OpenSpec.ofChange ipcppolMeetsWrong)

/-- 'halyardlaw15.IpcppolBoth': WHATEVER THE INPUT: true; the input reads as it did. -/
def ipcppolBothSpec : ChangeSpec := { name := "ipcppolBoth", fn := fun _ => fun
  | [d1, d2, d3, d4, d5] => { results := [.lit (.bool true)], args := [d1, d2, d3, d4, d5] }
  | _ => none }
def ipcppolBothRow : OpenClaim := { program := "ytlcckkdkcbelhaadoor", sum := "3e5d2fcb32770df4a80413c72274f45506df50a76c7936e7e721ef156a8209fb", func := "halyard/halyardlaw15.IpcppolBoth", spec := "ipcppolBoth", unfollowed := true, recurses := true, named := ["halyard/ipcppol.kinds", "halyard/ipcpopt.kinds"], apart := false, laid := [("halyard/ipcpopt.kinds", laid_halyard_ipcpopt_kinds), ("halyard/ipcppol.kinds", laid_halyard_ipcppol_kinds)] }
def IpcppolBothSaid : Prop := ipcppolBothRow.holds Tryd.pinned (OpenSpec.ofChange ipcppolBothSpec)

/-- ITS FALSE NEIGHBOUR: 'it returns false'. Refute it at one input. -/
def ipcppolBothWrong : ChangeSpec := { name := "ipcppolBoth", fn := fun _ => fun
  | [d1, d2, d3, d4, d5] => { results := [.lit (.bool false)], args := [d1, d2, d3, d4, d5] }
  | _ => none }
def IpcppolBothWrongFalsely : Prop := ipcppolBothRow.holds Tryd.pinned (OpenSpec.ofChange ipcppolBothWrong)

/-- 'halyardlaw15.IpcppolPlays': WHATEVER THE INPUT: true; the input reads as it did. -/
def ipcppolPlaysSpec : ChangeSpec := { name := "ipcppolPlays", fn := fun _ => fun
  | [d1, d2] => { results := [.lit (.bool true)], args := [d1, d2] }
  | _ => none }
def ipcppolPlaysRow : OpenClaim := { program := "ytlcckkdkcbelhaadoor", sum := "3e5d2fcb32770df4a80413c72274f45506df50a76c7936e7e721ef156a8209fb", func := "halyard/halyardlaw15.IpcppolPlays", spec := "ipcppolPlays", unfollowed := true, recurses := true, named := ["halyard/ipcppol.kinds", "halyard/ipcpopt.kinds"], apart := false, laid := [("halyard/ipcpopt.kinds", laid_halyard_ipcpopt_kinds), ("halyard/ipcppol.kinds", laid_halyard_ipcppol_kinds)] }
def IpcppolPlaysSaid : Prop := ipcppolPlaysRow.holds Tryd.pinned (OpenSpec.ofChange ipcppolPlaysSpec)

/-- ITS FALSE NEIGHBOUR: 'it returns false'. Refute it at one input. -/
def ipcppolPlaysWrong : ChangeSpec := { name := "ipcppolPlays", fn := fun _ => fun
  | [d1, d2] => { results := [.lit (.bool false)], args := [d1, d2] }
  | _ => none }
def IpcppolPlaysWrongFalsely : Prop := ipcppolPlaysRow.holds Tryd.pinned (OpenSpec.ofChange ipcppolPlaysWrong)

/- THE SECOND FORM. 'bulk': how many values and letters a reading holds, each counted each time it is reached (what is shared counts as often as it is met; a slice's spare places count too). A statement '..UptoSaid' is the law's where the arguments, and the package variables that the reading takes, are together of bulk at most 1048576: NARROWER than '..Said'. Prove '..Said' where nothing that the law and all that it calls make is longer than what came in: it says more and counts as full. Else prove '..UptoSaid'. A law counts once. -/
mutual
def uptoBulk {H : Type} : DataW H → Nat
  | .lit (.string bytes) => bytes.length + 1
  | .lit _ => 1
  | .nil => 1
  | .ptr d => uptoBulk d + 1
  | .slice elems spare => uptoBulkAll elems + uptoBulkAll spare + 1
  | .agg parts => uptoBulkAll parts + 1
  | .iface _ d => uptoBulk d + 1
  | .map entries => uptoBulkEntries entries + 1
  | .held _ => 1
def uptoBulkAll {H : Type} : List (DataW H) → Nat
  | [] => 0
  | d :: r => uptoBulk d + uptoBulkAll r
def uptoBulkEntries {H : Type} : List (Lit × DataW H) → Nat
  | [] => 0
  | x :: r => uptoBulkEntry x + uptoBulkEntries r
def uptoBulkEntry {H : Type} : Lit × DataW H → Nat
  | (.string bytes, d) => bytes.length + uptoBulk d + 1
  | (_, d) => uptoBulk d + 1
 end
def uptoSmall : (H : Type) → List (DataW H) → Bool := fun _ ds => decide (uptoBulkAll ds ≤ 1048576)
def OpenSpec.upto (s : _root_.Go.ChangeSpec) : _root_.Go.OpenSpec := { _root_.Go.OpenSpec.ofChange s with cond := some uptoSmall }

/-- 'halyardlaw15.IpcppolOnly', WHERE WHAT IT READS IS OF BULK AT MOST 1048576: true; the input reads as it did. -/
def ipcppolOnlyUptoRow : OpenClaim := { program := "ytlcckkdkcbelhaadoor", sum := "3e5d2fcb32770df4a80413c72274f45506df50a76c7936e7e721ef156a8209fb", func := "halyard/halyardlaw15.IpcppolOnly", spec := "ipcppolOnly", unfollowed := true, recurses := true, named := ["halyard/ipcppol.kinds", "halyard/ipcpopt.kinds"], apart := false, laid := [("halyard/ipcpopt.kinds", laid_halyard_ipcpopt_kinds), ("halyard/ipcppol.kinds", laid_halyard_ipcppol_kinds)], narrowed := true }
def IpcppolOnlyUptoSaid : Prop := ipcppolOnlyUptoRow.holds Tryd.pinned (OpenSpec.upto ipcppolOnlySpec)

/-- 'halyardlaw15.IpcppolMeets', WHERE WHAT IT READS IS OF BULK AT MOST 1048576: true; the input reads as it did. -/
def ipcppolMeetsUptoRow : OpenClaim := { program := "ytlcckkdkcbelhaadoor", sum := "3e5d2fcb32770df4a80413c72274f45506df50a76c7936e7e721ef156a8209fb", func := "halyard/halyardlaw15.IpcppolMeets", spec := "ipcppolMeets", unfollowed := true, recurses := true, named := ["halyard/ipcppol.kinds", "halyard/ipcpopt.kinds"], apart := false, laid := [("halyard/ipcpopt.kinds", laid_halyard_ipcpopt_kinds), ("halyard/ipcppol.kinds", laid_halyard_ipcppol_kinds)], narrowed := true }
def IpcppolMeetsUptoSaid : Prop := ipcppolMeetsUptoRow.holds Tryd.pinned (OpenSpec.upto ipcppolMeetsSpec)

/-- 'halyardlaw15.IpcppolBoth', WHERE WHAT IT READS IS OF BULK AT MOST 1048576: true; the input reads as it did. -/
def ipcppolBothUptoRow : OpenClaim := { program := "ytlcckkdkcbelhaadoor", sum := "3e5d2fcb32770df4a80413c72274f45506df50a76c7936e7e721ef156a8209fb", func := "halyard/halyardlaw15.IpcppolBoth", spec := "ipcppolBoth", unfollowed := true, recurses := true, named := ["halyard/ipcppol.kinds", "halyard/ipcpopt.kinds"], apart := false, laid := [("halyard/ipcpopt.kinds", laid_halyard_ipcpopt_kinds), ("halyard/ipcppol.kinds", laid_halyard_ipcppol_kinds)], narrowed := true }
def IpcppolBothUptoSaid : Prop := ipcppolBothUptoRow.holds Tryd.pinned (OpenSpec.upto ipcppolBothSpec)

/-- 'halyardlaw15.IpcppolPlays', WHERE WHAT IT READS IS OF BULK AT MOST 1048576: true; the input reads as it did. -/
def ipcppolPlaysUptoRow : OpenClaim := { program := "ytlcckkdkcbelhaadoor", sum := "3e5d2fcb32770df4a80413c72274f45506df50a76c7936e7e721ef156a8209fb", func := "halyard/halyardlaw15.IpcppolPlays", spec := "ipcppolPlays", unfollowed := true, recurses := true, named := ["halyard/ipcppol.kinds", "halyard/ipcpopt.kinds"], apart := false, laid := [("halyard/ipcpopt.kinds", laid_halyard_ipcpopt_kinds), ("halyard/ipcppol.kinds", laid_halyard_ipcppol_kinds)], narrowed := true }
def IpcppolPlaysUptoSaid : Prop := ipcppolPlaysUptoRow.holds Tryd.pinned (OpenSpec.upto ipcppolPlaysSpec)

end Rows
end Go.Proofs.YtlcckkdkcbelhaaDoor
