/-
  No cell of these rows narrows 'for every input' (looked for: loops, veiled, ifaces, maps, wideKeys, modest, calm, conditions, laid).
  DERIVED. THE GIVEN ROWS OF THIS SEAT. 11 by the template 'for every input the law returns true; each argument reads behind the call as it read before'; 0 by the template 'total and deterministic' (their statements: YtphoemgnfmlngaaTotals.lean).
  GIVEN WITH THE SEED: the statements are not yours to turn. If you find one false, say at which input.
  Laid BY PROGRAM, IN A SANDBOX (cutbox-rows.mjs): the forced cells as the released guide's own fill.sh prints them over the translation b3f4cdb300d1011a… (all of the seat's roots in one cut). By AI agents, Wed Nov 11 2026. No macro, syntax, notation, axiom, sorry.
-/
import Derived.Test.YtphoemgnfmlngaaChecked
import GoSem.Claim
import GoSem.ClaimJoined
import GoSem.ClaimMapViews
import Derived.JoinedTies
import Derived.KernelRfl
namespace Go.Proofs.Ytphoemgnfmlngaa
/- THE CELL 'sum', in the pinned program and in every row, IS THE sha256 OF THE DUMP (.gsa) THAT YtphoemgnfmlngaaProg.lean LOADS. Nothing in Lean hashes anything: it is a label: what it is worth is what the hold of that sum in a sandbox is worth. -/
noncomputable def Try.pinned : Pinned := { name := "ytphoemgnfmlngaa", sum := "b3f4cdb300d1011ae92b74bdaa5b7eb2c47403d5bd1c37933c4b9dea5851e60a", checked := Try.checked }
namespace Rows
def none {H : Type} : Left H := { results := [], args := [] }

/-- 'halyardlaw02.FcsLinear': WHATEVER THE INPUT: true; the input reads as it did. -/
def fcsLinearSpec : ChangeSpec := { name := "fcsLinear", fn := fun _ => fun
  | [d1, d2, d3, d4] => { results := [.lit (.bool true)], args := [d1, d2, d3, d4] }
  | _ => none }
def fcsLinearRow : OpenClaim := { program := "ytphoemgnfmlngaa", sum := "b3f4cdb300d1011ae92b74bdaa5b7eb2c47403d5bd1c37933c4b9dea5851e60a", func := "halyard/halyardlaw02.FcsLinear", spec := "fcsLinear", unfollowed := true, recurses := true, apart := false }
def FcsLinearSaid : Prop := fcsLinearRow.holds Try.pinned (OpenSpec.ofChange fcsLinearSpec)

/-- ITS FALSE NEIGHBOUR: 'it returns false'. Refute it at one input. -/
def fcsLinearWrong : ChangeSpec := { name := "fcsLinear", fn := fun _ => fun
  | [d1, d2, d3, d4] => { results := [.lit (.bool false)], args := [d1, d2, d3, d4] }
  | _ => none }
def FcsLinearWrongFalsely : Prop := fcsLinearRow.holds Try.pinned (OpenSpec.ofChange fcsLinearWrong)

/-- 'halyardlaw02.FcsTells': WHATEVER THE INPUT: true; the input reads as it did. -/
def fcsTellsSpec : ChangeSpec := { name := "fcsTells", fn := fun _ => fun
  | [d1, d2] => { results := [.lit (.bool true)], args := [d1, d2] }
  | _ => none }
def fcsTellsRow : OpenClaim := { program := "ytphoemgnfmlngaa", sum := "b3f4cdb300d1011ae92b74bdaa5b7eb2c47403d5bd1c37933c4b9dea5851e60a", func := "halyard/halyardlaw02.FcsTells", spec := "fcsTells", unfollowed := true, recurses := true, apart := false }
def FcsTellsSaid : Prop := fcsTellsRow.holds Try.pinned (OpenSpec.ofChange fcsTellsSpec)

/-- ITS FALSE NEIGHBOUR: 'it returns false'. Refute it at one input. -/
def fcsTellsWrong : ChangeSpec := { name := "fcsTells", fn := fun _ => fun
  | [d1, d2] => { results := [.lit (.bool false)], args := [d1, d2] }
  | _ => none }
def FcsTellsWrongFalsely : Prop := fcsTellsRow.holds Try.pinned (OpenSpec.ofChange fcsTellsWrong)

/-- 'halyardlaw02.FcsBack': WHATEVER THE INPUT: true; the input reads as it did. -/
def fcsBackSpec : ChangeSpec := { name := "fcsBack", fn := fun _ => fun
  | [d1, d2, d3] => { results := [.lit (.bool true)], args := [d1, d2, d3] }
  | _ => none }
def fcsBackRow : OpenClaim := { program := "ytphoemgnfmlngaa", sum := "b3f4cdb300d1011ae92b74bdaa5b7eb2c47403d5bd1c37933c4b9dea5851e60a", func := "halyard/halyardlaw02.FcsBack", spec := "fcsBack", unfollowed := true, recurses := true, apart := false }
def FcsBackSaid : Prop := fcsBackRow.holds Try.pinned (OpenSpec.ofChange fcsBackSpec)

/-- ITS FALSE NEIGHBOUR: 'it returns false'. Refute it at one input. -/
def fcsBackWrong : ChangeSpec := { name := "fcsBack", fn := fun _ => fun
  | [d1, d2, d3] => { results := [.lit (.bool false)], args := [d1, d2, d3] }
  | _ => none }
def FcsBackWrongFalsely : Prop := fcsBackRow.holds Try.pinned (OpenSpec.ofChange fcsBackWrong)

/-- 'halyardlaw02.FcsBursts': WHATEVER THE INPUT: true; the input reads as it did. -/
def fcsBurstsSpec : ChangeSpec := { name := "fcsBursts", fn := fun _ => fun
  | [d1, d2, d3] => { results := [.lit (.bool true)], args := [d1, d2, d3] }
  | _ => none }
def fcsBurstsRow : OpenClaim := { program := "ytphoemgnfmlngaa", sum := "b3f4cdb300d1011ae92b74bdaa5b7eb2c47403d5bd1c37933c4b9dea5851e60a", func := "halyard/halyardlaw02.FcsBursts", spec := "fcsBursts", unfollowed := true, recurses := true, apart := false }
def FcsBurstsSaid : Prop := fcsBurstsRow.holds Try.pinned (OpenSpec.ofChange fcsBurstsSpec)

/-- ITS FALSE NEIGHBOUR: 'it returns false'. Refute it at one input. -/
def fcsBurstsWrong : ChangeSpec := { name := "fcsBursts", fn := fun _ => fun
  | [d1, d2, d3] => { results := [.lit (.bool false)], args := [d1, d2, d3] }
  | _ => none }
def FcsBurstsWrongFalsely : Prop := fcsBurstsRow.holds Try.pinned (OpenSpec.ofChange fcsBurstsWrong)

/-- 'halyardlaw03.EscapeTells': WHATEVER THE INPUT: true; the input reads as it did. -/
def escapeTellsSpec : ChangeSpec := { name := "escapeTells", fn := fun _ => fun
  | [d1, d2, d3] => { results := [.lit (.bool true)], args := [d1, d2, d3] }
  | _ => none }
def escapeTellsRow : OpenClaim := { program := "ytphoemgnfmlngaa", sum := "b3f4cdb300d1011ae92b74bdaa5b7eb2c47403d5bd1c37933c4b9dea5851e60a", func := "halyard/halyardlaw03.EscapeTells", spec := "escapeTells", unfollowed := true, recurses := true, apart := false }
def EscapeTellsSaid : Prop := escapeTellsRow.holds Try.pinned (OpenSpec.ofChange escapeTellsSpec)

/-- ITS FALSE NEIGHBOUR: 'it returns false'. Refute it at one input. -/
def escapeTellsWrong : ChangeSpec := { name := "escapeTells", fn := fun _ => fun
  | [d1, d2, d3] => { results := [.lit (.bool false)], args := [d1, d2, d3] }
  | _ => none }
def EscapeTellsWrongFalsely : Prop := escapeTellsRow.holds Try.pinned (OpenSpec.ofChange escapeTellsWrong)

/-- 'halyardlaw03.EscapeBack': WHATEVER THE INPUT: true; the input reads as it did. -/
def escapeBackSpec : ChangeSpec := { name := "escapeBack", fn := fun _ => fun
  | [d1, d2, d3, d4] => { results := [.lit (.bool true)], args := [d1, d2, d3, d4] }
  | _ => none }
def escapeBackRow : OpenClaim := { program := "ytphoemgnfmlngaa", sum := "b3f4cdb300d1011ae92b74bdaa5b7eb2c47403d5bd1c37933c4b9dea5851e60a", func := "halyard/halyardlaw03.EscapeBack", spec := "escapeBack", unfollowed := true, recurses := true, apart := false }
def EscapeBackSaid : Prop := escapeBackRow.holds Try.pinned (OpenSpec.ofChange escapeBackSpec)

/-- ITS FALSE NEIGHBOUR: 'it returns false'. Refute it at one input. -/
def escapeBackWrong : ChangeSpec := { name := "escapeBack", fn := fun _ => fun
  | [d1, d2, d3, d4] => { results := [.lit (.bool false)], args := [d1, d2, d3, d4] }
  | _ => none }
def EscapeBackWrongFalsely : Prop := escapeBackRow.holds Try.pinned (OpenSpec.ofChange escapeBackWrong)

/-- 'halyardlaw03.EscapeClean': WHATEVER THE INPUT: true; the input reads as it did. -/
def escapeCleanSpec : ChangeSpec := { name := "escapeClean", fn := fun _ => fun
  | [d1, d2, d3] => { results := [.lit (.bool true)], args := [d1, d2, d3] }
  | _ => none }
def escapeCleanRow : OpenClaim := { program := "ytphoemgnfmlngaa", sum := "b3f4cdb300d1011ae92b74bdaa5b7eb2c47403d5bd1c37933c4b9dea5851e60a", func := "halyard/halyardlaw03.EscapeClean", spec := "escapeClean", unfollowed := true, recurses := true, apart := false }
def EscapeCleanSaid : Prop := escapeCleanRow.holds Try.pinned (OpenSpec.ofChange escapeCleanSpec)

/-- ITS FALSE NEIGHBOUR: 'it returns false'. Refute it at one input. -/
def escapeCleanWrong : ChangeSpec := { name := "escapeClean", fn := fun _ => fun
  | [d1, d2, d3] => { results := [.lit (.bool false)], args := [d1, d2, d3] }
  | _ => none }
def EscapeCleanWrongFalsely : Prop := escapeCleanRow.holds Try.pinned (OpenSpec.ofChange escapeCleanWrong)

/-- 'halyardlaw04.HdlcBack': WHATEVER THE INPUT: true; the input reads as it did. -/
def hdlcBackSpec : ChangeSpec := { name := "hdlcBack", fn := fun _ => fun
  | [d1, d2, d3, d4, d5, d6] => { results := [.lit (.bool true)], args := [d1, d2, d3, d4, d5, d6] }
  | _ => none }
def hdlcBackRow : OpenClaim := { program := "ytphoemgnfmlngaa", sum := "b3f4cdb300d1011ae92b74bdaa5b7eb2c47403d5bd1c37933c4b9dea5851e60a", func := "halyard/halyardlaw04.HdlcBack", spec := "hdlcBack", unfollowed := true, recurses := true, apart := false }
def HdlcBackSaid : Prop := hdlcBackRow.holds Try.pinned (OpenSpec.ofChange hdlcBackSpec)

/-- ITS FALSE NEIGHBOUR: 'it returns false'. Refute it at one input. -/
def hdlcBackWrong : ChangeSpec := { name := "hdlcBack", fn := fun _ => fun
  | [d1, d2, d3, d4, d5, d6] => { results := [.lit (.bool false)], args := [d1, d2, d3, d4, d5, d6] }
  | _ => none }
def HdlcBackWrongFalsely : Prop := hdlcBackRow.holds Try.pinned (OpenSpec.ofChange hdlcBackWrong)

/-- 'halyardlaw04.HdlcPieces': WHATEVER THE INPUT: true; the input reads as it did. -/
def hdlcPiecesSpec : ChangeSpec := { name := "hdlcPieces", fn := fun _ => fun
  | [d1, d2, d3, d4] => { results := [.lit (.bool true)], args := [d1, d2, d3, d4] }
  | _ => none }
def hdlcPiecesRow : OpenClaim := { program := "ytphoemgnfmlngaa", sum := "b3f4cdb300d1011ae92b74bdaa5b7eb2c47403d5bd1c37933c4b9dea5851e60a", func := "halyard/halyardlaw04.HdlcPieces", spec := "hdlcPieces", unfollowed := true, recurses := true, apart := false }
def HdlcPiecesSaid : Prop := hdlcPiecesRow.holds Try.pinned (OpenSpec.ofChange hdlcPiecesSpec)

/-- ITS FALSE NEIGHBOUR: 'it returns false'. Refute it at one input. -/
def hdlcPiecesWrong : ChangeSpec := { name := "hdlcPieces", fn := fun _ => fun
  | [d1, d2, d3, d4] => { results := [.lit (.bool false)], args := [d1, d2, d3, d4] }
  | _ => none }
def HdlcPiecesWrongFalsely : Prop := hdlcPiecesRow.holds Try.pinned (OpenSpec.ofChange hdlcPiecesWrong)

/-- 'halyardlaw04.HdlcRefuses': WHATEVER THE INPUT: true; the input reads as it did. -/
def hdlcRefusesSpec : ChangeSpec := { name := "hdlcRefuses", fn := fun _ => fun
  | [d1, d2, d3, d4] => { results := [.lit (.bool true)], args := [d1, d2, d3, d4] }
  | _ => none }
def hdlcRefusesRow : OpenClaim := { program := "ytphoemgnfmlngaa", sum := "b3f4cdb300d1011ae92b74bdaa5b7eb2c47403d5bd1c37933c4b9dea5851e60a", func := "halyard/halyardlaw04.HdlcRefuses", spec := "hdlcRefuses", unfollowed := true, recurses := true, apart := false }
def HdlcRefusesSaid : Prop := hdlcRefusesRow.holds Try.pinned (OpenSpec.ofChange hdlcRefusesSpec)

/-- ITS FALSE NEIGHBOUR: 'it returns false'. Refute it at one input. -/
def hdlcRefusesWrong : ChangeSpec := { name := "hdlcRefuses", fn := fun _ => fun
  | [d1, d2, d3, d4] => { results := [.lit (.bool false)], args := [d1, d2, d3, d4] }
  | _ => none }
def HdlcRefusesWrongFalsely : Prop := hdlcRefusesRow.holds Try.pinned (OpenSpec.ofChange hdlcRefusesWrong)

/-- 'halyardlaw04.HdlcPlays': WHATEVER THE INPUT: true; the input reads as it did. -/
def hdlcPlaysSpec : ChangeSpec := { name := "hdlcPlays", fn := fun _ => fun
  | [d1, d2, d3, d4] => { results := [.lit (.bool true)], args := [d1, d2, d3, d4] }
  | _ => none }
def hdlcPlaysRow : OpenClaim := { program := "ytphoemgnfmlngaa", sum := "b3f4cdb300d1011ae92b74bdaa5b7eb2c47403d5bd1c37933c4b9dea5851e60a", func := "halyard/halyardlaw04.HdlcPlays", spec := "hdlcPlays", unfollowed := true, recurses := true, apart := false }
def HdlcPlaysSaid : Prop := hdlcPlaysRow.holds Try.pinned (OpenSpec.ofChange hdlcPlaysSpec)

/-- ITS FALSE NEIGHBOUR: 'it returns false'. Refute it at one input. -/
def hdlcPlaysWrong : ChangeSpec := { name := "hdlcPlays", fn := fun _ => fun
  | [d1, d2, d3, d4] => { results := [.lit (.bool false)], args := [d1, d2, d3, d4] }
  | _ => none }
def HdlcPlaysWrongFalsely : Prop := hdlcPlaysRow.holds Try.pinned (OpenSpec.ofChange hdlcPlaysWrong)

/- THE SECOND FORM. 'bulk': how many values and letters a reading holds, each counted each time it is reached (what is shared counts as often as it is met; a slice's spare places count too). A statement '..UptoSaid' is the law's where the arguments, and the package variables that the reading takes, are together of bulk at most 1048576: NARROWER than '..Said'. Prove '..Said' where nothing that the law and all that it calls make is longer than what came in: it says more and counts as full. Else prove '..UptoSaid'. A law counts once. -/
mutual
def uptoBulk {H : Type} : DataW H → Nat
  | .lit (.string bytes) => bytes.length + 1
  | .lit _ => 1
  | .nil => 1
  | .ptr d => uptoBulk d + 1
  | .slice elems spare => uptoBulkAll elems + uptoBulkAll spare + 1
  | .agg parts => uptoBulkAll parts + 1
  | .iface _ d => uptoBulk d + 1
  | .map entries => uptoBulkEntries entries + 1
  | .held _ => 1
def uptoBulkAll {H : Type} : List (DataW H) → Nat
  | [] => 0
  | d :: r => uptoBulk d + uptoBulkAll r
def uptoBulkEntries {H : Type} : List (Lit × DataW H) → Nat
  | [] => 0
  | x :: r => uptoBulkEntry x + uptoBulkEntries r
def uptoBulkEntry {H : Type} : Lit × DataW H → Nat
  | (.string bytes, d) => bytes.length + uptoBulk d + 1
  | (_, d) => uptoBulk d + 1
 end
def uptoSmall : (H : Type) → List (DataW H) → Bool := fun _ ds => decide (uptoBulkAll ds ≤ 1048576)
def OpenSpec.upto (s : _root_.Go.ChangeSpec) : _root_.Go.OpenSpec := { _root_.Go.OpenSpec.ofChange s with cond := some uptoSmall }

/-- 'halyardlaw02.FcsLinear', WHERE WHAT IT READS IS OF BULK AT MOST 1048576: true; the input reads as it did. -/
def fcsLinearUptoRow : OpenClaim := { program := "ytphoemgnfmlngaa", sum := "b3f4cdb300d1011ae92b74bdaa5b7eb2c47403d5bd1c37933c4b9dea5851e60a", func := "halyard/halyardlaw02.FcsLinear", spec := "fcsLinear", unfollowed := true, recurses := true, apart := false, narrowed := true }
def FcsLinearUptoSaid : Prop := fcsLinearUptoRow.holds Try.pinned (OpenSpec.upto fcsLinearSpec)

/-- 'halyardlaw02.FcsTells', WHERE WHAT IT READS IS OF BULK AT MOST 1048576: true; the input reads as it did. -/
def fcsTellsUptoRow : OpenClaim := { program := "ytphoemgnfmlngaa", sum := "b3f4cdb300d1011ae92b74bdaa5b7eb2c47403d5bd1c37933c4b9dea5851e60a", func := "halyard/halyardlaw02.FcsTells", spec := "fcsTells", unfollowed := true, recurses := true, apart := false, narrowed := true }
def FcsTellsUptoSaid : Prop := fcsTellsUptoRow.holds Try.pinned (OpenSpec.upto fcsTellsSpec)

/-- 'halyardlaw02.FcsBack', WHERE WHAT IT READS IS OF BULK AT MOST 1048576: true; the input reads as it did. -/
def fcsBackUptoRow : OpenClaim := { program := "ytphoemgnfmlngaa", sum := "b3f4cdb300d1011ae92b74bdaa5b7eb2c47403d5bd1c37933c4b9dea5851e60a", func := "halyard/halyardlaw02.FcsBack", spec := "fcsBack", unfollowed := true, recurses := true, apart := false, narrowed := true }
def FcsBackUptoSaid : Prop := fcsBackUptoRow.holds Try.pinned (OpenSpec.upto fcsBackSpec)

/-- 'halyardlaw02.FcsBursts', WHERE WHAT IT READS IS OF BULK AT MOST 1048576: true; the input reads as it did. -/
def fcsBurstsUptoRow : OpenClaim := { program := "ytphoemgnfmlngaa", sum := "b3f4cdb300d1011ae92b74bdaa5b7eb2c47403d5bd1c37933c4b9dea5851e60a", func := "halyard/halyardlaw02.FcsBursts", spec := "fcsBursts", unfollowed := true, recurses := true, apart := false, narrowed := true }
def FcsBurstsUptoSaid : Prop := fcsBurstsUptoRow.holds Try.pinned (OpenSpec.upto fcsBurstsSpec)

/-- 'halyardlaw03.EscapeTells', WHERE WHAT IT READS IS OF BULK AT MOST 1048576: true; the input reads as it did. -/
def escapeTellsUptoRow : OpenClaim := { program := "ytphoemgnfmlngaa", sum := "b3f4cdb300d1011ae92b74bdaa5b7eb2c47403d5bd1c37933c4b9dea5851e60a", func := "halyard/halyardlaw03.EscapeTells", spec := "escapeTells", unfollowed := true, recurses := true, apart := false, narrowed := true }
def EscapeTellsUptoSaid : Prop := escapeTellsUptoRow.holds Try.pinned (OpenSpec.upto escapeTellsSpec)

/-- 'halyardlaw03.EscapeBack', WHERE WHAT IT READS IS OF BULK AT MOST 1048576: true; the input reads as it did. -/
def escapeBackUptoRow : OpenClaim := { program := "ytphoemgnfmlngaa", sum := "b3f4cdb300d1011ae92b74bdaa5b7eb2c47403d5bd1c37933c4b9dea5851e60a", func := "halyard/halyardlaw03.EscapeBack", spec := "escapeBack", unfollowed := true, recurses := true, apart := false, narrowed := true }
def EscapeBackUptoSaid : Prop := escapeBackUptoRow.holds Try.pinned (OpenSpec.upto escapeBackSpec)

/-- 'halyardlaw03.EscapeClean', WHERE WHAT IT READS IS OF BULK AT MOST 1048576: true; the input reads as it did. -/
def escapeCleanUptoRow : OpenClaim := { program := "ytphoemgnfmlngaa", sum := "b3f4cdb300d1011ae92b74bdaa5b7eb2c47403d5bd1c37933c4b9dea5851e60a", func := "halyard/halyardlaw03.EscapeClean", spec := "escapeClean", unfollowed := true, recurses := true, apart := false, narrowed := true }
def EscapeCleanUptoSaid : Prop := escapeCleanUptoRow.holds Try.pinned (OpenSpec.upto escapeCleanSpec)

/-- 'halyardlaw04.HdlcBack', WHERE WHAT IT READS IS OF BULK AT MOST 1048576: true; the input reads as it did. -/
def hdlcBackUptoRow : OpenClaim := { program := "ytphoemgnfmlngaa", sum := "b3f4cdb300d1011ae92b74bdaa5b7eb2c47403d5bd1c37933c4b9dea5851e60a", func := "halyard/halyardlaw04.HdlcBack", spec := "hdlcBack", unfollowed := true, recurses := true, apart := false, narrowed := true }
def HdlcBackUptoSaid : Prop := hdlcBackUptoRow.holds Try.pinned (OpenSpec.upto hdlcBackSpec)

/-- 'halyardlaw04.HdlcPieces', WHERE WHAT IT READS IS OF BULK AT MOST 1048576: true; the input reads as it did. -/
def hdlcPiecesUptoRow : OpenClaim := { program := "ytphoemgnfmlngaa", sum := "b3f4cdb300d1011ae92b74bdaa5b7eb2c47403d5bd1c37933c4b9dea5851e60a", func := "halyard/halyardlaw04.HdlcPieces", spec := "hdlcPieces", unfollowed := true, recurses := true, apart := false, narrowed := true }
def HdlcPiecesUptoSaid : Prop := hdlcPiecesUptoRow.holds Try.pinned (OpenSpec.upto hdlcPiecesSpec)

/-- 'halyardlaw04.HdlcRefuses', WHERE WHAT IT READS IS OF BULK AT MOST 1048576: true; the input reads as it did. -/
def hdlcRefusesUptoRow : OpenClaim := { program := "ytphoemgnfmlngaa", sum := "b3f4cdb300d1011ae92b74bdaa5b7eb2c47403d5bd1c37933c4b9dea5851e60a", func := "halyard/halyardlaw04.HdlcRefuses", spec := "hdlcRefuses", unfollowed := true, recurses := true, apart := false, narrowed := true }
def HdlcRefusesUptoSaid : Prop := hdlcRefusesUptoRow.holds Try.pinned (OpenSpec.upto hdlcRefusesSpec)

/-- 'halyardlaw04.HdlcPlays', WHERE WHAT IT READS IS OF BULK AT MOST 1048576: true; the input reads as it did. -/
def hdlcPlaysUptoRow : OpenClaim := { program := "ytphoemgnfmlngaa", sum := "b3f4cdb300d1011ae92b74bdaa5b7eb2c47403d5bd1c37933c4b9dea5851e60a", func := "halyard/halyardlaw04.HdlcPlays", spec := "hdlcPlays", unfollowed := true, recurses := true, apart := false, narrowed := true }
def HdlcPlaysUptoSaid : Prop := hdlcPlaysUptoRow.holds Try.pinned (OpenSpec.upto hdlcPlaysSpec)

end Rows
end Go.Proofs.Ytphoemgnfmlngaa
