/-
  Layer 3 (escape): rows of bytes, and variables in memory, in a loop over a text's bytes.
-/
import Derived.Test.YtphoemgnfmlngaaEsc
import Derived.Test.YtphoemgnfmlngaaBridge
import Derived.RangeFuncBox
import Derived.Maps.AppendAt
import Derived.WalkSmall
import Derived.Lib.ConvBytes
import Derived.Test.YtphoemgnfmlngaaWLast
set_option linter.unusedVariables false
set_option linter.unusedSimpArgs false
namespace Go.Proofs.Ytphoemgnfmlngaa
open Go.RowKit Go.Shelf Go.Proofs.YtphoemgnfmlngaaW.PrintLast Go.Proofs.YtphoemgnfmlngaaW.PrintWords
attribute [local go_sem] Oper.semAt_some

theorem if_wanted {c : Bool} {p q : Prop} (hc : c = true) (h : p) : if c = true then p else q := by rw [if_pos hc]; exact h
theorem infoE5 : (Try.prog.info? 5).map (fun i => (i.zero, i.size, i.bytes)) = some (some (.int .u8 0), 1, 1) := by kernel_rfl
def ints (l : List UInt8) : List Int := l.map fun b => ((b.toNat : Nat) : Int)
theorem ints_append (l m : List UInt8) : ints (l ++ m) = ints l ++ ints m := by simp [ints]
theorem ints_length (l : List UInt8) : (ints l).length = l.length := by simp [ints]
theorem ints_str (l : List UInt8) : strOfNums (ints l) = ⟨l.toArray⟩ := by
  have h : (strOfNums (ints l)).data.toList = l := by
    rw [strOfNums_data, ints, List.map_map]
    conv => rhs; rw [← List.map_id l]
    apply List.map_congr_left
    intro b _
    simp
  cases hq : strOfNums (ints l) with
  | mk d => rw [hq] at h; exact congrArg ByteArray.mk (by simp at h; rw [← h])
theorem boxed_app {W w1 : World} {n₀ B C : Nat} {t' e : TypeId} {size : Nat} {v v' u : Value} {k : Nat} {xs : List Value} {tmp : Obj} (hC : Boxed W C t' u) (hne : t' ≠ e) (hrow : W.ownsRow n₀ e size v k xs)
    (hgrow : (W.alloc tmp).grownBy w1 v.ownBlock) (hCB : C ≠ B) : Boxed (w1.setCell ⟨B, 0, none⟩ v') C t' u :=
  ((hC.alloc tmp).kept hgrow (hC.not_row hne hrow)).kept (grownBy_setCell' w1 B v') (by simpa using hCB)
theorem keepCell_boxed {W W' : World} {B : Nat} {t t' : TypeId} {v : Value} (h : Boxed W B t v) (h' : Boxed W' B t' v) : KeepCell B W W' := fun u hu => by
  rw [h.cell] at hu
  rw [h'.cell, hu]
theorem boxed_ownF {β : Type} (B : Nat) (t : TypeId) (v : Value) (n : Nat) : OwnFrom n (fun (_ : β) W => Boxed W B t v) := fun s W W' row h hg hr =>
  h.kept hg (fun e => by
    obtain ⟨_, o, ho, hc⟩ := hr B e.symm
    rw [show W.heap[B]? = _ from h] at ho; cases ho; cases hc)

end Go.Proofs.Ytphoemgnfmlngaa
