/-
  Layer 25 (table): find, walked.
-/
import Derived.Test.YthenjbonncbniaaProg
import Derived.WalkKit
import Derived.Deep.LoopGhost
import Derived.Lib.Hide
import Derived.Outline
import Derived.Below
import Derived.KernelRfl
import Derived.Test.YthenjbonncbniaaWWords
set_option linter.unusedVariables false
set_option linter.unusedSimpArgs false
namespace Go.Proofs.Ythenjbonncbniaa
open Go.RowKit Go.Proofs.YthenjbonncbniaaW.PrintWords

/-- The least place of a thing; below 0: it is not there. -/
def fnd (x : ByteArray) : List ByteArray → Nat → Int
  | [], _ => -1
  | y :: l, k => if x = y then (k : Int) else fnd x l (k + 1)

theorem str_ne {x y : ByteArray} (h : ¬ x = y) : (x.toList == y.toList) = false := by
  rw [beq_eq_false_iff_ne, ByteArray.toList_eq, ByteArray.toList_eq]
  intro e
  apply h
  cases x; cases y
  simp at e
  exact congrArg ByteArray.mk e
theorem str_ne' {x y : ByteArray} (h : ¬ x = y) : (x.toList != y.toList) = true := by
  unfold bne
  rw [str_ne h]; rfl
set_option maxRecDepth 100000 in
theorem find_calls (l : List ByteArray) (x : ByteArray) (B off cap : Nat) (w : World) (hl : l.length ≤ 64)
    (hc : ∀ j (h : j < l.length), w.cell? ⟨B, off + j, none⟩ = some (.string l[j])) :
    Calls Try.prog 44 #[.slice (some ⟨B, off, none⟩) l.length cap, .string x] w fun e w' => e = .returned (.int .i64 (fnd x l 0)) ∧ w' = w := by
  go_enter Try.func44, Try.ntmps44
  go_wp2
  go_loopg [5, 6, 9] l.length (fun q a5 a6 i wr => ∃ k : Nat, k ≤ l.length ∧ q = l.length - k ∧ i = .int .i64 k ∧ wr = w ∧ Hid (fnd x l 0 = fnd x (l.drop k) k))
  case atStart => exact ⟨0, by omega, rfl, rfl, rfl, Lib.hid (by rw [List.drop_zero])⟩
  case round =>
    obtain ⟨k, hk, hq, rfl, rfl, Hf⟩ := hrel
    have A := Lib.hid hq; clear hq
    by_cases hlt : k < l.length
    · have hh : decide ((k : Int) < (l.length : Int)) = true := by simp; omega
      have hck := hc k hlt
      have hd : Hid (l.drop k = l[k] :: l.drop (k + 1)) := Lib.hid (List.drop_eq_getElem_cons hlt)
      generalize l[k] = y at *
      have Hc := Lib.hid hc
      clear hc
      by_cases e : x = y
      · subst e
        have he : Hid (fnd x l 0 = (k : Int)) := Lib.hid (by rw [Hf.out, hd.out, fnd, if_pos rfl])
        go_wp2
        go_ret
        exact ⟨by rw [he.out]; rfl, rfl⟩
      · have hne := str_ne e
        go_wp2
        go_roundg (l.length - (k + 1))
        case measure => have := A.out; omega
        case rel => exact ⟨k + 1, by omega, rfl, by go_num, rfl, Lib.hid (by rw [Hf.out, hd.out, fnd, if_neg e])⟩
    · obtain rfl : k = l.length := by omega
      have he : Hid (fnd x l 0 = -1) := Lib.hid (by rw [Hf.out, List.drop_length]; rfl)
      go_wp2
      go_ret
      exact ⟨by rw [he.out]; rfl, rfl⟩
end Go.Proofs.Ythenjbonncbniaa
