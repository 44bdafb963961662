/-
  Layer 17 (echo): Same, and the chapter's example, walked.
-/
import Derived.Test.YthenjbonncbniaaPkt
set_option linter.unusedVariables false
set_option linter.unusedSimpArgs false
namespace Go.Proofs.Ythenjbonncbniaa
open Go.RowKit Go.Proofs.YthenjbonncbniaaW.PrintWords Go.Proofs.YthenjbonncbniaaW.PrintLast

theorem same_nil (w : World) : Calls Try.prog 33 #[.slice none 0 0, .slice none 0 0] w fun e w' => e = .returned (.bool true) ∧ w' = w := by
  go_enter Try.func33, Try.ntmps33
  go_wp2
  go_loopg [5] 1 (fun q i wr => q = 1 ∧ i = .int .i64 0 ∧ wr = w)
  case atStart => exact ⟨rfl, rfl, rfl⟩
  case round =>
    obtain ⟨rfl, rfl, rfl⟩ := hrel
    go_wp2
    go_ret
    exact ⟨rfl, rfl⟩
theorem same_one (g1 g2 : Nat) (code id : Int) (d : ByteArray) (w : World) (h1 : IsPkt w g1 code id d) (h2 : IsPkt w g2 code id d) :
    Calls Try.prog 33 #[.slice (some ⟨g1, 0, none⟩) 1 1, .slice (some ⟨g2, 0, none⟩) 1 1] w fun e w' => e = .returned (.bool true) ∧ ∃ n, w' = w.drewN n := by
  go_enter Try.func33, Try.ntmps33
  go_wp2
  go_loopg [5] 2 (fun q i wr => ∃ k : Nat, k ≤ 1 ∧ q = 2 - k ∧ i = .int .i64 k ∧ ∃ n, wr = w.drewN n)
  case atStart => exact ⟨0, by omega, rfl, rfl, 0, rfl⟩
  case round =>
    obtain ⟨k, hk, hq, rfl, n, hwr⟩ := hrel
    have A := Lib.hid hq; clear hq
    have k1 : IsPkt wr g1 code id d := hwr ▸ h1
    have k2 : IsPkt wr g2 code id d := hwr ▸ h2
    have hW := Lib.hid hwr
    clear hwr h1 h2
    rcases (show k = 0 ∨ k = 1 by omega) with rfl | rfl
    · have a0 := k1.c0
      have a1 := k1.c1
      have a2 := k1.c2
      have b0 := k2.c0
      have b1 := k2.c1
      have b2 := k2.c2
      go_wp2
      go_quiet (fail)
      go_wp2
      go_roundg 1
      case measure => have := A.out; omega
      case rel => exact ⟨1, by omega, rfl, rfl, n + nq, by rw [hW.out, World.drewN_drewN]⟩
    · go_wp2
      go_ret
      exact ⟨rfl, n, hW.out⟩
end Go.Proofs.Ythenjbonncbniaa
