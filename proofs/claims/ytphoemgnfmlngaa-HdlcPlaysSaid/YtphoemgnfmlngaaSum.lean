/-
  The checksum of a text (package fcs), walked.
-/
import Derived.Test.YtphoemgnfmlngaaMore
set_option linter.unusedVariables false
set_option linter.unusedSimpArgs false
namespace Go.Proofs.Ytphoemgnfmlngaa
open Go.RowKit

theorem nats_lt (l : List UInt8) : ∀ b ∈ nats l, b < 256 := by
  intro b hb
  simp only [nats, List.mem_map] at hb
  obtain ⟨a, _, rfl⟩ := hb
  exact a.toNat_lt

set_option maxRecDepth 100000 in
theorem sum_calls (s : ByteArray) (hs : s.size ≤ 9223372036854775807) (w : World) :
    Calls Try.prog 19 #[.string s] w fun e w' => e = .returned (.int .u16 (Fcs.sum (nats s.data.toList) : Int)) ∧ Below w.heap.size w w' := by
  have hlt : Fcs.more 65535 (nats s.data.toList) < 65536 := Fcs.more_lt _ _ (by decide) (nats_lt _)
  have e1 : bits .xor .u16 IntKind.u16.max ((Fcs.more 65535 (nats s.data.toList) : Nat) : Int) = (Fcs.sum (nats s.data.toList) : Int) := xor_u16 65535 _ (by decide) hlt
  go_enter Try.func19, Try.ntmps19
  go_wp2_with (go_at_call 15; refine (more_calls 65535 (by decide) s hs _).mono ?_; rintro e w1 ⟨rfl, hb⟩)
  go_ret
  exact ⟨rfl, hb⟩
end Go.Proofs.Ytphoemgnfmlngaa
