/-
  Layer 15 (ipcppol): the law IpcppolBoth, walked.
-/
import Derived.Test.YtlcckkdkcbelhaaDoorBothA
import Derived.Test.YtlcckkdkcbelhaaDoorBothB
import Derived.Test.YtlcckkdkcbelhaaDoorBothC
import Derived.Test.YtlcckkdkcbelhaaDoorBothD
import Derived.Test.YtlcckkdkcbelhaaDoorBothE
set_option linter.unusedVariables false
set_option linter.unusedSimpArgs false
namespace Go.Proofs.YtlcckkdkcbelhaaDoor
open Go.RowKit Go.Proofs.YtlcckkdkcbelhaaDoorW.PrintWords Go.Proofs.YtlcckkdkcbelhaaDoorW.PrintLast

theorem both_walk (own give dns1 dns2 : UInt32) (want : Bool) (w : World) (hK : K w) :
    Calls Tryd.prog 5 #[.int .u32 (nv own), .int .u32 (nv give), .int .u32 (nv dns1), .int .u32 (nv dns2), .bool want] w fun e w' => e = .returned (.bool true) ∧ Below w.heap.size w w' := by
  by_cases h : own = 0 ∨ give = 0
  · exact both_bad own give dns1 dns2 want w hK h
  · have ho : own ≠ 0 := fun e => h (.inl e)
    have hg : give ≠ 0 := fun e => h (.inr e)
    cases e0 : want with
    | false =>
      subst e0
      exact both_A own give dns1 dns2 false w hK ho hg rfl rfl rfl
    | true =>
      subst e0
      cases e1 : g1 dns1 true with
      | false =>
        cases e2 : g1 dns2 true with
        | false => exact both_B own give dns1 dns2 true w hK ho hg rfl e1 e2
        | true => exact both_D own give dns1 dns2 true w hK ho hg rfl e1 e2
      | true =>
        cases e2 : g1 dns2 true with
        | false => exact both_C own give dns1 dns2 true w hK ho hg rfl e1 e2
        | true => exact both_E own give dns1 dns2 true w hK ho hg rfl e1 e2
end Go.Proofs.YtlcckkdkcbelhaaDoor
