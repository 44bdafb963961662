/-
  Layer 25 (table): what is asked of nothing, and of sessions that are not there; Copy.
-/
import Derived.Test.YthenjbonncbniaaBoth
set_option linter.unusedVariables false
set_option linter.unusedSimpArgs false
namespace Go.Proofs.Ythenjbonncbniaa
open Go.RowKit Go.Proofs.YthenjbonncbniaaW.PrintWords Go.Proofs.YthenjbonncbniaaW.PrintLast

theorem nname_calls (k : Int) (w : World) : Calls Try.prog 24 #[.pointer none, .int .i64 k] w fun e w' => e = .returned (.tuple #[.string ⟨#[]⟩, .bool false]) ∧ w' = w := by
  go_enter Try.func24, Try.ntmps24
  go_wp2
  go_ret2
  exact ⟨rfl, rfl⟩
theorem nof_calls (x : ByteArray) (w : World) : Calls Try.prog 14 #[.pointer none, .string x] w fun e w' => e = .returned (.tuple #[.int .i64 0, .bool false]) ∧ w' = w := by
  go_enter Try.func14, Try.ntmps14
  go_wp2
  go_ret2
  exact ⟨rfl, rfl⟩
theorem nfree_calls (w : World) : Calls Try.prog 11 #[.pointer none] w fun e w' => e = .returned (.tuple #[.int .i64 0, .bool false]) ∧ w' = w := by
  go_enter Try.func11, Try.ntmps11
  go_wp2
  go_ret2
  exact ⟨rfl, rfl⟩
theorem nbind_calls (k : Int) (x : ByteArray) (w : World) : Calls Try.prog 12 #[.pointer none, .int .i64 k, .string x] w fun e w' => e = .returned (.int .i64 1) ∧ w' = w := by
  go_enter Try.func12, Try.ntmps12
  go_wp2
  go_ret
  exact ⟨rfl, rfl⟩
theorem nunbind_calls (k : Int) (w : World) : Calls Try.prog 13 #[.pointer none, .int .i64 k] w fun e w' => e = .returned (.int .i64 1) ∧ w' = w := by
  go_enter Try.func13, Try.ntmps13
  go_wp2
  go_ret
  exact ⟨rfl, rfl⟩
theorem nturn_calls (k : Int) (w : World) : Calls Try.prog 25 #[.pointer none, .int .i64 k] w fun e w' => e = .returned (.int .u64 0) ∧ w' = w := by
  go_enter Try.func25, Try.ntmps25
  go_wp2
  go_ret
  exact ⟨rfl, rfl⟩
theorem nlist_calls (w : World) : Calls Try.prog 15 #[.pointer none] w fun e w' => e = .returned (.slice none 0 0) ∧ w' = w := by
  go_enter Try.func15, Try.ntmps15
  go_wp2
  go_ret
  exact ⟨rfl, rfl⟩
theorem ntcopy_calls (w : World) : Calls Try.prog 34 #[.pointer none] w fun e w' => e = .returned (.pointer none) ∧ w' = w := by
  go_enter Try.func34, Try.ntmps34
  go_wp2
  go_ret
  exact ⟨rfl, rfl⟩
/-- Whether a session is there. -/
def Tab.has (s : Tab) (k : Int) : Bool := decide (0 ≤ k) && decide (k < (s.n : Int))
def Tab.nameR (s : Tab) (k : Int) : ByteArray := cond (s.has k) (s.ns.getD k.toNat ⟨#[]⟩) ⟨#[]⟩
def Tab.turnR (s : Tab) (k : Int) : Nat := cond (s.has k) (s.ts.getD k.toNat 0) 0
theorem name_all (s : Tab) (hw : s.Wf) (B : Nat) (k : Int) (w : World) (h : IsTab w B s) :
    Calls Try.prog 24 #[.pointer (some ⟨B, 0, none⟩), .int .i64 k] w fun e w' => e = .returned (.tuple #[.string (s.nameR k), .bool (!decide (s.nameR k = ⟨#[]⟩))]) ∧ Below w.heap.size w w' := by
  by_cases h1 : k < 0 ∨ (s.n : Int) ≤ k
  · have hr : s.nameR k = ⟨#[]⟩ := by
      unfold Tab.nameR Tab.has
      rcases h1 with h1 | h1
      · rw [decide_eq_false (by omega)]; rfl
      · rw [decide_eq_false (p := k < (s.n : Int)) (by omega), Bool.and_false]; rfl
    rw [hr]
    have hnone := none_calls s hw B k w h
    have hd : (decide (k < 0) || decide ((s.n : Int) ≤ k)) = true := by simp; omega
    rw [hd] at hnone
    go_enter Try.func24, Try.ntmps24
    go_wp2_with (first
      | (go_at_call 45; with_reducible refine hnone.mono ?_; rintro e w1 ⟨rfl, rfl⟩))
    go_ret2
    exact ⟨rfl, Below.refl _ _⟩
  · obtain ⟨m, rfl⟩ := Int.eq_ofNat_of_zero_le (show 0 ≤ k by omega)
    have hr : s.nameR (m : Int) = s.ns.getD m ⟨#[]⟩ := by
      unfold Tab.nameR Tab.has
      rw [decide_eq_true (by omega), decide_eq_true (by omega)]; rfl
    rw [hr]
    exact name_calls s hw B m w h (by omega)
theorem turn_all (s : Tab) (hw : s.Wf) (B : Nat) (k : Int) (w : World) (h : IsTab w B s) :
    Calls Try.prog 25 #[.pointer (some ⟨B, 0, none⟩), .int .i64 k] w fun e w' => e = .returned (.int .u64 ((s.turnR k : Nat) : Int)) ∧ Below w.heap.size w w' := by
  by_cases h1 : k < 0 ∨ (s.n : Int) ≤ k
  · have hr : s.turnR k = 0 := by
      unfold Tab.turnR Tab.has
      rcases h1 with h1 | h1
      · rw [decide_eq_false (by omega)]; rfl
      · rw [decide_eq_false (p := k < (s.n : Int)) (by omega), Bool.and_false]; rfl
    rw [hr]
    have hnone := none_calls s hw B k w h
    have hd : (decide (k < 0) || decide ((s.n : Int) ≤ k)) = true := by simp; omega
    rw [hd] at hnone
    go_enter Try.func25, Try.ntmps25
    go_wp2_with (first
      | (go_at_call 45; with_reducible refine hnone.mono ?_; rintro e w1 ⟨rfl, rfl⟩))
    go_ret
    exact ⟨rfl, Below.refl _ _⟩
  · obtain ⟨m, rfl⟩ := Int.eq_ofNat_of_zero_le (show 0 ≤ k by omega)
    have hr : s.turnR (m : Int) = s.ts.getD m 0 := by
      unfold Tab.turnR Tab.has
      rw [decide_eq_true (by omega), decide_eq_true (by omega)]; rfl
    rw [hr]
    exact turn_calls s hw B m w h (by omega)
end Go.Proofs.Ythenjbonncbniaa
