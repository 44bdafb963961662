/-
  Layer 25 (table): the methods' answers, whatever is asked.
-/
import Derived.Test.YthenjbonncbniaaBind
import Derived.Test.YthenjbonncbniaaList
set_option linter.unusedVariables false
set_option linter.unusedSimpArgs false
namespace Go.Proofs.Ythenjbonncbniaa
open Go.RowKit Go.Proofs.YthenjbonncbniaaW.PrintWords Go.Proofs.YthenjbonncbniaaW.PrintLast

/-- A table, whose turns are at most c. -/
structure Tab.Ok (c : Nat) (s : Tab) : Prop where
  n1 : 1 ≤ s.n
  n64 : s.n ≤ 64
  ns : s.ns.length = 64
  ts : s.ts.length = 64
  most : ∀ t ∈ s.ts, t ≤ c
theorem Tab.Ok.wf {c : Nat} {s : Tab} (h : s.Ok c) (hc : c < 18446744073709551615) : s.Wf := ⟨h.n1, h.n64, h.ns, h.ts, fun t ht => by have := h.most t ht; omega⟩
theorem Tab.Ok.up {c d : Nat} {s : Tab} (h : s.Ok c) (hc : c ≤ d) : s.Ok d := ⟨h.n1, h.n64, h.ns, h.ts, fun t ht => by have := h.most t ht; omega⟩
theorem Tab.Ok.bind {c : Nat} {s : Tab} (h : s.Ok c) (k : Nat) (y : ByteArray) : (s.bind k y).Ok (c + 1) := by
  refine ⟨h.n1, h.n64, by simp [Tab.bind, h.ns], by simp [Tab.bind, h.ts], fun t ht => ?_⟩
  rcases List.mem_or_eq_of_mem_set ht with h1 | h1
  · have := h.most t h1; omega
  · subst h1
    rw [List.getD_eq_getElem?_getD]
    cases hq : s.ts[k]? with
    | none => simp
    | some v =>
      have := h.most v (List.mem_of_getElem? hq)
      simp; omega
theorem newT_ok (n : Nat) (h1 : 1 ≤ n) (h2 : n ≤ 64) : (newT n).Ok 0 := ⟨h1, h2, List.length_replicate, List.length_replicate, fun t ht => by rw [newT] at ht; simp only at ht; have := List.eq_of_mem_replicate ht; omega⟩
theorem But.of_below {B : Nat} {w w' : World} (h : Below w.heap.size w w') : But B w w' := ⟨h.os, h.tape, h.output, h.size, fun k hk _ => h.block k hk⟩

/-- What Bind answers, and leaves. -/
def Tab.bindR (s : Tab) (k : Int) (y : ByteArray) : Int × Tab :=
  if k < 0 ∨ (s.n : Int) ≤ k then (3, s) else if y = ⟨#[]⟩ ∨ 32 < y.size then (2, s)
  else if s.ns.getD k.toNat ⟨#[]⟩ = ⟨#[]⟩ ∧ fnd y (s.ns.take s.n) 0 < 0 then (0, s.bind k.toNat y) else (9, s)
/-- What Unbind answers, and leaves. -/
def Tab.unbindR (s : Tab) (k : Int) : Int × Tab :=
  if k < 0 ∨ (s.n : Int) ≤ k then (3, s) else if s.ns.getD k.toNat ⟨#[]⟩ = ⟨#[]⟩ then (3, s) else (0, s.bind k.toNat ⟨#[]⟩)
theorem bind_all (s : Tab) (hw : s.Wf) (B : Nat) (k : Int) (y : ByteArray) (w : World) (h : IsTab w B s) :
    Calls Try.prog 12 #[.pointer (some ⟨B, 0, none⟩), .int .i64 k, .string y] w fun e w' => e = .returned (.int .i64 (s.bindR k y).1) ∧ But B w w' ∧ IsTab w' B (s.bindR k y).2 := by
  unfold Tab.bindR
  by_cases h1 : k < 0 ∨ (s.n : Int) ≤ k
  · rw [if_pos h1]
    have hnone := none_calls s hw B k w h
    have hd : (decide (k < 0) || decide ((s.n : Int) ≤ k)) = true := by simp; omega
    rw [hd] at hnone
    go_enter Try.func12, Try.ntmps12
    go_wp2_with (first
      | (go_at_call 45; refine hnone.mono ?_; rintro e w1 ⟨rfl, rfl⟩))
    go_ret
    exact ⟨rfl, But.refl _ _, h⟩
  · rw [if_neg h1]
    obtain ⟨m, rfl⟩ := Int.eq_ofNat_of_zero_le (show 0 ≤ k by omega)
    have hm : m < s.n := by omega
    rw [Int.toNat_natCast]
    by_cases h2 : y = ⟨#[]⟩ ∨ 32 < y.size
    · rw [if_pos h2]
      have hnone := none_calls s hw B (m : Int) w h
      rw [decide_eq_false (by omega), decide_eq_false (by omega), Bool.false_or] at hnone
      by_cases hy : y = ⟨#[]⟩
      · have he : y.toList.isEmpty = true := by rw [hy, ByteArray.toList_eq]; rfl
        go_enter Try.func12, Try.ntmps12
        go_wp2_with (first
          | (go_at_call 45; refine hnone.mono ?_; rintro e w1 ⟨rfl, rfl⟩))
        go_ret
        exact ⟨rfl, But.refl _ _, h⟩
      · have he := str_ne0 hy
        have h32 : 32 < y.size := by rcases h2 with h2 | h2; exact absurd h2 hy; exact h2
        have hys : decide ((32 : Int) < (y.size : Int)) = true := by simp; omega
        go_enter Try.func12, Try.ntmps12
        go_wp2_with (first
          | (go_at_call 45; refine hnone.mono ?_; rintro e w1 ⟨rfl, rfl⟩))
        go_ret
        exact ⟨rfl, But.refl _ _, h⟩
    · rw [if_neg h2]
      refine (bind_calls s hw B m y (fun e => h2 (.inl e)) (by omega) w h hm).mono ?_
      rintro e w' (⟨h3, rfl, hb⟩ | ⟨h3, rfl, hb, ht⟩)
      · rw [if_neg h3]; exact ⟨rfl, But.of_below hb, h.below hb⟩
      · rw [if_pos h3]; exact ⟨rfl, hb, ht⟩
theorem unbind_all (s : Tab) (hw : s.Wf) (B : Nat) (k : Int) (w : World) (h : IsTab w B s) :
    Calls Try.prog 13 #[.pointer (some ⟨B, 0, none⟩), .int .i64 k] w fun e w' => e = .returned (.int .i64 (s.unbindR k).1) ∧ But B w w' ∧ IsTab w' B (s.unbindR k).2 := by
  unfold Tab.unbindR
  by_cases h1 : k < 0 ∨ (s.n : Int) ≤ k
  · rw [if_pos h1]
    have hnone := none_calls s hw B k w h
    have hd : (decide (k < 0) || decide ((s.n : Int) ≤ k)) = true := by simp; omega
    rw [hd] at hnone
    go_enter Try.func13, Try.ntmps13
    go_wp2_with (first
      | (go_at_call 45; refine hnone.mono ?_; rintro e w1 ⟨rfl, rfl⟩))
    go_ret
    exact ⟨rfl, But.refl _ _, h⟩
  · rw [if_neg h1]
    obtain ⟨m, rfl⟩ := Int.eq_ofNat_of_zero_le (show 0 ≤ k by omega)
    have hm : m < s.n := by omega
    rw [Int.toNat_natCast]
    refine (unbind_calls s hw B m w h hm).mono ?_
    rintro e w' (⟨h3, rfl, hb⟩ | ⟨h3, rfl, hb, ht⟩)
    · rw [if_pos h3]; exact ⟨rfl, But.of_below hb, h.below hb⟩
    · rw [if_neg h3]; exact ⟨rfl, hb, ht⟩
end Go.Proofs.Ythenjbonncbniaa
