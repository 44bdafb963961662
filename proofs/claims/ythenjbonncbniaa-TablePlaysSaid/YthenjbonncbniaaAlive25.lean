/-
  Layer 25 (table): the chapter's example, walked.
-/
import Derived.Test.YthenjbonncbniaaAll
set_option linter.unusedVariables false
set_option linter.unusedSimpArgs false
namespace Go.Proofs.Ythenjbonncbniaa
open Go.RowKit Go.Proofs.YthenjbonncbniaaW.PrintWords Go.Proofs.YthenjbonncbniaaW.PrintLast

def T1 : Tab := ((newT 2).bindR 1 ⟨#[97]⟩).2
def T2 : Tab := (T1.unbindR 1).2
theorem c1 : ((newT 2).bindR 1 ⟨#[97]⟩).1 = 0 := by decide +kernel
theorem c2 : (T1.bindR 0 ⟨#[97]⟩).1 = 9 := by decide +kernel
theorem c2' : (T1.bindR 0 ⟨#[97]⟩).2 = T1 := by kernel_rfl
theorem c3 : (T1.bindR 1 ⟨#[98]⟩).1 = 9 := by decide +kernel
theorem c3' : (T1.bindR 1 ⟨#[98]⟩).2 = T1 := by kernel_rfl
theorem c4 : fnd ⟨#[97]⟩ (T1.ns.take T1.n) 0 = 1 := by decide +kernel
theorem c5 : fnd ⟨#[]⟩ (T1.ns.take T1.n) 0 = 0 := by decide +kernel
theorem c6 : (T1.unbindR 1).1 = 0 := by decide +kernel
theorem c7 : T2.ts.getD 1 0 = 2 := by decide +kernel
theorem c8 : (T2.bindR 2 ⟨#[99]⟩).1 = 3 := by decide +kernel
theorem c8' : (T2.bindR 2 ⟨#[99]⟩).2 = T2 := by kernel_rfl
theorem c9 : (T2.bindR 0 ⟨#[]⟩).1 = 2 := by decide +kernel
theorem n1 : T1.n = 2 := by decide +kernel
theorem n2 : T2.n = 2 := by decide +kernel
theorem ok0 : (newT 2).Ok 0 := newT_ok 2 (by decide) (by decide)
theorem ok_bindR {c : Nat} {s : Tab} (h : s.Ok c) (k : Int) (y : ByteArray) : (s.bindR k y).2.Ok (c + 1) := by
  unfold Tab.bindR
  split
  · exact h.up (by omega)
  · split
    · exact h.up (by omega)
    · split
      · exact h.bind _ _
      · exact h.up (by omega)
theorem ok_unbindR {c : Nat} {s : Tab} (h : s.Ok c) (k : Int) : (s.unbindR k).2.Ok (c + 1) := by
  unfold Tab.unbindR
  split
  · exact h.up (by omega)
  · split
    · exact h.up (by omega)
    · exact h.bind _ _
theorem ok1 : T1.Ok 1 := ok_bindR ok0 _ _
theorem ok2 : T2.Ok 2 := ok_unbindR ok1 _
theorem new_good (n : Nat) (h1 : 1 ≤ n) (h2 : n ≤ 64) (w : World) : Calls Try.prog 9 #[.int .i64 (n : Int)] w fun e w' => e = .returned (.tuple #[.pointer (some ⟨w.heap.size, 0, none⟩), .int .i64 0]) ∧ Below w.heap.size w w' ∧ IsTab w' w.heap.size (newT n) := by
  refine (new_calls (n : Int) w).mono ?_
  rintro e w' (⟨hx, _⟩ | ⟨_, _, he, hb, ht⟩)
  · omega
  · rw [Int.toNat_natCast] at ht
    exact ⟨he, hb, ht⟩
theorem new_bad (n : Int) (h : ¬ (1 ≤ n ∧ n ≤ 64)) (w : World) : Calls Try.prog 9 #[.int .i64 n] w fun e w' => e = .returned (.tuple #[.pointer none, .int .i64 2]) ∧ w' = w := by
  refine (new_calls n w).mono ?_
  rintro e w' (⟨_, he, hw⟩ | ⟨h1, h2, _⟩)
  · exact ⟨he, hw⟩
  · exact absurd ⟨h1, h2⟩ h
theorem alive_calls (w : World) : Calls Try.prog 10 #[] w fun e w' => e = .returned (.bool true) ∧ Below w.heap.size w w' := by
  have hN2 : ∀ w : World, Calls Try.prog 9 #[.int .i64 2] w _ := fun w => new_good 2 (by decide) (by decide) w
  have hN0 : ∀ w : World, Calls Try.prog 9 #[.int .i64 0] w _ := fun w => new_bad 0 (by decide) w
  have w0 := ok0.wf (by decide)
  have w1 := ok1.wf (by decide)
  have w2 := ok2.wf (by decide)
  have b1 : ∀ (B : Nat) (w : World), IsTab w B (newT 2) → Calls Try.prog 12 #[.pointer (some ⟨B, 0, none⟩), .int .i64 1, .string ⟨#[97]⟩] w fun e w' => e = .returned (.int .i64 0) ∧ But B w w' ∧ IsTab w' B T1 := fun B w h => by
    have := bind_all (newT 2) w0 B 1 ⟨#[97]⟩ w h
    rw [c1] at this
    exact this
  have b2 : ∀ (B : Nat) (w : World), IsTab w B T1 → Calls Try.prog 12 #[.pointer (some ⟨B, 0, none⟩), .int .i64 0, .string ⟨#[97]⟩] w fun e w' => e = .returned (.int .i64 9) ∧ But B w w' ∧ IsTab w' B T1 := fun B w h => by
    have := bind_all T1 w1 B 0 ⟨#[97]⟩ w h
    rw [c2, c2'] at this
    exact this
  have b3 : ∀ (B : Nat) (w : World), IsTab w B T1 → Calls Try.prog 12 #[.pointer (some ⟨B, 0, none⟩), .int .i64 1, .string ⟨#[98]⟩] w fun e w' => e = .returned (.int .i64 9) ∧ But B w w' ∧ IsTab w' B T1 := fun B w h => by
    have := bind_all T1 w1 B 1 ⟨#[98]⟩ w h
    rw [c3, c3'] at this
    exact this
  have b4 : ∀ (B : Nat) (w : World), IsTab w B T1 → Calls Try.prog 14 #[.pointer (some ⟨B, 0, none⟩), .string ⟨#[97]⟩] w fun e w' => e = .returned (.tuple #[.int .i64 1, .bool true]) ∧ Below w.heap.size w w' := fun B w h => by
    have := of_calls T1 w1 B ⟨#[97]⟩ w h
    rw [if_neg (by decide), c4] at this
    exact this
  have b5 : ∀ (B : Nat) (w : World), IsTab w B T1 → Calls Try.prog 11 #[.pointer (some ⟨B, 0, none⟩)] w fun e w' => e = .returned (.tuple #[.int .i64 0, .bool true]) ∧ Below w.heap.size w w' := fun B w h => by
    have := free_calls T1 w1 B w h
    rw [c5] at this
    exact this
  have b6 : ∀ (B : Nat) (w : World), IsTab w B T1 → Calls Try.prog 13 #[.pointer (some ⟨B, 0, none⟩), .int .i64 1] w fun e w' => e = .returned (.int .i64 0) ∧ But B w w' ∧ IsTab w' B T2 := fun B w h => by
    have := unbind_all T1 w1 B 1 w h
    rw [c6] at this
    exact this
  have b7 : ∀ (B : Nat) (w : World), IsTab w B T2 → Calls Try.prog 25 #[.pointer (some ⟨B, 0, none⟩), .int .i64 1] w fun e w' => e = .returned (.int .u64 2) ∧ Below w.heap.size w w' := fun B w h => by
    have := turn_calls T2 w2 B 1 w h (by rw [n2]; decide)
    rw [c7] at this
    exact this
  have b8 : ∀ (B : Nat) (w : World), IsTab w B T2 → Calls Try.prog 12 #[.pointer (some ⟨B, 0, none⟩), .int .i64 2, .string ⟨#[99]⟩] w fun e w' => e = .returned (.int .i64 3) ∧ But B w w' ∧ IsTab w' B T2 := fun B w h => by
    have := bind_all T2 w2 B 2 ⟨#[99]⟩ w h
    rw [c8, c8'] at this
    exact this
  have b9 : ∀ (B : Nat) (w : World), IsTab w B T2 → Calls Try.prog 12 #[.pointer (some ⟨B, 0, none⟩), .int .i64 0, .string ⟨#[]⟩] w fun e w' => e = .returned (.int .i64 2) ∧ But B w w' := fun B w h => by
    have := bind_all T2 w2 B 0 ⟨#[]⟩ w h
    rw [c9] at this
    exact this.mono fun e w' ⟨h1, h2, _⟩ => ⟨h1, h2⟩
  clear w0 w1 w2
  generalize newT 2 = T0 at *
  generalize T1 = t1 at *
  generalize T2 = t2 at *
  go_enter Try.func10, Try.ntmps10
  go_wp2_with (first
    | (go_at_call 9; with_reducible refine (hN2 _).mono ?_; rintro e w1 ⟨rfl, hb1, ht1⟩)
    | (go_at_call 9; with_reducible refine (hN0 _).mono ?_; rintro e w2 ⟨rfl, rfl⟩)
    | (go_at_call 12; with_reducible refine (b1 _ _ ht1).mono ?_; rintro e w3 ⟨rfl, hb3, ht3⟩)
    | (go_at_call 12; with_reducible refine (b2 _ _ ht3).mono ?_; rintro e w4 ⟨rfl, hb4, ht4⟩)
    | (go_at_call 12; with_reducible refine (b3 _ _ ht4).mono ?_; rintro e w5 ⟨rfl, hb5, ht5⟩)
    | (go_at_call 14; with_reducible refine (b4 _ _ ht5).mono ?_; rintro e w6 ⟨rfl, hb6⟩; have ht6 := ht5.below hb6)
    | (go_at_call 11; with_reducible refine (b5 _ _ ht6).mono ?_; rintro e w7 ⟨rfl, hb7⟩; have ht7 := ht6.below hb7)
    | (go_at_call 13; with_reducible refine (b6 _ _ ht7).mono ?_; rintro e w8 ⟨rfl, hb8, ht8⟩)
    | (go_at_call 25; with_reducible refine (b7 _ _ ht8).mono ?_; rintro e w9 ⟨rfl, hb9⟩; have ht9 := ht8.below hb9)
    | (go_at_call 12; with_reducible refine (b8 _ _ ht9).mono ?_; rintro e w10 ⟨rfl, hb10, ht10⟩)
    | (go_at_call 12; with_reducible refine (b9 _ _ ht10).mono ?_; rintro e w11 ⟨rfl, hb11⟩))
  have hz : w.heap.size ≤ w.heap.size := Nat.le_refl _
  have k4 := hb3.below hb1 hz (by exact hb1.size)
  have k5 := hb4.below k4 hz (by exact k4.size)
  have k6 := hb5.below k5 hz (by exact k5.size)
  have k7 := But.below k6 (But.of_below hb6) hz (by exact k6.size)
  have k8 := But.below k7 (But.of_below hb7) hz (by exact k7.size)
  have k9 := hb8.below k8 hz (by exact k8.size)
  have k10 := But.below k9 (But.of_below hb9) hz (by exact k9.size)
  have k11 := hb10.below k10 hz (by exact k10.size)
  have k12 := hb11.below k11 hz (by exact k11.size)
  go_ret
  exact ⟨rfl, k12⟩
end Go.Proofs.Ythenjbonncbniaa
