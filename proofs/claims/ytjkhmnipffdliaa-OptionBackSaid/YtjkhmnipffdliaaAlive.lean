/-
  Layer 8 (option): the chapter's example, walked.
-/
import Derived.Test.YtjkhmnipffdliaaPureO
import Derived.Test.YtjkhmnipffdliaaGet
import Derived.Test.YtjkhmnipffdliaaFnd
set_option linter.unusedVariables false
set_option linter.unusedSimpArgs false
namespace Go.Proofs.Ytjkhmnipffdliaa
open Go.RowKit Go.Proofs.YtjkhmnipffdliaaW.PrintWords Go.Proofs.YtjkhmnipffdliaaW.PrintLast

def X0 : List Opt := [⟨1, ⟨#[97, 98]⟩⟩, ⟨7, ⟨#[]⟩⟩]
def S0 : ByteArray := ⟨#[1, 4, 97, 98, 7, 2]⟩
theorem row_x (w : World) : Row (w.alloc (.cells #[.int .u8 1, .string ⟨#[97, 98]⟩, .int .u8 7, .string ⟨#[]⟩] 32)) (some ⟨w.heap.size, 0, none⟩) 2 X0 := by
  refine ⟨Nat.le_refl _, .inr ⟨_, rfl, fun j u hj => ?_⟩⟩
  rw [add_zero, Lib.cell_of_heap (heap_alloc_new w _)]
  match j, hj with
  | 0, hj => exact hj
  | 1, hj => exact hj
  | 2, hj => exact hj
  | 3, hj => exact hj
  | j + 4, hj => simp [X0, optCells] at hj
attribute [local go_sem high] eqA32
set_option maxRecDepth 100000 in
set_option maxHeartbeats 8000000 in
theorem alive_calls (w : World) : Calls Try.prog 8 #[] w fun e w' => e = .returned (.bool true) ∧ Below w.heap.size w w' := by
  have hu32 := Try.underlying32
  have hP : ∀ (g : Nat) (w : World), Row w (some ⟨g, 0, none⟩) 2 X0 → Calls Try.prog 9 #[.slice (some ⟨g, 0, none⟩) 2 2] w fun e w' => e = .returned (.tuple #[.string S0, .int .i64 0]) ∧ Below w.heap.size w w' := fun g w h => by
    have := put_calls X0 _ 2 w h (by decide)
    rw [putV, show put X0 = (S0.data.toList, 0) from by decide +kernel] at this
    exact this
  have hG1 : ∀ w : World, Calls Try.prog 11 #[.string S0] w fun e w' => ∃ a c, e = .returned (.tuple #[.slice a 2 c, .int .i64 6, .int .i64 0]) ∧ Row w' a c X0 ∧ Below w.heap.size w w' := fun w => by
    have := get_calls S0 w
    rw [show getS S0 = (X0, 6, 0) from by decide +kernel] at this
    refine this.mono ?_
    rintro e w' ⟨v, rfl, ⟨a, c, rfl, hr⟩, hb⟩
    exact ⟨a, c, rfl, hr, hb⟩
  have hG2 : ∀ w : World, Calls Try.prog 11 #[.string ⟨#[1, 4, 97]⟩] w fun e w' => ∃ a c, e = .returned (.tuple #[.slice a 0 c, .int .i64 0, .int .i64 6]) ∧ Below w.heap.size w w' := fun w => by
    have := get_calls ⟨#[1, 4, 97]⟩ w
    rw [show getS ⟨#[1, 4, 97]⟩ = ([], 0, 6) from by decide +kernel] at this
    refine this.mono ?_
    rintro e w' ⟨v, rfl, ⟨a, c, rfl, hr⟩, hb⟩
    exact ⟨a, c, rfl, hb⟩
  have hG3 : ∀ w : World, Calls Try.prog 11 #[.string ⟨#[7, 2, 1, 1]⟩] w fun e w' => ∃ a c, e = .returned (.tuple #[.slice a 0 c, .int .i64 2, .int .i64 7]) ∧ Below w.heap.size w w' := fun w => by
    have := get_calls ⟨#[7, 2, 1, 1]⟩ w
    rw [show getS ⟨#[7, 2, 1, 1]⟩ = ([], 2, 7) from by decide +kernel] at this
    refine this.mono ?_
    rintro e w' ⟨v, rfl, ⟨a, c, rfl, hr⟩, hb⟩
    exact ⟨a, c, rfl, hb⟩
  have hF : ∀ (g : Nat) (w : World), Row w (some ⟨g, 0, none⟩) 2 X0 → Calls Try.prog 13 #[.int .u8 7, .slice (some ⟨g, 0, none⟩) 2 2] w fun e w' => e = .returned (.tuple #[.agg #[.int .u8 7, .string ⟨#[]⟩], .bool true]) ∧ Below w.heap.size w w' := fun g w h => by
    have := find_calls 7 X0 _ 2 w h (by decide)
    rw [show X0.filter (hasT 7) = [⟨7, ⟨#[]⟩⟩] from by decide +kernel] at this
    exact this
  have hW : ∀ (g : Nat) (w : World), Row w (some ⟨g, 0, none⟩) 2 X0 → Calls Try.prog 16 #[.int .u8 7, .slice (some ⟨g, 0, none⟩) 2 2] w fun e w' => ∃ a c, e = .returned (.slice a 1 c) ∧ Below w.heap.size w w' := fun g w h => by
    have := without_calls 7 X0 _ 2 w h (by decide)
    rw [show X0.filter (notT 7) = [⟨1, ⟨#[97, 98]⟩⟩] from by decide +kernel] at this
    refine this.mono ?_
    rintro e w' ⟨v, rfl, ⟨a, c, rfl, hr⟩, hb⟩
    exact ⟨a, c, rfl, hb⟩
  have hE : ∀ (a : Option Addr) (c g : Nat) (w : World), Row w a c X0 → Row w (some ⟨g, 0, none⟩) 2 X0 → Calls Try.prog 18 #[.slice a 2 c, .slice (some ⟨g, 0, none⟩) 2 2] w fun e w' => e = .returned (.bool true) ∧ Below w.heap.size w w' := fun a c g w h1 h2 => by
    have := alike_calls X0 X0 a _ c 2 w h1 h2 (by decide)
    rw [decide_eq_true rfl] at this
    exact this
  have hc2 : ∀ (g : Nat) (w : World), Row w (some ⟨g, 0, none⟩) 2 X0 → w.cell? ⟨g, 2, none⟩ = some (.int .u8 7) ∧ w.cell? ⟨g, 3, none⟩ = some (.string ⟨#[]⟩) := fun g w h => by
    rcases h.2 with h0 | ⟨x, e, hc⟩
    · simp [X0] at h0
    · obtain rfl := Option.some.inj e
      exact ⟨by have := hc 2 _ rfl; rw [add_zero] at this; exact this, by have := hc 3 _ rfl; rw [add_zero] at this; exact this⟩
  have hrow := row_x w
  generalize X0 = l at *
  have hs0 : S0.toList = [1, 4, 97, 98, 7, 2] := by rw [ByteArray.toList_eq]; rfl
  generalize S0 = s0 at *
  go_enter Try.func8, Try.ntmps8
  go_wp2_with (first
    | (go_at_call 9; with_reducible refine (hP _ _ hrow).mono ?_; rintro e w1 ⟨rfl, hb1⟩
       have hB1 := ((Below.refl w.heap.size w).alloc (Nat.le_refl _) (.cells #[.int .u8 1, .string ⟨#[97, 98]⟩, .int .u8 7, .string ⟨#[]⟩] 32)).trans (hb1.mono (by simp))
       have hr1 := hrow.below hb1)
    | (go_at_call 11; with_reducible refine (hG1 _).mono ?_; rintro e w2 ⟨a2, c2, rfl, hm2, hb2⟩
       have hB2 := hB1.trans (hb2.mono hB1.size)
       have hr2 := hr1.below hb2)
    | (go_at_call 11; with_reducible refine (hG2 _).mono ?_; rintro e w3 ⟨a3, c3, rfl, hb3⟩
       have hB3 := hB2.trans (hb3.mono hB2.size)
       have hr3 := hr2.below hb3
       have hm3 := hm2.below hb3)
    | (go_at_call 11; with_reducible refine (hG3 _).mono ?_; rintro e w4 ⟨a4, c4, rfl, hb4⟩
       have hB4 := hB3.trans (hb4.mono hB3.size)
       have hr4 := hr3.below hb4
       have hm4 := hm3.below hb4)
    | (go_at_call 13; with_reducible refine (hF _ _ hr4).mono ?_; rintro e w5 ⟨rfl, hb5⟩
       have hB5 := hB4.trans (hb5.mono hB4.size)
       have hr5 := hr4.below hb5
       have hm5 := hm4.below hb5))
  have hsz5 := hB5.size
  have hB6 := hB5.alloc hB5.size (.cells #[.int .u8 7, .string ⟨#[]⟩] 32)
  have hb6 := (Below.refl w5.heap.size w5).alloc (Nat.le_refl _) (.cells #[.int .u8 7, .string ⟨#[]⟩] 32)
  have hr6 := hr5.below hb6
  have hm6 := hm5.below hb6
  have x0 : (w5.alloc (.cells #[.int .u8 7, .string ⟨#[]⟩] 32)).cell? ⟨w5.heap.size, 0, none⟩ = some (.int .u8 7) := by simp
  have x1 : (w5.alloc (.cells #[.int .u8 7, .string ⟨#[]⟩] 32)).cell? ⟨w5.heap.size, 1, none⟩ = some (.string ⟨#[]⟩) := by simp
  clear hb6 hr5 hm5 hr4 hm4 hr3 hm3 hr2 hm2 hr1 hrow hP hG1 hG2 hG3 hF hb5 hb4 hb3 hb2 hb1
  generalize w5.alloc (.cells #[.int .u8 7, .string ⟨#[]⟩] 32) = w6 at *
  generalize w5.heap.size = G at *
  refine start_ (n := 52) (S := fun W' => W'.cell? ⟨G, 0, none⟩ = some (.int .u8 7) ∧ W'.cell? ⟨G, 1, none⟩ = some (.string ⟨#[]⟩) ∧ Row W' a2 c2 l ∧ Row W' (some ⟨w.heap.size, 0, none⟩) 2 l ∧ Below w.heap.size w W') (ds := []) (#[false, false, false, false, false, false, false, false, false, false, false, false, false, false, false, false, false, false, false, false, false, false, false, false, false, false, false, false, false, false, false, false, false, false, false, false, false, false, false, false, false, false, false, false, false, false, false, false, false, false, false, false]) (by kernel_rfl) rfl rfl (show _ ∧ _ from ⟨by rw [World.cell?_drew]; exact x0, by rw [World.cell?_drew]; exact x1, hm6.below (below_drew (Below.refl _ _)), hr6.below (below_drew (Below.refl _ _)), below_drew hB6⟩) (fun hS => ?_)
  refine take_ (i := 0) (N := some 44) (v := ?_) (a' := ?_) #[true, false, false, false, false, false, false, false, false, false, false, false, false, false, false, false, false, false, false, false, false, false, false, false, false, false, false, false, false, false, false, false, false, false, false, false, false, false, false, false, false, false, false, false, false, false, false, false, false, false, false, false] rfl rfl (by kernel_rfl) (fun _ _ _ h => h) (.inl ⟨by rfl, fun w' hS' => ?_⟩) hS ?_ ?_
  rotate_left
  · obtain ⟨s1, s2, s3, s4, s5⟩ := hS'
    obtain ⟨s6, s7⟩ := hc2 _ _ s4
    go_simp
    with_reducible rfl
  rotate_left
  · simp only [Act.put, List.setIfInBounds_toArray, List.set_cons_zero, List.set_cons_succ]
    rfl
  refine take_ (i := 1) (N := some 45) (v := (.bool true)) (a' := ?_) #[true, true, false, false, false, false, false, false, false, false, false, false, false, false, false, false, false, false, false, false, false, false, false, false, false, false, false, false, false, false, false, false, false, false, false, false, false, false, false, false, false, false, false, false, false, false, false, false, false, false, false, false] rfl rfl (by kernel_rfl) (fun _ _ _ h => h) (.inl ⟨by rfl, fun w' hS' => ?_⟩) hS ?_ ?_
  · obtain ⟨s1, s2, s3, s4, s5⟩ := hS'
    obtain ⟨s6, s7⟩ := hc2 _ _ s4
    go_simp
  rotate_left
  · simp only [Act.put, List.setIfInBounds_toArray, List.set_cons_zero, List.set_cons_succ]
    rfl
  refine take_ (i := 2) (N := some 46) (v := ?_) (a' := ?_) #[true, true, true, false, false, false, false, false, false, false, false, false, false, false, false, false, false, false, false, false, false, false, false, false, false, false, false, false, false, false, false, false, false, false, false, false, false, false, false, false, false, false, false, false, false, false, false, false, false, false, false, false] rfl rfl (by kernel_rfl) (fun _ _ _ h => h) (.inl ⟨by rfl, fun w' hS' => ?_⟩) hS ?_ ?_
  rotate_left
  · obtain ⟨s1, s2, s3, s4, s5⟩ := hS'
    obtain ⟨s6, s7⟩ := hc2 _ _ s4
    go_simp
    with_reducible rfl
  rotate_left
  · simp only [Act.put, List.setIfInBounds_toArray, List.set_cons_zero, List.set_cons_succ]
    rfl
  refine take_ (i := 3) (N := some 47) (v := ?_) (a' := ?_) #[true, true, true, true, false, false, false, false, false, false, false, false, false, false, false, false, false, false, false, false, false, false, false, false, false, false, false, false, false, false, false, false, false, false, false, false, false, false, false, false, false, false, false, false, false, false, false, false, false, false, false, false] rfl rfl (by kernel_rfl) (fun _ _ _ h => h) (.inl ⟨by rfl, fun w' hS' => ?_⟩) hS ?_ ?_
  rotate_left
  · obtain ⟨s1, s2, s3, s4, s5⟩ := hS'
    obtain ⟨s6, s7⟩ := hc2 _ _ s4
    go_simp
    with_reducible rfl
  rotate_left
  · simp only [Act.put, List.setIfInBounds_toArray, List.set_cons_zero, List.set_cons_succ]
    rfl
  refine take_ (i := 4) (N := some 48) (v := (.bool true)) (a' := ?_) #[true, true, true, true, true, false, false, false, false, false, false, false, false, false, false, false, false, false, false, false, false, false, false, false, false, false, false, false, false, false, false, false, false, false, false, false, false, false, false, false, false, false, false, false, false, false, false, false, false, false, false, false] rfl rfl (by kernel_rfl) (fun _ _ _ h => h) (.inl ⟨by rfl, fun w' hS' => ?_⟩) hS ?_ ?_
  · obtain ⟨s1, s2, s3, s4, s5⟩ := hS'
    obtain ⟨s6, s7⟩ := hc2 _ _ s4
    go_simp
  rotate_left
  · simp only [Act.put, List.setIfInBounds_toArray, List.set_cons_zero, List.set_cons_succ]
    rfl
  refine take_ (i := 5) (N := some 49) (v := ?_) (a' := ?_) #[true, true, true, true, true, true, false, false, false, false, false, false, false, false, false, false, false, false, false, false, false, false, false, false, false, false, false, false, false, false, false, false, false, false, false, false, false, false, false, false, false, false, false, false, false, false, false, false, false, false, false, false] rfl rfl (by kernel_rfl) (fun _ _ _ h => h) (.inl ⟨by rfl, fun w' hS' => ?_⟩) hS ?_ ?_
  rotate_left
  · obtain ⟨s1, s2, s3, s4, s5⟩ := hS'
    obtain ⟨s6, s7⟩ := hc2 _ _ s4
    go_simp
    with_reducible rfl
  rotate_left
  · simp only [Act.put, List.setIfInBounds_toArray, List.set_cons_zero, List.set_cons_succ]
    rfl
  refine take_ (i := 6) (N := some 50) (v := ?_) (a' := ?_) #[true, true, true, true, true, true, true, false, false, false, false, false, false, false, false, false, false, false, false, false, false, false, false, false, false, false, false, false, false, false, false, false, false, false, false, false, false, false, false, false, false, false, false, false, false, false, false, false, false, false, false, false] rfl rfl (by kernel_rfl) (fun _ _ _ h => h) (.inl ⟨by rfl, fun w' hS' => ?_⟩) hS ?_ ?_
  rotate_left
  · obtain ⟨s1, s2, s3, s4, s5⟩ := hS'
    obtain ⟨s6, s7⟩ := hc2 _ _ s4
    go_simp
    with_reducible rfl
  rotate_left
  · simp only [Act.put, List.setIfInBounds_toArray, List.set_cons_zero, List.set_cons_succ]
    rfl
  refine take_ (i := 7) (N := some 51) (v := ?_) (a' := ?_) #[true, true, true, true, true, true, true, true, false, false, false, false, false, false, false, false, false, false, false, false, false, false, false, false, false, false, false, false, false, false, false, false, false, false, false, false, false, false, false, false, false, false, false, false, false, false, false, false, false, false, false, false] rfl rfl (by kernel_rfl) (fun _ _ _ h => h) (.inl ⟨by rfl, fun w' hS' => ?_⟩) hS ?_ ?_
  rotate_left
  · obtain ⟨s1, s2, s3, s4, s5⟩ := hS'
    obtain ⟨s6, s7⟩ := hc2 _ _ s4
    go_simp
    with_reducible rfl
  rotate_left
  · simp only [Act.put, List.setIfInBounds_toArray, List.set_cons_zero, List.set_cons_succ]
    rfl
  refine take_ (i := 8) (N := some 52) (v := ?_) (a' := ?_) #[true, true, true, true, true, true, true, true, true, false, false, false, false, false, false, false, false, false, false, false, false, false, false, false, false, false, false, false, false, false, false, false, false, false, false, false, false, false, false, false, false, false, false, false, false, false, false, false, false, false, false, false] rfl rfl (by kernel_rfl) (fun _ _ _ h => h) (.inl ⟨by rfl, fun w' hS' => ?_⟩) hS ?_ ?_
  rotate_left
  · obtain ⟨s1, s2, s3, s4, s5⟩ := hS'
    obtain ⟨s6, s7⟩ := hc2 _ _ s4
    go_simp
    with_reducible rfl
  rotate_left
  · simp only [Act.put, List.setIfInBounds_toArray, List.set_cons_zero, List.set_cons_succ]
    rfl
  refine wpAnyLast_all (rs := [9]) (by kernel_rfl) (by simp) ?_
  intro i hi'
  obtain rfl := List.mem_singleton.1 hi'
  refine wpOp_step rfl (fun K' hK => ?_)
  go_simp
  go_at_call 18
  with_reducible refine (hE _ _ _ _ hS.2.2.1 hS.2.2.2.1).mono ?_
  rintro e w7 ⟨rfl, hb7⟩
  have hT : w7.cell? ⟨G, 0, none⟩ = some (.int .u8 7) ∧ w7.cell? ⟨G, 1, none⟩ = some (.string ⟨#[]⟩) ∧ Row w7 a2 c2 l ∧ Row w7 (some ⟨w.heap.size, 0, none⟩) 2 l ∧ Below w.heap.size w w7 := ⟨(hb7.cell (p := ⟨G, 0, none⟩) (cell_lt hS.1)).trans hS.1, (hb7.cell (p := ⟨G, 1, none⟩) (cell_lt hS.2.1)).trans hS.2.1, hS.2.2.1.below hb7, hS.2.2.2.1.below hb7, hS.2.2.2.2.trans (hb7.mono hS.2.2.2.2.size)⟩
  refine hK _ _ ⟨fun _ _ => hT, ?_⟩
  clear hK K' hS
  simp only [Act.put, List.setIfInBounds_toArray, List.set_cons_zero, List.set_cons_succ]
  have hS := hT
  clear hT
  refine take_ (i := 10) (N := some 54) (v := ?_) (a' := ?_) #[true, true, true, true, true, true, true, true, true, true, true, false, false, false, false, false, false, false, false, false, false, false, false, false, false, false, false, false, false, false, false, false, false, false, false, false, false, false, false, false, false, false, false, false, false, false, false, false, false, false, false, false] rfl rfl (by kernel_rfl) (fun _ _ _ h => h) (.inl ⟨by rfl, fun w' hS' => ?_⟩) hS ?_ ?_
  rotate_left
  · obtain ⟨s1, s2, s3, s4, s5⟩ := hS'
    obtain ⟨s6, s7⟩ := hc2 _ _ s4
    go_simp
    with_reducible rfl
  rotate_left
  · simp only [Act.put, List.setIfInBounds_toArray, List.set_cons_zero, List.set_cons_succ]
    rfl
  refine take_ (i := 11) (N := some 55) (v := ?_) (a' := ?_) #[true, true, true, true, true, true, true, true, true, true, true, true, false, false, false, false, false, false, false, false, false, false, false, false, false, false, false, false, false, false, false, false, false, false, false, false, false, false, false, false, false, false, false, false, false, false, false, false, false, false, false, false] rfl rfl (by kernel_rfl) (fun _ _ _ h => h) (.inl ⟨by rfl, fun w' hS' => ?_⟩) hS ?_ ?_
  rotate_left
  · obtain ⟨s1, s2, s3, s4, s5⟩ := hS'
    obtain ⟨s6, s7⟩ := hc2 _ _ s4
    go_simp
    with_reducible rfl
  rotate_left
  · simp only [Act.put, List.setIfInBounds_toArray, List.set_cons_zero, List.set_cons_succ]
    rfl
  refine take_ (i := 12) (N := some 56) (v := ?_) (a' := ?_) #[true, true, true, true, true, true, true, true, true, true, true, true, true, false, false, false, false, false, false, false, false, false, false, false, false, false, false, false, false, false, false, false, false, false, false, false, false, false, false, false, false, false, false, false, false, false, false, false, false, false, false, false] rfl rfl (by kernel_rfl) (fun _ _ _ h => h) (.inl ⟨by rfl, fun w' hS' => ?_⟩) hS ?_ ?_
  rotate_left
  · obtain ⟨s1, s2, s3, s4, s5⟩ := hS'
    obtain ⟨s6, s7⟩ := hc2 _ _ s4
    go_simp
    with_reducible rfl
  rotate_left
  · simp only [Act.put, List.setIfInBounds_toArray, List.set_cons_zero, List.set_cons_succ]
    rfl
  refine take_ (i := 13) (N := some 57) (v := (.bool true)) (a' := ?_) #[true, true, true, true, true, true, true, true, true, true, true, true, true, true, false, false, false, false, false, false, false, false, false, false, false, false, false, false, false, false, false, false, false, false, false, false, false, false, false, false, false, false, false, false, false, false, false, false, false, false, false, false] rfl rfl (by kernel_rfl) (fun _ _ _ h => h) (.inl ⟨by rfl, fun w' hS' => ?_⟩) hS ?_ ?_
  · obtain ⟨s1, s2, s3, s4, s5⟩ := hS'
    obtain ⟨s6, s7⟩ := hc2 _ _ s4
    go_simp
  rotate_left
  · simp only [Act.put, List.setIfInBounds_toArray, List.set_cons_zero, List.set_cons_succ]
    rfl
  refine take_ (i := 14) (N := some 58) (v := ?_) (a' := ?_) #[true, true, true, true, true, true, true, true, true, true, true, true, true, true, true, false, false, false, false, false, false, false, false, false, false, false, false, false, false, false, false, false, false, false, false, false, false, false, false, false, false, false, false, false, false, false, false, false, false, false, false, false] rfl rfl (by kernel_rfl) (fun _ _ _ h => h) (.inl ⟨by rfl, fun w' hS' => ?_⟩) hS ?_ ?_
  rotate_left
  · obtain ⟨s1, s2, s3, s4, s5⟩ := hS'
    obtain ⟨s6, s7⟩ := hc2 _ _ s4
    go_simp
    with_reducible rfl
  rotate_left
  · simp only [Act.put, List.setIfInBounds_toArray, List.set_cons_zero, List.set_cons_succ]
    rfl
  refine take_ (i := 15) (N := some 59) (v := ?_) (a' := ?_) #[true, true, true, true, true, true, true, true, true, true, true, true, true, true, true, true, false, false, false, false, false, false, false, false, false, false, false, false, false, false, false, false, false, false, false, false, false, false, false, false, false, false, false, false, false, false, false, false, false, false, false, false] rfl rfl (by kernel_rfl) (fun _ _ _ h => h) (.inl ⟨by rfl, fun w' hS' => ?_⟩) hS ?_ ?_
  rotate_left
  · obtain ⟨s1, s2, s3, s4, s5⟩ := hS'
    obtain ⟨s6, s7⟩ := hc2 _ _ s4
    go_simp
    with_reducible rfl
  rotate_left
  · simp only [Act.put, List.setIfInBounds_toArray, List.set_cons_zero, List.set_cons_succ]
    rfl
  refine take_ (i := 16) (N := some 60) (v := ?_) (a' := ?_) #[true, true, true, true, true, true, true, true, true, true, true, true, true, true, true, true, true, false, false, false, false, false, false, false, false, false, false, false, false, false, false, false, false, false, false, false, false, false, false, false, false, false, false, false, false, false, false, false, false, false, false, false] rfl rfl (by kernel_rfl) (fun _ _ _ h => h) (.inl ⟨by rfl, fun w' hS' => ?_⟩) hS ?_ ?_
  rotate_left
  · obtain ⟨s1, s2, s3, s4, s5⟩ := hS'
    obtain ⟨s6, s7⟩ := hc2 _ _ s4
    go_simp
    with_reducible rfl
  rotate_left
  · simp only [Act.put, List.setIfInBounds_toArray, List.set_cons_zero, List.set_cons_succ]
    rfl
  refine take_ (i := 17) (N := some 61) (v := (.bool true)) (a' := ?_) #[true, true, true, true, true, true, true, true, true, true, true, true, true, true, true, true, true, true, false, false, false, false, false, false, false, false, false, false, false, false, false, false, false, false, false, false, false, false, false, false, false, false, false, false, false, false, false, false, false, false, false, false] rfl rfl (by kernel_rfl) (fun _ _ _ h => h) (.inl ⟨by rfl, fun w' hS' => ?_⟩) hS ?_ ?_
  · obtain ⟨s1, s2, s3, s4, s5⟩ := hS'
    obtain ⟨s6, s7⟩ := hc2 _ _ s4
    go_simp
  rotate_left
  · simp only [Act.put, List.setIfInBounds_toArray, List.set_cons_zero, List.set_cons_succ]
    rfl
  refine take_ (i := 18) (N := some 62) (v := ?_) (a' := ?_) #[true, true, true, true, true, true, true, true, true, true, true, true, true, true, true, true, true, true, true, false, false, false, false, false, false, false, false, false, false, false, false, false, false, false, false, false, false, false, false, false, false, false, false, false, false, false, false, false, false, false, false, false] rfl rfl (by kernel_rfl) (fun _ _ _ h => h) (.inl ⟨by rfl, fun w' hS' => ?_⟩) hS ?_ ?_
  rotate_left
  · obtain ⟨s1, s2, s3, s4, s5⟩ := hS'
    obtain ⟨s6, s7⟩ := hc2 _ _ s4
    go_simp
    with_reducible rfl
  rotate_left
  · simp only [Act.put, List.setIfInBounds_toArray, List.set_cons_zero, List.set_cons_succ]
    rfl
  refine take_ (i := 19) (N := some 63) (v := ?_) (a' := ?_) #[true, true, true, true, true, true, true, true, true, true, true, true, true, true, true, true, true, true, true, true, false, false, false, false, false, false, false, false, false, false, false, false, false, false, false, false, false, false, false, false, false, false, false, false, false, false, false, false, false, false, false, false] rfl rfl (by kernel_rfl) (fun _ _ _ h => h) (.inl ⟨by rfl, fun w' hS' => ?_⟩) hS ?_ ?_
  rotate_left
  · obtain ⟨s1, s2, s3, s4, s5⟩ := hS'
    obtain ⟨s6, s7⟩ := hc2 _ _ s4
    go_simp
    with_reducible rfl
  rotate_left
  · simp only [Act.put, List.setIfInBounds_toArray, List.set_cons_zero, List.set_cons_succ]
    rfl
  refine take_ (i := 20) (N := some 64) (v := ?_) (a' := ?_) #[true, true, true, true, true, true, true, true, true, true, true, true, true, true, true, true, true, true, true, true, true, false, false, false, false, false, false, false, false, false, false, false, false, false, false, false, false, false, false, false, false, false, false, false, false, false, false, false, false, false, false, false] rfl rfl (by kernel_rfl) (fun _ _ _ h => h) (.inl ⟨by rfl, fun w' hS' => ?_⟩) hS ?_ ?_
  rotate_left
  · obtain ⟨s1, s2, s3, s4, s5⟩ := hS'
    obtain ⟨s6, s7⟩ := hc2 _ _ s4
    go_simp
    with_reducible rfl
  rotate_left
  · simp only [Act.put, List.setIfInBounds_toArray, List.set_cons_zero, List.set_cons_succ]
    rfl
  refine take_ (i := 21) (N := some 65) (v := (.bool true)) (a' := ?_) #[true, true, true, true, true, true, true, true, true, true, true, true, true, true, true, true, true, true, true, true, true, true, false, false, false, false, false, false, false, false, false, false, false, false, false, false, false, false, false, false, false, false, false, false, false, false, false, false, false, false, false, false] rfl rfl (by kernel_rfl) (fun _ _ _ h => h) (.inl ⟨by rfl, fun w' hS' => ?_⟩) hS ?_ ?_
  · obtain ⟨s1, s2, s3, s4, s5⟩ := hS'
    obtain ⟨s6, s7⟩ := hc2 _ _ s4
    go_simp
  rotate_left
  · simp only [Act.put, List.setIfInBounds_toArray, List.set_cons_zero, List.set_cons_succ]
    rfl
  refine take_ (i := 22) (N := some 66) (v := ?_) (a' := ?_) #[true, true, true, true, true, true, true, true, true, true, true, true, true, true, true, true, true, true, true, true, true, true, true, false, false, false, false, false, false, false, false, false, false, false, false, false, false, false, false, false, false, false, false, false, false, false, false, false, false, false, false, false] rfl rfl (by kernel_rfl) (fun _ _ _ h => h) (.inl ⟨by rfl, fun w' hS' => ?_⟩) hS ?_ ?_
  rotate_left
  · obtain ⟨s1, s2, s3, s4, s5⟩ := hS'
    obtain ⟨s6, s7⟩ := hc2 _ _ s4
    go_simp
    with_reducible rfl
  rotate_left
  · simp only [Act.put, List.setIfInBounds_toArray, List.set_cons_zero, List.set_cons_succ]
    rfl
  refine take_ (i := 23) (N := some 67) (v := ?_) (a' := ?_) #[true, true, true, true, true, true, true, true, true, true, true, true, true, true, true, true, true, true, true, true, true, true, true, true, false, false, false, false, false, false, false, false, false, false, false, false, false, false, false, false, false, false, false, false, false, false, false, false, false, false, false, false] rfl rfl (by kernel_rfl) (fun _ _ _ h => h) (.inl ⟨by rfl, fun w' hS' => ?_⟩) hS ?_ ?_
  rotate_left
  · obtain ⟨s1, s2, s3, s4, s5⟩ := hS'
    obtain ⟨s6, s7⟩ := hc2 _ _ s4
    go_simp
    with_reducible rfl
  rotate_left
  · simp only [Act.put, List.setIfInBounds_toArray, List.set_cons_zero, List.set_cons_succ]
    rfl
  refine take_ (i := 24) (N := some 68) (v := ?_) (a' := ?_) #[true, true, true, true, true, true, true, true, true, true, true, true, true, true, true, true, true, true, true, true, true, true, true, true, true, false, false, false, false, false, false, false, false, false, false, false, false, false, false, false, false, false, false, false, false, false, false, false, false, false, false, false] rfl rfl (by kernel_rfl) (fun _ _ _ h => h) (.inl ⟨by rfl, fun w' hS' => ?_⟩) hS ?_ ?_
  rotate_left
  · obtain ⟨s1, s2, s3, s4, s5⟩ := hS'
    obtain ⟨s6, s7⟩ := hc2 _ _ s4
    go_simp
    with_reducible rfl
  rotate_left
  · simp only [Act.put, List.setIfInBounds_toArray, List.set_cons_zero, List.set_cons_succ]
    rfl
  refine take_ (i := 25) (N := some 69) (v := (.bool true)) (a' := ?_) #[true, true, true, true, true, true, true, true, true, true, true, true, true, true, true, true, true, true, true, true, true, true, true, true, true, true, false, false, false, false, false, false, false, false, false, false, false, false, false, false, false, false, false, false, false, false, false, false, false, false, false, false] rfl rfl (by kernel_rfl) (fun _ _ _ h => h) (.inl ⟨by rfl, fun w' hS' => ?_⟩) hS ?_ ?_
  · obtain ⟨s1, s2, s3, s4, s5⟩ := hS'
    obtain ⟨s6, s7⟩ := hc2 _ _ s4
    go_simp
  rotate_left
  · simp only [Act.put, List.setIfInBounds_toArray, List.set_cons_zero, List.set_cons_succ]
    rfl
  refine take_ (i := 26) (N := some 70) (v := ?_) (a' := ?_) #[true, true, true, true, true, true, true, true, true, true, true, true, true, true, true, true, true, true, true, true, true, true, true, true, true, true, true, false, false, false, false, false, false, false, false, false, false, false, false, false, false, false, false, false, false, false, false, false, false, false, false, false] rfl rfl (by kernel_rfl) (fun _ _ _ h => h) (.inl ⟨by rfl, fun w' hS' => ?_⟩) hS ?_ ?_
  rotate_left
  · obtain ⟨s1, s2, s3, s4, s5⟩ := hS'
    obtain ⟨s6, s7⟩ := hc2 _ _ s4
    go_simp
    with_reducible rfl
  rotate_left
  · simp only [Act.put, List.setIfInBounds_toArray, List.set_cons_zero, List.set_cons_succ]
    rfl
  refine take_ (i := 27) (N := some 71) (v := ?_) (a' := ?_) #[true, true, true, true, true, true, true, true, true, true, true, true, true, true, true, true, true, true, true, true, true, true, true, true, true, true, true, true, false, false, false, false, false, false, false, false, false, false, false, false, false, false, false, false, false, false, false, false, false, false, false, false] rfl rfl (by kernel_rfl) (fun _ _ _ h => h) (.inl ⟨by rfl, fun w' hS' => ?_⟩) hS ?_ ?_
  rotate_left
  · obtain ⟨s1, s2, s3, s4, s5⟩ := hS'
    obtain ⟨s6, s7⟩ := hc2 _ _ s4
    go_simp
    with_reducible rfl
  rotate_left
  · simp only [Act.put, List.setIfInBounds_toArray, List.set_cons_zero, List.set_cons_succ]
    rfl
  refine take_ (i := 28) (N := some 72) (v := ?_) (a' := ?_) #[true, true, true, true, true, true, true, true, true, true, true, true, true, true, true, true, true, true, true, true, true, true, true, true, true, true, true, true, true, false, false, false, false, false, false, false, false, false, false, false, false, false, false, false, false, false, false, false, false, false, false, false] rfl rfl (by kernel_rfl) (fun _ _ _ h => h) (.inl ⟨by rfl, fun w' hS' => ?_⟩) hS ?_ ?_
  rotate_left
  · obtain ⟨s1, s2, s3, s4, s5⟩ := hS'
    obtain ⟨s6, s7⟩ := hc2 _ _ s4
    go_simp
    with_reducible rfl
  rotate_left
  · simp only [Act.put, List.setIfInBounds_toArray, List.set_cons_zero, List.set_cons_succ]
    rfl
  refine take_ (i := 29) (N := some 73) (v := (.bool true)) (a' := ?_) #[true, true, true, true, true, true, true, true, true, true, true, true, true, true, true, true, true, true, true, true, true, true, true, true, true, true, true, true, true, true, false, false, false, false, false, false, false, false, false, false, false, false, false, false, false, false, false, false, false, false, false, false] rfl rfl (by kernel_rfl) (fun _ _ _ h => h) (.inl ⟨by rfl, fun w' hS' => ?_⟩) hS ?_ ?_
  · obtain ⟨s1, s2, s3, s4, s5⟩ := hS'
    obtain ⟨s6, s7⟩ := hc2 _ _ s4
    go_simp
  rotate_left
  · simp only [Act.put, List.setIfInBounds_toArray, List.set_cons_zero, List.set_cons_succ]
    rfl
  refine take_ (i := 30) (N := some 74) (v := ?_) (a' := ?_) #[true, true, true, true, true, true, true, true, true, true, true, true, true, true, true, true, true, true, true, true, true, true, true, true, true, true, true, true, true, true, true, false, false, false, false, false, false, false, false, false, false, false, false, false, false, false, false, false, false, false, false, false] rfl rfl (by kernel_rfl) (fun _ _ _ h => h) (.inl ⟨by rfl, fun w' hS' => ?_⟩) hS ?_ ?_
  rotate_left
  · obtain ⟨s1, s2, s3, s4, s5⟩ := hS'
    obtain ⟨s6, s7⟩ := hc2 _ _ s4
    go_simp
    with_reducible rfl
  rotate_left
  · simp only [Act.put, List.setIfInBounds_toArray, List.set_cons_zero, List.set_cons_succ]
    rfl
  refine take_ (i := 31) (N := some 75) (v := ?_) (a' := ?_) #[true, true, true, true, true, true, true, true, true, true, true, true, true, true, true, true, true, true, true, true, true, true, true, true, true, true, true, true, true, true, true, true, false, false, false, false, false, false, false, false, false, false, false, false, false, false, false, false, false, false, false, false] rfl rfl (by kernel_rfl) (fun _ _ _ h => h) (.inl ⟨by rfl, fun w' hS' => ?_⟩) hS ?_ ?_
  rotate_left
  · obtain ⟨s1, s2, s3, s4, s5⟩ := hS'
    obtain ⟨s6, s7⟩ := hc2 _ _ s4
    go_simp
    with_reducible rfl
  rotate_left
  · simp only [Act.put, List.setIfInBounds_toArray, List.set_cons_zero, List.set_cons_succ]
    rfl
  refine take_ (i := 32) (N := some 76) (v := ?_) (a' := ?_) #[true, true, true, true, true, true, true, true, true, true, true, true, true, true, true, true, true, true, true, true, true, true, true, true, true, true, true, true, true, true, true, true, true, false, false, false, false, false, false, false, false, false, false, false, false, false, false, false, false, false, false, false] rfl rfl (by kernel_rfl) (fun _ _ _ h => h) (.inl ⟨by rfl, fun w' hS' => ?_⟩) hS ?_ ?_
  rotate_left
  · obtain ⟨s1, s2, s3, s4, s5⟩ := hS'
    obtain ⟨s6, s7⟩ := hc2 _ _ s4
    go_simp
    with_reducible rfl
  rotate_left
  · simp only [Act.put, List.setIfInBounds_toArray, List.set_cons_zero, List.set_cons_succ]
    rfl
  refine take_ (i := 33) (N := some 77) (v := (.bool true)) (a' := ?_) #[true, true, true, true, true, true, true, true, true, true, true, true, true, true, true, true, true, true, true, true, true, true, true, true, true, true, true, true, true, true, true, true, true, true, false, false, false, false, false, false, false, false, false, false, false, false, false, false, false, false, false, false] rfl rfl (by kernel_rfl) (fun _ _ _ h => h) (.inl ⟨by rfl, fun w' hS' => ?_⟩) hS ?_ ?_
  · obtain ⟨s1, s2, s3, s4, s5⟩ := hS'
    obtain ⟨s6, s7⟩ := hc2 _ _ s4
    go_simp
  rotate_left
  · simp only [Act.put, List.setIfInBounds_toArray, List.set_cons_zero, List.set_cons_succ]
    rfl
  refine take_ (i := 34) (N := some 78) (v := ?_) (a' := ?_) #[true, true, true, true, true, true, true, true, true, true, true, true, true, true, true, true, true, true, true, true, true, true, true, true, true, true, true, true, true, true, true, true, true, true, true, false, false, false, false, false, false, false, false, false, false, false, false, false, false, false, false, false] rfl rfl (by kernel_rfl) (fun _ _ _ h => h) (.inl ⟨by rfl, fun w' hS' => ?_⟩) hS ?_ ?_
  rotate_left
  · obtain ⟨s1, s2, s3, s4, s5⟩ := hS'
    obtain ⟨s6, s7⟩ := hc2 _ _ s4
    go_simp
    with_reducible rfl
  rotate_left
  · simp only [Act.put, List.setIfInBounds_toArray, List.set_cons_zero, List.set_cons_succ]
    rfl
  refine take_ (i := 35) (N := some 79) (v := ?_) (a' := ?_) #[true, true, true, true, true, true, true, true, true, true, true, true, true, true, true, true, true, true, true, true, true, true, true, true, true, true, true, true, true, true, true, true, true, true, true, true, false, false, false, false, false, false, false, false, false, false, false, false, false, false, false, false] rfl rfl (by kernel_rfl) (fun _ _ _ h => h) (.inl ⟨by rfl, fun w' hS' => ?_⟩) hS ?_ ?_
  rotate_left
  · obtain ⟨s1, s2, s3, s4, s5⟩ := hS'
    obtain ⟨s6, s7⟩ := hc2 _ _ s4
    go_simp
    with_reducible rfl
  rotate_left
  · simp only [Act.put, List.setIfInBounds_toArray, List.set_cons_zero, List.set_cons_succ]
    rfl
  refine take_ (i := 36) (N := some 80) (v := ?_) (a' := ?_) #[true, true, true, true, true, true, true, true, true, true, true, true, true, true, true, true, true, true, true, true, true, true, true, true, true, true, true, true, true, true, true, true, true, true, true, true, true, false, false, false, false, false, false, false, false, false, false, false, false, false, false, false] rfl rfl (by kernel_rfl) (fun _ _ _ h => h) (.inl ⟨by rfl, fun w' hS' => ?_⟩) hS ?_ ?_
  rotate_left
  · obtain ⟨s1, s2, s3, s4, s5⟩ := hS'
    obtain ⟨s6, s7⟩ := hc2 _ _ s4
    go_simp
    with_reducible rfl
  rotate_left
  · simp only [Act.put, List.setIfInBounds_toArray, List.set_cons_zero, List.set_cons_succ]
    rfl
  refine take_ (i := 37) (N := some 81) (v := ?_) (a' := ?_) #[true, true, true, true, true, true, true, true, true, true, true, true, true, true, true, true, true, true, true, true, true, true, true, true, true, true, true, true, true, true, true, true, true, true, true, true, true, true, false, false, false, false, false, false, false, false, false, false, false, false, false, false] rfl rfl (by kernel_rfl) (fun _ _ _ h => h) (.inl ⟨by rfl, fun w' hS' => ?_⟩) hS ?_ ?_
  rotate_left
  · obtain ⟨s1, s2, s3, s4, s5⟩ := hS'
    obtain ⟨s6, s7⟩ := hc2 _ _ s4
    go_simp
    with_reducible rfl
  rotate_left
  · simp only [Act.put, List.setIfInBounds_toArray, List.set_cons_zero, List.set_cons_succ]
    rfl
  refine take_ (i := 38) (N := some 82) (v := ?_) (a' := ?_) #[true, true, true, true, true, true, true, true, true, true, true, true, true, true, true, true, true, true, true, true, true, true, true, true, true, true, true, true, true, true, true, true, true, true, true, true, true, true, true, false, false, false, false, false, false, false, false, false, false, false, false, false] rfl rfl (by kernel_rfl) (fun _ _ _ h => h) (.inl ⟨by rfl, fun w' hS' => ?_⟩) hS ?_ ?_
  rotate_left
  · obtain ⟨s1, s2, s3, s4, s5⟩ := hS'
    obtain ⟨s6, s7⟩ := hc2 _ _ s4
    go_simp
    with_reducible rfl
  rotate_left
  · simp only [Act.put, List.setIfInBounds_toArray, List.set_cons_zero, List.set_cons_succ]
    rfl
  refine take_ (i := 39) (N := some 83) (v := ?_) (a' := ?_) #[true, true, true, true, true, true, true, true, true, true, true, true, true, true, true, true, true, true, true, true, true, true, true, true, true, true, true, true, true, true, true, true, true, true, true, true, true, true, true, true, false, false, false, false, false, false, false, false, false, false, false, false] rfl rfl (by kernel_rfl) (fun _ _ _ h => h) (.inl ⟨by rfl, fun w' hS' => ?_⟩) hS ?_ ?_
  rotate_left
  · obtain ⟨s1, s2, s3, s4, s5⟩ := hS'
    obtain ⟨s6, s7⟩ := hc2 _ _ s4
    go_simp
    with_reducible rfl
  rotate_left
  · simp only [Act.put, List.setIfInBounds_toArray, List.set_cons_zero, List.set_cons_succ]
    rfl
  refine take_ (i := 40) (N := some 84) (v := (.bool true)) (a' := ?_) #[true, true, true, true, true, true, true, true, true, true, true, true, true, true, true, true, true, true, true, true, true, true, true, true, true, true, true, true, true, true, true, true, true, true, true, true, true, true, true, true, true, false, false, false, false, false, false, false, false, false, false, false] rfl rfl (by kernel_rfl) (fun _ _ _ h => h) (.inl ⟨by rfl, fun w' hS' => ?_⟩) hS ?_ ?_
  · obtain ⟨s1, s2, s3, s4, s5⟩ := hS'
    obtain ⟨s6, s7⟩ := hc2 _ _ s4
    go_simp
  rotate_left
  · simp only [Act.put, List.setIfInBounds_toArray, List.set_cons_zero, List.set_cons_succ]
    rfl
  refine take_ (i := 41) (N := some 85) (v := ?_) (a' := ?_) #[true, true, true, true, true, true, true, true, true, true, true, true, true, true, true, true, true, true, true, true, true, true, true, true, true, true, true, true, true, true, true, true, true, true, true, true, true, true, true, true, true, true, false, false, false, false, false, false, false, false, false, false] rfl rfl (by kernel_rfl) (fun _ _ _ h => h) (.inl ⟨by rfl, fun w' hS' => ?_⟩) hS ?_ ?_
  rotate_left
  · obtain ⟨s1, s2, s3, s4, s5⟩ := hS'
    obtain ⟨s6, s7⟩ := hc2 _ _ s4
    go_simp
    with_reducible rfl
  rotate_left
  · simp only [Act.put, List.setIfInBounds_toArray, List.set_cons_zero, List.set_cons_succ]
    rfl
  refine take_ (i := 42) (N := some 86) (v := ?_) (a' := ?_) #[true, true, true, true, true, true, true, true, true, true, true, true, true, true, true, true, true, true, true, true, true, true, true, true, true, true, true, true, true, true, true, true, true, true, true, true, true, true, true, true, true, true, true, false, false, false, false, false, false, false, false, false] rfl rfl (by kernel_rfl) (fun _ _ _ h => h) (.inl ⟨by rfl, fun w' hS' => ?_⟩) hS ?_ ?_
  rotate_left
  · obtain ⟨s1, s2, s3, s4, s5⟩ := hS'
    obtain ⟨s6, s7⟩ := hc2 _ _ s4
    go_simp
    with_reducible rfl
  rotate_left
  · simp only [Act.put, List.setIfInBounds_toArray, List.set_cons_zero, List.set_cons_succ]
    rfl
  refine take_ (i := 43) (N := some 87) (v := ?_) (a' := ?_) #[true, true, true, true, true, true, true, true, true, true, true, true, true, true, true, true, true, true, true, true, true, true, true, true, true, true, true, true, true, true, true, true, true, true, true, true, true, true, true, true, true, true, true, true, false, false, false, false, false, false, false, false] rfl rfl (by kernel_rfl) (fun _ _ _ h => h) (.inl ⟨by rfl, fun w' hS' => ?_⟩) hS ?_ ?_
  rotate_left
  · obtain ⟨s1, s2, s3, s4, s5⟩ := hS'
    obtain ⟨s6, s7⟩ := hc2 _ _ s4
    go_simp
    with_reducible rfl
  rotate_left
  · simp only [Act.put, List.setIfInBounds_toArray, List.set_cons_zero, List.set_cons_succ]
    rfl
  refine take_ (i := 44) (N := some 88) (v := ?_) (a' := ?_) #[true, true, true, true, true, true, true, true, true, true, true, true, true, true, true, true, true, true, true, true, true, true, true, true, true, true, true, true, true, true, true, true, true, true, true, true, true, true, true, true, true, true, true, true, true, false, false, false, false, false, false, false] rfl rfl (by kernel_rfl) (fun _ _ _ h => h) (.inl ⟨by rfl, fun w' hS' => ?_⟩) hS ?_ ?_
  rotate_left
  · obtain ⟨s1, s2, s3, s4, s5⟩ := hS'
    obtain ⟨s6, s7⟩ := hc2 _ _ s4
    go_simp
    with_reducible rfl
  rotate_left
  · simp only [Act.put, List.setIfInBounds_toArray, List.set_cons_zero, List.set_cons_succ]
    rfl
  refine take_ (i := 45) (N := some 89) (v := ?_) (a' := ?_) #[true, true, true, true, true, true, true, true, true, true, true, true, true, true, true, true, true, true, true, true, true, true, true, true, true, true, true, true, true, true, true, true, true, true, true, true, true, true, true, true, true, true, true, true, true, true, false, false, false, false, false, false] rfl rfl (by kernel_rfl) (fun _ _ _ h => h) (.inl ⟨by rfl, fun w' hS' => ?_⟩) hS ?_ ?_
  rotate_left
  · obtain ⟨s1, s2, s3, s4, s5⟩ := hS'
    obtain ⟨s6, s7⟩ := hc2 _ _ s4
    go_simp
    with_reducible rfl
  rotate_left
  · simp only [Act.put, List.setIfInBounds_toArray, List.set_cons_zero, List.set_cons_succ]
    rfl
  refine take_ (i := 46) (N := some 90) (v := ?_) (a' := ?_) #[true, true, true, true, true, true, true, true, true, true, true, true, true, true, true, true, true, true, true, true, true, true, true, true, true, true, true, true, true, true, true, true, true, true, true, true, true, true, true, true, true, true, true, true, true, true, true, false, false, false, false, false] rfl rfl (by kernel_rfl) (fun _ _ _ h => h) (.inl ⟨by rfl, fun w' hS' => ?_⟩) hS ?_ ?_
  rotate_left
  · obtain ⟨s1, s2, s3, s4, s5⟩ := hS'
    obtain ⟨s6, s7⟩ := hc2 _ _ s4
    go_simp
    with_reducible rfl
  rotate_left
  · simp only [Act.put, List.setIfInBounds_toArray, List.set_cons_zero, List.set_cons_succ]
    rfl
  refine wpAnyLast_all (rs := [47]) (by kernel_rfl) (by simp) ?_
  intro i hi'
  obtain rfl := List.mem_singleton.1 hi'
  refine wpOp_step rfl (fun K' hK => ?_)
  go_simp
  go_at_call 16
  with_reducible refine (hW _ _ hS.2.2.2.1).mono ?_
  rintro e w8 ⟨a8, c8, rfl, hb8⟩
  have hT : w8.cell? ⟨G, 0, none⟩ = some (.int .u8 7) ∧ w8.cell? ⟨G, 1, none⟩ = some (.string ⟨#[]⟩) ∧ Row w8 a2 c2 l ∧ Row w8 (some ⟨w.heap.size, 0, none⟩) 2 l ∧ Below w.heap.size w w8 := ⟨(hb8.cell (p := ⟨G, 0, none⟩) (cell_lt hS.1)).trans hS.1, (hb8.cell (p := ⟨G, 1, none⟩) (cell_lt hS.2.1)).trans hS.2.1, hS.2.2.1.below hb8, hS.2.2.2.1.below hb8, hS.2.2.2.2.trans (hb8.mono hS.2.2.2.2.size)⟩
  refine hK _ _ ⟨fun _ _ => hT, ?_⟩
  clear hK K' hS
  simp only [Act.put, List.setIfInBounds_toArray, List.set_cons_zero, List.set_cons_succ]
  have hS := hT
  clear hT
  refine take_ (i := 48) (N := some 92) (v := ?_) (a' := ?_) #[true, true, true, true, true, true, true, true, true, true, true, true, true, true, true, true, true, true, true, true, true, true, true, true, true, true, true, true, true, true, true, true, true, true, true, true, true, true, true, true, true, true, true, true, true, true, true, true, true, false, false, false] rfl rfl (by kernel_rfl) (fun _ _ _ h => h) (.inl ⟨by rfl, fun w' hS' => ?_⟩) hS ?_ ?_
  rotate_left
  · obtain ⟨s1, s2, s3, s4, s5⟩ := hS'
    obtain ⟨s6, s7⟩ := hc2 _ _ s4
    go_simp
    with_reducible rfl
  rotate_left
  · simp only [Act.put, List.setIfInBounds_toArray, List.set_cons_zero, List.set_cons_succ]
    rfl
  refine take_ (i := 49) (N := some 93) (v := (.bool true)) (a' := ?_) #[true, true, true, true, true, true, true, true, true, true, true, true, true, true, true, true, true, true, true, true, true, true, true, true, true, true, true, true, true, true, true, true, true, true, true, true, true, true, true, true, true, true, true, true, true, true, true, true, true, true, false, false] rfl rfl (by kernel_rfl) (fun _ _ _ h => h) (.inl ⟨by rfl, fun w' hS' => ?_⟩) hS ?_ ?_
  · obtain ⟨s1, s2, s3, s4, s5⟩ := hS'
    obtain ⟨s6, s7⟩ := hc2 _ _ s4
    go_simp
  rotate_left
  · simp only [Act.put, List.setIfInBounds_toArray, List.set_cons_zero, List.set_cons_succ]
    rfl
  refine take_ (i := 50) (N := some 94) (v := ?_) (a' := ?_) #[true, true, true, true, true, true, true, true, true, true, true, true, true, true, true, true, true, true, true, true, true, true, true, true, true, true, true, true, true, true, true, true, true, true, true, true, true, true, true, true, true, true, true, true, true, true, true, true, true, true, true, false] rfl rfl (by kernel_rfl) (fun _ _ _ h => h) (.inl ⟨by rfl, fun w' hS' => ?_⟩) hS ?_ ?_
  rotate_left
  · obtain ⟨s1, s2, s3, s4, s5⟩ := hS'
    obtain ⟨s6, s7⟩ := hc2 _ _ s4
    go_simp
    with_reducible rfl
  rotate_left
  · simp only [Act.put, List.setIfInBounds_toArray, List.set_cons_zero, List.set_cons_succ]
    rfl
  refine wpAnyLast_all (rs := [51]) (by kernel_rfl) (by simp) ?_
  intro i hi'
  obtain rfl := List.mem_singleton.1 hi'
  refine wpOp_step rfl (fun K' hK => ?_)
  go_simp
  refine hK _ _ ⟨fun _ _ => hS, ?_⟩
  clear hK K'
  refine wpAnyLast_done (by kernel_rfl) ?_ _
  go_wp2
  go_ret
  exact ⟨rfl, hS.2.2.2.2⟩
end Go.Proofs.Ytjkhmnipffdliaa
