/-
  Layer 17 (echo): the chapter's example, walked.
-/
import Derived.Test.YthenjbonncbniaaSame
set_option linter.unusedVariables false
set_option linter.unusedSimpArgs false
namespace Go.Proofs.Ythenjbonncbniaa
open Go.RowKit Go.Proofs.YthenjbonncbniaaW.PrintWords Go.Proofs.YthenjbonncbniaaW.PrintLast

theorem IsPkt.but {W w : World} {B g : Nat} {code id : Int} {d : ByteArray} (h : IsPkt W g code id d) (hb : But B W w) (hg : g ≠ B) : IsPkt w g code id d := (hb.block g (blk_lt h) hg).trans h
theorem IsEch.but {W w : World} {A B : Nat} {s : Ech} (h : IsEch W A s) (hb : But B W w) (hg : A ≠ B) : IsEch w A s := (hb.block A h.lt hg).trans h
theorem pkt_told (s : Ech) (hm : s.magic < 4294967296) (B : Nat) (code id : Int) (d : ByteArray) (hd2 : d.size ≤ 1000000) (r : Int) (hE : s.pktE code id d = some r) (w : World) (h : IsEch w B s) :
    Calls Try.prog 21 #[.pointer (some ⟨B, 0, none⟩), .agg #[.int .u8 code, .int .u8 id, .string d]] w fun e w' => e = .returned (.tuple #[.slice none 0 0, .int .i64 r]) ∧ But B w w' ∧ IsEch w' B (s.pktS code id d) := by
  refine (pkt_calls s hm B code id d hd2 w h).mono ?_
  rintro e w' ⟨v, r', rfl, (⟨h1, rfl, h2, h3⟩ | ⟨h1, _⟩)⟩
  · rw [hE] at h1; cases h1; exact ⟨rfl, h2, h3⟩
  · rw [hE] at h1; cases h1
theorem pkt_sent (s : Ech) (hm : s.magic < 4294967296) (B : Nat) (code id : Int) (d : ByteArray) (hd2 : d.size ≤ 1000000) (hE : s.pktE code id d = none) (w : World) (h : IsEch w B s) :
    Calls Try.prog 21 #[.pointer (some ⟨B, 0, none⟩), .agg #[.int .u8 code, .int .u8 id, .string d]] w fun e w' => ∃ g, w.heap.size ≤ g ∧ e = .returned (.tuple #[.slice (some ⟨g, 0, none⟩) 1 1, .int .i64 0]) ∧ But B w w' ∧ IsEch w' B s ∧ IsPkt w' g 10 id (oct s.magic ++ d.extract 4 d.size) := by
  refine (pkt_calls s hm B code id d hd2 w h).mono ?_
  rintro e w' ⟨v, r', rfl, (⟨h1, _⟩ | ⟨h1, rfl, ⟨g, hg, rfl, hp⟩, h2, h3⟩)⟩
  · rw [hE] at h1; cases h1
  · exact ⟨g, hg, rfl, h2, h3, hp⟩
theorem pkt_new (W : World) (code id : Int) (d : ByteArray) : IsPkt (W.alloc (.cells #[.int .u8 code, .int .u8 id, .string d] 48)) W.heap.size code id d := alloc_new _ _ _ rfl
def X0 : Ech := newE 10 2 7 0
def X1 : Ech := ⟨9, 0, 10, 2, 7, 0, 0, false⟩
def X2 : Ech := ⟨10, 10, 10, 2, 7, 1, 1, false⟩
def X3 : Ech := ⟨20, 20, 10, 2, 7, 2, 2, false⟩
def X4 : Ech := ⟨20, 20, 10, 2, 7, 2, 0, false⟩
theorem okx (a b m n : Int) (h1 : 0 ≤ a ∧ a ≤ 20) (h2 : 0 ≤ b ∧ b ≤ a) (h3 : 0 ≤ m ∧ m ≤ 2) (h4 : 0 ≤ n ∧ n ≤ 2) : Ech.Ok 2 ⟨a, b, 10, 2, 7, m, n, false⟩ :=
  ⟨h3, by simp only; omega, by simp only; omega, by simp only; omega, by simp only; omega, by simp, by simp only; omega⟩
set_option maxHeartbeats 4000000 in
theorem alive17_calls (w : World) : Calls Try.prog 16 #[] w fun e w' => e = .returned (.bool true) ∧ Below w.heap.size w w' := by
  have hN : ∀ w : World, Calls Try.prog 17 #[.agg #[.int .i64 10, .int .i64 2], .int .u32 7, .int .i64 0] w fun e w' => e = .returned (.tuple #[.pointer (some ⟨w.heap.size + 1, 0, none⟩), .int .i64 0]) ∧ Below w.heap.size w w' ∧ IsEch w' (w.heap.size + 1) X0 := fun w => newE_good 10 2 7 0 (by unfold May; decide) w
  have hN0 : ∀ w : World, Calls Try.prog 17 #[.agg #[.int .i64 0, .int .i64 0], .int .u32 7, .int .i64 0] w fun e w' => e = .returned (.tuple #[.pointer none, .int .i64 2]) ∧ Below w.heap.size w w' := fun w => newE_bad 0 0 7 0 (by unfold May; decide) w
  have t1 : ∀ (B : Nat) (w : World), IsEch w B X0 → Calls Try.prog 18 #[.pointer (some ⟨B, 0, none⟩), .int .i64 9] w fun e w' => e = .returned (.tuple #[.slice none 0 0, .int .i64 0]) ∧ But B w w' ∧ IsEch w' B X1 := fun B w h => tick_early X0 2 (okx _ _ _ _ (by decide) (by decide) (by decide) (by decide)) B 9 (by decide) (by decide) (by unfold Ech.due; decide) w h
  have t2 : ∀ (B : Nat) (w : World), IsEch w B X1 → Calls Try.prog 18 #[.pointer (some ⟨B, 0, none⟩), .int .i64 10] w fun e w' => ∃ g, w.heap.size ≤ g ∧ e = .returned (.tuple #[.slice (some ⟨g, 0, none⟩) 1 1, .int .i64 0]) ∧ IsPkt w' g 9 1 ⟨#[0, 0, 0, 7]⟩ ∧ But B w w' ∧ IsEch w' B X2 := fun B w h => tick_sent X1 2 (by decide) (okx _ _ _ _ (by decide) (by decide) (by decide) (by decide)) B 10 (by decide) (by decide) (by unfold Ech.due; decide) (by decide) w h
  have t3 : ∀ (B : Nat) (w : World), IsEch w B X2 → Calls Try.prog 18 #[.pointer (some ⟨B, 0, none⟩), .int .i64 20] w fun e w' => ∃ g, w.heap.size ≤ g ∧ e = .returned (.tuple #[.slice (some ⟨g, 0, none⟩) 1 1, .int .i64 0]) ∧ IsPkt w' g 9 2 ⟨#[0, 0, 0, 7]⟩ ∧ But B w w' ∧ IsEch w' B X3 := fun B w h => tick_sent X2 2 (by decide) (okx _ _ _ _ (by decide) (by decide) (by decide) (by decide)) B 20 (by decide) (by decide) (by unfold Ech.due; decide) (by decide) w h
  have p1 : ∀ (B : Nat) (w : World), IsEch w B X3 → Calls Try.prog 21 #[.pointer (some ⟨B, 0, none⟩), .agg #[.int .u8 10, .int .u8 2, .string ⟨#[0, 0, 0, 7]⟩]] w fun e w' => e = .returned (.tuple #[.slice none 0 0, .int .i64 170]) ∧ But B w w' ∧ IsEch w' B X3 := fun B w h => pkt_told X3 (by decide) B 10 2 ⟨#[0, 0, 0, 7]⟩ (by decide) 170 (by decide +kernel) w h
  have p2 : ∀ (B : Nat) (w : World), IsEch w B X3 → Calls Try.prog 21 #[.pointer (some ⟨B, 0, none⟩), .agg #[.int .u8 10, .int .u8 2, .string ⟨#[0, 0, 0, 9]⟩]] w fun e w' => e = .returned (.tuple #[.slice none 0 0, .int .i64 0]) ∧ But B w w' ∧ IsEch w' B X4 := fun B w h => pkt_told X3 (by decide) B 10 2 ⟨#[0, 0, 0, 9]⟩ (by decide) 0 (by decide +kernel) w h
  have p3 : ∀ (B : Nat) (w : World), IsEch w B X4 → Calls Try.prog 21 #[.pointer (some ⟨B, 0, none⟩), .agg #[.int .u8 5, .int .u8 0, .string ⟨#[]⟩]] w fun e w' => e = .returned (.tuple #[.slice none 0 0, .int .i64 8]) ∧ But B w w' ∧ IsEch w' B X4 := fun B w h => pkt_told X4 (by decide) B 5 0 ⟨#[]⟩ (by decide) 8 (by decide +kernel) w h
  have m3 : ∀ (B : Nat) (w : World), IsEch w B X3 → Calls Try.prog 22 #[.pointer (some ⟨B, 0, none⟩)] w fun e w' => e = .returned (.int .i64 2) ∧ w' = w := fun B w h => missed_calls X3 B w h
  have m4 : ∀ (B : Nat) (w : World), IsEch w B X4 → Calls Try.prog 22 #[.pointer (some ⟨B, 0, none⟩)] w fun e w' => e = .returned (.int .i64 0) ∧ w' = w := fun B w h => missed_calls X4 B w h
  have d4 : ∀ (B : Nat) (w : World), IsEch w B X4 → Calls Try.prog 19 #[.pointer (some ⟨B, 0, none⟩)] w fun e w' => e = .returned (.bool false) ∧ w' = w := fun B w h => dead_calls X4 B w h
  generalize X0 = x0 at *
  generalize X1 = x1 at *
  generalize X2 = x2 at *
  generalize X3 = x3 at *
  generalize X4 = x4 at *
  have hz : w.heap.size ≤ w.heap.size := Nat.le_refl _
  go_enter Try.func16, Try.ntmps16
  go_wp2_with (first
    | (go_at_call 17; with_reducible refine (hN _).mono ?_; rintro e w1 ⟨rfl, hb1, ht1⟩)
    | (go_at_call 17; with_reducible refine (hN0 _).mono ?_; rintro e w2 ⟨rfl, hb2⟩; have ht2 := ht1.below hb2)
    | (go_at_call 18; with_reducible refine (t1 _ _ ht2).mono ?_; rintro e w3 ⟨rfl, hb3, ht3⟩)
    | (go_at_call 18; with_reducible refine (t2 _ _ ht3).mono ?_; rintro e w4 ⟨g4, hg4, rfl, hp4, hb4, ht4⟩)
    | (go_at_call 18; with_reducible refine (t3 _ _ ht4).mono ?_; rintro e w5 ⟨g5, hg5, rfl, hp5, hb5, ht5⟩)
    | (go_at_call 21; with_reducible refine (p1 _ _ ht5).mono ?_; rintro e w6 ⟨rfl, hb6, ht6⟩)
    | (go_at_call 22; with_reducible refine (m3 _ _ ht6).mono ?_; rintro e w7 ⟨rfl, rfl⟩)
    | (go_at_call 21; with_reducible refine (p2 _ _ ht6).mono ?_; rintro e w7 ⟨rfl, hb7, ht7⟩)
    | (go_at_call 21; with_reducible refine (p3 _ _ ht7).mono ?_; rintro e w8 ⟨rfl, hb8, ht8⟩
       have hne4 : g4 ≠ w.heap.size + 1 := by have := ht3.lt; omega
       have hne5 : g5 ≠ w.heap.size + 1 := by have := ht4.lt; omega
       have hP8 := (((hp4.but hb5 hne4).but hb6 hne4).but hb7 hne4).but hb8 hne4
       have hQ8 := ((hp5.but hb6 hne5).but hb7 hne5).but hb8 hne5)
    | (go_at_call 33; with_reducible refine (same_one g4 _ 9 1 ⟨#[0, 0, 0, 7]⟩ _ (hP8.alloc _) (pkt_new _ _ _ _)).mono ?_; rintro e w9 ⟨rfl, n9, hw9⟩
       have ht9 : IsEch w9 (w.heap.size + 1) x4 := by rw [hw9]; exact (ht8.alloc _).drewN n9
       have hb9 : But (w.heap.size + 1) w8 w9 := by rw [hw9]; exact ((But.refl _ _).alloc _).drewN n9
       have c19 : w9.cell? ⟨g5, 1, none⟩ = some (.int .u8 2) := by rw [hw9]; exact ((hQ8.alloc _).drewN n9).c1
       clear hw9)
    | (go_at_call 22; with_reducible refine (m4 _ _ ht9).mono ?_; rintro e w10 ⟨rfl, rfl⟩)
    | (go_at_call 19; with_reducible refine (d4 _ _ ht9).mono ?_; rintro e w10 ⟨rfl, rfl⟩))
  have hz1 : w.heap.size ≤ w.heap.size + 1 := Nat.le_succ _
  have k2 := hb1.trans (hb2.mono hb1.size)
  have k3 := hb3.below k2 hz1 k2.size
  have k4 := hb4.below k3 hz1 k3.size
  have k5 := hb5.below k4 hz1 k4.size
  have k6 := hb6.below k5 hz1 k5.size
  have k7 := hb7.below k6 hz1 k6.size
  have k8 := hb8.below k7 hz1 k7.size
  have k9 := hb9.below k8 hz1 k8.size
  go_ret
  exact ⟨rfl, k9⟩
end Go.Proofs.Ythenjbonncbniaa
