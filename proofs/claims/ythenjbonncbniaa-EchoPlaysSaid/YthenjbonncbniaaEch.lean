/-
  Layer 17 (echo): the state, and what only reads it, walked.
-/
import Derived.Test.YthenjbonncbniaaTab
import Derived.BigQuiet
import Derived.IntWalk
set_option linter.unusedVariables false
set_option linter.unusedSimpArgs false
namespace Go.Proofs.Ythenjbonncbniaa
open Go.RowKit Go.Proofs.YthenjbonncbniaaW.PrintWords Go.Proofs.YthenjbonncbniaaW.PrintLast

/-- An echo: the time, that of the last request, the conf, the magic number, how many were sent, are missed, whether it is dead. -/
structure Ech where
  now : Int
  last : Int
  every : Int
  most : Int
  magic : Nat
  sent : Int
  missed : Int
  dead : Bool
def Ech.cells (s : Ech) : List Value := [.int .i64 s.now, .int .i64 s.last, .int .i64 s.every, .int .i64 s.most, .int .u32 (s.magic : Int), .int .i64 s.sent, .int .i64 s.missed, .bool s.dead]
def IsEch (W : World) (B : Nat) (s : Ech) : Prop := W.heap[B]? = some (.cells s.cells.toArray 94 (0, 0))
theorem IsEch.lt {W : World} {B : Nat} {s : Ech} (h : IsEch W B s) : B < W.heap.size := (Array.getElem?_eq_some_iff.1 h).1
theorem IsEch.cell {W : World} {B : Nat} {s : Ech} (h : IsEch W B s) (j : Nat) : W.cell? ⟨B, j, none⟩ = s.cells[j]? := by
  unfold World.cell?
  rw [show W.heap[B]? = _ from h]
  simp
theorem IsEch.frozen {W : World} {B : Nat} {s : Ech} (h : IsEch W B s) (j : Nat) : W.frozen? ⟨B, j, none⟩ = false := by
  simp [World.frozen?, show W.heap[B]? = _ from h]
theorem IsEch.below {W w : World} {B : Nat} {s : Ech} (h : IsEch W B s) (hb : Below W.heap.size W w) : IsEch w B s := (hb.block B h.lt).trans h
theorem IsEch.alloc {W : World} {B : Nat} {s : Ech} (h : IsEch W B s) (o : Obj) : IsEch (W.alloc o) B s := by
  have := h.lt
  unfold IsEch World.alloc
  simp only
  rw [Array.getElem?_push_lt this, ← Array.getElem?_eq_getElem this]
  exact h
/-- What the walks read. -/
structure Ech.Reads (W : World) (B : Nat) (s : Ech) : Prop where
  now : W.cell? ⟨B, 0, none⟩ = some (.int .i64 s.now)
  last : W.cell? ⟨B, 1, none⟩ = some (.int .i64 s.last)
  every : W.cell? ⟨B, 2, none⟩ = some (.int .i64 s.every)
  most : W.cell? ⟨B, 3, none⟩ = some (.int .i64 s.most)
  magic : W.cell? ⟨B, 4, none⟩ = some (.int .u32 (s.magic : Int))
  sent : W.cell? ⟨B, 5, none⟩ = some (.int .i64 s.sent)
  missed : W.cell? ⟨B, 6, none⟩ = some (.int .i64 s.missed)
  dead : W.cell? ⟨B, 7, none⟩ = some (.bool s.dead)
theorem IsEch.reads {W : World} {B : Nat} {s : Ech} (h : IsEch W B s) : s.Reads W B := ⟨h.cell 0, h.cell 1, h.cell 2, h.cell 3, h.cell 4, h.cell 5, h.cell 6, h.cell 7⟩
structure Ech.Ok (c : Nat) (s : Ech) : Prop where
  sent : 0 ≤ s.sent ∧ s.sent ≤ (c : Int)
  now : 0 ≤ s.now ∧ s.now ≤ 1152921504606846976
  last : 0 ≤ s.last ∧ s.last ≤ s.now
  every : 0 ≤ s.every ∧ s.every ≤ 100000
  most : 1 ≤ s.most ∧ s.most ≤ 20
  magic : s.magic < 4294967296
  missed : 0 ≤ s.missed ∧ s.missed ≤ 20
theorem inT {a b c : Int} (h : a ≤ b ∧ b ≤ c) : (decide (a ≤ b) && decide (b ≤ c)) = true := by rw [← Bool.decide_and]; exact decide_eq_true h
theorem inF {a b c : Int} (h : ¬ (a ≤ b ∧ b ≤ c)) : (decide (a ≤ b) && decide (b ≤ c)) = false := by rw [← Bool.decide_and]; exact decide_eq_false h
theorem in_calls (n least most : Int) (b : Bool) (hb : (decide (least ≤ n) && decide (n ≤ most)) = b) (w : World) : Calls Try.prog 46 #[.int .i64 n, .int .i64 least, .int .i64 most] w fun e w' => e = .returned (.bool b) ∧ w' = w := by
  subst hb
  by_cases h : least ≤ n
  · have hd : decide (least ≤ n) = true := by simpa using h
    have hn : (decide (least ≤ n) && decide (n ≤ most)) = decide (n ≤ most) := by rw [hd]; rfl
    rw [hn]
    go_enter Try.func46, Try.ntmps46
    go_wp2
    go_ret
    exact ⟨rfl, rfl⟩
  · have hd : decide (least ≤ n) = false := by simpa using h
    rw [hd, Bool.false_and]
    go_enter Try.func46, Try.ntmps46
    go_wp2
    go_ret
    exact ⟨rfl, rfl⟩
def newE (every most : Int) (magic : Nat) (now : Int) : Ech := ⟨now, now, every, most, magic, 0, 0, false⟩
/-- What New may be asked for. -/
def May (every most now : Int) : Prop := (0 ≤ every ∧ every ≤ 100000) ∧ (1 ≤ most ∧ most ≤ 20) ∧ 0 ≤ now ∧ now ≤ 1152921504606846976
set_option maxHeartbeats 4000000 in
theorem newE_bad (every most : Int) (magic : Nat) (now : Int) (h : ¬ May every most now) (w : World) :
    Calls Try.prog 17 #[.agg #[.int .i64 every, .int .i64 most], .int .u32 (magic : Int), .int .i64 now] w fun e w' => e = .returned (.tuple #[.pointer none, .int .i64 2]) ∧ Below w.heap.size w w' := by
  have hB : ∀ o, Below w.heap.size w (w.alloc o) := fun o => (Below.refl _ _).alloc (Nat.le_refl _) o
  by_cases h1 : 0 ≤ every ∧ every ≤ 100000
  · have i1 := in_calls every 0 100000 true (inT h1)
    by_cases h2 : 1 ≤ most ∧ most ≤ 20
    · have i2 := in_calls most 1 20 true (inT h2)
      by_cases h3 : now < 0
      · have hd : decide (now < 0) = true := by simpa using h3
        clear h
        go_enter Try.func17, Try.ntmps17
        go_wp2_with (first
          | (go_at_call 46; with_reducible refine (i1 _).mono ?_; rintro e w1 ⟨rfl, rfl⟩)
          | (go_at_call 46; with_reducible refine (i2 _).mono ?_; rintro e w1 ⟨rfl, rfl⟩))
        go_ret2
        exact ⟨rfl, hB _⟩
      · have hd : decide (now < 0) = false := by simpa using h3
        have h4 : 1152921504606846976 < now := by rcases Int.lt_or_le 1152921504606846976 now with h' | h'; exact h'; exact absurd ⟨h1, h2, by omega, h'⟩ h
        have hd4 : decide (1152921504606846976 < now) = true := by simpa using h4
        clear h
        go_enter Try.func17, Try.ntmps17
        go_wp2_with (first
          | (go_at_call 46; with_reducible refine (i1 _).mono ?_; rintro e w1 ⟨rfl, rfl⟩)
          | (go_at_call 46; with_reducible refine (i2 _).mono ?_; rintro e w1 ⟨rfl, rfl⟩))
        go_ret2
        exact ⟨rfl, hB _⟩
    · have i2 := in_calls most 1 20 false (inF h2)
      clear h h2
      go_enter Try.func17, Try.ntmps17
      go_wp2_with (first
        | (go_at_call 46; with_reducible refine (i1 _).mono ?_; rintro e w1 ⟨rfl, rfl⟩)
        | (go_at_call 46; with_reducible refine (i2 _).mono ?_; rintro e w1 ⟨rfl, rfl⟩))
      go_ret2
      exact ⟨rfl, hB _⟩
  · have i1 := in_calls every 0 100000 false (inF h1)
    clear h h1
    go_enter Try.func17, Try.ntmps17
    go_wp2_with (first
      | (go_at_call 46; with_reducible refine (i1 _).mono ?_; rintro e w1 ⟨rfl, rfl⟩))
    go_ret2
    exact ⟨rfl, hB _⟩
theorem alloc_new (W : World) (B : Nat) (o : Obj) (h : B = W.heap.size) : (W.alloc o).heap[B]? = some o := by
  subst h
  unfold World.alloc
  simp only
  exact Array.getElem?_push_size
theorem newE_good (every most : Int) (magic : Nat) (now : Int) (h : May every most now) (w : World) :
    Calls Try.prog 17 #[.agg #[.int .i64 every, .int .i64 most], .int .u32 (magic : Int), .int .i64 now] w fun e w' =>
      e = .returned (.tuple #[.pointer (some ⟨w.heap.size + 1, 0, none⟩), .int .i64 0]) ∧ Below w.heap.size w w' ∧ IsEch w' (w.heap.size + 1) (newE every most magic now) := by
  obtain ⟨h1, h2, h3, h4⟩ := h
  have hd : decide (now < 0) = false := by simpa using h3
  have hd4 : decide (1152921504606846976 < now) = false := by simpa using h4
  have i1 := in_calls every 0 100000 true (inT h1)
  have i2 := in_calls most 1 20 true (inT h2)
  go_enter Try.func17, Try.ntmps17
  go_wp2_with (first
    | (go_at_call 46; with_reducible refine (i1 _).mono ?_; rintro e w1 ⟨rfl, rfl⟩)
    | (go_at_call 46; with_reducible refine (i2 _).mono ?_; rintro e w1 ⟨rfl, rfl⟩))
  go_ret2
  refine ⟨rfl, ((Below.refl _ _).alloc (Nat.le_refl _) _).alloc (by simp) _, ?_⟩
  exact alloc_new _ _ _ (by simp)
theorem dead_calls (s : Ech) (B : Nat) (w : World) (h : IsEch w B s) : Calls Try.prog 19 #[.pointer (some ⟨B, 0, none⟩)] w fun e w' => e = .returned (.bool s.dead) ∧ w' = w := by
  obtain ⟨r0, r1, r2, r3, r4, r5, r6, r7⟩ := h.reads
  go_enter Try.func19, Try.ntmps19
  go_wp2
  go_ret
  exact ⟨rfl, rfl⟩
theorem missed_calls (s : Ech) (B : Nat) (w : World) (h : IsEch w B s) : Calls Try.prog 22 #[.pointer (some ⟨B, 0, none⟩)] w fun e w' => e = .returned (.int .i64 s.missed) ∧ w' = w := by
  obtain ⟨r0, r1, r2, r3, r4, r5, r6, r7⟩ := h.reads
  go_enter Try.func22, Try.ntmps22
  go_wp2
  go_ret
  exact ⟨rfl, rfl⟩
/-- When it is due. -/
def Ech.next (s : Ech) : Value := if s.every = 0 ∨ s.dead = true then .tuple #[.int .i64 0, .bool false] else .tuple #[.int .i64 (s.last + s.every), .bool true]
theorem next_calls (s : Ech) (c : Nat) (ho : s.Ok c) (B : Nat) (w : World) (h : IsEch w B s) : Calls Try.prog 20 #[.pointer (some ⟨B, 0, none⟩)] w fun e w' => e = .returned s.next ∧ ∃ n, w' = w.drewN n := by
  obtain ⟨r0, r1, r2, r3, r4, r5, r6, r7⟩ := h.reads
  unfold Ech.next
  by_cases h1 : s.every = 0
  · rw [if_pos (.inl h1)]
    rw [h1] at r2
    go_enter Try.func20, Try.ntmps20
    go_wp2
    go_ret2
    exact ⟨rfl, 0, rfl⟩
  · have hd : (s.every == 0) = false := by simpa using h1
    cases h2 : s.dead with
    | true =>
      rw [if_pos (.inr rfl)]
      rw [h2] at r7
      go_enter Try.func20, Try.ntmps20
      go_wp2
      go_ret2
      exact ⟨rfl, 0, rfl⟩
    | false =>
      rw [if_neg (by simp [h1])]
      rw [h2] at r7
      have hsum : IntKind.i64.wrap (s.last + s.every) = s.last + s.every := IntWalk.i64_in _ (by have := ho.last; have := ho.every; have := ho.now; omega)
      go_enter Try.func20, Try.ntmps20
      go_wp2
      go_quiet (fail)
      go_wp2
      go_ret2
      exact ⟨rfl, _, rfl⟩
end Go.Proofs.Ythenjbonncbniaa
