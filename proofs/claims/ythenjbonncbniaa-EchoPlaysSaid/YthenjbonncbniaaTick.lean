/-
  Layer 17 (echo): Tick, walked.
-/
import Derived.Test.YthenjbonncbniaaPut32
set_option linter.unusedVariables false
set_option linter.unusedSimpArgs false
namespace Go.Proofs.Ythenjbonncbniaa
open Go.RowKit Go.Proofs.YthenjbonncbniaaW.PrintWords Go.Proofs.YthenjbonncbniaaW.PrintLast

theorem tick_bad (s : Ech) (c : Nat) (ho : s.Ok c) (B : Nat) (t : Int) (ht : t < s.now ∨ 1152921504606846976 < t) (w : World) (h : IsEch w B s) :
    Calls Try.prog 18 #[.pointer (some ⟨B, 0, none⟩), .int .i64 t] w fun e w' => e = .returned (.tuple #[.slice none 0 0, .int .i64 2]) ∧ w' = w := by
  have r0 := h.reads.now
  by_cases h1 : t < s.now
  · have hd : decide (t < s.now) = true := by simpa using h1
    go_enter Try.func18, Try.ntmps18
    go_wp2
    go_ret2
    exact ⟨rfl, rfl⟩
  · have hd : decide (t < s.now) = false := by simpa using h1
    have hd2 : decide (1152921504606846976 < t) = true := by simp; omega
    go_enter Try.func18, Try.ntmps18
    go_wp2
    go_ret2
    exact ⟨rfl, rfl⟩
def Ech.due (s : Ech) (t : Int) : Prop := s.every ≠ 0 ∧ s.dead = false ∧ s.last + s.every ≤ t
theorem IsEch.setNow {W : World} {B : Nat} {s : Ech} (h : IsEch W B s) (t : Int) : IsEch (W.setCell ⟨B, 0, none⟩ (.int .i64 t)) B { s with now := t } := by
  unfold IsEch; rw [blk_set h]; rfl
theorem IsEch.setDead {W : World} {B : Nat} {s : Ech} (h : IsEch W B s) : IsEch (W.setCell ⟨B, 7, none⟩ (.bool true)) B { s with dead := true } := by
  unfold IsEch; rw [blk_set h]; rfl
theorem IsEch.setLast {W : World} {B : Nat} {s : Ech} (h : IsEch W B s) (t : Int) : IsEch (W.setCell ⟨B, 1, none⟩ (.int .i64 t)) B { s with last := t } := by
  unfold IsEch; rw [blk_set h]; rfl
theorem IsEch.setSent {W : World} {B : Nat} {s : Ech} (h : IsEch W B s) (t : Int) : IsEch (W.setCell ⟨B, 5, none⟩ (.int .i64 t)) B { s with sent := t } := by
  unfold IsEch; rw [blk_set h]; rfl
theorem IsEch.setMissed {W : World} {B : Nat} {s : Ech} (h : IsEch W B s) (t : Int) : IsEch (W.setCell ⟨B, 6, none⟩ (.int .i64 t)) B { s with missed := t } := by
  unfold IsEch; rw [blk_set h]; rfl
theorem IsEch.drewN {W : World} {B : Nat} {s : Ech} (h : IsEch W B s) (n : Nat) : IsEch (W.drewN n) B s := h
theorem But.drewN {B : Nat} {w w' : World} (h : But B w w') (n : Nat) : But B w (w'.drewN n) := ⟨h.os, h.tape, h.output, h.size, h.block⟩
theorem tick_early (s : Ech) (c : Nat) (ho : s.Ok c) (B : Nat) (t : Int) (h1 : s.now ≤ t) (h2 : t ≤ 1152921504606846976) (hd : ¬ s.due t) (w : World) (h : IsEch w B s) :
    Calls Try.prog 18 #[.pointer (some ⟨B, 0, none⟩), .int .i64 t] w fun e w' => e = .returned (.tuple #[.slice none 0 0, .int .i64 0]) ∧ But B w w' ∧ IsEch w' B { s with now := t } := by
  have r0 := h.reads.now
  have f0 := h.frozen
  have hd1 : decide (t < s.now) = false := by simp; omega
  have hd2 : decide (1152921504606846976 < t) = false := by simp; omega
  have h' := h.setNow t
  have hn := next_calls { s with now := t } c ⟨ho.sent, by have := ho.now; show 0 ≤ t ∧ t ≤ _; omega, by have := ho.last; show 0 ≤ s.last ∧ s.last ≤ t; omega, ho.every, ho.most, ho.magic, ho.missed⟩ B _ h'
  have hB := (But.refl B w).set 0 (.int .i64 t)
  rw [show ({ s with now := t } : Ech).next = s.next from rfl] at hn
  by_cases h3 : s.every = 0 ∨ s.dead = true
  · rw [show s.next = .tuple #[.int .i64 0, .bool false] from if_pos h3] at hn
    clear h3 hd
    go_enter Try.func18, Try.ntmps18
    go_wp2_with (first
      | (go_at_call 20; with_reducible refine hn.mono ?_; rintro e w1 ⟨rfl, n, rfl⟩))
    go_ret2
    exact ⟨rfl, hB.drewN _, h'.drewN _⟩
  · rw [show s.next = .tuple #[.int .i64 (s.last + s.every), .bool true] from if_neg h3] at hn
    have h4 : decide (t < s.last + s.every) = true := by
      have : t < s.last + s.every := by
        rcases Int.lt_or_le t (s.last + s.every) with h' | h'
        · exact h'
        · exact absurd ⟨fun e => h3 (.inl e), by simpa using fun e => h3 (.inr e), h'⟩ hd
      simpa using this
    clear h3 hd
    go_enter Try.func18, Try.ntmps18
    go_wp2_with (first
      | (go_at_call 20; with_reducible refine hn.mono ?_; rintro e w1 ⟨rfl, n, rfl⟩))
    go_ret2
    exact ⟨rfl, hB.drewN _, h'.drewN _⟩
theorem tick_dead (s : Ech) (c : Nat) (ho : s.Ok c) (B : Nat) (t : Int) (h1 : s.now ≤ t) (h2 : t ≤ 1152921504606846976) (hd : s.due t) (hm : s.most ≤ s.missed) (w : World) (h : IsEch w B s) :
    Calls Try.prog 18 #[.pointer (some ⟨B, 0, none⟩), .int .i64 t] w fun e w' => e = .returned (.tuple #[.slice none 0 0, .int .i64 0]) ∧ But B w w' ∧ IsEch w' B { s with now := t, dead := true } := by
  have r0 := h.reads.now
  have f0 := h.frozen
  have hd1 : decide (t < s.now) = false := by simp; omega
  have hd2 : decide (1152921504606846976 < t) = false := by simp; omega
  have h' := h.setNow t
  have hn := next_calls { s with now := t } c ⟨ho.sent, by have := ho.now; show 0 ≤ t ∧ t ≤ _; omega, by have := ho.last; show 0 ≤ s.last ∧ s.last ≤ t; omega, ho.every, ho.most, ho.magic, ho.missed⟩ B _ h'
  have hB := (But.refl B w).set 0 (.int .i64 t)
  obtain ⟨e1, e2, e3⟩ := hd
  rw [show ({ s with now := t } : Ech).next = .tuple #[.int .i64 (s.last + s.every), .bool true] from if_neg (by simp [e1, e2])] at hn
  have hd3 : decide (t < s.last + s.every) = false := by simp; omega
  have hd4 : decide (s.most ≤ s.missed) = true := by simpa using hm
  go_enter Try.func18, Try.ntmps18
  go_wp2_with (first
    | (go_at_call 20; with_reducible refine hn.mono ?_; rintro e w1 ⟨rfl, n, hw1⟩; have hT : IsEch w1 B { s with now := t } := hw1 ▸ h'.drewN n; have hB1 : But B w w1 := hw1 ▸ hB.drewN n; have q3 := hT.reads.most; have q6 := hT.reads.missed; have g0 := hT.frozen; clear hw1))
  go_quiet (fail)
  have hT2 := hT.drewN nq
  have hB2 := hB1.drewN nq
  clear hT hB1 q3 q6 g0
  generalize w1.drewN nq = w2 at *
  have g0 := hT2.frozen
  have q7 := hT2.reads.dead
  go_wp2
  go_ret2
  exact ⟨rfl, hB2.set _ _, hT2.setDead⟩
theorem But.trans_below {B : Nat} {w w1 w2 : World} (h : But B w w1) (hb : Below w1.heap.size w1 w2) : But B w w2 :=
  ⟨hb.os.trans h.os, hb.tape.trans h.tape, hb.output.trans h.output, Nat.le_trans h.size hb.size, fun k hk hne => (hb.block k (Nat.lt_of_lt_of_le hk h.size)).trans (h.block k hk hne)⟩
theorem But.alloc {B : Nat} {w w1 : World} (h : But B w w1) (o : Obj) : But B w (w1.alloc o) := h.trans_below ((Below.refl _ _).alloc (Nat.le_refl _) o)
theorem tick_sent (s : Ech) (c : Nat) (hc : c < 1000000) (ho : s.Ok c) (B : Nat) (t : Int) (h1 : s.now ≤ t) (h2 : t ≤ 1152921504606846976) (hd : s.due t) (hm : s.missed < s.most) (w : World) (h : IsEch w B s) :
    Calls Try.prog 18 #[.pointer (some ⟨B, 0, none⟩), .int .i64 t] w fun e w' => ∃ g, w.heap.size ≤ g ∧ e = .returned (.tuple #[.slice (some ⟨g, 0, none⟩) 1 1, .int .i64 0]) ∧
      w'.heap[g]? = some (.cells #[.int .u8 9, .int .u8 ((s.sent + 1) % 256), .string (oct s.magic)] 48 (0, 0)) ∧ But B w w' ∧ IsEch w' B { s with now := t, last := t, sent := s.sent + 1, missed := s.missed + 1 } := by
  have r0 := h.reads.now
  have f0 := h.frozen
  have hd1 : decide (t < s.now) = false := by simp; omega
  have hd2 : decide (1152921504606846976 < t) = false := by simp; omega
  have h' := h.setNow t
  have hn := next_calls { s with now := t } c ⟨ho.sent, by have := ho.now; show 0 ≤ t ∧ t ≤ _; omega, by have := ho.last; show 0 ≤ s.last ∧ s.last ≤ t; omega, ho.every, ho.most, ho.magic, ho.missed⟩ B _ h'
  have hB := (But.refl B w).set 0 (.int .i64 t)
  obtain ⟨e1, e2, e3⟩ := hd
  rw [show ({ s with now := t } : Ech).next = .tuple #[.int .i64 (s.last + s.every), .bool true] from if_neg (by simp [e1, e2])] at hn
  have hd3 : decide (t < s.last + s.every) = false := by simp; omega
  have hd4 : decide (s.most ≤ s.missed) = false := by simp; omega
  have hwr : IntKind.u8.wrap (s.sent + 1) = (s.sent + 1) % 256 := rfl
  have hs1 : 0 ≤ s.sent ∧ s.sent ≤ 1000000 := by have := ho.sent; omega
  have hs2 : 0 ≤ s.missed ∧ s.missed ≤ 20 := ho.missed
  go_enter Try.func18, Try.ntmps18
  go_wp2_with (first
    | (go_at_call 20; with_reducible refine hn.mono ?_; rintro e w1 ⟨rfl, n, hw1⟩; have hT : IsEch w1 B { s with now := t } := hw1 ▸ h'.drewN n; have hB1 : But B w w1 := hw1 ▸ hB.drewN n; have q3 := hT.reads.most; have q6 := hT.reads.missed; have g0 := hT.frozen; clear hw1))
  go_quiet (fail)
  have hT2 := hT.drewN nq
  have hB2 := hB1.drewN nq
  clear hT hB1 q3 q6 g0
  generalize w1.drewN nq = w2 at *
  have g0 := hT2.frozen
  have q6 := hT2.reads.missed
  have q1 := hT2.reads.last
  have q5 := hT2.reads.sent
  go_wp2
  have hT3 := ((hT2.setSent (s.sent + 1)).setMissed (s.missed + 1)).setLast t
  have hB3 := ((hB2.set 5 (.int .i64 (s.sent + 1))).set 6 (.int .i64 (s.missed + 1))).set 1 (.int .i64 t)
  clear q1 q5 q6 g0 hT2 hB2
  generalize (((w2.setCell ⟨B, 5, none⟩ (.int .i64 (s.sent + 1))).setCell ⟨B, 6, none⟩ (.int .i64 (s.missed + 1))).setCell ⟨B, 1, none⟩ (.int .i64 t)) = w3 at *
  have q5 := hT3.reads.sent
  have hT3d : IsEch w3.drew B { s with now := t, last := t, sent := s.sent + 1, missed := s.missed + 1 } := hT3
  have hB3d := hB3.drew
  clear hT3 hB3
  refine start_ (n := 11) (S := fun W' => IsEch W' B { s with now := t, last := t, sent := s.sent + 1, missed := s.missed + 1 } ∧ W'.cell? ⟨B, 5, none⟩ = some (.int .i64 (s.sent + 1))) (ds := []) (#[false, false, false, false, false, false, false, false, false, false, false]) (by kernel_rfl) rfl rfl (⟨hT3d, q5⟩) (fun hS => ?_)
  refine take_ (i := 0) (N := some 74) (v := ?_) (a' := ?_) #[true, false, false, false, false, false, false, false, false, false, false] rfl rfl (by kernel_rfl) (fun _ _ _ h => h) (.inl ⟨by rfl, fun w' hS' => ?_⟩) hS ?_ ?_
  rotate_left
  · obtain ⟨hI', hm'⟩ := hS'
    go_simp
    with_reducible rfl
  rotate_left
  · simp only [Act.put, List.setIfInBounds_toArray, List.set_cons_zero, List.set_cons_succ]
    rfl
  refine take_ (i := 1) (N := some 75) (v := ?_) (a' := ?_) #[true, true, false, false, false, false, false, false, false, false, false] rfl rfl (by kernel_rfl) (fun _ _ _ h => h) (.inl ⟨by rfl, fun w' hS' => ?_⟩) hS ?_ ?_
  rotate_left
  · obtain ⟨hI', hm'⟩ := hS'
    go_simp
    with_reducible rfl
  rotate_left
  · simp only [Act.put, List.setIfInBounds_toArray, List.set_cons_zero, List.set_cons_succ]
    rfl
  refine take_ (i := 2) (N := some 76) (v := ?_) (a' := ?_) #[true, true, true, false, false, false, false, false, false, false, false] rfl rfl (by kernel_rfl) (fun _ _ _ h => h) (.inl ⟨by rfl, fun w' hS' => ?_⟩) hS ?_ ?_
  rotate_left
  · obtain ⟨hI', hm'⟩ := hS'
    go_simp
    with_reducible rfl
  rotate_left
  · simp only [Act.put, List.setIfInBounds_toArray, List.set_cons_zero, List.set_cons_succ]
    rfl
  refine take_ (i := 3) (N := some 77) (v := ?_) (a' := ?_) #[true, true, true, true, false, false, false, false, false, false, false] rfl rfl (by kernel_rfl) (fun _ _ _ h => h) (.inl ⟨by rfl, fun w' hS' => ?_⟩) hS ?_ ?_
  rotate_left
  · obtain ⟨hI', hm'⟩ := hS'
    go_simp
    with_reducible rfl
  rotate_left
  · simp only [Act.put, List.setIfInBounds_toArray, List.set_cons_zero, List.set_cons_succ]
    rfl
  refine take_ (i := 4) (N := some 78) (v := ?_) (a' := ?_) #[true, true, true, true, true, false, false, false, false, false, false] rfl rfl (by kernel_rfl) (fun _ _ _ h => h) (.inl ⟨by rfl, fun w' hS' => ?_⟩) hS ?_ ?_
  rotate_left
  · obtain ⟨hI', hm'⟩ := hS'
    go_simp
    with_reducible rfl
  rotate_left
  · simp only [Act.put, List.setIfInBounds_toArray, List.set_cons_zero, List.set_cons_succ]
    rfl
  refine take_ (i := 5) (N := some 79) (v := ?_) (a' := ?_) #[true, true, true, true, true, true, false, false, false, false, false] rfl rfl (by kernel_rfl) (fun _ _ _ h => h) (.inl ⟨by rfl, fun w' hS' => ?_⟩) hS ?_ ?_
  rotate_left
  · obtain ⟨hI', hm'⟩ := hS'
    go_simp
    with_reducible rfl
  rotate_left
  · simp only [Act.put, List.setIfInBounds_toArray, List.set_cons_zero, List.set_cons_succ]
    rfl
  refine wpAnyLast_all (rs := [6]) (by kernel_rfl) (by simp) ?_
  intro i hi'
  obtain rfl := List.mem_singleton.1 hi'
  refine wpOp_step rfl (fun K' hK => ?_)
  go_simp
  go_at_call 47
  with_reducible refine (own_calls { s with now := t, last := t, sent := s.sent + 1, missed := s.missed + 1 } ho.magic B _ hT3d.reads).mono ?_
  rintro e w4 ⟨rfl, hb4⟩
  refine hK _ _ ⟨fun _ h => ⟨h.1.below hb4, (h.1.below hb4).reads.sent⟩, ?_⟩
  clear hK K'
  simp only [Act.put, List.setIfInBounds_toArray, List.set_cons_zero, List.set_cons_succ]
  refine wpAnyLast_all (rs := [7]) (by kernel_rfl) (by simp) ?_
  intro i hi'
  obtain rfl := List.mem_singleton.1 hi'
  refine wpOp_step rfl (fun K' hK => ?_)
  go_simp
  refine hK _ _ ⟨fun _ h => h, ?_⟩
  clear hK K'
  simp only [Act.put, List.setIfInBounds_toArray, List.set_cons_zero, List.set_cons_succ]
  refine wpAnyLast_all (rs := [8]) (by kernel_rfl) (by simp) ?_
  intro i hi'
  obtain rfl := List.mem_singleton.1 hi'
  refine wpOp_step rfl (fun K' hK => ?_)
  go_simp
  refine hK _ _ ⟨fun _ h => ⟨h.1.alloc _, (h.1.alloc _).reads.sent⟩, ?_⟩
  clear hK K'
  simp only [Act.put, List.setIfInBounds_toArray, List.set_cons_zero, List.set_cons_succ]
  refine wpAnyLast_all (rs := [9]) (by kernel_rfl) (by simp) ?_
  intro i hi'
  obtain rfl := List.mem_singleton.1 hi'
  refine wpOp_step rfl (fun K' hK => ?_)
  go_simp
  refine hK _ _ ⟨fun _ h => h, ?_⟩
  clear hK K'
  simp only [Act.put, List.setIfInBounds_toArray, List.set_cons_zero, List.set_cons_succ]
  refine wpAnyLast_all (rs := [10]) (by kernel_rfl) (by simp) ?_
  intro i hi'
  obtain rfl := List.mem_singleton.1 hi'
  refine wpOp_step rfl (fun K' hK => ?_)
  go_simp
  refine hK _ _ ⟨fun _ h => h, ?_⟩
  clear hK K'
  simp only [Act.put, List.setIfInBounds_toArray, List.set_cons_zero, List.set_cons_succ]
  refine wpAnyLast_done (by kernel_rfl) ?_ _
  go_wp2
  go_ret2
  exact ⟨w4.heap.size, Nat.le_trans hB3d.size hb4.size, rfl, alloc_new _ _ _ rfl, (hB3d.trans_below hb4).alloc _, by have q := (IsEch.below hT3d hb4).alloc (Obj.cells #[.int .u8 9, .int .u8 ((s.sent + 1) % 256), .string (oct s.magic)] 48); rw [e2] at q; exact q⟩
end Go.Proofs.Ythenjbonncbniaa
