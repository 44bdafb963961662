/-
  Layer 17 (echo): what takes a packet, by its code, walked.
-/
import Derived.Test.YthenjbonncbniaaMap3
set_option linter.unusedVariables false
set_option linter.unusedSimpArgs false
namespace Go.Proofs.Ythenjbonncbniaa
open Go.RowKit Go.Proofs.YthenjbonncbniaaW.PrintWords Go.Proofs.YthenjbonncbniaaW.PrintLast

def IsPkt (W : World) (g : Nat) (code id : Int) (d : ByteArray) : Prop := W.heap[g]? = some (.cells #[.int .u8 code, .int .u8 id, .string d] 48 (0, 0))
theorem IsPkt.below {W w : World} {g : Nat} {code id : Int} {d : ByteArray} (h : IsPkt W g code id d) (hb : Below W.heap.size W w) : IsPkt w g code id d := (hb.block g (blk_lt h)).trans h
theorem IsPkt.alloc {W : World} {g : Nat} {code id : Int} {d : ByteArray} (h : IsPkt W g code id d) (o : Obj) : IsPkt (W.alloc o) g code id d := h.below ((Below.refl _ _).alloc (Nat.le_refl _) o)
theorem IsPkt.drewN {W : World} {g : Nat} {code id : Int} {d : ByteArray} (h : IsPkt W g code id d) (n : Nat) : IsPkt (W.drewN n) g code id d := h
theorem IsPkt.c0 {W : World} {g : Nat} {code id : Int} {d : ByteArray} (h : IsPkt W g code id d) : W.cell? ⟨g, 0, none⟩ = some (.int .u8 code) := blk_cell h 0
theorem IsPkt.c1 {W : World} {g : Nat} {code id : Int} {d : ByteArray} (h : IsPkt W g code id d) : W.cell? ⟨g, 1, none⟩ = some (.int .u8 id) := blk_cell h 1
theorem IsPkt.c2 {W : World} {g : Nat} {code id : Int} {d : ByteArray} (h : IsPkt W g code id d) : W.cell? ⟨g, 2, none⟩ = some (.string d) := blk_cell h 2
theorem discard_calls (B : Nat) (code id : Int) (d : ByteArray) (w : World) :
    Calls Try.prog 50 #[.pointer (some ⟨B, 0, none⟩), .agg #[.int .u8 code, .int .u8 id, .string d]] w fun e w' => e = .returned (.tuple #[.slice none 0 0, .int .i64 0]) ∧ Below w.heap.size w w' := by
  go_enter Try.func50, Try.ntmps50
  go_wp2
  go_ret2
  exact ⟨rfl, (Below.refl _ _).alloc (Nat.le_refl _) _⟩
theorem But.mk_alloc (B : Nat) (w : World) (o : Obj) : But B w (w.alloc o) := (But.refl B w).alloc o
theorem reply_none (s : Ech) (B : Nat) (code id : Int) (d : ByteArray) (w : World) (h : IsEch w B s) (hn : s.sent = 0 ∨ id ≠ s.sent % 256) :
    Calls Try.prog 49 #[.pointer (some ⟨B, 0, none⟩), .agg #[.int .u8 code, .int .u8 id, .string d]] w fun e w' => e = .returned (.tuple #[.slice none 0 0, .int .i64 3]) ∧ But B w w' ∧ IsEch w' B s := by
  have hT := h.alloc (.cells #[.int .u8 code, .int .u8 id, .string d] 48)
  have hB := But.mk_alloc B w (.cells #[.int .u8 code, .int .u8 id, .string d] 48)
  have hP : IsPkt (w.alloc (.cells #[.int .u8 code, .int .u8 id, .string d] 48)) w.heap.size code id d := alloc_new _ _ _ rfl
  generalize hg : w.heap.size = g at hP
  by_cases h0 : s.sent = 0
  · have hd0 : (s.sent == 0) = true := by simpa using h0
    go_enter Try.func49, Try.ntmps49
    go_wp2
    generalize w.alloc (.cells #[.int .u8 code, .int .u8 id, .string d] 48) = w1 at *
    clear h hg hn
    have q5 := hT.reads.sent
    rw [h0] at q5
    go_quiet (fail)
    go_wp2
    go_ret2
    exact ⟨rfl, hB.drewN _, hT.drewN _⟩
  · have hd0 : (s.sent == 0) = false := by simpa using h0
    have hd1 : (id != s.sent % 256) = true := by rcases hn with hn | hn; exact absurd hn h0; simpa using hn
    go_enter Try.func49, Try.ntmps49
    go_wp2
    generalize w.alloc (.cells #[.int .u8 code, .int .u8 id, .string d] 48) = w1 at *
    clear h hg hn
    have q5 := hT.reads.sent
    have p1 := hP.c1
    go_quiet (fail)
    go_wp2
    go_ret2
    exact ⟨rfl, hB.drewN _, hT.drewN _⟩
theorem reply_ok (s : Ech) (B : Nat) (code : Int) (d : ByteArray) (w : World) (h : IsEch w B s) (h0 : s.sent ≠ 0) :
    Calls Try.prog 49 #[.pointer (some ⟨B, 0, none⟩), .agg #[.int .u8 code, .int .u8 (s.sent % 256), .string d]] w fun e w' => e = .returned (.tuple #[.slice none 0 0, .int .i64 0]) ∧ But B w w' ∧ IsEch w' B { s with missed := 0 } := by
  have hT := h.alloc (.cells #[.int .u8 code, .int .u8 (s.sent % 256), .string d] 48)
  have hB := But.mk_alloc B w (.cells #[.int .u8 code, .int .u8 (s.sent % 256), .string d] 48)
  have hP : IsPkt (w.alloc (.cells #[.int .u8 code, .int .u8 (s.sent % 256), .string d] 48)) w.heap.size code (s.sent % 256) d := alloc_new _ _ _ rfl
  generalize hg : w.heap.size = g at hP
  have hd0 : (s.sent == 0) = false := by simpa using h0
  go_enter Try.func49, Try.ntmps49
  go_wp2
  generalize w.alloc (.cells #[.int .u8 code, .int .u8 (s.sent % 256), .string d] 48) = w1 at *
  clear h hg
  have q5 := hT.reads.sent
  have p1 := hP.c1
  go_quiet (fail)
  have hT2 := hT.drewN nq
  have hB2 := hB.drewN nq
  clear hT hB q5 p1 hP
  generalize w1.drewN nq = w2 at *
  have g0 := hT2.frozen
  have q6 := hT2.reads.missed
  go_wp2
  go_ret2
  exact ⟨rfl, hB2.set _ _, hT2.setMissed _⟩
theorem request_calls (s : Ech) (hm : s.magic < 4294967296) (B : Nat) (code id : Int) (d : ByteArray) (hd : 4 ≤ d.size) (hd2 : d.size ≤ 1000000) (w : World) (h : IsEch w B s) :
    Calls Try.prog 48 #[.pointer (some ⟨B, 0, none⟩), .agg #[.int .u8 code, .int .u8 id, .string d]] w fun e w' => ∃ g, w.heap.size ≤ g ∧ e = .returned (.tuple #[.slice (some ⟨g, 0, none⟩) 1 1, .int .i64 0]) ∧
      w'.heap[g]? = some (.cells #[.int .u8 10, .int .u8 id, .string (oct s.magic ++ d.extract 4 d.size)] 48 (0, 0)) ∧ But B w w' ∧ IsEch w' B s := by
  have hT := h.alloc (.cells #[.int .u8 code, .int .u8 id, .string d] 48)
  have hB := But.mk_alloc B w (.cells #[.int .u8 code, .int .u8 id, .string d] 48)
  have hP : IsPkt (w.alloc (.cells #[.int .u8 code, .int .u8 id, .string d] 48)) w.heap.size code id d := alloc_new _ _ _ rfl
  generalize hg : w.heap.size = g at hP
  have h4 : (4 : Int) ≤ (d.size : Int) := by omega
  have hsz : ¬ (9223372036854775807 < (oct s.magic).size + (d.size - 4)) := by rw [show (oct s.magic).size = 4 from rfl]; omega
  go_enter Try.func48, Try.ntmps48
  go_wp2
  generalize w.alloc (.cells #[.int .u8 code, .int .u8 id, .string d] 48) = w1 at *
  clear h
  have hTd : IsEch w1.drew B s := hT
  have hPd : IsPkt w1.drew g code id d := hP
  have hBd := hB.drew
  clear hT hP hB
  have p1 := hPd.c1
  have p2 := hPd.c2
  refine start_ (n := 12) (S := fun W' => IsEch W' B s ∧ IsPkt W' g code id d ∧ W'.cell? ⟨g, 1, none⟩ = some (.int .u8 id) ∧ W'.cell? ⟨g, 2, none⟩ = some (.string d)) (ds := []) (#[false, false, false, false, false, false, false, false, false, false, false, false]) (by kernel_rfl) rfl rfl (⟨hTd, hPd, p1, p2⟩) (fun hS => ?_)
  refine take_ (i := 0) (N := some 6) (v := ?_) (a' := ?_) #[true, false, false, false, false, false, false, false, false, false, false, false] rfl rfl (by kernel_rfl) (fun _ _ _ h => h) (.inl ⟨by rfl, fun w' hS' => ?_⟩) hS ?_ ?_
  rotate_left
  · obtain ⟨hI', hJ', p1', p2'⟩ := hS'
    go_simp
    with_reducible rfl
  rotate_left
  · simp only [Act.put, List.setIfInBounds_toArray, List.set_cons_zero, List.set_cons_succ]
    rfl
  refine take_ (i := 1) (N := some 7) (v := ?_) (a' := ?_) #[true, true, false, false, false, false, false, false, false, false, false, false] rfl rfl (by kernel_rfl) (fun _ _ _ h => h) (.inl ⟨by rfl, fun w' hS' => ?_⟩) hS ?_ ?_
  rotate_left
  · obtain ⟨hI', hJ', p1', p2'⟩ := hS'
    go_simp
    with_reducible rfl
  rotate_left
  · simp only [Act.put, List.setIfInBounds_toArray, List.set_cons_zero, List.set_cons_succ]
    rfl
  refine take_ (i := 2) (N := some 8) (v := ?_) (a' := ?_) #[true, true, true, false, false, false, false, false, false, false, false, false] rfl rfl (by kernel_rfl) (fun _ _ _ h => h) (.inl ⟨by rfl, fun w' hS' => ?_⟩) hS ?_ ?_
  rotate_left
  · obtain ⟨hI', hJ', p1', p2'⟩ := hS'
    go_simp
    with_reducible rfl
  rotate_left
  · simp only [Act.put, List.setIfInBounds_toArray, List.set_cons_zero, List.set_cons_succ]
    rfl
  refine take_ (i := 4) (N := some 10) (v := ?_) (a' := ?_) #[true, true, true, false, true, false, false, false, false, false, false, false] rfl rfl (by kernel_rfl) (fun _ _ _ h => h) (.inl ⟨by rfl, fun w' hS' => ?_⟩) hS ?_ ?_
  rotate_left
  · obtain ⟨hI', hJ', p1', p2'⟩ := hS'
    go_simp
    with_reducible rfl
  rotate_left
  · simp only [Act.put, List.setIfInBounds_toArray, List.set_cons_zero, List.set_cons_succ]
    rfl
  refine take_ (i := 5) (N := some 11) (v := ?_) (a' := ?_) #[true, true, true, false, true, true, false, false, false, false, false, false] rfl rfl (by kernel_rfl) (fun _ _ _ h => h) (.inl ⟨by rfl, fun w' hS' => ?_⟩) hS ?_ ?_
  rotate_left
  · obtain ⟨hI', hJ', p1', p2'⟩ := hS'
    go_simp
    with_reducible rfl
  rotate_left
  · simp only [Act.put, List.setIfInBounds_toArray, List.set_cons_zero, List.set_cons_succ]
    rfl
  refine take_ (i := 6) (N := some 12) (v := ?_) (a' := ?_) #[true, true, true, false, true, true, true, false, false, false, false, false] rfl rfl (by kernel_rfl) (fun _ _ _ h => h) (.inl ⟨by rfl, fun w' hS' => ?_⟩) hS ?_ ?_
  rotate_left
  · obtain ⟨hI', hJ', p1', p2'⟩ := hS'
    go_simp
    with_reducible rfl
  rotate_left
  · simp only [Act.put, List.setIfInBounds_toArray, List.set_cons_zero, List.set_cons_succ]
    rfl
  refine wpAnyLast_all (rs := [3]) (by kernel_rfl) (by simp) ?_
  intro i hi'
  obtain rfl := List.mem_singleton.1 hi'
  refine wpOp_step rfl (fun K' hK => ?_)
  go_simp
  go_at_call 47
  with_reducible refine (own_calls s hm B _ hTd.reads).mono ?_
  rintro e w4 ⟨rfl, hb4⟩
  refine hK _ _ ⟨fun _ h => ⟨h.1.below hb4, h.2.1.below hb4, (h.2.1.below hb4).c1, (h.2.1.below hb4).c2⟩, ?_⟩
  clear hK K'
  simp only [Act.put, List.setIfInBounds_toArray, List.set_cons_zero, List.set_cons_succ]
  refine wpAnyLast_all (rs := [7]) (by kernel_rfl) (by simp) ?_
  intro i hi'
  obtain rfl := List.mem_singleton.1 hi'
  refine wpOp_step rfl (fun K' hK => ?_)
  go_simp
  refine hK _ _ ⟨fun _ h => h, ?_⟩
  clear hK K'
  simp only [Act.put, List.setIfInBounds_toArray, List.set_cons_zero, List.set_cons_succ]
  refine wpAnyLast_all (rs := [8]) (by kernel_rfl) (by simp) ?_
  intro i hi'
  obtain rfl := List.mem_singleton.1 hi'
  refine wpOp_step rfl (fun K' hK => ?_)
  go_simp
  refine hK _ _ ⟨fun _ h => h, ?_⟩
  clear hK K'
  simp only [Act.put, List.setIfInBounds_toArray, List.set_cons_zero, List.set_cons_succ]
  refine wpAnyLast_all (rs := [9]) (by kernel_rfl) (by simp) ?_
  intro i hi'
  obtain rfl := List.mem_singleton.1 hi'
  refine wpOp_step rfl (fun K' hK => ?_)
  go_simp
  refine hK _ _ ⟨fun _ h => ⟨h.1.alloc _, h.2.1.alloc _, (h.2.1.alloc _).c1, (h.2.1.alloc _).c2⟩, ?_⟩
  clear hK K'
  simp only [Act.put, List.setIfInBounds_toArray, List.set_cons_zero, List.set_cons_succ]
  refine wpAnyLast_all (rs := [10]) (by kernel_rfl) (by simp) ?_
  intro i hi'
  obtain rfl := List.mem_singleton.1 hi'
  refine wpOp_step rfl (fun K' hK => ?_)
  go_simp
  refine hK _ _ ⟨fun _ h => h, ?_⟩
  clear hK K'
  simp only [Act.put, List.setIfInBounds_toArray, List.set_cons_zero, List.set_cons_succ]
  refine wpAnyLast_all (rs := [11]) (by kernel_rfl) (by simp) ?_
  intro i hi'
  obtain rfl := List.mem_singleton.1 hi'
  refine wpOp_step rfl (fun K' hK => ?_)
  go_simp
  refine hK _ _ ⟨fun _ h => h, ?_⟩
  clear hK K'
  simp only [Act.put, List.setIfInBounds_toArray, List.set_cons_zero, List.set_cons_succ]
  refine wpAnyLast_done (by kernel_rfl) ?_ _
  go_wp2
  go_ret2
  exact ⟨w4.heap.size, by rw [← hg]; exact Nat.le_trans hBd.size hb4.size, rfl, alloc_new _ _ _ rfl, (hBd.trans_below hb4).alloc _, (IsEch.below hTd hb4).alloc _⟩
end Go.Proofs.Ythenjbonncbniaa
