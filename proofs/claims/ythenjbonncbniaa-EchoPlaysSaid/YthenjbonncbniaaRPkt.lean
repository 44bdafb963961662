/-
  Layer 17 (echo): the document's answer, walked: Packet.
-/
import Derived.Test.YthenjbonncbniaaRef17
set_option linter.unusedVariables false
set_option linter.unusedSimpArgs false
namespace Go.Proofs.Ythenjbonncbniaa
open Go.RowKit Go.Proofs.YthenjbonncbniaaW.PrintWords Go.Proofs.YthenjbonncbniaaW.PrintLast

theorem rpkt_type (s : Ech) (B : Nat) (code id : Int) (d : ByteArray) (w : World) (h : IsRef w B s) (hc : ¬ (code = 9 ∨ code = 10 ∨ code = 11)) :
    Calls Try.prog 30 #[.pointer (some ⟨B, 0, none⟩), .agg #[.int .u8 code, .int .u8 id, .string d]] w fun e w' => e = .returned (.tuple #[.slice none 0 0, .int .i64 8]) ∧ But B w w' ∧ IsRef w' B s := by
  have n9 : (code != 9) = true := by simp; omega
  have n10 : (code != 10) = true := by simp; omega
  have n11 : (code != 11) = true := by simp; omega
  have q2w := h.reads.magic
  have hT := h.alloc (.cells #[.int .u8 code, .int .u8 id, .string d] 48)
  have hB := But.mk_alloc B w (.cells #[.int .u8 code, .int .u8 id, .string d] 48)
  have hP := pkt_new w code id d
  have q2v := hT.reads.magic
  go_enter Try.func30, Try.ntmps30
  go_wp2
  go_ret2
  exact ⟨rfl, hB, hT⟩
theorem rpkt_short9 (s : Ech) (B : Nat) (id : Int) (d : ByteArray) (w : World) (h : IsRef w B s) (hd : d.size < 4) :
    Calls Try.prog 30 #[.pointer (some ⟨B, 0, none⟩), .agg #[.int .u8 9, .int .u8 id, .string d]] w fun e w' => e = .returned (.tuple #[.slice none 0 0, .int .i64 6]) ∧ But B w w' ∧ IsRef w' B s := by
  have hlen : decide ((d.size : Int) < 4) = true := by simp; omega
  have q2w := h.reads.magic
  have hT := h.alloc (.cells #[.int .u8 9, .int .u8 id, .string d] 48)
  have hB := But.mk_alloc B w (.cells #[.int .u8 9, .int .u8 id, .string d] 48)
  have hP := pkt_new w 9 id d
  have q2v := hT.reads.magic
  go_enter Try.func30, Try.ntmps30
  go_wp2
  go_ret2
  exact ⟨rfl, hB, hT⟩
theorem rpkt_short10 (s : Ech) (B : Nat) (id : Int) (d : ByteArray) (w : World) (h : IsRef w B s) (hd : d.size < 4) :
    Calls Try.prog 30 #[.pointer (some ⟨B, 0, none⟩), .agg #[.int .u8 10, .int .u8 id, .string d]] w fun e w' => e = .returned (.tuple #[.slice none 0 0, .int .i64 6]) ∧ But B w w' ∧ IsRef w' B s := by
  have hlen : decide ((d.size : Int) < 4) = true := by simp; omega
  have q2w := h.reads.magic
  have hT := h.alloc (.cells #[.int .u8 10, .int .u8 id, .string d] 48)
  have hB := But.mk_alloc B w (.cells #[.int .u8 10, .int .u8 id, .string d] 48)
  have hP := pkt_new w 10 id d
  have q2v := hT.reads.magic
  go_enter Try.func30, Try.ntmps30
  go_wp2
  go_ret2
  exact ⟨rfl, hB, hT⟩
theorem rpkt_short11 (s : Ech) (B : Nat) (id : Int) (d : ByteArray) (w : World) (h : IsRef w B s) (hd : d.size < 4) :
    Calls Try.prog 30 #[.pointer (some ⟨B, 0, none⟩), .agg #[.int .u8 11, .int .u8 id, .string d]] w fun e w' => e = .returned (.tuple #[.slice none 0 0, .int .i64 6]) ∧ But B w w' ∧ IsRef w' B s := by
  have hlen : decide ((d.size : Int) < 4) = true := by simp; omega
  have q2w := h.reads.magic
  have hT := h.alloc (.cells #[.int .u8 11, .int .u8 id, .string d] 48)
  have hB := But.mk_alloc B w (.cells #[.int .u8 11, .int .u8 id, .string d] 48)
  have hP := pkt_new w 11 id d
  have q2v := hT.reads.magic
  go_enter Try.func30, Try.ntmps30
  go_wp2
  go_ret2
  exact ⟨rfl, hB, hT⟩
set_option maxHeartbeats 2000000 in
theorem rpkt_loop9 (s : Ech) (hm : s.magic < 4294967296) (B : Nat) (id : Int) (d : ByteArray) (hd : 4 ≤ d.size) (w : World) (h : IsRef w B s) (hm0 : s.magic ≠ 0) (heq : d.extract 0 4 = oct s.magic) :
    Calls Try.prog 30 #[.pointer (some ⟨B, 0, none⟩), .agg #[.int .u8 9, .int .u8 id, .string d]] w fun e w' => e = .returned (.tuple #[.slice none 0 0, .int .i64 170]) ∧ But B w w' ∧ IsRef w' B s := by
  have hw64 : IntKind.u64.wrap (s.magic : Int) = (s.magic : Int) := by simp [IntKind.wrap, IntKind.bits, IntKind.signed]; omega
  have hlen : decide ((d.size : Int) < 4) = false := by simp; omega
  have h4 : (4 : Int) ≤ (d.size : Int) := by omega
  have hz : ((s.magic : Int) != 0) = true := by simpa using hm0
  have hq : ((d.extract 0 4).toList == (oct s.magic).toList) = true := by rw [heq]; simp
  have q2w := h.reads.magic
  have hT := h.alloc (.cells #[.int .u8 9, .int .u8 id, .string d] 48)
  have hB := But.mk_alloc B w (.cells #[.int .u8 9, .int .u8 id, .string d] 48)
  have hP := pkt_new w 9 id d
  have q2v := hT.reads.magic
  go_enter Try.func30, Try.ntmps30
  go_wp2_with (first
    | (go_at_call 31; with_reducible refine (num_calls _ hm _).mono ?_; rintro e w2 ⟨rfl, hb2⟩
       have hT2 : IsRef w2 B s := hT.below hb2
       have hP2 : IsPkt w2 w.heap.size 9 id d := hP.below hb2
       have hB2 := hB.trans_below hb2
       clear hT hB hP hb2 q2w q2v
       have q2 := hT2.reads.magic
       have c0 := hP2.c0
       have c1 := hP2.c1
       have c2 := hP2.c2))
  go_ret2
  exact ⟨rfl, hB2, hT2⟩
set_option maxHeartbeats 2000000 in
theorem rpkt_loop10 (s : Ech) (hm : s.magic < 4294967296) (B : Nat) (id : Int) (d : ByteArray) (hd : 4 ≤ d.size) (w : World) (h : IsRef w B s) (hm0 : s.magic ≠ 0) (heq : d.extract 0 4 = oct s.magic) :
    Calls Try.prog 30 #[.pointer (some ⟨B, 0, none⟩), .agg #[.int .u8 10, .int .u8 id, .string d]] w fun e w' => e = .returned (.tuple #[.slice none 0 0, .int .i64 170]) ∧ But B w w' ∧ IsRef w' B s := by
  have hw64 : IntKind.u64.wrap (s.magic : Int) = (s.magic : Int) := by simp [IntKind.wrap, IntKind.bits, IntKind.signed]; omega
  have hlen : decide ((d.size : Int) < 4) = false := by simp; omega
  have h4 : (4 : Int) ≤ (d.size : Int) := by omega
  have hz : ((s.magic : Int) != 0) = true := by simpa using hm0
  have hq : ((d.extract 0 4).toList == (oct s.magic).toList) = true := by rw [heq]; simp
  have q2w := h.reads.magic
  have hT := h.alloc (.cells #[.int .u8 10, .int .u8 id, .string d] 48)
  have hB := But.mk_alloc B w (.cells #[.int .u8 10, .int .u8 id, .string d] 48)
  have hP := pkt_new w 10 id d
  have q2v := hT.reads.magic
  go_enter Try.func30, Try.ntmps30
  go_wp2_with (first
    | (go_at_call 31; with_reducible refine (num_calls _ hm _).mono ?_; rintro e w2 ⟨rfl, hb2⟩
       have hT2 : IsRef w2 B s := hT.below hb2
       have hP2 : IsPkt w2 w.heap.size 10 id d := hP.below hb2
       have hB2 := hB.trans_below hb2
       clear hT hB hP hb2 q2w q2v
       have q2 := hT2.reads.magic
       have c0 := hP2.c0
       have c1 := hP2.c1
       have c2 := hP2.c2))
  go_ret2
  exact ⟨rfl, hB2, hT2⟩
set_option maxHeartbeats 2000000 in
theorem rpkt_loop11 (s : Ech) (hm : s.magic < 4294967296) (B : Nat) (id : Int) (d : ByteArray) (hd : 4 ≤ d.size) (w : World) (h : IsRef w B s) (hm0 : s.magic ≠ 0) (heq : d.extract 0 4 = oct s.magic) :
    Calls Try.prog 30 #[.pointer (some ⟨B, 0, none⟩), .agg #[.int .u8 11, .int .u8 id, .string d]] w fun e w' => e = .returned (.tuple #[.slice none 0 0, .int .i64 170]) ∧ But B w w' ∧ IsRef w' B s := by
  have hw64 : IntKind.u64.wrap (s.magic : Int) = (s.magic : Int) := by simp [IntKind.wrap, IntKind.bits, IntKind.signed]; omega
  have hlen : decide ((d.size : Int) < 4) = false := by simp; omega
  have h4 : (4 : Int) ≤ (d.size : Int) := by omega
  have hz : ((s.magic : Int) != 0) = true := by simpa using hm0
  have hq : ((d.extract 0 4).toList == (oct s.magic).toList) = true := by rw [heq]; simp
  have q2w := h.reads.magic
  have hT := h.alloc (.cells #[.int .u8 11, .int .u8 id, .string d] 48)
  have hB := But.mk_alloc B w (.cells #[.int .u8 11, .int .u8 id, .string d] 48)
  have hP := pkt_new w 11 id d
  have q2v := hT.reads.magic
  go_enter Try.func30, Try.ntmps30
  go_wp2_with (first
    | (go_at_call 31; with_reducible refine (num_calls _ hm _).mono ?_; rintro e w2 ⟨rfl, hb2⟩
       have hT2 : IsRef w2 B s := hT.below hb2
       have hP2 : IsPkt w2 w.heap.size 11 id d := hP.below hb2
       have hB2 := hB.trans_below hb2
       clear hT hB hP hb2 q2w q2v
       have q2 := hT2.reads.magic
       have c0 := hP2.c0
       have c1 := hP2.c1
       have c2 := hP2.c2))
  go_ret2
  exact ⟨rfl, hB2, hT2⟩
set_option maxHeartbeats 4000000 in
theorem rpkt_req0 (s : Ech) (hm : s.magic < 4294967296) (B : Nat) (id : Int) (d : ByteArray) (hd : 4 ≤ d.size) (w : World) (h : IsRef w B s) (hd2 : d.size ≤ 1000000) (hm0 : s.magic = 0) :
    Calls Try.prog 30 #[.pointer (some ⟨B, 0, none⟩), .agg #[.int .u8 9, .int .u8 id, .string d]] w fun e w' => ∃ g, w.heap.size ≤ g ∧ e = .returned (.tuple #[.slice (some ⟨g, 0, none⟩) 1 1, .int .i64 0]) ∧
      w'.heap[g]? = some (.cells #[.int .u8 10, .int .u8 id, .string (oct s.magic ++ d.extract 4 d.size)] 48 (0, 0)) ∧ But B w w' ∧ IsRef w' B s := by
  have hw64 : IntKind.u64.wrap (s.magic : Int) = (s.magic : Int) := by simp [IntKind.wrap, IntKind.bits, IntKind.signed]; omega
  have hlen : decide ((d.size : Int) < 4) = false := by simp; omega
  have h4 : (4 : Int) ≤ (d.size : Int) := by omega
  have H0 := Lib.hid hm0
  clear hm0
  have hsz : ¬ (9223372036854775807 < (oct s.magic).size + (d.size - 4)) := by rw [show (oct s.magic).size = 4 from rfl]; omega
  have q2w := h.reads.magic
  have hT := h.alloc (.cells #[.int .u8 9, .int .u8 id, .string d] 48)
  have hB := But.mk_alloc B w (.cells #[.int .u8 9, .int .u8 id, .string d] 48)
  have hP := pkt_new w 9 id d
  have q2v := hT.reads.magic
  go_enter Try.func30, Try.ntmps30
  go_wp2_with (first
    | (go_at_call 31; with_reducible refine (num_calls _ hm _).mono ?_; rintro e w2 ⟨rfl, hb2⟩
       have hT2 : IsRef w2 B s := hT.below hb2
       have hP2 : IsPkt w2 w.heap.size 9 id d := hP.below hb2
       have hB2 := hB.trans_below hb2
       clear hT hB hP hb2 q2w q2v
       have q2 := hT2.reads.magic
       rw [H0.out] at q2
       have c0 := hP2.c0
       have c1 := hP2.c1
       have c2 := hP2.c2))
  have hTd : IsRef w2.drew B s := hT2
  have hPd : IsPkt w2.drew w.heap.size 9 id d := hP2
  have hBd := hB2.drew
  clear hT2 hP2 hB2 c0
  refine start_ (n := 11) (S := fun W' => IsRef W' B s ∧ W'.cell? ⟨w.heap.size, 1, none⟩ = some (.int .u8 id) ∧ W'.cell? ⟨w.heap.size, 2, none⟩ = some (.string d)) (ds := [8]) (#[false, false, false, false, false, false, false, false, false, false, false]) (by kernel_rfl) rfl rfl (⟨hTd, hPd.c1, hPd.c2⟩) (fun hS => ?_)
  refine take_ (i := 0) (N := some 45) (v := ?_) (a' := ?_) #[true, false, false, false, false, false, false, false, false, false, false] rfl rfl (by kernel_rfl) (fun _ _ _ h => h) (.inl ⟨by rfl, fun w' hS' => ?_⟩) hS ?_ ?_
  rotate_left
  · obtain ⟨hI', p1', p2'⟩ := hS'
    go_simp
    with_reducible rfl
  rotate_left
  · simp only [Act.put, List.setIfInBounds_toArray, List.set_cons_zero, List.set_cons_succ]
    rfl
  refine take_ (i := 1) (N := some 46) (v := ?_) (a' := ?_) #[true, true, false, false, false, false, false, false, false, false, false] rfl rfl (by kernel_rfl) (fun _ _ _ h => h) (.inl ⟨by rfl, fun w' hS' => ?_⟩) hS ?_ ?_
  rotate_left
  · obtain ⟨hI', p1', p2'⟩ := hS'
    go_simp
    with_reducible rfl
  rotate_left
  · simp only [Act.put, List.setIfInBounds_toArray, List.set_cons_zero, List.set_cons_succ]
    rfl
  refine take_ (i := 2) (N := some 47) (v := ?_) (a' := ?_) #[true, true, true, false, false, false, false, false, false, false, false] rfl rfl (by kernel_rfl) (fun _ _ _ h => h) (.inl ⟨by rfl, fun w' hS' => ?_⟩) hS ?_ ?_
  rotate_left
  · obtain ⟨hI', p1', p2'⟩ := hS'
    go_simp
    with_reducible rfl
  rotate_left
  · simp only [Act.put, List.setIfInBounds_toArray, List.set_cons_zero, List.set_cons_succ]
    rfl
  refine take_ (i := 3) (N := some 48) (v := ?_) (a' := ?_) #[true, true, true, true, false, false, false, false, false, false, false] rfl rfl (by kernel_rfl) (fun _ _ _ h => h) (.inl ⟨by rfl, fun w' hS' => ?_⟩) hS ?_ ?_
  rotate_left
  · obtain ⟨hI', p1', p2'⟩ := hS'
    go_simp
    with_reducible rfl
  rotate_left
  · simp only [Act.put, List.setIfInBounds_toArray, List.set_cons_zero, List.set_cons_succ]
    rfl
  refine take_ (i := 4) (N := some 49) (v := ?_) (a' := ?_) #[true, true, true, true, true, false, false, false, false, false, false] rfl rfl (by kernel_rfl) (fun _ _ _ h => h) (.inl ⟨by rfl, fun w' hS' => ?_⟩) hS ?_ ?_
  rotate_left
  · obtain ⟨hI', p1', p2'⟩ := hS'
    go_simp
    with_reducible rfl
  rotate_left
  · simp only [Act.put, List.setIfInBounds_toArray, List.set_cons_zero, List.set_cons_succ]
    rfl
  refine take_ (i := 5) (N := some 50) (v := ?_) (a' := ?_) #[true, true, true, true, true, true, false, false, false, false, false] rfl rfl (by kernel_rfl) (fun _ _ _ h => h) (.inl ⟨by rfl, fun w' hS' => ?_⟩) hS ?_ ?_
  rotate_left
  · obtain ⟨hI', p1', p2'⟩ := hS'
    go_simp
    with_reducible rfl
  rotate_left
  · simp only [Act.put, List.setIfInBounds_toArray, List.set_cons_zero, List.set_cons_succ]
    rfl
  refine take_ (i := 6) (N := some 51) (v := ?_) (a' := ?_) #[true, true, true, true, true, true, true, false, false, false, false] rfl rfl (by kernel_rfl) (fun _ _ _ h => h) (.inl ⟨by rfl, fun w' hS' => ?_⟩) hS ?_ ?_
  rotate_left
  · obtain ⟨hI', p1', p2'⟩ := hS'
    go_simp
    with_reducible rfl
  rotate_left
  · simp only [Act.put, List.setIfInBounds_toArray, List.set_cons_zero, List.set_cons_succ]
    rfl
  refine take_ (i := 7) (N := some 52) (v := ?_) (a' := ?_) #[true, true, true, true, true, true, true, true, false, false, false] rfl rfl (by kernel_rfl) (fun _ _ _ h => h) (.inl ⟨by rfl, fun w' hS' => ?_⟩) hS ?_ ?_
  rotate_left
  · obtain ⟨hI', p1', p2'⟩ := hS'
    go_simp
    with_reducible rfl
  rotate_left
  · simp only [Act.put, List.setIfInBounds_toArray, List.set_cons_zero, List.set_cons_succ]
    rfl
  refine wpAnyLast_all (rs := [8]) (by kernel_rfl) (by simp) ?_
  intro i hi'
  obtain rfl := List.mem_singleton.1 hi'
  refine wpOp_step rfl (fun K' hK => ?_)
  go_simp
  refine hK _ _ ⟨fun h => by simp at h, ?_⟩
  clear hK K'
  simp only [Act.put, List.setIfInBounds_toArray, List.set_cons_zero, List.set_cons_succ]
  refine wpAnyLast_all (rs := [9]) (by kernel_rfl) (by simp) ?_
  intro i hi'
  obtain rfl := List.mem_singleton.1 hi'
  refine wpOp_step rfl (fun K' hK => ?_)
  go_simp
  refine hK _ _ ⟨fun _ h => h, ?_⟩
  clear hK K'
  simp only [Act.put, List.setIfInBounds_toArray, List.set_cons_zero, List.set_cons_succ]
  refine wpAnyLast_all (rs := [10]) (by kernel_rfl) (by simp) ?_
  intro i hi'
  obtain rfl := List.mem_singleton.1 hi'
  refine wpOp_step rfl (fun K' hK => ?_)
  go_simp
  refine hK _ _ ⟨fun _ h => h, ?_⟩
  clear hK K'
  simp only [Act.put, List.setIfInBounds_toArray, List.set_cons_zero, List.set_cons_succ]
  refine wpAnyLast_done (by kernel_rfl) ?_ _
  go_wp2
  go_ret2
  exact ⟨w2.heap.size, by have := hBd.size; exact this, rfl, alloc_new _ _ _ rfl, hBd.alloc _, hTd.alloc _⟩
set_option maxHeartbeats 4000000 in
theorem rpkt_req1 (s : Ech) (hm : s.magic < 4294967296) (B : Nat) (id : Int) (d : ByteArray) (hd : 4 ≤ d.size) (w : World) (h : IsRef w B s) (hd2 : d.size ≤ 1000000) (hm0 : s.magic ≠ 0) (hne : d.extract 0 4 ≠ oct s.magic) :
    Calls Try.prog 30 #[.pointer (some ⟨B, 0, none⟩), .agg #[.int .u8 9, .int .u8 id, .string d]] w fun e w' => ∃ g, w.heap.size ≤ g ∧ e = .returned (.tuple #[.slice (some ⟨g, 0, none⟩) 1 1, .int .i64 0]) ∧
      w'.heap[g]? = some (.cells #[.int .u8 10, .int .u8 id, .string (oct s.magic ++ d.extract 4 d.size)] 48 (0, 0)) ∧ But B w w' ∧ IsRef w' B s := by
  have hw64 : IntKind.u64.wrap (s.magic : Int) = (s.magic : Int) := by simp [IntKind.wrap, IntKind.bits, IntKind.signed]; omega
  have hlen : decide ((d.size : Int) < 4) = false := by simp; omega
  have h4 : (4 : Int) ≤ (d.size : Int) := by omega
  have hz : ((s.magic : Int) != 0) = true := by simpa using hm0
  have hq := str_ne hne
  have hsz : ¬ (9223372036854775807 < (oct s.magic).size + (d.size - 4)) := by rw [show (oct s.magic).size = 4 from rfl]; omega
  have q2w := h.reads.magic
  have hT := h.alloc (.cells #[.int .u8 9, .int .u8 id, .string d] 48)
  have hB := But.mk_alloc B w (.cells #[.int .u8 9, .int .u8 id, .string d] 48)
  have hP := pkt_new w 9 id d
  have q2v := hT.reads.magic
  go_enter Try.func30, Try.ntmps30
  go_wp2_with (first
    | (go_at_call 31; with_reducible refine (num_calls _ hm _).mono ?_; rintro e w2 ⟨rfl, hb2⟩
       have hT2 : IsRef w2 B s := hT.below hb2
       have hP2 : IsPkt w2 w.heap.size 9 id d := hP.below hb2
       have hB2 := hB.trans_below hb2
       clear hT hB hP hb2 q2w q2v
       have q2 := hT2.reads.magic
       have c0 := hP2.c0
       have c1 := hP2.c1
       have c2 := hP2.c2))
  have hTd : IsRef w2.drew B s := hT2
  have hPd : IsPkt w2.drew w.heap.size 9 id d := hP2
  have hBd := hB2.drew
  clear hT2 hP2 hB2 c0
  refine start_ (n := 11) (S := fun W' => IsRef W' B s ∧ W'.cell? ⟨w.heap.size, 1, none⟩ = some (.int .u8 id) ∧ W'.cell? ⟨w.heap.size, 2, none⟩ = some (.string d)) (ds := [8]) (#[false, false, false, false, false, false, false, false, false, false, false]) (by kernel_rfl) rfl rfl (⟨hTd, hPd.c1, hPd.c2⟩) (fun hS => ?_)
  refine take_ (i := 0) (N := some 45) (v := ?_) (a' := ?_) #[true, false, false, false, false, false, false, false, false, false, false] rfl rfl (by kernel_rfl) (fun _ _ _ h => h) (.inl ⟨by rfl, fun w' hS' => ?_⟩) hS ?_ ?_
  rotate_left
  · obtain ⟨hI', p1', p2'⟩ := hS'
    go_simp
    with_reducible rfl
  rotate_left
  · simp only [Act.put, List.setIfInBounds_toArray, List.set_cons_zero, List.set_cons_succ]
    rfl
  refine take_ (i := 1) (N := some 46) (v := ?_) (a' := ?_) #[true, true, false, false, false, false, false, false, false, false, false] rfl rfl (by kernel_rfl) (fun _ _ _ h => h) (.inl ⟨by rfl, fun w' hS' => ?_⟩) hS ?_ ?_
  rotate_left
  · obtain ⟨hI', p1', p2'⟩ := hS'
    go_simp
    with_reducible rfl
  rotate_left
  · simp only [Act.put, List.setIfInBounds_toArray, List.set_cons_zero, List.set_cons_succ]
    rfl
  refine take_ (i := 2) (N := some 47) (v := ?_) (a' := ?_) #[true, true, true, false, false, false, false, false, false, false, false] rfl rfl (by kernel_rfl) (fun _ _ _ h => h) (.inl ⟨by rfl, fun w' hS' => ?_⟩) hS ?_ ?_
  rotate_left
  · obtain ⟨hI', p1', p2'⟩ := hS'
    go_simp
    with_reducible rfl
  rotate_left
  · simp only [Act.put, List.setIfInBounds_toArray, List.set_cons_zero, List.set_cons_succ]
    rfl
  refine take_ (i := 3) (N := some 48) (v := ?_) (a' := ?_) #[true, true, true, true, false, false, false, false, false, false, false] rfl rfl (by kernel_rfl) (fun _ _ _ h => h) (.inl ⟨by rfl, fun w' hS' => ?_⟩) hS ?_ ?_
  rotate_left
  · obtain ⟨hI', p1', p2'⟩ := hS'
    go_simp
    with_reducible rfl
  rotate_left
  · simp only [Act.put, List.setIfInBounds_toArray, List.set_cons_zero, List.set_cons_succ]
    rfl
  refine take_ (i := 4) (N := some 49) (v := ?_) (a' := ?_) #[true, true, true, true, true, false, false, false, false, false, false] rfl rfl (by kernel_rfl) (fun _ _ _ h => h) (.inl ⟨by rfl, fun w' hS' => ?_⟩) hS ?_ ?_
  rotate_left
  · obtain ⟨hI', p1', p2'⟩ := hS'
    go_simp
    with_reducible rfl
  rotate_left
  · simp only [Act.put, List.setIfInBounds_toArray, List.set_cons_zero, List.set_cons_succ]
    rfl
  refine take_ (i := 5) (N := some 50) (v := ?_) (a' := ?_) #[true, true, true, true, true, true, false, false, false, false, false] rfl rfl (by kernel_rfl) (fun _ _ _ h => h) (.inl ⟨by rfl, fun w' hS' => ?_⟩) hS ?_ ?_
  rotate_left
  · obtain ⟨hI', p1', p2'⟩ := hS'
    go_simp
    with_reducible rfl
  rotate_left
  · simp only [Act.put, List.setIfInBounds_toArray, List.set_cons_zero, List.set_cons_succ]
    rfl
  refine take_ (i := 6) (N := some 51) (v := ?_) (a' := ?_) #[true, true, true, true, true, true, true, false, false, false, false] rfl rfl (by kernel_rfl) (fun _ _ _ h => h) (.inl ⟨by rfl, fun w' hS' => ?_⟩) hS ?_ ?_
  rotate_left
  · obtain ⟨hI', p1', p2'⟩ := hS'
    go_simp
    with_reducible rfl
  rotate_left
  · simp only [Act.put, List.setIfInBounds_toArray, List.set_cons_zero, List.set_cons_succ]
    rfl
  refine take_ (i := 7) (N := some 52) (v := ?_) (a' := ?_) #[true, true, true, true, true, true, true, true, false, false, false] rfl rfl (by kernel_rfl) (fun _ _ _ h => h) (.inl ⟨by rfl, fun w' hS' => ?_⟩) hS ?_ ?_
  rotate_left
  · obtain ⟨hI', p1', p2'⟩ := hS'
    go_simp
    with_reducible rfl
  rotate_left
  · simp only [Act.put, List.setIfInBounds_toArray, List.set_cons_zero, List.set_cons_succ]
    rfl
  refine wpAnyLast_all (rs := [8]) (by kernel_rfl) (by simp) ?_
  intro i hi'
  obtain rfl := List.mem_singleton.1 hi'
  refine wpOp_step rfl (fun K' hK => ?_)
  go_simp
  refine hK _ _ ⟨fun h => by simp at h, ?_⟩
  clear hK K'
  simp only [Act.put, List.setIfInBounds_toArray, List.set_cons_zero, List.set_cons_succ]
  refine wpAnyLast_all (rs := [9]) (by kernel_rfl) (by simp) ?_
  intro i hi'
  obtain rfl := List.mem_singleton.1 hi'
  refine wpOp_step rfl (fun K' hK => ?_)
  go_simp
  refine hK _ _ ⟨fun _ h => h, ?_⟩
  clear hK K'
  simp only [Act.put, List.setIfInBounds_toArray, List.set_cons_zero, List.set_cons_succ]
  refine wpAnyLast_all (rs := [10]) (by kernel_rfl) (by simp) ?_
  intro i hi'
  obtain rfl := List.mem_singleton.1 hi'
  refine wpOp_step rfl (fun K' hK => ?_)
  go_simp
  refine hK _ _ ⟨fun _ h => h, ?_⟩
  clear hK K'
  simp only [Act.put, List.setIfInBounds_toArray, List.set_cons_zero, List.set_cons_succ]
  refine wpAnyLast_done (by kernel_rfl) ?_ _
  go_wp2
  go_ret2
  exact ⟨w2.heap.size, by have := hBd.size; exact this, rfl, alloc_new _ _ _ rfl, hBd.alloc _, hTd.alloc _⟩
set_option maxHeartbeats 4000000 in
theorem rpkt_dis0 (s : Ech) (hm : s.magic < 4294967296) (B : Nat) (id : Int) (d : ByteArray) (hd : 4 ≤ d.size) (w : World) (h : IsRef w B s) (hm0 : s.magic = 0) :
    Calls Try.prog 30 #[.pointer (some ⟨B, 0, none⟩), .agg #[.int .u8 11, .int .u8 id, .string d]] w fun e w' => e = .returned (.tuple #[.slice none 0 0, .int .i64 0]) ∧ But B w w' ∧ IsRef w' B s := by
  have hw64 : IntKind.u64.wrap (s.magic : Int) = (s.magic : Int) := by simp [IntKind.wrap, IntKind.bits, IntKind.signed]; omega
  have hlen : decide ((d.size : Int) < 4) = false := by simp; omega
  have h4 : (4 : Int) ≤ (d.size : Int) := by omega
  have H0 := Lib.hid hm0
  clear hm0
  have q2w := h.reads.magic
  have hT := h.alloc (.cells #[.int .u8 11, .int .u8 id, .string d] 48)
  have hB := But.mk_alloc B w (.cells #[.int .u8 11, .int .u8 id, .string d] 48)
  have hP := pkt_new w 11 id d
  have q2v := hT.reads.magic
  go_enter Try.func30, Try.ntmps30
  go_wp2_with (first
    | (go_at_call 31; with_reducible refine (num_calls _ hm _).mono ?_; rintro e w2 ⟨rfl, hb2⟩
       have hT2 : IsRef w2 B s := hT.below hb2
       have hP2 : IsPkt w2 w.heap.size 11 id d := hP.below hb2
       have hB2 := hB.trans_below hb2
       clear hT hB hP hb2 q2w q2v
       have q2 := hT2.reads.magic
       rw [H0.out] at q2
       have c0 := hP2.c0
       have c1 := hP2.c1
       have c2 := hP2.c2))
  go_ret2
  exact ⟨rfl, hB2, hT2⟩
set_option maxHeartbeats 4000000 in
theorem rpkt_dis1 (s : Ech) (hm : s.magic < 4294967296) (B : Nat) (id : Int) (d : ByteArray) (hd : 4 ≤ d.size) (w : World) (h : IsRef w B s) (hm0 : s.magic ≠ 0) (hne : d.extract 0 4 ≠ oct s.magic) :
    Calls Try.prog 30 #[.pointer (some ⟨B, 0, none⟩), .agg #[.int .u8 11, .int .u8 id, .string d]] w fun e w' => e = .returned (.tuple #[.slice none 0 0, .int .i64 0]) ∧ But B w w' ∧ IsRef w' B s := by
  have hw64 : IntKind.u64.wrap (s.magic : Int) = (s.magic : Int) := by simp [IntKind.wrap, IntKind.bits, IntKind.signed]; omega
  have hlen : decide ((d.size : Int) < 4) = false := by simp; omega
  have h4 : (4 : Int) ≤ (d.size : Int) := by omega
  have hz : ((s.magic : Int) != 0) = true := by simpa using hm0
  have hq := str_ne hne
  have q2w := h.reads.magic
  have hT := h.alloc (.cells #[.int .u8 11, .int .u8 id, .string d] 48)
  have hB := But.mk_alloc B w (.cells #[.int .u8 11, .int .u8 id, .string d] 48)
  have hP := pkt_new w 11 id d
  have q2v := hT.reads.magic
  go_enter Try.func30, Try.ntmps30
  go_wp2_with (first
    | (go_at_call 31; with_reducible refine (num_calls _ hm _).mono ?_; rintro e w2 ⟨rfl, hb2⟩
       have hT2 : IsRef w2 B s := hT.below hb2
       have hP2 : IsPkt w2 w.heap.size 11 id d := hP.below hb2
       have hB2 := hB.trans_below hb2
       clear hT hB hP hb2 q2w q2v
       have q2 := hT2.reads.magic
       have c0 := hP2.c0
       have c1 := hP2.c1
       have c2 := hP2.c2))
  go_ret2
  exact ⟨rfl, hB2, hT2⟩
set_option maxHeartbeats 4000000 in
theorem rpkt_nona0 (s : Ech) (hm : s.magic < 4294967296) (B : Nat) (id : Int) (d : ByteArray) (hd : 4 ≤ d.size) (w : World) (h : IsRef w B s) (h0 : s.sent = 0) (hm0 : s.magic = 0) :
    Calls Try.prog 30 #[.pointer (some ⟨B, 0, none⟩), .agg #[.int .u8 10, .int .u8 id, .string d]] w fun e w' => e = .returned (.tuple #[.slice none 0 0, .int .i64 3]) ∧ But B w w' ∧ IsRef w' B s := by
  have hw64 : IntKind.u64.wrap (s.magic : Int) = (s.magic : Int) := by simp [IntKind.wrap, IntKind.bits, IntKind.signed]; omega
  have hlen : decide ((d.size : Int) < 4) = false := by simp; omega
  have h4 : (4 : Int) ≤ (d.size : Int) := by omega
  have H0 := Lib.hid hm0
  clear hm0
  have hd0 : (s.sent == 0) = true := by simpa using h0
  have q2w := h.reads.magic
  have hT := h.alloc (.cells #[.int .u8 10, .int .u8 id, .string d] 48)
  have hB := But.mk_alloc B w (.cells #[.int .u8 10, .int .u8 id, .string d] 48)
  have hP := pkt_new w 10 id d
  have q2v := hT.reads.magic
  go_enter Try.func30, Try.ntmps30
  go_wp2_with (first
    | (go_at_call 31; with_reducible refine (num_calls _ hm _).mono ?_; rintro e w2 ⟨rfl, hb2⟩
       have hT2 : IsRef w2 B s := hT.below hb2
       have hP2 : IsPkt w2 w.heap.size 10 id d := hP.below hb2
       have hB2 := hB.trans_below hb2
       clear hT hB hP hb2 q2w q2v
       have q2 := hT2.reads.magic
       rw [H0.out] at q2
       have q5 := hT2.reads.sent
       rw [h0] at q5
       have c0 := hP2.c0
       have c1 := hP2.c1
       have c2 := hP2.c2))
  go_quiet (fail)
  go_wp2
  go_ret2
  exact ⟨rfl, hB2.drewN _, hT2.drewN _⟩
set_option maxHeartbeats 4000000 in
theorem rpkt_nona1 (s : Ech) (hm : s.magic < 4294967296) (B : Nat) (id : Int) (d : ByteArray) (hd : 4 ≤ d.size) (w : World) (h : IsRef w B s) (h0 : s.sent = 0) (hm0 : s.magic ≠ 0) (hne : d.extract 0 4 ≠ oct s.magic) :
    Calls Try.prog 30 #[.pointer (some ⟨B, 0, none⟩), .agg #[.int .u8 10, .int .u8 id, .string d]] w fun e w' => e = .returned (.tuple #[.slice none 0 0, .int .i64 3]) ∧ But B w w' ∧ IsRef w' B s := by
  have hw64 : IntKind.u64.wrap (s.magic : Int) = (s.magic : Int) := by simp [IntKind.wrap, IntKind.bits, IntKind.signed]; omega
  have hlen : decide ((d.size : Int) < 4) = false := by simp; omega
  have h4 : (4 : Int) ≤ (d.size : Int) := by omega
  have hz : ((s.magic : Int) != 0) = true := by simpa using hm0
  have hq := str_ne hne
  have hd0 : (s.sent == 0) = true := by simpa using h0
  have q2w := h.reads.magic
  have hT := h.alloc (.cells #[.int .u8 10, .int .u8 id, .string d] 48)
  have hB := But.mk_alloc B w (.cells #[.int .u8 10, .int .u8 id, .string d] 48)
  have hP := pkt_new w 10 id d
  have q2v := hT.reads.magic
  go_enter Try.func30, Try.ntmps30
  go_wp2_with (first
    | (go_at_call 31; with_reducible refine (num_calls _ hm _).mono ?_; rintro e w2 ⟨rfl, hb2⟩
       have hT2 : IsRef w2 B s := hT.below hb2
       have hP2 : IsPkt w2 w.heap.size 10 id d := hP.below hb2
       have hB2 := hB.trans_below hb2
       clear hT hB hP hb2 q2w q2v
       have q2 := hT2.reads.magic
       have q5 := hT2.reads.sent
       rw [h0] at q5
       have c0 := hP2.c0
       have c1 := hP2.c1
       have c2 := hP2.c2))
  go_quiet (fail)
  go_wp2
  go_ret2
  exact ⟨rfl, hB2.drewN _, hT2.drewN _⟩
theorem hs8_ (n : Int) (h : 0 ≤ n) : n.tmod 256 % 256 = n % 256 := by rw [Int.tmod_eq_emod_of_nonneg h]; omega
set_option maxHeartbeats 4000000 in
theorem rpkt_nonb0 (s : Ech) (hm : s.magic < 4294967296) (B : Nat) (id : Int) (d : ByteArray) (hd : 4 ≤ d.size) (w : World) (h : IsRef w B s) (hs : 0 ≤ s.sent) (h0 : s.sent ≠ 0) (hn : id ≠ s.sent % 256) (hm0 : s.magic = 0) :
    Calls Try.prog 30 #[.pointer (some ⟨B, 0, none⟩), .agg #[.int .u8 10, .int .u8 id, .string d]] w fun e w' => e = .returned (.tuple #[.slice none 0 0, .int .i64 3]) ∧ But B w w' ∧ IsRef w' B s := by
  have hw64 : IntKind.u64.wrap (s.magic : Int) = (s.magic : Int) := by simp [IntKind.wrap, IntKind.bits, IntKind.signed]; omega
  have hlen : decide ((d.size : Int) < 4) = false := by simp; omega
  have h4 : (4 : Int) ≤ (d.size : Int) := by omega
  have H0 := Lib.hid hm0
  clear hm0
  have hd0 : (s.sent == 0) = false := by simpa using h0
  have hd1 : (id != s.sent % 256) = true := by simpa using hn
  have hs8 := hs8_ s.sent hs
  have q2w := h.reads.magic
  have hT := h.alloc (.cells #[.int .u8 10, .int .u8 id, .string d] 48)
  have hB := But.mk_alloc B w (.cells #[.int .u8 10, .int .u8 id, .string d] 48)
  have hP := pkt_new w 10 id d
  have q2v := hT.reads.magic
  go_enter Try.func30, Try.ntmps30
  go_wp2_with (first
    | (go_at_call 31; with_reducible refine (num_calls _ hm _).mono ?_; rintro e w2 ⟨rfl, hb2⟩
       have hT2 : IsRef w2 B s := hT.below hb2
       have hP2 : IsPkt w2 w.heap.size 10 id d := hP.below hb2
       have hB2 := hB.trans_below hb2
       clear hT hB hP hb2 q2w q2v
       have q2 := hT2.reads.magic
       rw [H0.out] at q2
       have q5 := hT2.reads.sent
       have c0 := hP2.c0
       have c1 := hP2.c1
       have c2 := hP2.c2))
  go_quiet (fail)
  go_wp2
  go_ret2
  exact ⟨rfl, hB2.drewN _, hT2.drewN _⟩
set_option maxHeartbeats 4000000 in
theorem rpkt_nonb1 (s : Ech) (hm : s.magic < 4294967296) (B : Nat) (id : Int) (d : ByteArray) (hd : 4 ≤ d.size) (w : World) (h : IsRef w B s) (hs : 0 ≤ s.sent) (h0 : s.sent ≠ 0) (hn : id ≠ s.sent % 256) (hm0 : s.magic ≠ 0) (hne : d.extract 0 4 ≠ oct s.magic) :
    Calls Try.prog 30 #[.pointer (some ⟨B, 0, none⟩), .agg #[.int .u8 10, .int .u8 id, .string d]] w fun e w' => e = .returned (.tuple #[.slice none 0 0, .int .i64 3]) ∧ But B w w' ∧ IsRef w' B s := by
  have hw64 : IntKind.u64.wrap (s.magic : Int) = (s.magic : Int) := by simp [IntKind.wrap, IntKind.bits, IntKind.signed]; omega
  have hlen : decide ((d.size : Int) < 4) = false := by simp; omega
  have h4 : (4 : Int) ≤ (d.size : Int) := by omega
  have hz : ((s.magic : Int) != 0) = true := by simpa using hm0
  have hq := str_ne hne
  have hd0 : (s.sent == 0) = false := by simpa using h0
  have hd1 : (id != s.sent % 256) = true := by simpa using hn
  have hs8 := hs8_ s.sent hs
  have q2w := h.reads.magic
  have hT := h.alloc (.cells #[.int .u8 10, .int .u8 id, .string d] 48)
  have hB := But.mk_alloc B w (.cells #[.int .u8 10, .int .u8 id, .string d] 48)
  have hP := pkt_new w 10 id d
  have q2v := hT.reads.magic
  go_enter Try.func30, Try.ntmps30
  go_wp2_with (first
    | (go_at_call 31; with_reducible refine (num_calls _ hm _).mono ?_; rintro e w2 ⟨rfl, hb2⟩
       have hT2 : IsRef w2 B s := hT.below hb2
       have hP2 : IsPkt w2 w.heap.size 10 id d := hP.below hb2
       have hB2 := hB.trans_below hb2
       clear hT hB hP hb2 q2w q2v
       have q2 := hT2.reads.magic
       have q5 := hT2.reads.sent
       have c0 := hP2.c0
       have c1 := hP2.c1
       have c2 := hP2.c2))
  go_quiet (fail)
  go_wp2
  go_ret2
  exact ⟨rfl, hB2.drewN _, hT2.drewN _⟩
set_option maxHeartbeats 4000000 in
theorem rpkt_ok0 (s : Ech) (hm : s.magic < 4294967296) (B : Nat) (d : ByteArray) (hd : 4 ≤ d.size) (w : World) (h : IsRef w B s) (hs : 0 ≤ s.sent) (h0 : s.sent ≠ 0) (hm0 : s.magic = 0) :
    Calls Try.prog 30 #[.pointer (some ⟨B, 0, none⟩), .agg #[.int .u8 10, .int .u8 (s.sent % 256), .string d]] w fun e w' => e = .returned (.tuple #[.slice none 0 0, .int .i64 0]) ∧ But B w w' ∧ IsRef w' B { s with missed := 0 } := by
  have hw64 : IntKind.u64.wrap (s.magic : Int) = (s.magic : Int) := by simp [IntKind.wrap, IntKind.bits, IntKind.signed]; omega
  have hlen : decide ((d.size : Int) < 4) = false := by simp; omega
  have h4 : (4 : Int) ≤ (d.size : Int) := by omega
  have H0 := Lib.hid hm0
  clear hm0
  have hd0 : (s.sent == 0) = false := by simpa using h0
  have hs8 := hs8_ s.sent hs
  have q2w := h.reads.magic
  have hT := h.alloc (.cells #[.int .u8 10, .int .u8 (s.sent % 256), .string d] 48)
  have hB := But.mk_alloc B w (.cells #[.int .u8 10, .int .u8 (s.sent % 256), .string d] 48)
  have hP := pkt_new w 10 (s.sent % 256) d
  have q2v := hT.reads.magic
  go_enter Try.func30, Try.ntmps30
  go_wp2_with (first
    | (go_at_call 31; with_reducible refine (num_calls _ hm _).mono ?_; rintro e w2 ⟨rfl, hb2⟩
       have hT2 : IsRef w2 B s := hT.below hb2
       have hP2 : IsPkt w2 w.heap.size 10 (s.sent % 256) d := hP.below hb2
       have hB2 := hB.trans_below hb2
       clear hT hB hP hb2 q2w q2v
       have q2 := hT2.reads.magic
       rw [H0.out] at q2
       have q5 := hT2.reads.sent
       have c0 := hP2.c0
       have c1 := hP2.c1
       have c2 := hP2.c2))
  go_quiet (fail)
  have hT3 := hT2.drewN nq
  have hB3 := hB2.drewN nq
  clear hT2 hB2 q5 q2 c0 c1 c2 hP2
  generalize w2.drewN nq = w3 at *
  have g0 := hT3.frozen
  have q6 := hT3.reads.missed
  go_wp2
  go_ret2
  exact ⟨rfl, hB3.set _ _, hT3.setMissed _⟩
set_option maxHeartbeats 4000000 in
theorem rpkt_ok1 (s : Ech) (hm : s.magic < 4294967296) (B : Nat) (d : ByteArray) (hd : 4 ≤ d.size) (w : World) (h : IsRef w B s) (hs : 0 ≤ s.sent) (h0 : s.sent ≠ 0) (hm0 : s.magic ≠ 0) (hne : d.extract 0 4 ≠ oct s.magic) :
    Calls Try.prog 30 #[.pointer (some ⟨B, 0, none⟩), .agg #[.int .u8 10, .int .u8 (s.sent % 256), .string d]] w fun e w' => e = .returned (.tuple #[.slice none 0 0, .int .i64 0]) ∧ But B w w' ∧ IsRef w' B { s with missed := 0 } := by
  have hw64 : IntKind.u64.wrap (s.magic : Int) = (s.magic : Int) := by simp [IntKind.wrap, IntKind.bits, IntKind.signed]; omega
  have hlen : decide ((d.size : Int) < 4) = false := by simp; omega
  have h4 : (4 : Int) ≤ (d.size : Int) := by omega
  have hz : ((s.magic : Int) != 0) = true := by simpa using hm0
  have hq := str_ne hne
  have hd0 : (s.sent == 0) = false := by simpa using h0
  have hs8 := hs8_ s.sent hs
  have q2w := h.reads.magic
  have hT := h.alloc (.cells #[.int .u8 10, .int .u8 (s.sent % 256), .string d] 48)
  have hB := But.mk_alloc B w (.cells #[.int .u8 10, .int .u8 (s.sent % 256), .string d] 48)
  have hP := pkt_new w 10 (s.sent % 256) d
  have q2v := hT.reads.magic
  go_enter Try.func30, Try.ntmps30
  go_wp2_with (first
    | (go_at_call 31; with_reducible refine (num_calls _ hm _).mono ?_; rintro e w2 ⟨rfl, hb2⟩
       have hT2 : IsRef w2 B s := hT.below hb2
       have hP2 : IsPkt w2 w.heap.size 10 (s.sent % 256) d := hP.below hb2
       have hB2 := hB.trans_below hb2
       clear hT hB hP hb2 q2w q2v
       have q2 := hT2.reads.magic
       have q5 := hT2.reads.sent
       have c0 := hP2.c0
       have c1 := hP2.c1
       have c2 := hP2.c2))
  go_quiet (fail)
  have hT3 := hT2.drewN nq
  have hB3 := hB2.drewN nq
  clear hT2 hB2 q5 q2 c0 c1 c2 hP2
  generalize w2.drewN nq = w3 at *
  have g0 := hT3.frozen
  have q6 := hT3.reads.missed
  go_wp2
  go_ret2
  exact ⟨rfl, hB3.set _ _, hT3.setMissed _⟩
def RPktPost (s : Ech) (B : Nat) (code id : Int) (d : ByteArray) (w : World) (v : Value) (r : Int) (w' : World) : Prop :=
  (s.pktE code id d = some r ∧ v = .slice none 0 0 ∧ But B w w' ∧ IsRef w' B (s.pktS code id d)) ∨
  (s.pktE code id d = none ∧ r = 0 ∧ (∃ g, w.heap.size ≤ g ∧ v = .slice (some ⟨g, 0, none⟩) 1 1 ∧ w'.heap[g]? = some (.cells #[.int .u8 10, .int .u8 id, .string (oct s.magic ++ d.extract 4 d.size)] 48 (0, 0))) ∧ But B w w' ∧ IsRef w' B s)
theorem rpkt_calls (s : Ech) (hm : s.magic < 4294967296) (hs : 0 ≤ s.sent) (B : Nat) (code id : Int) (d : ByteArray) (hd2 : d.size ≤ 1000000) (w : World) (h : IsRef w B s) :
    Calls Try.prog 30 #[.pointer (some ⟨B, 0, none⟩), .agg #[.int .u8 code, .int .u8 id, .string d]] w fun e w' => ∃ v r, e = .returned (.tuple #[v, .int .i64 r]) ∧ RPktPost s B code id d w v r w' := by
  by_cases hc : code = 9 ∨ code = 10 ∨ code = 11
  · by_cases h4 : d.size < 4
    · have hE : s.pktE code id d = some 6 := by unfold Ech.pktE; rw [if_neg (fun e => e hc), if_pos h4]
      have hS : s.pktS code id d = s := if_neg (by rw [hE]; simp)
      have key : Calls Try.prog 30 #[.pointer (some ⟨B, 0, none⟩), .agg #[.int .u8 code, .int .u8 id, .string d]] w fun e w' => e = .returned (.tuple #[.slice none 0 0, .int .i64 6]) ∧ But B w w' ∧ IsRef w' B s := by
        rcases hc with rfl | rfl | rfl
        · exact rpkt_short9 s B id d w h h4
        · exact rpkt_short10 s B id d w h h4
        · exact rpkt_short11 s B id d w h h4
      refine key.mono ?_
      rintro e w' ⟨rfl, hb, ht⟩
      exact ⟨_, _, rfl, .inl ⟨hE, rfl, hb, by rw [hS]; exact ht⟩⟩
    · have hd : 4 ≤ d.size := by omega
      by_cases hl : s.magic ≠ 0 ∧ d.extract 0 4 = oct s.magic
      · have hE : s.pktE code id d = some 170 := by unfold Ech.pktE; rw [if_neg (fun e => e hc), if_neg h4, if_pos hl]
        have hS : s.pktS code id d = s := if_neg (by rw [hE]; simp)
        have key : Calls Try.prog 30 #[.pointer (some ⟨B, 0, none⟩), .agg #[.int .u8 code, .int .u8 id, .string d]] w fun e w' => e = .returned (.tuple #[.slice none 0 0, .int .i64 170]) ∧ But B w w' ∧ IsRef w' B s := by
          rcases hc with rfl | rfl | rfl
          · exact rpkt_loop9 s hm B id d hd w h hl.1 hl.2
          · exact rpkt_loop10 s hm B id d hd w h hl.1 hl.2
          · exact rpkt_loop11 s hm B id d hd w h hl.1 hl.2
        refine key.mono ?_
        rintro e w' ⟨rfl, hb, ht⟩
        exact ⟨_, _, rfl, .inl ⟨hE, rfl, hb, by rw [hS]; exact ht⟩⟩
      · have hE : s.pktE code id d = if code = 9 then none else if code = 10 then (if s.sent = 0 ∨ id ≠ s.sent % 256 then some 3 else some 0) else some 0 := by unfold Ech.pktE; rw [if_neg (fun e => e hc), if_neg h4, if_neg hl]
        have hne : s.magic ≠ 0 → d.extract 0 4 ≠ oct s.magic := fun a b => hl ⟨a, b⟩
        rcases hc with rfl | rfl | rfl
        · rw [if_pos rfl] at hE
          by_cases hm0 : s.magic = 0
          · refine (rpkt_req0 s hm B id d hd w h hd2 hm0).mono ?_
            rintro e w' ⟨g, hg, rfl, hgc, hb, ht⟩
            exact ⟨_, _, rfl, .inr ⟨hE, rfl, ⟨g, hg, rfl, hgc⟩, hb, ht⟩⟩
          · refine (rpkt_req1 s hm B id d hd w h hd2 hm0 (hne hm0)).mono ?_
            rintro e w' ⟨g, hg, rfl, hgc, hb, ht⟩
            exact ⟨_, _, rfl, .inr ⟨hE, rfl, ⟨g, hg, rfl, hgc⟩, hb, ht⟩⟩
        · rw [if_neg (by decide), if_pos rfl] at hE
          by_cases hn : s.sent = 0 ∨ id ≠ s.sent % 256
          · rw [if_pos hn] at hE
            have hS : s.pktS 10 id d = s := if_neg (by rw [hE]; simp)
            have key : Calls Try.prog 30 #[.pointer (some ⟨B, 0, none⟩), .agg #[.int .u8 10, .int .u8 id, .string d]] w fun e w' => e = .returned (.tuple #[.slice none 0 0, .int .i64 3]) ∧ But B w w' ∧ IsRef w' B s := by
              by_cases h0 : s.sent = 0
              · by_cases hm0 : s.magic = 0
                · exact rpkt_nona0 s hm B id d hd w h h0 hm0
                · exact rpkt_nona1 s hm B id d hd w h h0 hm0 (hne hm0)
              · have hn' : id ≠ s.sent % 256 := by rcases hn with e | e; exact absurd e h0; exact e
                by_cases hm0 : s.magic = 0
                · exact rpkt_nonb0 s hm B id d hd w h hs h0 hn' hm0
                · exact rpkt_nonb1 s hm B id d hd w h hs h0 hn' hm0 (hne hm0)
            refine key.mono ?_
            rintro e w' ⟨rfl, hb, ht⟩
            exact ⟨_, _, rfl, .inl ⟨hE, rfl, hb, by rw [hS]; exact ht⟩⟩
          · rw [if_neg hn] at hE
            have hS : s.pktS 10 id d = { s with missed := 0 } := if_pos ⟨rfl, hE⟩
            have hn1 : s.sent ≠ 0 := fun e => hn (.inl e)
            have hn2 : id = s.sent % 256 := by rcases Decidable.em (id = s.sent % 256) with e | e; exact e; exact absurd (.inr e) hn
            rw [hn2] at hE hS ⊢
            have key : Calls Try.prog 30 #[.pointer (some ⟨B, 0, none⟩), .agg #[.int .u8 10, .int .u8 (s.sent % 256), .string d]] w fun e w' => e = .returned (.tuple #[.slice none 0 0, .int .i64 0]) ∧ But B w w' ∧ IsRef w' B { s with missed := 0 } := by
              by_cases hm0 : s.magic = 0
              · exact rpkt_ok0 s hm B d hd w h hs hn1 hm0
              · exact rpkt_ok1 s hm B d hd w h hs hn1 hm0 (hne hm0)
            refine key.mono ?_
            rintro e w' ⟨rfl, hb, ht⟩
            exact ⟨_, _, rfl, .inl ⟨hE, rfl, hb, by rw [hS]; exact ht⟩⟩
        · rw [if_neg (by decide), if_neg (by decide)] at hE
          have hS : s.pktS 11 id d = s := if_neg (fun e => absurd e.1 (by decide))
          have key : Calls Try.prog 30 #[.pointer (some ⟨B, 0, none⟩), .agg #[.int .u8 11, .int .u8 id, .string d]] w fun e w' => e = .returned (.tuple #[.slice none 0 0, .int .i64 0]) ∧ But B w w' ∧ IsRef w' B s := by
            by_cases hm0 : s.magic = 0
            · exact rpkt_dis0 s hm B id d hd w h hm0
            · exact rpkt_dis1 s hm B id d hd w h hm0 (hne hm0)
          refine key.mono ?_
          rintro e w' ⟨rfl, hb, ht⟩
          exact ⟨_, _, rfl, .inl ⟨hE, rfl, hb, by rw [hS]; exact ht⟩⟩
  · have hE : s.pktE code id d = some 8 := by unfold Ech.pktE; rw [if_pos hc]
    have hS : s.pktS code id d = s := if_neg (by rw [hE]; simp)
    refine (rpkt_type s B code id d w h hc).mono ?_
    rintro e w' ⟨rfl, hb, ht⟩
    exact ⟨_, _, rfl, .inl ⟨hE, rfl, hb, by rw [hS]; exact ht⟩⟩
end Go.Proofs.Ythenjbonncbniaa
