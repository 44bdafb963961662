/-
  Layer 17 (echo): Packet, walked.
-/
import Derived.Test.YthenjbonncbniaaPkt1
set_option linter.unusedVariables false
set_option linter.unusedSimpArgs false
namespace Go.Proofs.Ythenjbonncbniaa
open Go.RowKit Go.Proofs.YthenjbonncbniaaW.PrintWords Go.Proofs.YthenjbonncbniaaW.PrintLast

def fnOf (n B : Nat) : Value := .func (.func n) #[.pointer (some ⟨B, 0, none⟩)] #[]
theorem tup_true (v : Value) : True := trivial
/-- What the first half of Packet leaves: the packet's block, and the methods' map. -/
theorem ahead (s : Ech) (B : Nat) (code id : Int) (d : ByteArray) (w : World) (h : IsEch w B s) : ∃ W1 W2 W3,
    (Instr.mapUpdate 97 (.map (some (w.heap.size + 1))) (.int .u8 9) (fnOf 48 B)).run Try.prog ((w.alloc (.cells #[.int .u8 code, .int .u8 id, .string d] 48)).alloc (.map #[] 0)) = .ok () W1 ∧
    (Instr.mapUpdate 97 (.map (some (w.heap.size + 1))) (.int .u8 10) (fnOf 49 B)).run Try.prog W1 = .ok () W2 ∧
    (Instr.mapUpdate 97 (.map (some (w.heap.size + 1))) (.int .u8 11) (fnOf 50 B)).run Try.prog W2 = .ok () W3 ∧
    (∀ k : Int, (Instr.lookup 97 (.map (some (w.heap.size + 1))) (.int .u8 k) true).run Try.prog W3 = .ok (pick3 (fnOf 48 B) (fnOf 49 B) (fnOf 50 B) k) W3) ∧ But B w W3 ∧ IsEch W3 B s ∧ IsPkt W3 w.heap.size code id d := by
  have hT := h.alloc (.cells #[.int .u8 code, .int .u8 id, .string d] 48)
  have hB := But.mk_alloc B w (.cells #[.int .u8 code, .int .u8 id, .string d] 48)
  have hP : IsPkt (w.alloc (.cells #[.int .u8 code, .int .u8 id, .string d] 48)) w.heap.size code id d := alloc_new _ _ _ rfl
  have hs : (w.alloc (.cells #[.int .u8 code, .int .u8 id, .string d] 48)).heap.size = w.heap.size + 1 := by simp
  obtain ⟨W1, W2, W3, e1, e2, e3, e4, hb⟩ := made3 (w.alloc (.cells #[.int .u8 code, .int .u8 id, .string d] 48)) (fnOf 48 B) (fnOf 49 B) (fnOf 50 B)
  have q1 := hB.trans_below hb
  have q2 := hT.below hb
  have q3 := hP.below hb
  rw [hs] at e1 e2 e3 e4
  exact ⟨W1, W2, W3, e1, e2, e3, e4, q1, q2, q3⟩
set_option maxHeartbeats 2000000 in
theorem pkt_type (s : Ech) (B : Nat) (code id : Int) (d : ByteArray) (w : World) (h : IsEch w B s) (hp : pick3 (fnOf 48 B) (fnOf 49 B) (fnOf 50 B) code = .tuple #[.nilFunc, .bool false]) :
    Calls Try.prog 21 #[.pointer (some ⟨B, 0, none⟩), .agg #[.int .u8 code, .int .u8 id, .string d]] w fun e w' => e = .returned (.tuple #[.slice none 0 0, .int .i64 8]) ∧ But B w w' ∧ IsEch w' B s := by
  obtain ⟨W1, W2, W3, e1, e2, e3, e4, hB, hT, hP⟩ := ahead s B code id d w h
  have e4' := e4 code
  rw [hp] at e4'
  clear e4 hp
  have hmm := @run_makeMap Try.prog
  have hmf : ∀ (fn : Fn) (first cap : Array Value) (w : World), (Instr.makeFunc fn first cap).run Try.prog w = .ok (.func fn first cap) w := fun _ _ _ _ => rfl
  unfold fnOf at e1 e2 e3
  have c0 := hP.c0
  have c1 := hP.c1
  have c2 := hP.c2
  go_enter Try.func21, Try.ntmps21
  go_wp2
  go_ret2
  exact ⟨rfl, hB, hT⟩
set_option maxHeartbeats 2000000 in
theorem pkt_short (s : Ech) (B : Nat) (code id : Int) (d : ByteArray) (w : World) (h : IsEch w B s) (fv : Value) (hp : pick3 (fnOf 48 B) (fnOf 49 B) (fnOf 50 B) code = .tuple #[fv, .bool true]) (hd : d.size < 4) :
    Calls Try.prog 21 #[.pointer (some ⟨B, 0, none⟩), .agg #[.int .u8 code, .int .u8 id, .string d]] w fun e w' => e = .returned (.tuple #[.slice none 0 0, .int .i64 6]) ∧ But B w w' ∧ IsEch w' B s := by
  have hlen : decide ((d.size : Int) < 4) = true := by simp; omega
  obtain ⟨W1, W2, W3, e1, e2, e3, e4, hB, hT, hP⟩ := ahead s B code id d w h
  have e4' := e4 code
  rw [hp] at e4'
  clear e4 hp
  have hmm := @run_makeMap Try.prog
  have hmf : ∀ (fn : Fn) (first cap : Array Value) (w : World), (Instr.makeFunc fn first cap).run Try.prog w = .ok (.func fn first cap) w := fun _ _ _ _ => rfl
  unfold fnOf at e1 e2 e3
  have c0 := hP.c0
  have c1 := hP.c1
  have c2 := hP.c2
  go_enter Try.func21, Try.ntmps21
  go_wp2
  go_ret2
  exact ⟨rfl, hB, hT⟩
set_option maxHeartbeats 4000000 in
theorem pkt_loop (s : Ech) (hm : s.magic < 4294967296) (B : Nat) (code id : Int) (d : ByteArray) (hd : 4 ≤ d.size) (w : World) (h : IsEch w B s) (fv : Value) (hp : pick3 (fnOf 48 B) (fnOf 49 B) (fnOf 50 B) code = .tuple #[fv, .bool true]) (hm0 : s.magic ≠ 0) (heq : d.extract 0 4 = oct s.magic) :
    Calls Try.prog 21 #[.pointer (some ⟨B, 0, none⟩), .agg #[.int .u8 code, .int .u8 id, .string d]] w fun e w' => e = .returned (.tuple #[.slice none 0 0, .int .i64 170]) ∧ But B w w' ∧ IsEch w' B s := by
  have hlen : decide ((d.size : Int) < 4) = false := by simp; omega
  have h4 : (4 : Int) ≤ (d.size : Int) := by omega
  have hz : ((s.magic : Int) != 0) = true := by simpa using hm0
  have hq : ((d.extract 0 4).toList == (oct s.magic).toList) = true := by rw [heq]; simp
  obtain ⟨W1, W2, W3, e1, e2, e3, e4, hB, hT, hP⟩ := ahead s B code id d w h
  have e4' := e4 code
  rw [hp] at e4'
  clear e4 hp
  have hmm := @run_makeMap Try.prog
  have hmf : ∀ (fn : Fn) (first cap : Array Value) (w : World), (Instr.makeFunc fn first cap).run Try.prog w = .ok (.func fn first cap) w := fun _ _ _ _ => rfl
  unfold fnOf at e1 e2 e3
  have c0 := hP.c0
  have c1 := hP.c1
  have c2 := hP.c2
  go_enter Try.func21, Try.ntmps21
  go_wp2
  have hTd : IsEch W3.drew B s := hT
  have hPd : IsPkt W3.drew w.heap.size code id d := hP
  have hBd := hB.drew
  clear hT hP hB e1 e2 e3 e4'
  have q4 := hTd.reads.magic
  refine start_ (n := 14) (S := fun W' => IsEch W' B s ∧ IsPkt W' w.heap.size code id d ∧ W'.cell? ⟨B, 4, none⟩ = some (.int .u32 (s.magic : Int)) ∧ W'.cell? ⟨w.heap.size, 2, none⟩ = some (.string d)) (ds := []) (#[false, false, false, false, false, false, false, false, false, false, false, false, false, false]) (by kernel_rfl) rfl rfl (⟨hTd, hPd, q4, c2⟩) (fun hS => ?_)
  refine take_ (i := 0) (N := some 33) (v := ?_) (a' := ?_) #[true, false, false, false, false, false, false, false, false, false, false, false, false, false] rfl rfl (by kernel_rfl) (fun _ _ _ h => h) (.inl ⟨by rfl, fun w' hS' => ?_⟩) hS ?_ ?_
  rotate_left
  · obtain ⟨hI', hJ', p1', p2'⟩ := hS'
    go_simp
    with_reducible rfl
  rotate_left
  · simp only [Act.put, List.setIfInBounds_toArray, List.set_cons_zero, List.set_cons_succ]
    rfl
  refine take_ (i := 1) (N := some 34) (v := ?_) (a' := ?_) #[true, true, false, false, false, false, false, false, false, false, false, false, false, false] rfl rfl (by kernel_rfl) (fun _ _ _ h => h) (.inl ⟨by rfl, fun w' hS' => ?_⟩) hS ?_ ?_
  rotate_left
  · obtain ⟨hI', hJ', p1', p2'⟩ := hS'
    go_simp
    with_reducible rfl
  rotate_left
  · simp only [Act.put, List.setIfInBounds_toArray, List.set_cons_zero, List.set_cons_succ]
    rfl
  refine take_ (i := 2) (N := some 35) (v := ?_) (a' := ?_) #[true, true, true, false, false, false, false, false, false, false, false, false, false, false] rfl rfl (by kernel_rfl) (fun _ _ _ h => h) (.inl ⟨by rfl, fun w' hS' => ?_⟩) hS ?_ ?_
  rotate_left
  · obtain ⟨hI', hJ', p1', p2'⟩ := hS'
    go_simp
    with_reducible rfl
  rotate_left
  · simp only [Act.put, List.setIfInBounds_toArray, List.set_cons_zero, List.set_cons_succ]
    rfl
  refine take_ (i := 3) (N := some 36) (v := ?_) (a' := ?_) #[true, true, true, true, false, false, false, false, false, false, false, false, false, false] rfl rfl (by kernel_rfl) (fun _ _ _ h => h) (.inl ⟨by rfl, fun w' hS' => ?_⟩) hS ?_ ?_
  rotate_left
  · obtain ⟨hI', hJ', p1', p2'⟩ := hS'
    go_simp
    with_reducible rfl
  rotate_left
  · simp only [Act.put, List.setIfInBounds_toArray, List.set_cons_zero, List.set_cons_succ]
    rfl
  refine take_ (i := 4) (N := some 37) (v := ?_) (a' := ?_) #[true, true, true, true, true, false, false, false, false, false, false, false, false, false] rfl rfl (by kernel_rfl) (fun _ _ _ h => h) (.inl ⟨by rfl, fun w' hS' => ?_⟩) hS ?_ ?_
  rotate_left
  · obtain ⟨hI', hJ', p1', p2'⟩ := hS'
    go_simp
    with_reducible rfl
  rotate_left
  · simp only [Act.put, List.setIfInBounds_toArray, List.set_cons_zero, List.set_cons_succ]
    rfl
  refine take_ (i := 5) (N := some 38) (v := ?_) (a' := ?_) #[true, true, true, true, true, true, false, false, false, false, false, false, false, false] rfl rfl (by kernel_rfl) (fun _ _ _ h => h) (.inl ⟨by rfl, fun w' hS' => ?_⟩) hS ?_ ?_
  rotate_left
  · obtain ⟨hI', hJ', p1', p2'⟩ := hS'
    go_simp
    with_reducible rfl
  rotate_left
  · simp only [Act.put, List.setIfInBounds_toArray, List.set_cons_zero, List.set_cons_succ]
    rfl
  refine take_ (i := 6) (N := some 39) (v := ?_) (a' := ?_) #[true, true, true, true, true, true, true, false, false, false, false, false, false, false] rfl rfl (by kernel_rfl) (fun _ _ _ h => h) (.inl ⟨by rfl, fun w' hS' => ?_⟩) hS ?_ ?_
  rotate_left
  · obtain ⟨hI', hJ', p1', p2'⟩ := hS'
    go_simp
    with_reducible rfl
  rotate_left
  · simp only [Act.put, List.setIfInBounds_toArray, List.set_cons_zero, List.set_cons_succ]
    rfl
  refine take_ (i := 7) (N := some 40) (v := ?_) (a' := ?_) #[true, true, true, true, true, true, true, true, false, false, false, false, false, false] rfl rfl (by kernel_rfl) (fun _ _ _ h => h) (.inl ⟨by rfl, fun w' hS' => ?_⟩) hS ?_ ?_
  rotate_left
  · obtain ⟨hI', hJ', p1', p2'⟩ := hS'
    go_simp
    with_reducible rfl
  rotate_left
  · simp only [Act.put, List.setIfInBounds_toArray, List.set_cons_zero, List.set_cons_succ]
    rfl
  refine take_ (i := 8) (N := some 41) (v := ?_) (a' := ?_) #[true, true, true, true, true, true, true, true, true, false, false, false, false, false] rfl rfl (by kernel_rfl) (fun _ _ _ h => h) (.inl ⟨by rfl, fun w' hS' => ?_⟩) hS ?_ ?_
  rotate_left
  · obtain ⟨hI', hJ', p1', p2'⟩ := hS'
    go_simp
    with_reducible rfl
  rotate_left
  · simp only [Act.put, List.setIfInBounds_toArray, List.set_cons_zero, List.set_cons_succ]
    rfl
  refine take_ (i := 9) (N := some 42) (v := ?_) (a' := ?_) #[true, true, true, true, true, true, true, true, true, true, false, false, false, false] rfl rfl (by kernel_rfl) (fun _ _ _ h => h) (.inl ⟨by rfl, fun w' hS' => ?_⟩) hS ?_ ?_
  rotate_left
  · obtain ⟨hI', hJ', p1', p2'⟩ := hS'
    go_simp
    with_reducible rfl
  rotate_left
  · simp only [Act.put, List.setIfInBounds_toArray, List.set_cons_zero, List.set_cons_succ]
    rfl
  refine wpAnyLast_all (rs := [10]) (by kernel_rfl) (by simp) ?_
  intro i hi'
  obtain rfl := List.mem_singleton.1 hi'
  refine wpOp_step rfl (fun K' hK => ?_)
  go_simp
  go_at_call 47
  with_reducible refine (own_calls s hm B _ hTd.reads).mono ?_
  rintro e w4 ⟨rfl, hb4⟩
  refine hK _ _ ⟨fun _ h => ⟨h.1.below hb4, h.2.1.below hb4, (h.1.below hb4).reads.magic, (h.2.1.below hb4).c2⟩, ?_⟩
  clear hK K'
  simp only [Act.put, List.setIfInBounds_toArray, List.set_cons_zero, List.set_cons_succ]
  refine wpAnyLast_all (rs := [11]) (by kernel_rfl) (by simp) ?_
  intro i hi'
  obtain rfl := List.mem_singleton.1 hi'
  refine wpOp_step rfl (fun K' hK => ?_)
  go_simp
  refine hK _ _ ⟨fun _ h => h, ?_⟩
  clear hK K'
  simp only [Act.put, List.setIfInBounds_toArray, List.set_cons_zero, List.set_cons_succ]
  refine wpAnyLast_all (rs := [12]) (by kernel_rfl) (by simp) ?_
  intro i hi'
  obtain rfl := List.mem_singleton.1 hi'
  refine wpOp_step rfl (fun K' hK => ?_)
  go_simp
  refine hK _ _ ⟨fun _ h => h, ?_⟩
  clear hK K'
  simp only [Act.put, List.setIfInBounds_toArray, List.set_cons_zero, List.set_cons_succ]
  refine wpAnyLast_all (rs := [13]) (by kernel_rfl) (by simp) ?_
  intro i hi'
  obtain rfl := List.mem_singleton.1 hi'
  refine wpOp_step rfl (fun K' hK => ?_)
  go_simp
  refine hK _ _ ⟨fun _ h => h, ?_⟩
  clear hK K'
  simp only [Act.put, List.setIfInBounds_toArray, List.set_cons_zero, List.set_cons_succ]
  refine wpAnyLast_done (by kernel_rfl) ?_ _
  have hT4 : IsEch w4 B s := hTd.below hb4
  have hP4 : IsPkt w4 w.heap.size code id d := hPd.below hb4
  have hB4 := hBd.trans_below hb4
  clear hTd hPd hBd hb4 c0 c1 c2 q4 hmm hmf
  have c0 := hP4.c0
  have c1 := hP4.c1
  have c2 := hP4.c2
  go_wp2
  go_ret2
  exact ⟨rfl, hB4, hT4⟩
set_option maxHeartbeats 4000000 in
theorem pkt_req0 (s : Ech) (hm : s.magic < 4294967296) (B : Nat) (code id : Int) (d : ByteArray) (hd : 4 ≤ d.size) (w : World) (h : IsEch w B s) (hd2 : d.size ≤ 1000000) (hp : pick3 (fnOf 48 B) (fnOf 49 B) (fnOf 50 B) code = .tuple #[fnOf 48 B, .bool true]) (hm0 : s.magic = 0) (Q : Value → Int → World → Prop)
    (hc : ∀ w1, IsEch w1 B s → But B w w1 → Calls Try.prog 48 #[.pointer (some ⟨B, 0, none⟩), .agg #[.int .u8 code, .int .u8 id, .string d]] w1 fun e w' => ∃ v r, e = .returned (.tuple #[v, .int .i64 r]) ∧ Q v r w') : Calls Try.prog 21 #[.pointer (some ⟨B, 0, none⟩), .agg #[.int .u8 code, .int .u8 id, .string d]] w fun e w' => ∃ v r, e = .returned (.tuple #[v, .int .i64 r]) ∧ Q v r w' := by
  have hlen : decide ((d.size : Int) < 4) = false := by simp; omega
  have h4 : (4 : Int) ≤ (d.size : Int) := by omega
  unfold fnOf at hp
  obtain ⟨W1, W2, W3, e1, e2, e3, e4, hB, hT, hP⟩ := ahead s B code id d w h
  have e4' := e4 code
  unfold fnOf at e4'
  rw [hp] at e4'
  clear e4 hp
  have hmm := @run_makeMap Try.prog
  have hmf : ∀ (fn : Fn) (first cap : Array Value) (w : World), (Instr.makeFunc fn first cap).run Try.prog w = .ok (.func fn first cap) w := fun _ _ _ _ => rfl
  unfold fnOf at e1 e2 e3
  have c0 := hP.c0
  have c1 := hP.c1
  have c2 := hP.c2
  go_enter Try.func21, Try.ntmps21
  go_wp2
  have q4 := hT.reads.magic
  rw [hm0] at q4
  clear e1 e2 e3 e4'
  go_quiet (fail)
  have hT4 : IsEch (W3.drewN nq) B s := hT.drewN nq
  have hP4 : IsPkt (W3.drewN nq) w.heap.size code id d := hP.drewN nq
  have hB4 := hB.drewN nq
  clear hT hP hB c0 c1 c2 q4 hmm hmf
  generalize W3.drewN nq = w4 at *
  have c0 := hP4.c0
  have c1 := hP4.c1
  have c2 := hP4.c2
  have hcc := hc w4 hT4 hB4
  clear hc
  go_wp2_with (first
    | (go_at_call 48; with_reducible refine hcc.mono ?_; rintro e w5 ⟨v, r, rfl, hQ⟩))
  go_ret2
  exact ⟨v, r, rfl, hQ⟩
set_option maxHeartbeats 4000000 in
theorem pkt_req1 (s : Ech) (hm : s.magic < 4294967296) (B : Nat) (code id : Int) (d : ByteArray) (hd : 4 ≤ d.size) (w : World) (h : IsEch w B s) (hd2 : d.size ≤ 1000000) (hp : pick3 (fnOf 48 B) (fnOf 49 B) (fnOf 50 B) code = .tuple #[fnOf 48 B, .bool true]) (hm0 : s.magic ≠ 0) (hne : d.extract 0 4 ≠ oct s.magic) (Q : Value → Int → World → Prop)
    (hc : ∀ w1, IsEch w1 B s → But B w w1 → Calls Try.prog 48 #[.pointer (some ⟨B, 0, none⟩), .agg #[.int .u8 code, .int .u8 id, .string d]] w1 fun e w' => ∃ v r, e = .returned (.tuple #[v, .int .i64 r]) ∧ Q v r w') : Calls Try.prog 21 #[.pointer (some ⟨B, 0, none⟩), .agg #[.int .u8 code, .int .u8 id, .string d]] w fun e w' => ∃ v r, e = .returned (.tuple #[v, .int .i64 r]) ∧ Q v r w' := by
  have hlen : decide ((d.size : Int) < 4) = false := by simp; omega
  have h4 : (4 : Int) ≤ (d.size : Int) := by omega
  have hz : ((s.magic : Int) != 0) = true := by simpa using hm0
  have hq := str_ne hne
  unfold fnOf at hp
  obtain ⟨W1, W2, W3, e1, e2, e3, e4, hB, hT, hP⟩ := ahead s B code id d w h
  have e4' := e4 code
  unfold fnOf at e4'
  rw [hp] at e4'
  clear e4 hp
  have hmm := @run_makeMap Try.prog
  have hmf : ∀ (fn : Fn) (first cap : Array Value) (w : World), (Instr.makeFunc fn first cap).run Try.prog w = .ok (.func fn first cap) w := fun _ _ _ _ => rfl
  unfold fnOf at e1 e2 e3
  have c0 := hP.c0
  have c1 := hP.c1
  have c2 := hP.c2
  go_enter Try.func21, Try.ntmps21
  go_wp2
  have hTd : IsEch W3.drew B s := hT
  have hPd : IsPkt W3.drew w.heap.size code id d := hP
  have hBd := hB.drew
  clear hT hP hB e1 e2 e3 e4'
  have q4 := hTd.reads.magic
  refine start_ (n := 14) (S := fun W' => IsEch W' B s ∧ IsPkt W' w.heap.size code id d ∧ W'.cell? ⟨B, 4, none⟩ = some (.int .u32 (s.magic : Int)) ∧ W'.cell? ⟨w.heap.size, 2, none⟩ = some (.string d)) (ds := []) (#[false, false, false, false, false, false, false, false, false, false, false, false, false, false]) (by kernel_rfl) rfl rfl (⟨hTd, hPd, q4, c2⟩) (fun hS => ?_)
  refine take_ (i := 0) (N := some 33) (v := ?_) (a' := ?_) #[true, false, false, false, false, false, false, false, false, false, false, false, false, false] rfl rfl (by kernel_rfl) (fun _ _ _ h => h) (.inl ⟨by rfl, fun w' hS' => ?_⟩) hS ?_ ?_
  rotate_left
  · obtain ⟨hI', hJ', p1', p2'⟩ := hS'
    go_simp
    with_reducible rfl
  rotate_left
  · simp only [Act.put, List.setIfInBounds_toArray, List.set_cons_zero, List.set_cons_succ]
    rfl
  refine take_ (i := 1) (N := some 34) (v := ?_) (a' := ?_) #[true, true, false, false, false, false, false, false, false, false, false, false, false, false] rfl rfl (by kernel_rfl) (fun _ _ _ h => h) (.inl ⟨by rfl, fun w' hS' => ?_⟩) hS ?_ ?_
  rotate_left
  · obtain ⟨hI', hJ', p1', p2'⟩ := hS'
    go_simp
    with_reducible rfl
  rotate_left
  · simp only [Act.put, List.setIfInBounds_toArray, List.set_cons_zero, List.set_cons_succ]
    rfl
  refine take_ (i := 2) (N := some 35) (v := ?_) (a' := ?_) #[true, true, true, false, false, false, false, false, false, false, false, false, false, false] rfl rfl (by kernel_rfl) (fun _ _ _ h => h) (.inl ⟨by rfl, fun w' hS' => ?_⟩) hS ?_ ?_
  rotate_left
  · obtain ⟨hI', hJ', p1', p2'⟩ := hS'
    go_simp
    with_reducible rfl
  rotate_left
  · simp only [Act.put, List.setIfInBounds_toArray, List.set_cons_zero, List.set_cons_succ]
    rfl
  refine take_ (i := 3) (N := some 36) (v := ?_) (a' := ?_) #[true, true, true, true, false, false, false, false, false, false, false, false, false, false] rfl rfl (by kernel_rfl) (fun _ _ _ h => h) (.inl ⟨by rfl, fun w' hS' => ?_⟩) hS ?_ ?_
  rotate_left
  · obtain ⟨hI', hJ', p1', p2'⟩ := hS'
    go_simp
    with_reducible rfl
  rotate_left
  · simp only [Act.put, List.setIfInBounds_toArray, List.set_cons_zero, List.set_cons_succ]
    rfl
  refine take_ (i := 4) (N := some 37) (v := ?_) (a' := ?_) #[true, true, true, true, true, false, false, false, false, false, false, false, false, false] rfl rfl (by kernel_rfl) (fun _ _ _ h => h) (.inl ⟨by rfl, fun w' hS' => ?_⟩) hS ?_ ?_
  rotate_left
  · obtain ⟨hI', hJ', p1', p2'⟩ := hS'
    go_simp
    with_reducible rfl
  rotate_left
  · simp only [Act.put, List.setIfInBounds_toArray, List.set_cons_zero, List.set_cons_succ]
    rfl
  refine take_ (i := 5) (N := some 38) (v := ?_) (a' := ?_) #[true, true, true, true, true, true, false, false, false, false, false, false, false, false] rfl rfl (by kernel_rfl) (fun _ _ _ h => h) (.inl ⟨by rfl, fun w' hS' => ?_⟩) hS ?_ ?_
  rotate_left
  · obtain ⟨hI', hJ', p1', p2'⟩ := hS'
    go_simp
    with_reducible rfl
  rotate_left
  · simp only [Act.put, List.setIfInBounds_toArray, List.set_cons_zero, List.set_cons_succ]
    rfl
  refine take_ (i := 6) (N := some 39) (v := ?_) (a' := ?_) #[true, true, true, true, true, true, true, false, false, false, false, false, false, false] rfl rfl (by kernel_rfl) (fun _ _ _ h => h) (.inl ⟨by rfl, fun w' hS' => ?_⟩) hS ?_ ?_
  rotate_left
  · obtain ⟨hI', hJ', p1', p2'⟩ := hS'
    go_simp
    with_reducible rfl
  rotate_left
  · simp only [Act.put, List.setIfInBounds_toArray, List.set_cons_zero, List.set_cons_succ]
    rfl
  refine take_ (i := 7) (N := some 40) (v := ?_) (a' := ?_) #[true, true, true, true, true, true, true, true, false, false, false, false, false, false] rfl rfl (by kernel_rfl) (fun _ _ _ h => h) (.inl ⟨by rfl, fun w' hS' => ?_⟩) hS ?_ ?_
  rotate_left
  · obtain ⟨hI', hJ', p1', p2'⟩ := hS'
    go_simp
    with_reducible rfl
  rotate_left
  · simp only [Act.put, List.setIfInBounds_toArray, List.set_cons_zero, List.set_cons_succ]
    rfl
  refine take_ (i := 8) (N := some 41) (v := ?_) (a' := ?_) #[true, true, true, true, true, true, true, true, true, false, false, false, false, false] rfl rfl (by kernel_rfl) (fun _ _ _ h => h) (.inl ⟨by rfl, fun w' hS' => ?_⟩) hS ?_ ?_
  rotate_left
  · obtain ⟨hI', hJ', p1', p2'⟩ := hS'
    go_simp
    with_reducible rfl
  rotate_left
  · simp only [Act.put, List.setIfInBounds_toArray, List.set_cons_zero, List.set_cons_succ]
    rfl
  refine take_ (i := 9) (N := some 42) (v := ?_) (a' := ?_) #[true, true, true, true, true, true, true, true, true, true, false, false, false, false] rfl rfl (by kernel_rfl) (fun _ _ _ h => h) (.inl ⟨by rfl, fun w' hS' => ?_⟩) hS ?_ ?_
  rotate_left
  · obtain ⟨hI', hJ', p1', p2'⟩ := hS'
    go_simp
    with_reducible rfl
  rotate_left
  · simp only [Act.put, List.setIfInBounds_toArray, List.set_cons_zero, List.set_cons_succ]
    rfl
  refine wpAnyLast_all (rs := [10]) (by kernel_rfl) (by simp) ?_
  intro i hi'
  obtain rfl := List.mem_singleton.1 hi'
  refine wpOp_step rfl (fun K' hK => ?_)
  go_simp
  go_at_call 47
  with_reducible refine (own_calls s hm B _ hTd.reads).mono ?_
  rintro e w4 ⟨rfl, hb4⟩
  refine hK _ _ ⟨fun _ h => ⟨h.1.below hb4, h.2.1.below hb4, (h.1.below hb4).reads.magic, (h.2.1.below hb4).c2⟩, ?_⟩
  clear hK K'
  simp only [Act.put, List.setIfInBounds_toArray, List.set_cons_zero, List.set_cons_succ]
  refine wpAnyLast_all (rs := [11]) (by kernel_rfl) (by simp) ?_
  intro i hi'
  obtain rfl := List.mem_singleton.1 hi'
  refine wpOp_step rfl (fun K' hK => ?_)
  go_simp
  refine hK _ _ ⟨fun _ h => h, ?_⟩
  clear hK K'
  simp only [Act.put, List.setIfInBounds_toArray, List.set_cons_zero, List.set_cons_succ]
  refine wpAnyLast_all (rs := [12]) (by kernel_rfl) (by simp) ?_
  intro i hi'
  obtain rfl := List.mem_singleton.1 hi'
  refine wpOp_step rfl (fun K' hK => ?_)
  go_simp
  refine hK _ _ ⟨fun _ h => h, ?_⟩
  clear hK K'
  simp only [Act.put, List.setIfInBounds_toArray, List.set_cons_zero, List.set_cons_succ]
  refine wpAnyLast_all (rs := [13]) (by kernel_rfl) (by simp) ?_
  intro i hi'
  obtain rfl := List.mem_singleton.1 hi'
  refine wpOp_step rfl (fun K' hK => ?_)
  go_simp
  refine hK _ _ ⟨fun _ h => h, ?_⟩
  clear hK K'
  simp only [Act.put, List.setIfInBounds_toArray, List.set_cons_zero, List.set_cons_succ]
  refine wpAnyLast_done (by kernel_rfl) ?_ _
  have hT4 : IsEch w4 B s := hTd.below hb4
  have hP4 : IsPkt w4 w.heap.size code id d := hPd.below hb4
  have hB4 := hBd.trans_below hb4
  clear hTd hPd hBd hb4 c0 c1 c2 q4 hmm hmf
  have c0 := hP4.c0
  have c1 := hP4.c1
  have c2 := hP4.c2
  have hcc := hc w4 hT4 hB4
  clear hc
  go_wp2_with (first
    | (go_at_call 48; with_reducible refine hcc.mono ?_; rintro e w5 ⟨v, r, rfl, hQ⟩))
  go_ret2
  exact ⟨v, r, rfl, hQ⟩
set_option maxHeartbeats 4000000 in
theorem pkt_rep0 (s : Ech) (hm : s.magic < 4294967296) (B : Nat) (code id : Int) (d : ByteArray) (hd : 4 ≤ d.size) (w : World) (h : IsEch w B s) (hp : pick3 (fnOf 48 B) (fnOf 49 B) (fnOf 50 B) code = .tuple #[fnOf 49 B, .bool true]) (hm0 : s.magic = 0) (Q : Value → Int → World → Prop)
    (hc : ∀ w1, IsEch w1 B s → But B w w1 → Calls Try.prog 49 #[.pointer (some ⟨B, 0, none⟩), .agg #[.int .u8 code, .int .u8 id, .string d]] w1 fun e w' => ∃ v r, e = .returned (.tuple #[v, .int .i64 r]) ∧ Q v r w') : Calls Try.prog 21 #[.pointer (some ⟨B, 0, none⟩), .agg #[.int .u8 code, .int .u8 id, .string d]] w fun e w' => ∃ v r, e = .returned (.tuple #[v, .int .i64 r]) ∧ Q v r w' := by
  have hlen : decide ((d.size : Int) < 4) = false := by simp; omega
  have h4 : (4 : Int) ≤ (d.size : Int) := by omega
  unfold fnOf at hp
  obtain ⟨W1, W2, W3, e1, e2, e3, e4, hB, hT, hP⟩ := ahead s B code id d w h
  have e4' := e4 code
  unfold fnOf at e4'
  rw [hp] at e4'
  clear e4 hp
  have hmm := @run_makeMap Try.prog
  have hmf : ∀ (fn : Fn) (first cap : Array Value) (w : World), (Instr.makeFunc fn first cap).run Try.prog w = .ok (.func fn first cap) w := fun _ _ _ _ => rfl
  unfold fnOf at e1 e2 e3
  have c0 := hP.c0
  have c1 := hP.c1
  have c2 := hP.c2
  go_enter Try.func21, Try.ntmps21
  go_wp2
  have q4 := hT.reads.magic
  rw [hm0] at q4
  clear e1 e2 e3 e4'
  go_quiet (fail)
  have hT4 : IsEch (W3.drewN nq) B s := hT.drewN nq
  have hP4 : IsPkt (W3.drewN nq) w.heap.size code id d := hP.drewN nq
  have hB4 := hB.drewN nq
  clear hT hP hB c0 c1 c2 q4 hmm hmf
  generalize W3.drewN nq = w4 at *
  have c0 := hP4.c0
  have c1 := hP4.c1
  have c2 := hP4.c2
  have hcc := hc w4 hT4 hB4
  clear hc
  go_wp2_with (first
    | (go_at_call 49; with_reducible refine hcc.mono ?_; rintro e w5 ⟨v, r, rfl, hQ⟩))
  go_ret2
  exact ⟨v, r, rfl, hQ⟩
set_option maxHeartbeats 4000000 in
theorem pkt_rep1 (s : Ech) (hm : s.magic < 4294967296) (B : Nat) (code id : Int) (d : ByteArray) (hd : 4 ≤ d.size) (w : World) (h : IsEch w B s) (hp : pick3 (fnOf 48 B) (fnOf 49 B) (fnOf 50 B) code = .tuple #[fnOf 49 B, .bool true]) (hm0 : s.magic ≠ 0) (hne : d.extract 0 4 ≠ oct s.magic) (Q : Value → Int → World → Prop)
    (hc : ∀ w1, IsEch w1 B s → But B w w1 → Calls Try.prog 49 #[.pointer (some ⟨B, 0, none⟩), .agg #[.int .u8 code, .int .u8 id, .string d]] w1 fun e w' => ∃ v r, e = .returned (.tuple #[v, .int .i64 r]) ∧ Q v r w') : Calls Try.prog 21 #[.pointer (some ⟨B, 0, none⟩), .agg #[.int .u8 code, .int .u8 id, .string d]] w fun e w' => ∃ v r, e = .returned (.tuple #[v, .int .i64 r]) ∧ Q v r w' := by
  have hlen : decide ((d.size : Int) < 4) = false := by simp; omega
  have h4 : (4 : Int) ≤ (d.size : Int) := by omega
  have hz : ((s.magic : Int) != 0) = true := by simpa using hm0
  have hq := str_ne hne
  unfold fnOf at hp
  obtain ⟨W1, W2, W3, e1, e2, e3, e4, hB, hT, hP⟩ := ahead s B code id d w h
  have e4' := e4 code
  unfold fnOf at e4'
  rw [hp] at e4'
  clear e4 hp
  have hmm := @run_makeMap Try.prog
  have hmf : ∀ (fn : Fn) (first cap : Array Value) (w : World), (Instr.makeFunc fn first cap).run Try.prog w = .ok (.func fn first cap) w := fun _ _ _ _ => rfl
  unfold fnOf at e1 e2 e3
  have c0 := hP.c0
  have c1 := hP.c1
  have c2 := hP.c2
  go_enter Try.func21, Try.ntmps21
  go_wp2
  have hTd : IsEch W3.drew B s := hT
  have hPd : IsPkt W3.drew w.heap.size code id d := hP
  have hBd := hB.drew
  clear hT hP hB e1 e2 e3 e4'
  have q4 := hTd.reads.magic
  refine start_ (n := 14) (S := fun W' => IsEch W' B s ∧ IsPkt W' w.heap.size code id d ∧ W'.cell? ⟨B, 4, none⟩ = some (.int .u32 (s.magic : Int)) ∧ W'.cell? ⟨w.heap.size, 2, none⟩ = some (.string d)) (ds := []) (#[false, false, false, false, false, false, false, false, false, false, false, false, false, false]) (by kernel_rfl) rfl rfl (⟨hTd, hPd, q4, c2⟩) (fun hS => ?_)
  refine take_ (i := 0) (N := some 33) (v := ?_) (a' := ?_) #[true, false, false, false, false, false, false, false, false, false, false, false, false, false] rfl rfl (by kernel_rfl) (fun _ _ _ h => h) (.inl ⟨by rfl, fun w' hS' => ?_⟩) hS ?_ ?_
  rotate_left
  · obtain ⟨hI', hJ', p1', p2'⟩ := hS'
    go_simp
    with_reducible rfl
  rotate_left
  · simp only [Act.put, List.setIfInBounds_toArray, List.set_cons_zero, List.set_cons_succ]
    rfl
  refine take_ (i := 1) (N := some 34) (v := ?_) (a' := ?_) #[true, true, false, false, false, false, false, false, false, false, false, false, false, false] rfl rfl (by kernel_rfl) (fun _ _ _ h => h) (.inl ⟨by rfl, fun w' hS' => ?_⟩) hS ?_ ?_
  rotate_left
  · obtain ⟨hI', hJ', p1', p2'⟩ := hS'
    go_simp
    with_reducible rfl
  rotate_left
  · simp only [Act.put, List.setIfInBounds_toArray, List.set_cons_zero, List.set_cons_succ]
    rfl
  refine take_ (i := 2) (N := some 35) (v := ?_) (a' := ?_) #[true, true, true, false, false, false, false, false, false, false, false, false, false, false] rfl rfl (by kernel_rfl) (fun _ _ _ h => h) (.inl ⟨by rfl, fun w' hS' => ?_⟩) hS ?_ ?_
  rotate_left
  · obtain ⟨hI', hJ', p1', p2'⟩ := hS'
    go_simp
    with_reducible rfl
  rotate_left
  · simp only [Act.put, List.setIfInBounds_toArray, List.set_cons_zero, List.set_cons_succ]
    rfl
  refine take_ (i := 3) (N := some 36) (v := ?_) (a' := ?_) #[true, true, true, true, false, false, false, false, false, false, false, false, false, false] rfl rfl (by kernel_rfl) (fun _ _ _ h => h) (.inl ⟨by rfl, fun w' hS' => ?_⟩) hS ?_ ?_
  rotate_left
  · obtain ⟨hI', hJ', p1', p2'⟩ := hS'
    go_simp
    with_reducible rfl
  rotate_left
  · simp only [Act.put, List.setIfInBounds_toArray, List.set_cons_zero, List.set_cons_succ]
    rfl
  refine take_ (i := 4) (N := some 37) (v := ?_) (a' := ?_) #[true, true, true, true, true, false, false, false, false, false, false, false, false, false] rfl rfl (by kernel_rfl) (fun _ _ _ h => h) (.inl ⟨by rfl, fun w' hS' => ?_⟩) hS ?_ ?_
  rotate_left
  · obtain ⟨hI', hJ', p1', p2'⟩ := hS'
    go_simp
    with_reducible rfl
  rotate_left
  · simp only [Act.put, List.setIfInBounds_toArray, List.set_cons_zero, List.set_cons_succ]
    rfl
  refine take_ (i := 5) (N := some 38) (v := ?_) (a' := ?_) #[true, true, true, true, true, true, false, false, false, false, false, false, false, false] rfl rfl (by kernel_rfl) (fun _ _ _ h => h) (.inl ⟨by rfl, fun w' hS' => ?_⟩) hS ?_ ?_
  rotate_left
  · obtain ⟨hI', hJ', p1', p2'⟩ := hS'
    go_simp
    with_reducible rfl
  rotate_left
  · simp only [Act.put, List.setIfInBounds_toArray, List.set_cons_zero, List.set_cons_succ]
    rfl
  refine take_ (i := 6) (N := some 39) (v := ?_) (a' := ?_) #[true, true, true, true, true, true, true, false, false, false, false, false, false, false] rfl rfl (by kernel_rfl) (fun _ _ _ h => h) (.inl ⟨by rfl, fun w' hS' => ?_⟩) hS ?_ ?_
  rotate_left
  · obtain ⟨hI', hJ', p1', p2'⟩ := hS'
    go_simp
    with_reducible rfl
  rotate_left
  · simp only [Act.put, List.setIfInBounds_toArray, List.set_cons_zero, List.set_cons_succ]
    rfl
  refine take_ (i := 7) (N := some 40) (v := ?_) (a' := ?_) #[true, true, true, true, true, true, true, true, false, false, false, false, false, false] rfl rfl (by kernel_rfl) (fun _ _ _ h => h) (.inl ⟨by rfl, fun w' hS' => ?_⟩) hS ?_ ?_
  rotate_left
  · obtain ⟨hI', hJ', p1', p2'⟩ := hS'
    go_simp
    with_reducible rfl
  rotate_left
  · simp only [Act.put, List.setIfInBounds_toArray, List.set_cons_zero, List.set_cons_succ]
    rfl
  refine take_ (i := 8) (N := some 41) (v := ?_) (a' := ?_) #[true, true, true, true, true, true, true, true, true, false, false, false, false, false] rfl rfl (by kernel_rfl) (fun _ _ _ h => h) (.inl ⟨by rfl, fun w' hS' => ?_⟩) hS ?_ ?_
  rotate_left
  · obtain ⟨hI', hJ', p1', p2'⟩ := hS'
    go_simp
    with_reducible rfl
  rotate_left
  · simp only [Act.put, List.setIfInBounds_toArray, List.set_cons_zero, List.set_cons_succ]
    rfl
  refine take_ (i := 9) (N := some 42) (v := ?_) (a' := ?_) #[true, true, true, true, true, true, true, true, true, true, false, false, false, false] rfl rfl (by kernel_rfl) (fun _ _ _ h => h) (.inl ⟨by rfl, fun w' hS' => ?_⟩) hS ?_ ?_
  rotate_left
  · obtain ⟨hI', hJ', p1', p2'⟩ := hS'
    go_simp
    with_reducible rfl
  rotate_left
  · simp only [Act.put, List.setIfInBounds_toArray, List.set_cons_zero, List.set_cons_succ]
    rfl
  refine wpAnyLast_all (rs := [10]) (by kernel_rfl) (by simp) ?_
  intro i hi'
  obtain rfl := List.mem_singleton.1 hi'
  refine wpOp_step rfl (fun K' hK => ?_)
  go_simp
  go_at_call 47
  with_reducible refine (own_calls s hm B _ hTd.reads).mono ?_
  rintro e w4 ⟨rfl, hb4⟩
  refine hK _ _ ⟨fun _ h => ⟨h.1.below hb4, h.2.1.below hb4, (h.1.below hb4).reads.magic, (h.2.1.below hb4).c2⟩, ?_⟩
  clear hK K'
  simp only [Act.put, List.setIfInBounds_toArray, List.set_cons_zero, List.set_cons_succ]
  refine wpAnyLast_all (rs := [11]) (by kernel_rfl) (by simp) ?_
  intro i hi'
  obtain rfl := List.mem_singleton.1 hi'
  refine wpOp_step rfl (fun K' hK => ?_)
  go_simp
  refine hK _ _ ⟨fun _ h => h, ?_⟩
  clear hK K'
  simp only [Act.put, List.setIfInBounds_toArray, List.set_cons_zero, List.set_cons_succ]
  refine wpAnyLast_all (rs := [12]) (by kernel_rfl) (by simp) ?_
  intro i hi'
  obtain rfl := List.mem_singleton.1 hi'
  refine wpOp_step rfl (fun K' hK => ?_)
  go_simp
  refine hK _ _ ⟨fun _ h => h, ?_⟩
  clear hK K'
  simp only [Act.put, List.setIfInBounds_toArray, List.set_cons_zero, List.set_cons_succ]
  refine wpAnyLast_all (rs := [13]) (by kernel_rfl) (by simp) ?_
  intro i hi'
  obtain rfl := List.mem_singleton.1 hi'
  refine wpOp_step rfl (fun K' hK => ?_)
  go_simp
  refine hK _ _ ⟨fun _ h => h, ?_⟩
  clear hK K'
  simp only [Act.put, List.setIfInBounds_toArray, List.set_cons_zero, List.set_cons_succ]
  refine wpAnyLast_done (by kernel_rfl) ?_ _
  have hT4 : IsEch w4 B s := hTd.below hb4
  have hP4 : IsPkt w4 w.heap.size code id d := hPd.below hb4
  have hB4 := hBd.trans_below hb4
  clear hTd hPd hBd hb4 c0 c1 c2 q4 hmm hmf
  have c0 := hP4.c0
  have c1 := hP4.c1
  have c2 := hP4.c2
  have hcc := hc w4 hT4 hB4
  clear hc
  go_wp2_with (first
    | (go_at_call 49; with_reducible refine hcc.mono ?_; rintro e w5 ⟨v, r, rfl, hQ⟩))
  go_ret2
  exact ⟨v, r, rfl, hQ⟩
set_option maxHeartbeats 4000000 in
theorem pkt_dis0 (s : Ech) (hm : s.magic < 4294967296) (B : Nat) (code id : Int) (d : ByteArray) (hd : 4 ≤ d.size) (w : World) (h : IsEch w B s) (hp : pick3 (fnOf 48 B) (fnOf 49 B) (fnOf 50 B) code = .tuple #[fnOf 50 B, .bool true]) (hm0 : s.magic = 0) (Q : Value → Int → World → Prop)
    (hc : ∀ w1, IsEch w1 B s → But B w w1 → Calls Try.prog 50 #[.pointer (some ⟨B, 0, none⟩), .agg #[.int .u8 code, .int .u8 id, .string d]] w1 fun e w' => ∃ v r, e = .returned (.tuple #[v, .int .i64 r]) ∧ Q v r w') : Calls Try.prog 21 #[.pointer (some ⟨B, 0, none⟩), .agg #[.int .u8 code, .int .u8 id, .string d]] w fun e w' => ∃ v r, e = .returned (.tuple #[v, .int .i64 r]) ∧ Q v r w' := by
  have hlen : decide ((d.size : Int) < 4) = false := by simp; omega
  have h4 : (4 : Int) ≤ (d.size : Int) := by omega
  unfold fnOf at hp
  obtain ⟨W1, W2, W3, e1, e2, e3, e4, hB, hT, hP⟩ := ahead s B code id d w h
  have e4' := e4 code
  unfold fnOf at e4'
  rw [hp] at e4'
  clear e4 hp
  have hmm := @run_makeMap Try.prog
  have hmf : ∀ (fn : Fn) (first cap : Array Value) (w : World), (Instr.makeFunc fn first cap).run Try.prog w = .ok (.func fn first cap) w := fun _ _ _ _ => rfl
  unfold fnOf at e1 e2 e3
  have c0 := hP.c0
  have c1 := hP.c1
  have c2 := hP.c2
  go_enter Try.func21, Try.ntmps21
  go_wp2
  have q4 := hT.reads.magic
  rw [hm0] at q4
  clear e1 e2 e3 e4'
  go_quiet (fail)
  have hT4 : IsEch (W3.drewN nq) B s := hT.drewN nq
  have hP4 : IsPkt (W3.drewN nq) w.heap.size code id d := hP.drewN nq
  have hB4 := hB.drewN nq
  clear hT hP hB c0 c1 c2 q4 hmm hmf
  generalize W3.drewN nq = w4 at *
  have c0 := hP4.c0
  have c1 := hP4.c1
  have c2 := hP4.c2
  have hcc := hc w4 hT4 hB4
  clear hc
  go_wp2_with (first
    | (go_at_call 50; with_reducible refine hcc.mono ?_; rintro e w5 ⟨v, r, rfl, hQ⟩))
  go_ret2
  exact ⟨v, r, rfl, hQ⟩
set_option maxHeartbeats 4000000 in
theorem pkt_dis1 (s : Ech) (hm : s.magic < 4294967296) (B : Nat) (code id : Int) (d : ByteArray) (hd : 4 ≤ d.size) (w : World) (h : IsEch w B s) (hp : pick3 (fnOf 48 B) (fnOf 49 B) (fnOf 50 B) code = .tuple #[fnOf 50 B, .bool true]) (hm0 : s.magic ≠ 0) (hne : d.extract 0 4 ≠ oct s.magic) (Q : Value → Int → World → Prop)
    (hc : ∀ w1, IsEch w1 B s → But B w w1 → Calls Try.prog 50 #[.pointer (some ⟨B, 0, none⟩), .agg #[.int .u8 code, .int .u8 id, .string d]] w1 fun e w' => ∃ v r, e = .returned (.tuple #[v, .int .i64 r]) ∧ Q v r w') : Calls Try.prog 21 #[.pointer (some ⟨B, 0, none⟩), .agg #[.int .u8 code, .int .u8 id, .string d]] w fun e w' => ∃ v r, e = .returned (.tuple #[v, .int .i64 r]) ∧ Q v r w' := by
  have hlen : decide ((d.size : Int) < 4) = false := by simp; omega
  have h4 : (4 : Int) ≤ (d.size : Int) := by omega
  have hz : ((s.magic : Int) != 0) = true := by simpa using hm0
  have hq := str_ne hne
  unfold fnOf at hp
  obtain ⟨W1, W2, W3, e1, e2, e3, e4, hB, hT, hP⟩ := ahead s B code id d w h
  have e4' := e4 code
  unfold fnOf at e4'
  rw [hp] at e4'
  clear e4 hp
  have hmm := @run_makeMap Try.prog
  have hmf : ∀ (fn : Fn) (first cap : Array Value) (w : World), (Instr.makeFunc fn first cap).run Try.prog w = .ok (.func fn first cap) w := fun _ _ _ _ => rfl
  unfold fnOf at e1 e2 e3
  have c0 := hP.c0
  have c1 := hP.c1
  have c2 := hP.c2
  go_enter Try.func21, Try.ntmps21
  go_wp2
  have hTd : IsEch W3.drew B s := hT
  have hPd : IsPkt W3.drew w.heap.size code id d := hP
  have hBd := hB.drew
  clear hT hP hB e1 e2 e3 e4'
  have q4 := hTd.reads.magic
  refine start_ (n := 14) (S := fun W' => IsEch W' B s ∧ IsPkt W' w.heap.size code id d ∧ W'.cell? ⟨B, 4, none⟩ = some (.int .u32 (s.magic : Int)) ∧ W'.cell? ⟨w.heap.size, 2, none⟩ = some (.string d)) (ds := []) (#[false, false, false, false, false, false, false, false, false, false, false, false, false, false]) (by kernel_rfl) rfl rfl (⟨hTd, hPd, q4, c2⟩) (fun hS => ?_)
  refine take_ (i := 0) (N := some 33) (v := ?_) (a' := ?_) #[true, false, false, false, false, false, false, false, false, false, false, false, false, false] rfl rfl (by kernel_rfl) (fun _ _ _ h => h) (.inl ⟨by rfl, fun w' hS' => ?_⟩) hS ?_ ?_
  rotate_left
  · obtain ⟨hI', hJ', p1', p2'⟩ := hS'
    go_simp
    with_reducible rfl
  rotate_left
  · simp only [Act.put, List.setIfInBounds_toArray, List.set_cons_zero, List.set_cons_succ]
    rfl
  refine take_ (i := 1) (N := some 34) (v := ?_) (a' := ?_) #[true, true, false, false, false, false, false, false, false, false, false, false, false, false] rfl rfl (by kernel_rfl) (fun _ _ _ h => h) (.inl ⟨by rfl, fun w' hS' => ?_⟩) hS ?_ ?_
  rotate_left
  · obtain ⟨hI', hJ', p1', p2'⟩ := hS'
    go_simp
    with_reducible rfl
  rotate_left
  · simp only [Act.put, List.setIfInBounds_toArray, List.set_cons_zero, List.set_cons_succ]
    rfl
  refine take_ (i := 2) (N := some 35) (v := ?_) (a' := ?_) #[true, true, true, false, false, false, false, false, false, false, false, false, false, false] rfl rfl (by kernel_rfl) (fun _ _ _ h => h) (.inl ⟨by rfl, fun w' hS' => ?_⟩) hS ?_ ?_
  rotate_left
  · obtain ⟨hI', hJ', p1', p2'⟩ := hS'
    go_simp
    with_reducible rfl
  rotate_left
  · simp only [Act.put, List.setIfInBounds_toArray, List.set_cons_zero, List.set_cons_succ]
    rfl
  refine take_ (i := 3) (N := some 36) (v := ?_) (a' := ?_) #[true, true, true, true, false, false, false, false, false, false, false, false, false, false] rfl rfl (by kernel_rfl) (fun _ _ _ h => h) (.inl ⟨by rfl, fun w' hS' => ?_⟩) hS ?_ ?_
  rotate_left
  · obtain ⟨hI', hJ', p1', p2'⟩ := hS'
    go_simp
    with_reducible rfl
  rotate_left
  · simp only [Act.put, List.setIfInBounds_toArray, List.set_cons_zero, List.set_cons_succ]
    rfl
  refine take_ (i := 4) (N := some 37) (v := ?_) (a' := ?_) #[true, true, true, true, true, false, false, false, false, false, false, false, false, false] rfl rfl (by kernel_rfl) (fun _ _ _ h => h) (.inl ⟨by rfl, fun w' hS' => ?_⟩) hS ?_ ?_
  rotate_left
  · obtain ⟨hI', hJ', p1', p2'⟩ := hS'
    go_simp
    with_reducible rfl
  rotate_left
  · simp only [Act.put, List.setIfInBounds_toArray, List.set_cons_zero, List.set_cons_succ]
    rfl
  refine take_ (i := 5) (N := some 38) (v := ?_) (a' := ?_) #[true, true, true, true, true, true, false, false, false, false, false, false, false, false] rfl rfl (by kernel_rfl) (fun _ _ _ h => h) (.inl ⟨by rfl, fun w' hS' => ?_⟩) hS ?_ ?_
  rotate_left
  · obtain ⟨hI', hJ', p1', p2'⟩ := hS'
    go_simp
    with_reducible rfl
  rotate_left
  · simp only [Act.put, List.setIfInBounds_toArray, List.set_cons_zero, List.set_cons_succ]
    rfl
  refine take_ (i := 6) (N := some 39) (v := ?_) (a' := ?_) #[true, true, true, true, true, true, true, false, false, false, false, false, false, false] rfl rfl (by kernel_rfl) (fun _ _ _ h => h) (.inl ⟨by rfl, fun w' hS' => ?_⟩) hS ?_ ?_
  rotate_left
  · obtain ⟨hI', hJ', p1', p2'⟩ := hS'
    go_simp
    with_reducible rfl
  rotate_left
  · simp only [Act.put, List.setIfInBounds_toArray, List.set_cons_zero, List.set_cons_succ]
    rfl
  refine take_ (i := 7) (N := some 40) (v := ?_) (a' := ?_) #[true, true, true, true, true, true, true, true, false, false, false, false, false, false] rfl rfl (by kernel_rfl) (fun _ _ _ h => h) (.inl ⟨by rfl, fun w' hS' => ?_⟩) hS ?_ ?_
  rotate_left
  · obtain ⟨hI', hJ', p1', p2'⟩ := hS'
    go_simp
    with_reducible rfl
  rotate_left
  · simp only [Act.put, List.setIfInBounds_toArray, List.set_cons_zero, List.set_cons_succ]
    rfl
  refine take_ (i := 8) (N := some 41) (v := ?_) (a' := ?_) #[true, true, true, true, true, true, true, true, true, false, false, false, false, false] rfl rfl (by kernel_rfl) (fun _ _ _ h => h) (.inl ⟨by rfl, fun w' hS' => ?_⟩) hS ?_ ?_
  rotate_left
  · obtain ⟨hI', hJ', p1', p2'⟩ := hS'
    go_simp
    with_reducible rfl
  rotate_left
  · simp only [Act.put, List.setIfInBounds_toArray, List.set_cons_zero, List.set_cons_succ]
    rfl
  refine take_ (i := 9) (N := some 42) (v := ?_) (a' := ?_) #[true, true, true, true, true, true, true, true, true, true, false, false, false, false] rfl rfl (by kernel_rfl) (fun _ _ _ h => h) (.inl ⟨by rfl, fun w' hS' => ?_⟩) hS ?_ ?_
  rotate_left
  · obtain ⟨hI', hJ', p1', p2'⟩ := hS'
    go_simp
    with_reducible rfl
  rotate_left
  · simp only [Act.put, List.setIfInBounds_toArray, List.set_cons_zero, List.set_cons_succ]
    rfl
  refine wpAnyLast_all (rs := [10]) (by kernel_rfl) (by simp) ?_
  intro i hi'
  obtain rfl := List.mem_singleton.1 hi'
  refine wpOp_step rfl (fun K' hK => ?_)
  go_simp
  go_at_call 47
  with_reducible refine (own_calls s hm B _ hTd.reads).mono ?_
  rintro e w4 ⟨rfl, hb4⟩
  refine hK _ _ ⟨fun _ h => ⟨h.1.below hb4, h.2.1.below hb4, (h.1.below hb4).reads.magic, (h.2.1.below hb4).c2⟩, ?_⟩
  clear hK K'
  simp only [Act.put, List.setIfInBounds_toArray, List.set_cons_zero, List.set_cons_succ]
  refine wpAnyLast_all (rs := [11]) (by kernel_rfl) (by simp) ?_
  intro i hi'
  obtain rfl := List.mem_singleton.1 hi'
  refine wpOp_step rfl (fun K' hK => ?_)
  go_simp
  refine hK _ _ ⟨fun _ h => h, ?_⟩
  clear hK K'
  simp only [Act.put, List.setIfInBounds_toArray, List.set_cons_zero, List.set_cons_succ]
  refine wpAnyLast_all (rs := [12]) (by kernel_rfl) (by simp) ?_
  intro i hi'
  obtain rfl := List.mem_singleton.1 hi'
  refine wpOp_step rfl (fun K' hK => ?_)
  go_simp
  refine hK _ _ ⟨fun _ h => h, ?_⟩
  clear hK K'
  simp only [Act.put, List.setIfInBounds_toArray, List.set_cons_zero, List.set_cons_succ]
  refine wpAnyLast_all (rs := [13]) (by kernel_rfl) (by simp) ?_
  intro i hi'
  obtain rfl := List.mem_singleton.1 hi'
  refine wpOp_step rfl (fun K' hK => ?_)
  go_simp
  refine hK _ _ ⟨fun _ h => h, ?_⟩
  clear hK K'
  simp only [Act.put, List.setIfInBounds_toArray, List.set_cons_zero, List.set_cons_succ]
  refine wpAnyLast_done (by kernel_rfl) ?_ _
  have hT4 : IsEch w4 B s := hTd.below hb4
  have hP4 : IsPkt w4 w.heap.size code id d := hPd.below hb4
  have hB4 := hBd.trans_below hb4
  clear hTd hPd hBd hb4 c0 c1 c2 q4 hmm hmf
  have c0 := hP4.c0
  have c1 := hP4.c1
  have c2 := hP4.c2
  have hcc := hc w4 hT4 hB4
  clear hc
  go_wp2_with (first
    | (go_at_call 50; with_reducible refine hcc.mono ?_; rintro e w5 ⟨v, r, rfl, hQ⟩))
  go_ret2
  exact ⟨v, r, rfl, hQ⟩
/-- What Packet answers where nothing is sent. -/
def Ech.pktE (s : Ech) (code id : Int) (d : ByteArray) : Option Int :=
  if ¬ (code = 9 ∨ code = 10 ∨ code = 11) then some 8 else if d.size < 4 then some 6 else if s.magic ≠ 0 ∧ d.extract 0 4 = oct s.magic then some 170
  else if code = 9 then none else if code = 10 then (if s.sent = 0 ∨ id ≠ s.sent % 256 then some 3 else some 0) else some 0
/-- What it leaves. -/
def Ech.pktS (s : Ech) (code id : Int) (d : ByteArray) : Ech :=
  if code = 10 ∧ s.pktE code id d = some 0 then { s with missed := 0 } else s
def PktPost (s : Ech) (B : Nat) (code id : Int) (d : ByteArray) (w : World) (v : Value) (r : Int) (w' : World) : Prop :=
  (s.pktE code id d = some r ∧ v = .slice none 0 0 ∧ But B w w' ∧ IsEch w' B (s.pktS code id d)) ∨
  (s.pktE code id d = none ∧ r = 0 ∧ (∃ g, w.heap.size ≤ g ∧ v = .slice (some ⟨g, 0, none⟩) 1 1 ∧ w'.heap[g]? = some (.cells #[.int .u8 10, .int .u8 id, .string (oct s.magic ++ d.extract 4 d.size)] 48 (0, 0))) ∧ But B w w' ∧ IsEch w' B s)
theorem But.trans {B : Nat} {w w1 w2 : World} (h : But B w w1) (k : But B w1 w2) : But B w w2 :=
  ⟨k.os.trans h.os, k.tape.trans h.tape, k.output.trans h.output, Nat.le_trans h.size k.size, fun i hi hne => (k.block i (Nat.lt_of_lt_of_le hi h.size) hne).trans (h.block i hi hne)⟩
theorem pkt_calls (s : Ech) (hm : s.magic < 4294967296) (B : Nat) (code id : Int) (d : ByteArray) (hd2 : d.size ≤ 1000000) (w : World) (h : IsEch w B s) :
    Calls Try.prog 21 #[.pointer (some ⟨B, 0, none⟩), .agg #[.int .u8 code, .int .u8 id, .string d]] w fun e w' => ∃ v r, e = .returned (.tuple #[v, .int .i64 r]) ∧ PktPost s B code id d w v r w' := by
  by_cases hc : code = 9 ∨ code = 10 ∨ code = 11
  · obtain ⟨fv, hp⟩ : ∃ fv, pick3 (fnOf 48 B) (fnOf 49 B) (fnOf 50 B) code = .tuple #[fv, .bool true] := by
      rcases hc with rfl | rfl | rfl
      · exact ⟨_, rfl⟩
      · exact ⟨_, rfl⟩
      · exact ⟨_, rfl⟩
    by_cases h4 : d.size < 4
    · have hE : s.pktE code id d = some 6 := by unfold Ech.pktE; rw [if_neg (fun e => e hc), if_pos h4]
      have hS : s.pktS code id d = s := if_neg (by rw [hE]; simp)
      refine (pkt_short s B code id d w h fv hp h4).mono ?_
      rintro e w' ⟨rfl, hb, ht⟩
      exact ⟨_, _, rfl, .inl ⟨hE, rfl, hb, by rw [hS]; exact ht⟩⟩
    · by_cases hl : s.magic ≠ 0 ∧ d.extract 0 4 = oct s.magic
      · have hE : s.pktE code id d = some 170 := by unfold Ech.pktE; rw [if_neg (fun e => e hc), if_neg h4, if_pos hl]
        have hS : s.pktS code id d = s := if_neg (by rw [hE]; simp)
        refine (pkt_loop s hm B code id d (by omega) w h fv hp hl.1 hl.2).mono ?_
        rintro e w' ⟨rfl, hb, ht⟩
        exact ⟨_, _, rfl, .inl ⟨hE, rfl, hb, by rw [hS]; exact ht⟩⟩
      · have hE : s.pktE code id d = if code = 9 then none else if code = 10 then (if s.sent = 0 ∨ id ≠ s.sent % 256 then some 3 else some 0) else some 0 := by unfold Ech.pktE; rw [if_neg (fun e => e hc), if_neg h4, if_neg hl]
        rcases hc with rfl | rfl | rfl
        · rw [if_pos rfl] at hE
          have key : ∀ w1, IsEch w1 B s → But B w w1 → Calls Try.prog 48 #[.pointer (some ⟨B, 0, none⟩), .agg #[.int .u8 9, .int .u8 id, .string d]] w1 fun e w' => ∃ v r, e = .returned (.tuple #[v, .int .i64 r]) ∧ PktPost s B 9 id d w v r w' := fun w1 h1 hb1 => by
            refine (request_calls s hm B 9 id d (by omega) hd2 w1 h1).mono ?_
            rintro e w' ⟨g, hg, rfl, hgc, hb, ht⟩
            exact ⟨_, _, rfl, .inr ⟨hE, rfl, ⟨g, Nat.le_trans hb1.size hg, rfl, hgc⟩, hb1.trans hb, ht⟩⟩
          by_cases hm0 : s.magic = 0
          · exact pkt_req0 s hm B 9 id d (by omega) w h hd2 rfl hm0 _ key
          · exact pkt_req1 s hm B 9 id d (by omega) w h hd2 rfl hm0 (fun e => hl ⟨hm0, e⟩) _ key
        · rw [if_neg (by decide), if_pos rfl] at hE
          have key : ∀ w1, IsEch w1 B s → But B w w1 → Calls Try.prog 49 #[.pointer (some ⟨B, 0, none⟩), .agg #[.int .u8 10, .int .u8 id, .string d]] w1 fun e w' => ∃ v r, e = .returned (.tuple #[v, .int .i64 r]) ∧ PktPost s B 10 id d w v r w' := fun w1 h1 hb1 => by
            by_cases hn : s.sent = 0 ∨ id ≠ s.sent % 256
            · rw [if_pos hn] at hE
              have hS : s.pktS 10 id d = s := if_neg (by rw [hE]; simp)
              refine (reply_none s B 10 id d w1 h1 hn).mono ?_
              rintro e w' ⟨rfl, hb, ht⟩
              exact ⟨_, _, rfl, .inl ⟨hE, rfl, hb1.trans hb, by rw [hS]; exact ht⟩⟩
            · rw [if_neg hn] at hE
              have hS : s.pktS 10 id d = { s with missed := 0 } := if_pos ⟨rfl, hE⟩
              have hn1 : s.sent ≠ 0 := fun e => hn (.inl e)
              have hn2 : id = s.sent % 256 := by rcases Decidable.em (id = s.sent % 256) with e | e; exact e; exact absurd (.inr e) hn
              rw [hn2] at hE hS ⊢
              refine (reply_ok s B 10 d w1 h1 hn1).mono ?_
              rintro e w' ⟨rfl, hb, ht⟩
              exact ⟨_, _, rfl, .inl ⟨hE, rfl, hb1.trans hb, by rw [hS]; exact ht⟩⟩
          by_cases hm0 : s.magic = 0
          · exact pkt_rep0 s hm B 10 id d (by omega) w h rfl hm0 _ key
          · exact pkt_rep1 s hm B 10 id d (by omega) w h rfl hm0 (fun e => hl ⟨hm0, e⟩) _ key
        · rw [if_neg (by decide), if_neg (by decide)] at hE
          have hS : s.pktS 11 id d = s := if_neg (fun e => absurd e.1 (by decide))
          have key : ∀ w1, IsEch w1 B s → But B w w1 → Calls Try.prog 50 #[.pointer (some ⟨B, 0, none⟩), .agg #[.int .u8 11, .int .u8 id, .string d]] w1 fun e w' => ∃ v r, e = .returned (.tuple #[v, .int .i64 r]) ∧ PktPost s B 11 id d w v r w' := fun w1 h1 hb1 => by
            refine (discard_calls B 11 id d w1).mono ?_
            rintro e w' ⟨rfl, hb⟩
            exact ⟨_, _, rfl, .inl ⟨hE, rfl, hb1.trans_below hb, by rw [hS]; exact h1.below hb⟩⟩
          by_cases hm0 : s.magic = 0
          · exact pkt_dis0 s hm B 11 id d (by omega) w h rfl hm0 _ key
          · exact pkt_dis1 s hm B 11 id d (by omega) w h rfl hm0 (fun e => hl ⟨hm0, e⟩) _ key
  · have hE : s.pktE code id d = some 8 := by unfold Ech.pktE; rw [if_pos hc]
    have hS : s.pktS code id d = s := if_neg (by rw [hE]; simp)
    refine (pkt_type s B code id d w h (by unfold pick3; rw [if_neg (fun e => hc (.inl e)), if_neg (fun e => hc (.inr (.inl e))), if_neg (fun e => hc (.inr (.inr e)))])).mono ?_
    rintro e w' ⟨rfl, hb, ht⟩
    exact ⟨_, _, rfl, .inl ⟨hE, rfl, hb, by rw [hS]; exact ht⟩⟩
end Go.Proofs.Ythenjbonncbniaa
