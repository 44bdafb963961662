/-
  Layer 15 (ipcppol): New, Reset, Peer, slices.Clone, the law's addr, walked.
-/
import Derived.Test.YtlcckkdkcbelhaaDoorKf
import Derived.Laws.BytesArg
import Derived.Laws.Tables
import Derived.Lib.BufferMore
import Derived.Deep.CutRange
import Derived.Deep.CutBlock
set_option linter.unusedVariables false
set_option linter.unusedSimpArgs false
namespace Go.Proofs.YtlcckkdkcbelhaaDoor
open Go.RowKit Go.Proofs.YtlcckkdkcbelhaaDoorW.PrintWords Go.Proofs.YtlcckkdkcbelhaaDoorW.PrintLast

/-- All but one block lies as it lay. -/
structure But (B : Nat) (w w' : World) : Prop where
  os : w'.os = w.os
  tape : w'.tape = w.tape
  output : w'.output = w.output
  size : w.heap.size ≤ w'.heap.size
  block : ∀ k, k < w.heap.size → k ≠ B → w'.heap[k]? = w.heap[k]?
theorem But.refl (B : Nat) (w : World) : But B w w := ⟨rfl, rfl, rfl, Nat.le_refl _, fun _ _ _ => rfl⟩
theorem But.of_below {B : Nat} {w w' : World} (h : Below w.heap.size w w') : But B w w' := ⟨h.os, h.tape, h.output, h.size, fun k hk _ => h.block k hk⟩
theorem But.trans {B : Nat} {w w1 w2 : World} (h : But B w w1) (k : But B w1 w2) : But B w w2 :=
  ⟨k.os.trans h.os, k.tape.trans h.tape, k.output.trans h.output, Nat.le_trans h.size k.size, fun i hi hne => (k.block i (Nat.lt_of_lt_of_le hi h.size) hne).trans (h.block i hi hne)⟩
theorem But.below {B b : Nat} {a w w' : World} (h : Below b a w) (k : But B w w') (hb : b ≤ B) (hw : b ≤ w.heap.size) : Below b a w' :=
  ⟨k.os.trans h.os, k.tape.trans h.tape, k.output.trans h.output, Nat.le_trans h.size k.size, fun i hi => (k.block i (by omega) (by omega)).trans (h.block i hi)⟩
theorem But.set {B : Nat} {w w' : World} (h : But B w w') (j : Nat) (v : Value) : But B w (w'.setCell ⟨B, j, none⟩ v) :=
  ⟨h.os, h.tape, h.output, by simp [World.setCell]; exact h.size, fun k hk hne => (Below.heap_setCell w' ⟨B, j, none⟩ v k hne).trans (h.block k hk hne)⟩
theorem But.row {B : Nat} {w w' : World} (h : But B w w') (cs : Array Value) : But B w (w'.setRow B cs) :=
  ⟨h.os, h.tape, h.output, by simp; exact h.size, fun k hk hne => (setRow_other w' B k cs hne).trans (h.block k hk hne)⟩
def resetP (c : Conf) : Pol := ⟨⟨true, c.addr, c.want, 0, c.want, 0⟩, c, noI, noI, 0⟩
theorem size66 : (Tryd.prog.info? 66).map (·.size) = some 25 := by kernel_rfl
set_option maxHeartbeats 4000000 in
set_option maxRecDepth 100000 in
theorem reset_calls (s : Pol) (pb : Nat) (w : World) (hp : IsPol w pb s) : Calls Tryd.prog 22 #[.pointer (some ⟨pb, 0, none⟩)] w fun e w' => e = .returned (.int .i64 0) ∧ But pb w w' ∧ IsPol w' pb (resetP s.c) := by
  go_enter Tryd.func22, Tryd.ntmps22
  go_upto_region 3 with fail
  refine start_ (n := 25) (S := fun W' => W'.heap[pb]? = some (.cells s.cells 66 (0, 0))) (ds := [24]) (#[false, false, false, false, false, false, false, false, false, false, false, false, false, false, false, false, false, false, false, false, false, false, false, false, false]) (by kernel_rfl) rfl rfl (hp) (fun hS => ?_)
  have hbt : But pb w w.drew := But.of_below (below_drew (Below.refl _ _))
  generalize w.drew = wa at *
  refine take_ (i := 0) (N := some 5) (v := ?_) (a' := ?_) #[true, false, false, false, false, false, false, false, false, false, false, false, false, false, false, false, false, false, false, false, false, false, false, false, false] rfl rfl (by kernel_rfl) (fun _ _ _ h => h) (.inl ⟨by rfl, fun w' hS' => ?_⟩) hS ?_ ?_
  rotate_left
  · have t1 := fun i => blk_cell hS' i
    simp only [Pol.cells] at t1
    go_simp
    with_reducible rfl
  rotate_left
  · simp only [Act.put, List.setIfInBounds_toArray, List.set_cons_zero, List.set_cons_succ]
    rfl
  refine take_ (i := 1) (N := some 6) (v := ?_) (a' := ?_) #[true, true, false, false, false, false, false, false, false, false, false, false, false, false, false, false, false, false, false, false, false, false, false, false, false] rfl rfl (by kernel_rfl) (fun _ _ _ h => h) (.inl ⟨by rfl, fun w' hS' => ?_⟩) hS ?_ ?_
  rotate_left
  · have t1 := fun i => blk_cell hS' i
    simp only [Pol.cells] at t1
    go_simp
    with_reducible rfl
  rotate_left
  · simp only [Act.put, List.setIfInBounds_toArray, List.set_cons_zero, List.set_cons_succ]
    rfl
  refine take_ (i := 2) (N := some 7) (v := ?_) (a' := ?_) #[true, true, true, false, false, false, false, false, false, false, false, false, false, false, false, false, false, false, false, false, false, false, false, false, false] rfl rfl (by kernel_rfl) (fun _ _ _ h => h) (.inl ⟨by rfl, fun w' hS' => ?_⟩) hS ?_ ?_
  rotate_left
  · have t1 := fun i => blk_cell hS' i
    simp only [Pol.cells] at t1
    go_simp
    with_reducible rfl
  rotate_left
  · simp only [Act.put, List.setIfInBounds_toArray, List.set_cons_zero, List.set_cons_succ]
    rfl
  refine take_ (i := 3) (N := some 8) (v := ?_) (a' := ?_) #[true, true, true, true, false, false, false, false, false, false, false, false, false, false, false, false, false, false, false, false, false, false, false, false, false] rfl rfl (by kernel_rfl) (fun _ _ _ h => h) (.inl ⟨by rfl, fun w' hS' => ?_⟩) hS ?_ ?_
  rotate_left
  · have t1 := fun i => blk_cell hS' i
    simp only [Pol.cells] at t1
    go_simp
    with_reducible rfl
  rotate_left
  · simp only [Act.put, List.setIfInBounds_toArray, List.set_cons_zero, List.set_cons_succ]
    rfl
  refine take_ (i := 4) (N := some 9) (v := ?_) (a' := ?_) #[true, true, true, true, true, false, false, false, false, false, false, false, false, false, false, false, false, false, false, false, false, false, false, false, false] rfl rfl (by kernel_rfl) (fun _ _ _ h => h) (.inl ⟨by rfl, fun w' hS' => ?_⟩) hS ?_ ?_
  rotate_left
  · have t1 := fun i => blk_cell hS' i
    simp only [Pol.cells] at t1
    go_simp
    with_reducible rfl
  rotate_left
  · simp only [Act.put, List.setIfInBounds_toArray, List.set_cons_zero, List.set_cons_succ]
    rfl
  refine take_ (i := 5) (N := some 10) (v := ?_) (a' := ?_) #[true, true, true, true, true, true, false, false, false, false, false, false, false, false, false, false, false, false, false, false, false, false, false, false, false] rfl rfl (by kernel_rfl) (fun _ _ _ h => h) (.inl ⟨by rfl, fun w' hS' => ?_⟩) hS ?_ ?_
  rotate_left
  · have t1 := fun i => blk_cell hS' i
    simp only [Pol.cells] at t1
    go_simp
    with_reducible rfl
  rotate_left
  · simp only [Act.put, List.setIfInBounds_toArray, List.set_cons_zero, List.set_cons_succ]
    rfl
  refine take_ (i := 6) (N := some 11) (v := ?_) (a' := ?_) #[true, true, true, true, true, true, true, false, false, false, false, false, false, false, false, false, false, false, false, false, false, false, false, false, false] rfl rfl (by kernel_rfl) (fun _ _ _ h => h) (.inl ⟨by rfl, fun w' hS' => ?_⟩) hS ?_ ?_
  rotate_left
  · have t1 := fun i => blk_cell hS' i
    simp only [Pol.cells] at t1
    go_simp
    with_reducible rfl
  rotate_left
  · simp only [Act.put, List.setIfInBounds_toArray, List.set_cons_zero, List.set_cons_succ]
    rfl
  refine take_ (i := 7) (N := some 12) (v := ?_) (a' := ?_) #[true, true, true, true, true, true, true, true, false, false, false, false, false, false, false, false, false, false, false, false, false, false, false, false, false] rfl rfl (by kernel_rfl) (fun _ _ _ h => h) (.inl ⟨by rfl, fun w' hS' => ?_⟩) hS ?_ ?_
  rotate_left
  · have t1 := fun i => blk_cell hS' i
    simp only [Pol.cells] at t1
    go_simp
    with_reducible rfl
  rotate_left
  · simp only [Act.put, List.setIfInBounds_toArray, List.set_cons_zero, List.set_cons_succ]
    rfl
  refine take_ (i := 8) (N := some 13) (v := ?_) (a' := ?_) #[true, true, true, true, true, true, true, true, true, false, false, false, false, false, false, false, false, false, false, false, false, false, false, false, false] rfl rfl (by kernel_rfl) (fun _ _ _ h => h) (.inl ⟨by rfl, fun w' hS' => ?_⟩) hS ?_ ?_
  rotate_left
  · have t1 := fun i => blk_cell hS' i
    simp only [Pol.cells] at t1
    go_simp
    with_reducible rfl
  rotate_left
  · simp only [Act.put, List.setIfInBounds_toArray, List.set_cons_zero, List.set_cons_succ]
    rfl
  refine take_ (i := 9) (N := some 14) (v := ?_) (a' := ?_) #[true, true, true, true, true, true, true, true, true, true, false, false, false, false, false, false, false, false, false, false, false, false, false, false, false] rfl rfl (by kernel_rfl) (fun _ _ _ h => h) (.inl ⟨by rfl, fun w' hS' => ?_⟩) hS ?_ ?_
  rotate_left
  · have t1 := fun i => blk_cell hS' i
    simp only [Pol.cells] at t1
    go_simp
    with_reducible rfl
  rotate_left
  · simp only [Act.put, List.setIfInBounds_toArray, List.set_cons_zero, List.set_cons_succ]
    rfl
  refine take_ (i := 10) (N := some 15) (v := ?_) (a' := ?_) #[true, true, true, true, true, true, true, true, true, true, true, false, false, false, false, false, false, false, false, false, false, false, false, false, false] rfl rfl (by kernel_rfl) (fun _ _ _ h => h) (.inl ⟨by rfl, fun w' hS' => ?_⟩) hS ?_ ?_
  rotate_left
  · have t1 := fun i => blk_cell hS' i
    simp only [Pol.cells] at t1
    go_simp
    with_reducible rfl
  rotate_left
  · simp only [Act.put, List.setIfInBounds_toArray, List.set_cons_zero, List.set_cons_succ]
    rfl
  refine take_ (i := 11) (N := some 16) (v := ?_) (a' := ?_) #[true, true, true, true, true, true, true, true, true, true, true, true, false, false, false, false, false, false, false, false, false, false, false, false, false] rfl rfl (by kernel_rfl) (fun _ _ _ h => h) (.inl ⟨by rfl, fun w' hS' => ?_⟩) hS ?_ ?_
  rotate_left
  · have t1 := fun i => blk_cell hS' i
    simp only [Pol.cells] at t1
    go_simp
    with_reducible rfl
  rotate_left
  · simp only [Act.put, List.setIfInBounds_toArray, List.set_cons_zero, List.set_cons_succ]
    rfl
  refine take_ (i := 12) (N := some 17) (v := ?_) (a' := ?_) #[true, true, true, true, true, true, true, true, true, true, true, true, true, false, false, false, false, false, false, false, false, false, false, false, false] rfl rfl (by kernel_rfl) (fun _ _ _ h => h) (.inl ⟨by rfl, fun w' hS' => ?_⟩) hS ?_ ?_
  rotate_left
  · have t1 := fun i => blk_cell hS' i
    simp only [Pol.cells] at t1
    go_simp
    with_reducible rfl
  rotate_left
  · simp only [Act.put, List.setIfInBounds_toArray, List.set_cons_zero, List.set_cons_succ]
    rfl
  refine take_ (i := 13) (N := some 18) (v := ?_) (a' := ?_) #[true, true, true, true, true, true, true, true, true, true, true, true, true, true, false, false, false, false, false, false, false, false, false, false, false] rfl rfl (by kernel_rfl) (fun _ _ _ h => h) (.inl ⟨by rfl, fun w' hS' => ?_⟩) hS ?_ ?_
  rotate_left
  · have t1 := fun i => blk_cell hS' i
    simp only [Pol.cells] at t1
    go_simp
    with_reducible rfl
  rotate_left
  · simp only [Act.put, List.setIfInBounds_toArray, List.set_cons_zero, List.set_cons_succ]
    rfl
  refine take_ (i := 14) (N := some 19) (v := ?_) (a' := ?_) #[true, true, true, true, true, true, true, true, true, true, true, true, true, true, true, false, false, false, false, false, false, false, false, false, false] rfl rfl (by kernel_rfl) (fun _ _ _ h => h) (.inl ⟨by rfl, fun w' hS' => ?_⟩) hS ?_ ?_
  rotate_left
  · have t1 := fun i => blk_cell hS' i
    simp only [Pol.cells] at t1
    go_simp
    with_reducible rfl
  rotate_left
  · simp only [Act.put, List.setIfInBounds_toArray, List.set_cons_zero, List.set_cons_succ]
    rfl
  refine take_ (i := 15) (N := some 20) (v := ?_) (a' := ?_) #[true, true, true, true, true, true, true, true, true, true, true, true, true, true, true, true, false, false, false, false, false, false, false, false, false] rfl rfl (by kernel_rfl) (fun _ _ _ h => h) (.inl ⟨by rfl, fun w' hS' => ?_⟩) hS ?_ ?_
  rotate_left
  · have t1 := fun i => blk_cell hS' i
    simp only [Pol.cells] at t1
    go_simp
    with_reducible rfl
  rotate_left
  · simp only [Act.put, List.setIfInBounds_toArray, List.set_cons_zero, List.set_cons_succ]
    rfl
  refine take_ (i := 16) (N := some 21) (v := ?_) (a' := ?_) #[true, true, true, true, true, true, true, true, true, true, true, true, true, true, true, true, true, false, false, false, false, false, false, false, false] rfl rfl (by kernel_rfl) (fun _ _ _ h => h) (.inl ⟨by rfl, fun w' hS' => ?_⟩) hS ?_ ?_
  rotate_left
  · have t1 := fun i => blk_cell hS' i
    simp only [Pol.cells] at t1
    go_simp
    with_reducible rfl
  rotate_left
  · simp only [Act.put, List.setIfInBounds_toArray, List.set_cons_zero, List.set_cons_succ]
    rfl
  refine take_ (i := 17) (N := some 22) (v := ?_) (a' := ?_) #[true, true, true, true, true, true, true, true, true, true, true, true, true, true, true, true, true, true, false, false, false, false, false, false, false] rfl rfl (by kernel_rfl) (fun _ _ _ h => h) (.inl ⟨by rfl, fun w' hS' => ?_⟩) hS ?_ ?_
  rotate_left
  · have t1 := fun i => blk_cell hS' i
    simp only [Pol.cells] at t1
    go_simp
    with_reducible rfl
  rotate_left
  · simp only [Act.put, List.setIfInBounds_toArray, List.set_cons_zero, List.set_cons_succ]
    rfl
  refine take_ (i := 18) (N := some 23) (v := ?_) (a' := ?_) #[true, true, true, true, true, true, true, true, true, true, true, true, true, true, true, true, true, true, true, false, false, false, false, false, false] rfl rfl (by kernel_rfl) (fun _ _ _ h => h) (.inl ⟨by rfl, fun w' hS' => ?_⟩) hS ?_ ?_
  rotate_left
  · have t1 := fun i => blk_cell hS' i
    simp only [Pol.cells] at t1
    go_simp
    with_reducible rfl
  rotate_left
  · simp only [Act.put, List.setIfInBounds_toArray, List.set_cons_zero, List.set_cons_succ]
    rfl
  refine take_ (i := 19) (N := some 24) (v := ?_) (a' := ?_) #[true, true, true, true, true, true, true, true, true, true, true, true, true, true, true, true, true, true, true, true, false, false, false, false, false] rfl rfl (by kernel_rfl) (fun _ _ _ h => h) (.inl ⟨by rfl, fun w' hS' => ?_⟩) hS ?_ ?_
  rotate_left
  · have t1 := fun i => blk_cell hS' i
    simp only [Pol.cells] at t1
    go_simp
    with_reducible rfl
  rotate_left
  · simp only [Act.put, List.setIfInBounds_toArray, List.set_cons_zero, List.set_cons_succ]
    rfl
  refine take_ (i := 20) (N := some 25) (v := ?_) (a' := ?_) #[true, true, true, true, true, true, true, true, true, true, true, true, true, true, true, true, true, true, true, true, true, false, false, false, false] rfl rfl (by kernel_rfl) (fun _ _ _ h => h) (.inl ⟨by rfl, fun w' hS' => ?_⟩) hS ?_ ?_
  rotate_left
  · have t1 := fun i => blk_cell hS' i
    simp only [Pol.cells] at t1
    go_simp
    with_reducible rfl
  rotate_left
  · simp only [Act.put, List.setIfInBounds_toArray, List.set_cons_zero, List.set_cons_succ]
    rfl
  refine take_ (i := 21) (N := some 26) (v := ?_) (a' := ?_) #[true, true, true, true, true, true, true, true, true, true, true, true, true, true, true, true, true, true, true, true, true, true, false, false, false] rfl rfl (by kernel_rfl) (fun _ _ _ h => h) (.inl ⟨by rfl, fun w' hS' => ?_⟩) hS ?_ ?_
  rotate_left
  · have t1 := fun i => blk_cell hS' i
    simp only [Pol.cells] at t1
    go_simp
    with_reducible rfl
  rotate_left
  · simp only [Act.put, List.setIfInBounds_toArray, List.set_cons_zero, List.set_cons_succ]
    rfl
  refine take_ (i := 22) (N := some 27) (v := ?_) (a' := ?_) #[true, true, true, true, true, true, true, true, true, true, true, true, true, true, true, true, true, true, true, true, true, true, true, false, false] rfl rfl (by kernel_rfl) (fun _ _ _ h => h) (.inl ⟨by rfl, fun w' hS' => ?_⟩) hS ?_ ?_
  rotate_left
  · have t1 := fun i => blk_cell hS' i
    simp only [Pol.cells] at t1
    go_simp
    with_reducible rfl
  rotate_left
  · simp only [Act.put, List.setIfInBounds_toArray, List.set_cons_zero, List.set_cons_succ]
    rfl
  refine take_ (i := 23) (N := some 28) (v := ?_) (a' := ?_) #[true, true, true, true, true, true, true, true, true, true, true, true, true, true, true, true, true, true, true, true, true, true, true, true, false] rfl rfl (by kernel_rfl) (fun _ _ _ h => h) (.inl ⟨by rfl, fun w' hS' => ?_⟩) hS ?_ ?_
  rotate_left
  · have t1 := fun i => blk_cell hS' i
    simp only [Pol.cells] at t1
    go_simp
    with_reducible rfl
  rotate_left
  · simp only [Act.put, List.setIfInBounds_toArray, List.set_cons_zero, List.set_cons_succ]
    rfl
  refine wpAnyLast_all (rs := [24]) (by kernel_rfl) (by simp) ?_
  intro i hi'
  obtain rfl := List.mem_singleton.1 hi'
  refine wpOp_step rfl (fun K' hK' => ?_)
  rw [if_pos (by rfl)]
  refine wp_store_row 66 (.tmp 28) (.tmp 27) rfl pb (resetP s.c).cells rfl rfl 66 s.cells hS size66 rfl (by simp [Pol.cells, Value.oneCell']) ?_
  refine hK' _ _ ⟨fun h => by simp at h, ?_⟩
  clear hK' K'
  simp only [Act.put, List.setIfInBounds_toArray, List.set_cons_zero, List.set_cons_succ]
  refine wpAnyLast_done (by kernel_rfl) ?_ _
  go_wp2
  go_ret
  exact ⟨rfl, hbt.row _, setRow_heap _ _ _ _ _ _ hS⟩
set_option maxHeartbeats 4000000 in
set_option maxRecDepth 100000 in
theorem new_good (c : Conf) (h1 : 1 ≤ c.max) (h2 : c.max ≤ 10) (w : World) : Calls Tryd.prog 8 #[.agg c.cells] w fun e w' => e = .returned (.tuple #[.pointer (some ⟨w.heap.size + 1, 0, none⟩), .int .i64 0]) ∧ Below w.heap.size w w' ∧ IsPol w' (w.heap.size + 1) (resetP c) := by
  obtain ⟨a, b, d, e, f, g⟩ := c
  simp only at h1 h2
  have hc : (Conf.mk a b d e f g).cells = #[.int .u32 (nv a), .int .u32 (nv b), .int .u32 (nv d), .int .u32 (nv e), .bool f, .int .i64 g] := rfl
  rw [hc]
  have q1 : decide (g < 1) = false := by simp; omega
  have q2 : decide (10 < g) = false := by simp; omega
  have hr : ∀ W pb, IsPol W pb ⟨noI, ⟨a, b, d, e, f, g⟩, noI, noI, 0⟩ → Calls Tryd.prog 22 #[.pointer (some ⟨pb, 0, none⟩)] W _ := fun W pb hp => reset_calls _ pb W hp
  go_enter Tryd.func8, Tryd.ntmps8
  go_wp2_with (first
    | (go_at_call 22; with_reducible refine (hr _ _ ?_).mono ?_
       · exact alloc_new _ _ _ (by simp)
       rintro e' w1 ⟨rfl, hb1, hp1⟩
       have hB := But.below (((Below.refl w.heap.size w).alloc (Nat.le_refl _) _).alloc (by simp) _) hb1 (by omega) (by simp; omega)))
  go_ret2
  exact ⟨rfl, hB, hp1⟩
theorem new_bad (c : Conf) (h : ¬ (1 ≤ c.max ∧ c.max ≤ 10)) (w : World) : Calls Tryd.prog 8 #[.agg c.cells] w fun e w' => e = .returned (.tuple #[.pointer none, .int .i64 2]) ∧ Below w.heap.size w w' := by
  obtain ⟨a, b, d, e, f, g⟩ := c
  simp only at h
  have hc : (Conf.mk a b d e f g).cells = #[.int .u32 (nv a), .int .u32 (nv b), .int .u32 (nv d), .int .u32 (nv e), .bool f, .int .i64 g] := rfl
  rw [hc]
  by_cases h1 : g < 1
  · have q1 : decide (g < 1) = true := by simpa using h1
    go_enter Tryd.func8, Tryd.ntmps8
    go_wp2
    go_ret2
    exact ⟨rfl, (Below.refl _ _).alloc (Nat.le_refl _) _⟩
  · have q1 : decide (g < 1) = false := by simpa using h1
    have q2 : decide (10 < g) = true := by simp; omega
    go_enter Tryd.func8, Tryd.ntmps8
    go_wp2
    go_ret2
    exact ⟨rfl, (Below.refl _ _).alloc (Nat.le_refl _) _⟩
set_option maxHeartbeats 1000000 in
theorem peer_calls (s : Pol) (pb : Nat) (w : World) (hp : IsPol w pb s) : Calls Tryd.prog 13 #[.pointer (some ⟨pb, 0, none⟩)] w fun e w' => e = .returned (.agg s.peer.cells) ∧ Below w.heap.size w w' := by
  have p1 : ∀ ob, (w.alloc ob).heap[pb]? = some (.cells s.cells 66 (0, 0)) := fun ob => (Lib.alloc_old _ _ _ hp.lt).trans hp
  have p2 := fun ob i => blk_cell (p1 ob) i
  simp only [Pol.cells] at p2
  go_enter Tryd.func13, Tryd.ntmps13
  go_wp2
  (try simp only [Exit.inBlock, Exit.then])
  refine bodyPost_ret (v := .agg s.peer.cells) ?_ rfl ⟨rfl, (Below.refl _ _).alloc (Nat.le_refl _) _⟩
  exact results_cell1 rfl _ _ _ rfl (by go_simp; rfl)
theorem own_empty (W : World) (B : Nat) (h : B ≤ W.heap.size) : (W.alloc (.cells #[] 57)).ownsRow B 57 2 (.slice (some ⟨W.heap.size, 0, none⟩) 0 0) 0 [] :=
  ⟨rfl, .inr ⟨W.heap.size, 0, #[], rfl, h, alloc_new _ _ _ rfl, Nat.le_refl _, by unfold maxLen; omega, rfl, rfl⟩⟩
set_option maxHeartbeats 1000000 in
set_option maxRecDepth 100000 in
theorem clone_calls (l : List Opt) (a : Option Addr) (c : Nat) (w : World) (h : Row w a c l) (hs : l.length < 1000000) :
    Calls Tryd.prog 30 #[.slice a l.length c] w fun e w' => ∃ v, e = .returned v ∧ IsRow w' v l ∧ Below w.heap.size w w' := by
  obtain ⟨i0, hi, hz⟩ := Option.map_eq_some_iff.1 info57
  simp only [Prod.mk.injEq] at hz
  obtain ⟨hz0, hz1, hz2⟩ := hz
  cases a with
  | none =>
    have h0 : l.length = 0 := by
      rcases h.2 with h0 | ⟨x, e, _⟩
      · exact h0
      · cases e
    obtain rfl := List.eq_nil_of_length_eq_zero h0
    have hnn := fun W : World => Lib.run_eql_slice_nil_nil (P := Tryd.prog) W (t := 32) 0 c und32
    go_enter Tryd.func30, Tryd.ntmps30
    go_wp2
    go_ret
    exact ⟨_, rfl, ⟨none, 0, rfl, row_nil _ _ _⟩, Below.refl _ _⟩
  | some x =>
    have hal := optCells_length l
    have hc0 := h.1
    have hcell : ∀ j u, (optCells l)[j]? = some u → (w.alloc (.cells #[] 57)).cell? (x.add j) = some u := fun j u hj => by
      rcases h.2 with h0 | ⟨y, e, hc⟩
      · have := (List.getElem?_eq_some_iff.1 hj).1; omega
      · obtain rfl := Option.some.inj e
        have := hc j u hj
        exact (((Below.refl w.heap.size w).alloc (Nat.le_refl _) _).cell (cell_lt this)).trans this
    have hnn := fun W : World => Lib.run_eql_slice_some_nil (P := Tryd.prog) W (t := 32) x l.length c und32
    go_enter Tryd.func30, Tryd.ntmps30
    go_wp2_with (first
      | (at_builtin; refine wpList_append_own _ rfl _ _ 32 rfl w.heap.size 57 i0 (.agg #[.int .u8 0, .string ⟨#[]⟩]) 2 24 und32 hi hz0 hz1 hz2 rfl (by decide) (.slice (some ⟨w.heap.size, 0, none⟩) 0 0) 0 [] rfl (own_empty w _ (Nat.le_refl _)) x l.length c (optCells l) rfl (by rw [hal]; omega) hcell (optCells_one l) (by unfold maxLen; omega) (by omega) (by simp) ?_
         intro v' w1 hown hg _
         rw [Nat.zero_add, List.nil_append] at hown
         obtain ⟨ra, rc, rfl, hrow⟩ := row_own hown
         have hB := ((Below.refl w.heap.size w).alloc (Nat.le_refl _) (.cells #[] 57)).grown hg (by simp) (own_base (own_empty w _ (Nat.le_refl _)))))
    go_ret
    exact ⟨_, rfl, ⟨ra, rc, rfl, hrow⟩, hB⟩
theorem addr_conv (u : UInt8) (W : World) : (convert 92 9 (.slice (some ⟨W.heap.size, 0, none⟩) 4 4)).run Tryd.prog (W.alloc (.cells #[.int .u8 0, .int .u8 0, .int .u8 0, .int .u8 (tv u)] 5)) = .ok (.string ⟨#[0, 0, 0, u]⟩) (W.alloc (.cells #[.int .u8 0, .int .u8 0, .int .u8 0, .int .u8 (tv u)] 5)) := by
  have := run_convert_bytes_arg (P := Tryd.prog) (W.alloc (.cells #[.int .u8 0, .int .u8 0, .int .u8 0, .int .u8 (tv u)] 5)) 92 5 Tryd.underlying92 Tryd.underlying5 W.heap.size 0 4 4 [0, 0, 0, tv u] rfl (fun i hi => by
    rw [Nat.zero_add, blk_cell (alloc_new W _ _ rfl)]
    match i, hi with
    | 0, _ => rfl
    | 1, _ => rfl
    | 2, _ => rfl
    | 3, _ => rfl) 9 Tryd.underlying9
  rw [this, show strOfNums [0, 0, 0, tv u] = ⟨#[0, 0, 0, u]⟩ from by
    unfold strOfNums tv
    simp]
set_option maxRecDepth 100000 in
theorem addr_calls (u : UInt8) (w : World) : Calls Tryd.prog 26 #[.int .u8 (tv u)] w fun e w' => e = .returned (.agg #[.int .u8 3, .string ⟨#[0, 0, 0, u]⟩]) ∧ Below w.heap.size w w' := by
  have hcv := addr_conv u (w.alloc (.cells #[.int .u8 0, .string ⟨#[]⟩] 57))
  rw [World.size_alloc] at hcv
  go_enter Tryd.func26, Tryd.ntmps26
  go_wp2
  (try simp only [Exit.inBlock, Exit.then])
  refine bodyPost_ret (v := .agg #[.int .u8 3, .string ⟨#[0, 0, 0, u]⟩]) ?_ rfl ⟨rfl, ?_⟩
  · exact results_cell1 rfl _ _ _ rfl (by go_simp; try rfl)
  · exact ((Below.refl _ _).alloc (Nat.le_refl _) _).alloc (by simp) _
end Go.Proofs.YtlcckkdkcbelhaaDoor
