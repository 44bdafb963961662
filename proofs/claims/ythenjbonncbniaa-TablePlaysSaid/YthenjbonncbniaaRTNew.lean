/-
  Layer 25 (table): the document's New, and Copy, walked.
-/
import Derived.Test.YthenjbonncbniaaRTSet
import Derived.Test.YthenjbonncbniaaList
import Derived.Laws.OwnMore
import Derived.Deep.WholeRow
set_option linter.unusedVariables false
set_option linter.unusedSimpArgs false
namespace Go.Proofs.Ythenjbonncbniaa
open Go.RowKit Go.Proofs.YthenjbonncbniaaW.PrintWords Go.Proofs.YthenjbonncbniaaW.PrintLast

theorem und86 : Try.prog.underlying 86 = some (.struct (Try.prog.fieldsOf 86)) := by kernel_rfl
theorem size86 : (Try.prog.info? 86).map (·.size) = some 129 := by kernel_rfl
theorem load86 {w : World} {B : Nat} {s : Tab} (hw : s.Wf) (h : IsTab w B s) : (loadVar 86 ⟨B, 0, none⟩).run Try.prog w = .ok (.agg s.cells.toArray) w := by
  have hs : s.cells.toArray.size = 129 := by simp [Tab.cells, hw.ns, hw.ts]
  have := run_loadVar_first (P := Try.prog) w B 129 86 86 s.cells.toArray (0, 0) _ h und86 rfl size86 (by omega)
  rw [this, List.take_of_length_le (by rw [Array.length_toList, hs]; exact Nat.le_refl _)]
set_option maxRecDepth 100000 in
theorem tcopy_calls (s : Tab) (hw : s.Wf) (B : Nat) (w : World) (h : IsTab w B s) :
    Calls Try.prog 34 #[.pointer (some ⟨B, 0, none⟩)] w fun e w' => e = .returned (.pointer (some ⟨w.heap.size, 0, none⟩)) ∧ Below w.heap.size w w' ∧ IsTab w' w.heap.size s := by
  have hld := load86 hw h
  have hz := zero86
  have hs : s.cells.toArray.size = 129 := by simp [Tab.cells, hw.ns, hw.ts]
  have hl : zeroT.cells.toArray.size = 129 := by rw [List.size_toArray, zeroT_len]
  have h1 : s.cells.toArray.all (·.oneCell') = true := by
    rw [List.all_toArray, List.all_eq_true]
    intro v hv
    simp only [Tab.cells, List.mem_append, List.mem_map, List.mem_singleton] at hv
    rcases hv with (⟨x, _, rfl⟩ | ⟨x, _, rfl⟩) | rfl <;> rfl
  unfold IsTab
  generalize s.cells.toArray = C at *
  generalize zeroT.cells.toArray = Z at *
  have hst := run_storeCells_new (P := Try.prog) w 86 Z C (by rw [size86, hs]) (by rw [hl, hs]) h1
  clear h hw h1
  go_enter Try.func34, Try.ntmps34
  go_wp2_with (first
    | refine wpList_load_first rfl 86 _ rfl B rfl _ hld ?_)
  go_ret
  exact ⟨rfl, (Below.refl _ _).alloc (Nat.le_refl _) _, heap_alloc_new _ _⟩
theorem rep_getD (n j : Nat) (hj : j < n) (h64 : n ≤ 64) : (List.replicate 64 (⟨#[]⟩ : ByteArray)).getD j ⟨#[]⟩ = ⟨#[]⟩ := by
  rw [List.getD_eq_getElem?_getD, List.getElem?_replicate]; split <;> rfl
theorem rep_getN (n j : Nat) (hj : j < n) (h64 : n ≤ 64) : (List.replicate 64 0).getD j 0 = 0 := by
  rw [List.getD_eq_getElem?_getD, List.getElem?_replicate]; split <;> rfl
/-- The new table, out of its two rows. -/
theorem rt_new {W : World} {n gl gt : Nat} {A D : Array Value} (h1 : 1 ≤ n) (h64 : n ≤ 64) (hA : W.heap[gl]? = some (.cells A 9 (0, 0))) (hA2 : ∀ j, j < n → A[j]? = (madeCells (Value.string ⟨#[]⟩).cells (n * 1)).toList[j]?)
    (hD : W.heap[gt]? = some (.cells D 59 (0, 0))) (hD2 : ∀ j, j < n → D[j]? = (madeCells (Value.int .u64 0).cells (n * 1)).toList[j]?) :
    IsRT (W.alloc (.cells #[.slice (some ⟨gl, 0, none⟩) n n, .slice (some ⟨gt, 0, none⟩) n n] 100)) W.heap.size (newT n) := by
  have hb : Below W.heap.size W (W.alloc (.cells #[.slice (some ⟨gl, 0, none⟩) n n, .slice (some ⟨gt, 0, none⟩) n n] 100)) := (Below.refl _ _).alloc (Nat.le_refl _) _
  refine ⟨gl, gt, n, n, heap_alloc_new _ _, ⟨A, (hb.block gl (blk_lt hA)).trans hA, fun j hj => ?_⟩, ⟨D, (hb.block gt (blk_lt hD)).trans hD, fun j hj => ?_⟩, Nat.le_refl _, Nat.le_refl _⟩
  · change j < n at hj
    rw [hA2 j hj, show (Value.string ⟨#[]⟩).cells = #[.string ⟨#[]⟩] from rfl, toList_madeCells_one, List.getElem?_replicate, if_pos (by omega)]
    exact congrArg (fun z => some (Value.string z)) (rep_getD n j hj h64).symm
  · change j < n at hj
    rw [hD2 j hj, show (Value.int .u64 0).cells = #[.int .u64 0] from rfl, toList_madeCells_one, List.getElem?_replicate, if_pos (by omega)]
    exact congrArg (fun z : Nat => some (Value.int .u64 (z : Int))) (rep_getN n j hj h64).symm
set_option maxHeartbeats 2000000 in
theorem rnew_calls (n : Nat) (h1 : 1 ≤ n) (h64 : n ≤ 64) (w : World) :
    Calls Try.prog 35 #[.int .i64 (n : Int)] w fun e w' => ∃ R, e = .returned (.pointer (some ⟨R, 0, none⟩)) ∧ w.heap.size ≤ R ∧ Below w.heap.size w w' ∧ IsRT w' R (newT n) := by
  obtain ⟨i9, hi9, hz⟩ := Option.map_eq_some_iff.1 info9'
  simp only [Prod.mk.injEq] at hz
  obtain ⟨z90, z91, z92⟩ := hz
  obtain ⟨i59, hi59, hz⟩ := Option.map_eq_some_iff.1 info59'
  simp only [Prod.mk.injEq] at hz
  obtain ⟨z50, z51, z52⟩ := hz
  have hml : n ≤ maxLen := by unfold maxLen; omega
  obtain ⟨wa, ra, oa, ga⟩ := run_make_full (P := Try.prog) w.drew w.heap.size 88 9 i9 (.string ⟨#[]⟩) 1 und88 hi9 z90 z91 .i64 .i64 n (by rw [z92]; omega) hml (Nat.le_refl _)
  obtain ⟨wb, rb, ob, gb⟩ := run_make_full (P := Try.prog) wa w.heap.size 98 59 i59 (.int .u64 0) 1 und98 hi59 z50 z51 .i64 .i64 n (by rw [z52]; omega) hml ga.size
  obtain ⟨wc, rc, oc, gc⟩ := run_make_full (P := Try.prog) w.drew w.heap.size 98 59 i59 (.int .u64 0) 1 und98 hi59 z50 z51 .i64 .i64 n (by rw [z52]; omega) hml (Nat.le_refl _)
  obtain ⟨wd, rd, od, gd⟩ := run_make_full (P := Try.prog) wc w.heap.size 88 9 i9 (.string ⟨#[]⟩) 1 und88 hi9 z90 z91 .i64 .i64 n (by rw [z92]; omega) hml gc.size
  have ba : Below w.heap.size w wa := (below_drew (Below.refl _ _)).trans (below_grown ga)
  have bb : Below w.heap.size w wb := ba.trans ((below_grown gb).mono ba.size)
  have bc : Below w.heap.size w wc := (below_drew (Below.refl _ _)).trans (below_grown gc)
  have bd : Below w.heap.size w wd := bc.trans ((below_grown gd).mono bc.size)
  obtain ⟨g1, k1, A1, e1, hg1, hh1, _, ha1⟩ := own_open oa h1
  obtain ⟨g2, k2, A2, e2, hg2, hh2, _, ha2⟩ := own_open ob h1
  obtain ⟨g3, k3, A3, e3, hg3, hh3, _, ha3⟩ := own_open oc h1
  obtain ⟨g4, k4, A4, e4, hg4, hh4, _, ha4⟩ := own_open od h1
  simp only [Value.slice.injEq, Option.some.injEq, Addr.mk.injEq, and_true, true_and] at e1 e2 e3 e4
  obtain ⟨rfl, -⟩ := e1
  obtain ⟨rfl, -⟩ := e2
  obtain ⟨rfl, -⟩ := e3
  obtain ⟨rfl, -⟩ := e4
  have hh1' := ((below_grown gb).block _ (blk_lt hh1)).trans hh1
  have hh3' := ((below_grown gd).block _ (blk_lt hh3)).trans hh3
  have fin1 := rt_new h1 h64 hh1' ha1 hh2 ha2
  have fin2 := rt_new h1 h64 hh4 ha4 hh3' ha3
  have ra' : (Instr.makeSlice 88 (.int .i64 (n : Int)) (.int .i64 (n : Int))).run Try.prog w.drew = .ok (.slice (some ⟨w.heap.size, 0, none⟩) n n) wa := ra
  have rc' : (Instr.makeSlice 98 (.int .i64 (n : Int)) (.int .i64 (n : Int))).run Try.prog w.drew = .ok (.slice (some ⟨w.heap.size, 0, none⟩) n n) wc := rc
  change IsRT (wb.alloc (.cells #[.slice (some ⟨w.heap.size, 0, none⟩) n n, .slice (some ⟨wa.heap.size, 0, none⟩) n n] 100)) wb.heap.size (newT n) at fin1
  change IsRT (wd.alloc (.cells #[.slice (some ⟨wc.heap.size, 0, none⟩) n n, .slice (some ⟨w.heap.size, 0, none⟩) n n] 100)) wd.heap.size (newT n) at fin2
  clear ra rc oa ob oc od ga gb gc gd ha1 ha2 ha3 ha4 hh1 hh2 hh3 hh4 hh1' hh3' ba bc hg1 hg2 hg3 hg4
  go_enter Try.func35, Try.ntmps35
  go_wp2
  refine start_ (n := 7) (S := fun W' => True) (ds := []) (#[false, false, false, false, false, false, false]) (by kernel_rfl) rfl rfl (trivial) (fun hS => ?_)
  refine take_ (i := 0) (N := some 3) (v := ?_) (a' := ?_) #[true, false, false, false, false, false, false] rfl rfl (by kernel_rfl) (fun _ _ _ h => h) (.inl ⟨by rfl, fun w' hS' => ?_⟩) hS ?_ ?_
  rotate_left
  · obtain _hT := hS'
    go_simp
    with_reducible rfl
  rotate_left
  · simp only [Act.put, List.setIfInBounds_toArray, List.set_cons_zero, List.set_cons_succ]
    rfl
  refine take_ (i := 2) (N := some 5) (v := ?_) (a' := ?_) #[true, false, true, false, false, false, false] rfl rfl (by kernel_rfl) (fun _ _ _ h => h) (.inl ⟨by rfl, fun w' hS' => ?_⟩) hS ?_ ?_
  rotate_left
  · obtain _hT := hS'
    go_simp
    with_reducible rfl
  rotate_left
  · simp only [Act.put, List.setIfInBounds_toArray, List.set_cons_zero, List.set_cons_succ]
    rfl
  refine wpAnyLast_all (rs := [1, 3]) (by kernel_rfl) (by simp) ?_
  intro i hi'
  rcases List.mem_cons.1 hi' with rfl | hi'
  ·
    refine wpOp_step rfl (fun K' hK => ?_)
    go_simp
    refine hK _ _ ⟨fun _ h => h, ?_⟩
    clear hK K'
    simp only [Act.put, List.setIfInBounds_toArray, List.set_cons_zero, List.set_cons_succ]
    refine wpAnyLast_all (rs := [3]) (by kernel_rfl) (by simp) ?_
    intro i hi'
    obtain rfl := List.mem_singleton.1 hi'
    refine wpOp_step rfl (fun K' hK => ?_)
    go_simp
    refine hK _ _ ⟨fun _ h => h, ?_⟩
    clear hK K'
    simp only [Act.put, List.setIfInBounds_toArray, List.set_cons_zero, List.set_cons_succ]
    refine wpAnyLast_all (rs := [4]) (by kernel_rfl) (by simp) ?_
    intro i hi'
    obtain rfl := List.mem_singleton.1 hi'
    refine wpOp_step rfl (fun K' hK => ?_)
    go_simp
    refine hK _ _ ⟨fun _ h => h, ?_⟩
    clear hK K'
    simp only [Act.put, List.setIfInBounds_toArray, List.set_cons_zero, List.set_cons_succ]
    refine wpAnyLast_all (rs := [5]) (by kernel_rfl) (by simp) ?_
    intro i hi'
    obtain rfl := List.mem_singleton.1 hi'
    refine wpOp_step rfl (fun K' hK => ?_)
    go_simp
    refine hK _ _ ⟨fun _ h => h, ?_⟩
    clear hK K'
    simp only [Act.put, List.setIfInBounds_toArray, List.set_cons_zero, List.set_cons_succ]
    refine wpAnyLast_all (rs := [6]) (by kernel_rfl) (by simp) ?_
    intro i hi'
    obtain rfl := List.mem_singleton.1 hi'
    refine wpOp_step rfl (fun K' hK => ?_)
    go_simp
    refine hK _ _ ⟨fun _ h => h, ?_⟩
    clear hK K'
    simp only [Act.put, List.setIfInBounds_toArray, List.set_cons_zero, List.set_cons_succ]
    refine wpAnyLast_done (by kernel_rfl) ?_ _
    go_wp2
    go_ret
    exact ⟨wb.heap.size, rfl, bb.size, bb.alloc bb.size _, fin1⟩
  · obtain rfl := List.mem_singleton.1 hi'
    refine wpOp_step rfl (fun K' hK => ?_)
    go_simp
    refine hK _ _ ⟨fun _ h => h, ?_⟩
    clear hK K'
    simp only [Act.put, List.setIfInBounds_toArray, List.set_cons_zero, List.set_cons_succ]
    refine wpAnyLast_all (rs := [1]) (by kernel_rfl) (by simp) ?_
    intro i hi'
    obtain rfl := List.mem_singleton.1 hi'
    refine wpOp_step rfl (fun K' hK => ?_)
    go_simp
    refine hK _ _ ⟨fun _ h => h, ?_⟩
    clear hK K'
    simp only [Act.put, List.setIfInBounds_toArray, List.set_cons_zero, List.set_cons_succ]
    refine wpAnyLast_all (rs := [4]) (by kernel_rfl) (by simp) ?_
    intro i hi'
    obtain rfl := List.mem_singleton.1 hi'
    refine wpOp_step rfl (fun K' hK => ?_)
    go_simp
    refine hK _ _ ⟨fun _ h => h, ?_⟩
    clear hK K'
    simp only [Act.put, List.setIfInBounds_toArray, List.set_cons_zero, List.set_cons_succ]
    refine wpAnyLast_all (rs := [5]) (by kernel_rfl) (by simp) ?_
    intro i hi'
    obtain rfl := List.mem_singleton.1 hi'
    refine wpOp_step rfl (fun K' hK => ?_)
    go_simp
    refine hK _ _ ⟨fun _ h => h, ?_⟩
    clear hK K'
    simp only [Act.put, List.setIfInBounds_toArray, List.set_cons_zero, List.set_cons_succ]
    refine wpAnyLast_all (rs := [6]) (by kernel_rfl) (by simp) ?_
    intro i hi'
    obtain rfl := List.mem_singleton.1 hi'
    refine wpOp_step rfl (fun K' hK => ?_)
    go_simp
    refine hK _ _ ⟨fun _ h => h, ?_⟩
    clear hK K'
    simp only [Act.put, List.setIfInBounds_toArray, List.set_cons_zero, List.set_cons_succ]
    refine wpAnyLast_done (by kernel_rfl) ?_ _
    go_wp2
    go_ret
    exact ⟨wd.heap.size, rfl, bd.size, bd.alloc bd.size _, fin2⟩
end Go.Proofs.Ythenjbonncbniaa
