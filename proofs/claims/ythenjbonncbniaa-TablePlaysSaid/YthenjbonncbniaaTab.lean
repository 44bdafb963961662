/-
  Layer 25 (table): the table's methods, walked.
-/
import Derived.Test.YthenjbonncbniaaFind
import Derived.Test.YthenjbonncbniaaWLast
set_option linter.unusedVariables false
set_option linter.unusedSimpArgs false
namespace Go.Proofs.Ythenjbonncbniaa
open Go.RowKit Go.Proofs.YthenjbonncbniaaW.PrintWords Go.Proofs.YthenjbonncbniaaW.PrintLast

/-- A table: how many, names, turns. -/
structure Tab where
  n : Nat
  ns : List ByteArray
  ts : List Nat
def Tab.cells (s : Tab) : List Value := s.ns.map .string ++ (s.ts.map fun t => .int .u64 (t : Int)) ++ [.int .i64 (s.n : Int)]
structure Tab.Wf (s : Tab) : Prop where
  n1 : 1 ≤ s.n
  n64 : s.n ≤ 64
  ns : s.ns.length = 64
  ts : s.ts.length = 64
  small : ∀ t ∈ s.ts, t < 18446744073709551615
def IsTab (W : World) (B : Nat) (s : Tab) : Prop := W.heap[B]? = some (.cells s.cells.toArray 86 (0, 0))
theorem IsTab.lt {W : World} {B : Nat} {s : Tab} (h : IsTab W B s) : B < W.heap.size := (Array.getElem?_eq_some_iff.1 h).1
theorem IsTab.cell {W : World} {B : Nat} {s : Tab} (h : IsTab W B s) (j : Nat) : W.cell? ⟨B, j, none⟩ = s.cells[j]? := by
  unfold World.cell?
  rw [show W.heap[B]? = _ from h]
  simp
theorem IsTab.name {W : World} {B : Nat} {s : Tab} (h : IsTab W B s) (w : s.Wf) (j : Nat) (hj : j < 64) : W.cell? ⟨B, j, none⟩ = some (.string (s.ns[j]'(by rw [w.ns]; exact hj))) := by
  have := w.ns
  have := w.ts
  rw [h.cell, Tab.cells, List.append_assoc, List.getElem?_append_left (by simp; omega)]
  simp [List.getElem?_eq_getElem (show j < s.ns.length by omega)]
theorem IsTab.turn {W : World} {B : Nat} {s : Tab} (h : IsTab W B s) (w : s.Wf) (j : Nat) (hj : j < 64) : W.cell? ⟨B, 64 + j, none⟩ = some (.int .u64 ((s.ts[j]'(by rw [w.ts]; exact hj) : Nat) : Int)) := by
  have := w.ns
  have := w.ts
  rw [h.cell, Tab.cells, List.append_assoc, List.getElem?_append_right (by simp; omega), List.getElem?_append_left (by simp; omega)]
  simp [w.ns, List.getElem?_eq_getElem (show j < s.ts.length by omega)]
theorem IsTab.most {W : World} {B : Nat} {s : Tab} (h : IsTab W B s) (w : s.Wf) : W.cell? ⟨B, 128, none⟩ = some (.int .i64 (s.n : Int)) := by
  have := w.ns
  have := w.ts
  rw [h.cell, Tab.cells, List.getElem?_append_right (by simp; omega)]
  simp [w.ns, w.ts]
theorem IsTab.frozen {W : World} {B : Nat} {s : Tab} (h : IsTab W B s) (j : Nat) : W.frozen? ⟨B, j, none⟩ = false := by
  simp [World.frozen?, show W.heap[B]? = _ from h]
theorem IsTab.setName {W : World} {B : Nat} {s : Tab} (h : IsTab W B s) (w : s.Wf) (k : Nat) (hk : k < 64) (x : ByteArray) : IsTab (W.setCell ⟨B, k, none⟩ (.string x)) B ⟨s.n, s.ns.set k x, s.ts⟩ := by
  have := w.ns
  have hs : Tab.cells ⟨s.n, s.ns.set k x, s.ts⟩ = s.cells.set k (.string x) := by
    simp only [Tab.cells]
    rw [List.append_assoc, List.append_assoc, List.set_append_left _ _ (by simp; omega), List.map_set]
  unfold IsTab
  rw [hs, blk_set h k _, List.setIfInBounds_toArray]
theorem IsTab.setTurn {W : World} {B : Nat} {s : Tab} (h : IsTab W B s) (w : s.Wf) (k : Nat) (hk : k < 64) (t : Nat) : IsTab (W.setCell ⟨B, 64 + k, none⟩ (.int .u64 ((t : Int) + 1))) B ⟨s.n, s.ns, s.ts.set k (t + 1)⟩ := by
  have h1 := w.ns
  have h2 := w.ts
  have hs : Tab.cells ⟨s.n, s.ns, s.ts.set k (t + 1)⟩ = s.cells.set (64 + k) (.int .u64 ((t : Int) + 1)) := by
    simp only [Tab.cells]
    rw [List.append_assoc, List.append_assoc, List.set_append_right _ _ (by simp; omega), List.set_append_left _ _ (by simp; omega)]
    simp [h1, List.map_set]
  unfold IsTab
  rw [hs, blk_set h (64 + k) _, List.setIfInBounds_toArray]
theorem IsTab.below {W w : World} {B : Nat} {s : Tab} (h : IsTab W B s) (hb : Below W.heap.size W w) : IsTab w B s := (hb.block B h.lt).trans h
theorem IsTab.drew {W : World} {B : Nat} {s : Tab} (h : IsTab W B s) : IsTab W.drew B s := h

theorem str_ne0 {x : ByteArray} (h : ¬ x = ⟨#[]⟩) : (x.toList == ([] : List UInt8)) = false := by
  have := str_ne h
  rwa [show ((⟨#[]⟩ : ByteArray)).toList = [] from by rw [ByteArray.toList_eq]] at this
theorem str_ne0' {x : ByteArray} (h : ¬ x = ⟨#[]⟩) : (x.toList != ([] : List UInt8)) = true := by
  unfold bne
  rw [str_ne0 h]; rfl
theorem empty_eq (x : ByteArray) : decide (x = ⟨#[]⟩) = x.toList.isEmpty := by
  by_cases h : x = ⟨#[]⟩
  · subst h; rw [ByteArray.toList_eq]; rfl
  · rw [decide_eq_false h]
    have := str_ne0 h
    cases hx : x.toList with
    | nil => rw [hx] at this; cases this
    | cons a l => rfl
def newT (n : Nat) : Tab := ⟨n, List.replicate 64 ⟨#[]⟩, List.replicate 64 0⟩
def zeroT : Tab := ⟨0, List.replicate 64 ⟨#[]⟩, List.replicate 64 0⟩
theorem info86 : (Try.prog.info? 86).map (·.zero) = some (some (.agg zeroT.cells.toArray)) := by kernel_rfl
theorem zero86 (w : World) : (zeroValue 86).run Try.prog w = .ok (.agg zeroT.cells.toArray) w := by
  obtain ⟨i, hi, hz⟩ := Option.map_eq_some_iff.1 info86
  simp [zeroValue, typeInfo, hi, hz]
theorem zeroT_len : zeroT.cells.length = 129 := by simp [zeroT, Tab.cells]
theorem zeroT_set (n : Nat) : zeroT.cells.toArray.setIfInBounds 128 (.int .i64 (n : Int)) = (newT n).cells.toArray := by
  rw [List.setIfInBounds_toArray]
  congr 1
theorem und81 : Try.prog.underlying 81 = some (.array (Try.prog.arrayLen 81) (Try.prog.elem 81)) := by kernel_rfl
theorem len81 : Try.prog.arrayLen 81 = 64 := by kernel_rfl
theorem el81 : Try.prog.elem 81 = 9 := by kernel_rfl
theorem info9 : (Try.prog.info? 9).map (·.size) = some 1 := by kernel_rfl
theorem cut81 (B n : Nat) (h : n ≤ 64) (W : World) : (Instr.sliceAt 81 (.pointer (some ⟨B, 0, none⟩)) none (some (.int .i64 (n : Int))) none).run Try.prog W = .ok (.slice (some ⟨B, 0, none⟩) n 64) W := by
  obtain ⟨i, hi, hs⟩ := Option.map_eq_some_iff.1 info9
  rw [run_sliceAt_array_h (P := Try.prog) W 81 ⟨B, 0, none⟩ und81 .i64 (n : Int) (by omega) (by rw [len81]; omega), len81, el81]
  simp [sizeOf, typeInfo, hi, slicedAt, Result.andThen, Addr.add]
theorem none_calls (s : Tab) (hw : s.Wf) (B : Nat) (k : Int) (w : World) (h : IsTab w B s) :
    Calls Try.prog 45 #[.pointer (some ⟨B, 0, none⟩), .int .i64 k] w fun e w' => e = .returned (.bool (decide (k < 0) || decide ((s.n : Int) ≤ k))) ∧ w' = w := by
  have hm := h.most hw
  by_cases h0 : k < 0
  · have hd : decide (k < 0) = true := by simp; omega
    go_enter Try.func45, Try.ntmps45
    go_wp2
    go_ret
    exact ⟨by simp [h0], rfl⟩
  · have hd : decide (k < 0) = false := by simp; omega
    go_enter Try.func45, Try.ntmps45
    go_wp2
    go_ret
    exact ⟨by simp [h0], rfl⟩
set_option maxRecDepth 100000 in
theorem new_calls (n : Int) (w : World) :
    Calls Try.prog 9 #[.int .i64 n] w fun e w' => (¬ (1 ≤ n ∧ n ≤ 64) ∧ e = .returned (.tuple #[.pointer none, .int .i64 2]) ∧ w' = w) ∨
      (1 ≤ n ∧ n ≤ 64 ∧ e = .returned (.tuple #[.pointer (some ⟨w.heap.size, 0, none⟩), .int .i64 0]) ∧ Below w.heap.size w w' ∧ IsTab w' w.heap.size (newT n.toNat)) := by
  by_cases h : 1 ≤ n ∧ n ≤ 64
  · have h1 : decide (n < 1) = false := by simp; omega
    have h2 : decide (64 < n) = false := by simp; omega
    obtain ⟨m, rfl⟩ := Int.eq_ofNat_of_zero_le (show 0 ≤ n by omega)
    have hz := zero86
    have hl : zeroT.cells.toArray.size = 129 := by rw [List.size_toArray, zeroT_len]
    have hset := zeroT_set m
    generalize zeroT.cells.toArray = Z at *
    go_enter Try.func9, Try.ntmps9
    go_wp2
    go_ret2
    exact .inr ⟨by omega, by omega, rfl, (Below.refl _ _).alloc (Nat.le_refl _) _, heap_alloc_new _ _⟩
  · by_cases h0 : n < 1
    · have h1 : decide (n < 1) = true := by simp; omega
      go_enter Try.func9, Try.ntmps9
      go_wp2
      go_ret2
      exact .inl ⟨by omega, rfl, rfl⟩
    · have h1 : decide (n < 1) = false := by simp; omega
      have h2 : decide (64 < n) = true := by simp; omega
      go_enter Try.func9, Try.ntmps9
      go_wp2
      go_ret2
      exact .inl ⟨by omega, rfl, rfl⟩

theorem free_calls (s : Tab) (hw : s.Wf) (B : Nat) (w : World) (h : IsTab w B s) :
    Calls Try.prog 11 #[.pointer (some ⟨B, 0, none⟩)] w fun e w' => e = .returned (.tuple #[.int .i64 (max (fnd ⟨#[]⟩ (s.ns.take s.n) 0) 0), .bool (decide (0 ≤ fnd ⟨#[]⟩ (s.ns.take s.n) 0))]) ∧ Below w.heap.size w w' := by
  have hm := h.most hw
  have h64 := hw.n64
  have hcut := cut81 B s.n h64
  have hl : (s.ns.take s.n).length = s.n := by have := hw.ns; simp; omega
  have hfind := find_calls (s.ns.take s.n) ⟨#[]⟩ B 0 64 w.drew (by omega) (fun j hj => by rw [Nat.zero_add, (IsTab.drew h).name hw j (by omega)]; simp)
  rw [hl] at hfind
  go_enter Try.func11, Try.ntmps11
  go_wp2
  refine start_ (n := 11) (S := fun W' => W'.cell? ⟨B, 128, none⟩ = some (.int .i64 (s.n : Int))) (ds := []) (#[false, false, false, false, false, false, false, false, false, false, false]) (by kernel_rfl) rfl rfl (hm) (fun hS => ?_)
  refine take_ (i := 0) (N := some 7) (v := ?_) (a' := ?_) #[true, false, false, false, false, false, false, false, false, false, false] rfl rfl (by kernel_rfl) (fun _ _ _ h => h) (.inl ⟨by rfl, fun w' hS' => ?_⟩) hS ?_ ?_
  rotate_left
  · obtain hm' := hS'
    go_simp
    with_reducible rfl
  rotate_left
  · simp only [Act.put, List.setIfInBounds_toArray, List.set_cons_zero, List.set_cons_succ]
    rfl
  refine take_ (i := 1) (N := some 8) (v := ?_) (a' := ?_) #[true, true, false, false, false, false, false, false, false, false, false] rfl rfl (by kernel_rfl) (fun _ _ _ h => h) (.inl ⟨by rfl, fun w' hS' => ?_⟩) hS ?_ ?_
  rotate_left
  · obtain hm' := hS'
    go_simp
    with_reducible rfl
  rotate_left
  · simp only [Act.put, List.setIfInBounds_toArray, List.set_cons_zero, List.set_cons_succ]
    rfl
  refine take_ (i := 2) (N := some 9) (v := ?_) (a' := ?_) #[true, true, true, false, false, false, false, false, false, false, false] rfl rfl (by kernel_rfl) (fun _ _ _ h => h) (.inl ⟨by rfl, fun w' hS' => ?_⟩) hS ?_ ?_
  rotate_left
  · obtain hm' := hS'
    go_simp
    with_reducible rfl
  rotate_left
  · simp only [Act.put, List.setIfInBounds_toArray, List.set_cons_zero, List.set_cons_succ]
    rfl
  refine take_ (i := 3) (N := some 10) (v := ?_) (a' := ?_) #[true, true, true, true, false, false, false, false, false, false, false] rfl rfl (by kernel_rfl) (fun _ _ _ h => h) (.inl ⟨by rfl, fun w' hS' => ?_⟩) hS ?_ ?_
  rotate_left
  · obtain hm' := hS'
    go_simp
    with_reducible rfl
  rotate_left
  · simp only [Act.put, List.setIfInBounds_toArray, List.set_cons_zero, List.set_cons_succ]
    rfl
  refine take_ (i := 4) (N := some 11) (v := ?_) (a' := ?_) #[true, true, true, true, true, false, false, false, false, false, false] rfl rfl (by kernel_rfl) (fun _ _ _ h => h) (.inl ⟨by rfl, fun w' hS' => ?_⟩) hS ?_ ?_
  rotate_left
  · obtain hm' := hS'
    go_simp
    with_reducible rfl
  rotate_left
  · simp only [Act.put, List.setIfInBounds_toArray, List.set_cons_zero, List.set_cons_succ]
    rfl
  refine take_ (i := 5) (N := some 12) (v := ?_) (a' := ?_) #[true, true, true, true, true, true, false, false, false, false, false] rfl rfl (by kernel_rfl) (fun _ _ _ h => h) (.inl ⟨by rfl, fun w' hS' => ?_⟩) hS ?_ ?_
  rotate_left
  · obtain hm' := hS'
    go_simp
    with_reducible rfl
  rotate_left
  · simp only [Act.put, List.setIfInBounds_toArray, List.set_cons_zero, List.set_cons_succ]
    rfl
  refine take_ (i := 6) (N := some 13) (v := ?_) (a' := ?_) #[true, true, true, true, true, true, true, false, false, false, false] rfl rfl (by kernel_rfl) (fun _ _ _ h => h) (.inl ⟨by rfl, fun w' hS' => ?_⟩) hS ?_ ?_
  rotate_left
  · obtain hm' := hS'
    go_simp
    with_reducible rfl
  rotate_left
  · simp only [Act.put, List.setIfInBounds_toArray, List.set_cons_zero, List.set_cons_succ]
    rfl
  refine take_ (i := 7) (N := some 14) (v := ?_) (a' := ?_) #[true, true, true, true, true, true, true, true, false, false, false] rfl rfl (by kernel_rfl) (fun _ _ _ h => h) (.inl ⟨by rfl, fun w' hS' => ?_⟩) hS ?_ ?_
  rotate_left
  · obtain hm' := hS'
    go_simp
    with_reducible rfl
  rotate_left
  · simp only [Act.put, List.setIfInBounds_toArray, List.set_cons_zero, List.set_cons_succ]
    rfl
  refine take_ (i := 8) (N := some 15) (v := ?_) (a' := ?_) #[true, true, true, true, true, true, true, true, true, false, false] rfl rfl (by kernel_rfl) (fun _ _ _ h => h) (.inl ⟨by rfl, fun w' hS' => ?_⟩) hS ?_ ?_
  rotate_left
  · obtain hm' := hS'
    go_simp
    with_reducible rfl
  rotate_left
  · simp only [Act.put, List.setIfInBounds_toArray, List.set_cons_zero, List.set_cons_succ]
    rfl
  refine wpAnyLast_all (rs := [9]) (by kernel_rfl) (by simp) ?_
  intro i hi'
  obtain rfl := List.mem_singleton.1 hi'
  refine wpOp_step rfl (fun K' hK => ?_)
  go_simp
  refine hfind.mono ?_
  rintro e w1 ⟨rfl, rfl⟩
  refine hK _ _ ⟨fun _ _ => hS, ?_⟩
  clear hK K'
  refine wpAnyLast_all (rs := [10]) (by kernel_rfl) (by simp) ?_
  intro i hi'
  obtain rfl := List.mem_singleton.1 hi'
  refine wpOp_step rfl (fun K' hK => ?_)
  go_simp
  refine hK _ _ ⟨fun _ _ => hS, ?_⟩
  clear hK K'
  refine wpAnyLast_done (by kernel_rfl) ?_ _
  (try simp only [Act.put, List.setIfInBounds_toArray, List.set_cons_zero, List.set_cons_succ])
  go_wp2
  all_goals (go_ret2; refine ⟨?_, below_drew (Below.refl _ _)⟩; first | (rw [Int.max_eq_right (by omega)]; rfl) | (rw [Int.max_eq_left (by omega)]; rfl))

theorem of_calls (s : Tab) (hw : s.Wf) (B : Nat) (x : ByteArray) (w : World) (h : IsTab w B s) :
    Calls Try.prog 14 #[.pointer (some ⟨B, 0, none⟩), .string x] w fun e w' => e = .returned (if x = ⟨#[]⟩ then .tuple #[.int .i64 0, .bool false] else .tuple #[.int .i64 (max (fnd x (s.ns.take s.n) 0) 0), .bool (decide (0 ≤ fnd x (s.ns.take s.n) 0))]) ∧ Below w.heap.size w w' := by
  have hm := h.most hw
  have h64 := hw.n64
  have hcut := cut81 B s.n h64
  have hl : (s.ns.take s.n).length = s.n := by have := hw.ns; simp; omega
  have hfind := find_calls (s.ns.take s.n) x B 0 64 w.drew (by omega) (fun j hj => by rw [Nat.zero_add, (IsTab.drew h).name hw j (by omega)]; simp)
  rw [hl] at hfind
  by_cases hx : x = ⟨#[]⟩
  · rw [if_pos hx]
    subst hx
    clear hfind
    go_enter Try.func14, Try.ntmps14
    go_wp2
    go_ret2
    exact ⟨rfl, Below.refl _ _⟩
  rw [if_neg hx]
  have hne := str_ne hx
  have hne0 := str_ne0 hx
  go_enter Try.func14, Try.ntmps14
  go_wp2
  refine start_ (n := 12) (S := fun W' => W'.cell? ⟨B, 128, none⟩ = some (.int .i64 (s.n : Int))) (ds := []) (#[false, false, false, false, false, false, false, false, false, false, false, false]) (by kernel_rfl) rfl rfl (hm) (fun hS => ?_)
  refine take_ (i := 0) (N := some 13) (v := ?_) (a' := ?_) #[true, false, false, false, false, false, false, false, false, false, false, false] rfl rfl (by kernel_rfl) (fun _ _ _ h => h) (.inl ⟨by rfl, fun w' hS' => ?_⟩) hS ?_ ?_
  rotate_left
  · obtain hm' := hS'
    go_simp
    with_reducible rfl
  rotate_left
  · simp only [Act.put, List.setIfInBounds_toArray, List.set_cons_zero, List.set_cons_succ]
    rfl
  refine take_ (i := 1) (N := some 14) (v := ?_) (a' := ?_) #[true, true, false, false, false, false, false, false, false, false, false, false] rfl rfl (by kernel_rfl) (fun _ _ _ h => h) (.inl ⟨by rfl, fun w' hS' => ?_⟩) hS ?_ ?_
  rotate_left
  · obtain hm' := hS'
    go_simp
    with_reducible rfl
  rotate_left
  · simp only [Act.put, List.setIfInBounds_toArray, List.set_cons_zero, List.set_cons_succ]
    rfl
  refine take_ (i := 2) (N := some 15) (v := ?_) (a' := ?_) #[true, true, true, false, false, false, false, false, false, false, false, false] rfl rfl (by kernel_rfl) (fun _ _ _ h => h) (.inl ⟨by rfl, fun w' hS' => ?_⟩) hS ?_ ?_
  rotate_left
  · obtain hm' := hS'
    go_simp
    with_reducible rfl
  rotate_left
  · simp only [Act.put, List.setIfInBounds_toArray, List.set_cons_zero, List.set_cons_succ]
    rfl
  refine take_ (i := 3) (N := some 16) (v := ?_) (a' := ?_) #[true, true, true, true, false, false, false, false, false, false, false, false] rfl rfl (by kernel_rfl) (fun _ _ _ h => h) (.inl ⟨by rfl, fun w' hS' => ?_⟩) hS ?_ ?_
  rotate_left
  · obtain hm' := hS'
    go_simp
    with_reducible rfl
  rotate_left
  · simp only [Act.put, List.setIfInBounds_toArray, List.set_cons_zero, List.set_cons_succ]
    rfl
  refine take_ (i := 4) (N := some 17) (v := ?_) (a' := ?_) #[true, true, true, true, true, false, false, false, false, false, false, false] rfl rfl (by kernel_rfl) (fun _ _ _ h => h) (.inl ⟨by rfl, fun w' hS' => ?_⟩) hS ?_ ?_
  rotate_left
  · obtain hm' := hS'
    go_simp
    with_reducible rfl
  rotate_left
  · simp only [Act.put, List.setIfInBounds_toArray, List.set_cons_zero, List.set_cons_succ]
    rfl
  refine take_ (i := 5) (N := some 18) (v := ?_) (a' := ?_) #[true, true, true, true, true, true, false, false, false, false, false, false] rfl rfl (by kernel_rfl) (fun _ _ _ h => h) (.inl ⟨by rfl, fun w' hS' => ?_⟩) hS ?_ ?_
  rotate_left
  · obtain hm' := hS'
    go_simp
    with_reducible rfl
  rotate_left
  · simp only [Act.put, List.setIfInBounds_toArray, List.set_cons_zero, List.set_cons_succ]
    rfl
  refine take_ (i := 6) (N := some 19) (v := ?_) (a' := ?_) #[true, true, true, true, true, true, true, false, false, false, false, false] rfl rfl (by kernel_rfl) (fun _ _ _ h => h) (.inl ⟨by rfl, fun w' hS' => ?_⟩) hS ?_ ?_
  rotate_left
  · obtain hm' := hS'
    go_simp
    with_reducible rfl
  rotate_left
  · simp only [Act.put, List.setIfInBounds_toArray, List.set_cons_zero, List.set_cons_succ]
    rfl
  refine take_ (i := 7) (N := some 20) (v := ?_) (a' := ?_) #[true, true, true, true, true, true, true, true, false, false, false, false] rfl rfl (by kernel_rfl) (fun _ _ _ h => h) (.inl ⟨by rfl, fun w' hS' => ?_⟩) hS ?_ ?_
  rotate_left
  · obtain hm' := hS'
    go_simp
    with_reducible rfl
  rotate_left
  · simp only [Act.put, List.setIfInBounds_toArray, List.set_cons_zero, List.set_cons_succ]
    rfl
  refine take_ (i := 8) (N := some 21) (v := ?_) (a' := ?_) #[true, true, true, true, true, true, true, true, true, false, false, false] rfl rfl (by kernel_rfl) (fun _ _ _ h => h) (.inl ⟨by rfl, fun w' hS' => ?_⟩) hS ?_ ?_
  rotate_left
  · obtain hm' := hS'
    go_simp
    with_reducible rfl
  rotate_left
  · simp only [Act.put, List.setIfInBounds_toArray, List.set_cons_zero, List.set_cons_succ]
    rfl
  refine take_ (i := 9) (N := some 22) (v := ?_) (a' := ?_) #[true, true, true, true, true, true, true, true, true, true, false, false] rfl rfl (by kernel_rfl) (fun _ _ _ h => h) (.inl ⟨by rfl, fun w' hS' => ?_⟩) hS ?_ ?_
  rotate_left
  · obtain hm' := hS'
    go_simp
    with_reducible rfl
  rotate_left
  · simp only [Act.put, List.setIfInBounds_toArray, List.set_cons_zero, List.set_cons_succ]
    rfl
  refine wpAnyLast_all (rs := [10]) (by kernel_rfl) (by simp) ?_
  intro i hi'
  obtain rfl := List.mem_singleton.1 hi'
  refine wpOp_step rfl (fun K' hK => ?_)
  go_simp
  refine hfind.mono ?_
  rintro e w1 ⟨rfl, rfl⟩
  refine hK _ _ ⟨fun _ _ => hS, ?_⟩
  clear hK K'
  refine wpAnyLast_all (rs := [11]) (by kernel_rfl) (by simp) ?_
  intro i hi'
  obtain rfl := List.mem_singleton.1 hi'
  refine wpOp_step rfl (fun K' hK => ?_)
  go_simp
  refine hK _ _ ⟨fun _ _ => hS, ?_⟩
  clear hK K'
  refine wpAnyLast_done (by kernel_rfl) ?_ _
  (try simp only [Act.put, List.setIfInBounds_toArray, List.set_cons_zero, List.set_cons_succ])
  go_wp2
  all_goals (go_ret2; refine ⟨?_, below_drew (Below.refl _ _)⟩; first | (rw [Int.max_eq_right (by omega)]; rfl) | (rw [Int.max_eq_left (by omega)]; rfl))

theorem name_calls (s : Tab) (hw : s.Wf) (B : Nat) (k : Nat) (w : World) (h : IsTab w B s) (hk : k < s.n) :
    Calls Try.prog 24 #[.pointer (some ⟨B, 0, none⟩), .int .i64 (k : Int)] w fun e w' => e = .returned (.tuple #[.string (s.ns.getD k ⟨#[]⟩), .bool (!decide (s.ns.getD k ⟨#[]⟩ = ⟨#[]⟩))]) ∧ Below w.heap.size w w' := by
  have h64 := hw.n64
  have hkI : (k : Int) < 64 := by omega
  have hnone := none_calls s hw B (k : Int) w h
  rw [decide_eq_false (by omega), decide_eq_false (by omega), Bool.false_or] at hnone
  have hn := h.name hw k (by omega)
  have hg : s.ns.getD k ⟨#[]⟩ = s.ns[k]'(by rw [hw.ns]; omega) := by rw [List.getD_eq_getElem?_getD, List.getElem?_eq_getElem (by rw [hw.ns]; omega)]; rfl
  rw [hg]
  generalize s.ns[k]'(by rw [hw.ns]; omega) = x at *
  clear hg
  go_enter Try.func24, Try.ntmps24
  go_wp2_with (first
    | (go_at_call 45; refine hnone.mono ?_; rintro e w1 ⟨rfl, rfl⟩))
  refine start_ (n := 17) (S := fun W' => W'.cell? ⟨B, k, none⟩ = some (.string x)) (ds := []) (#[false, false, false, false, false, false, false, false, false, false, false, false, false, false, false, false, false]) (by kernel_rfl) rfl rfl (hn) (fun hS => ?_)
  refine take_ (i := 0) (N := some 13) (v := ?_) (a' := ?_) #[true, false, false, false, false, false, false, false, false, false, false, false, false, false, false, false, false] rfl rfl (by kernel_rfl) (fun _ _ _ h => h) (.inl ⟨by rfl, fun w' hS' => ?_⟩) hS ?_ ?_
  rotate_left
  · obtain hn' := hS'
    go_simp
    with_reducible rfl
  rotate_left
  · simp only [Act.put, List.setIfInBounds_toArray, List.set_cons_zero, List.set_cons_succ]
    rfl
  refine take_ (i := 1) (N := some 14) (v := ?_) (a' := ?_) #[true, true, false, false, false, false, false, false, false, false, false, false, false, false, false, false, false] rfl rfl (by kernel_rfl) (fun _ _ _ h => h) (.inl ⟨by rfl, fun w' hS' => ?_⟩) hS ?_ ?_
  rotate_left
  · obtain hn' := hS'
    go_simp
    with_reducible rfl
  rotate_left
  · simp only [Act.put, List.setIfInBounds_toArray, List.set_cons_zero, List.set_cons_succ]
    rfl
  refine take_ (i := 2) (N := some 15) (v := ?_) (a' := ?_) #[true, true, true, false, false, false, false, false, false, false, false, false, false, false, false, false, false] rfl rfl (by kernel_rfl) (fun _ _ _ h => h) (.inl ⟨by rfl, fun w' hS' => ?_⟩) hS ?_ ?_
  rotate_left
  · obtain hn' := hS'
    go_simp
    with_reducible rfl
  rotate_left
  · simp only [Act.put, List.setIfInBounds_toArray, List.set_cons_zero, List.set_cons_succ]
    rfl
  refine take_ (i := 3) (N := some 16) (v := ?_) (a' := ?_) #[true, true, true, true, false, false, false, false, false, false, false, false, false, false, false, false, false] rfl rfl (by kernel_rfl) (fun _ _ _ h => h) (.inl ⟨by rfl, fun w' hS' => ?_⟩) hS ?_ ?_
  rotate_left
  · obtain hn' := hS'
    go_simp
    with_reducible rfl
  rotate_left
  · simp only [Act.put, List.setIfInBounds_toArray, List.set_cons_zero, List.set_cons_succ]
    rfl
  refine take_ (i := 4) (N := some 17) (v := ?_) (a' := ?_) #[true, true, true, true, true, false, false, false, false, false, false, false, false, false, false, false, false] rfl rfl (by kernel_rfl) (fun _ _ _ h => h) (.inl ⟨by rfl, fun w' hS' => ?_⟩) hS ?_ ?_
  rotate_left
  · obtain hn' := hS'
    go_simp
    with_reducible rfl
  rotate_left
  · simp only [Act.put, List.setIfInBounds_toArray, List.set_cons_zero, List.set_cons_succ]
    rfl
  refine take_ (i := 5) (N := some 18) (v := ?_) (a' := ?_) #[true, true, true, true, true, true, false, false, false, false, false, false, false, false, false, false, false] rfl rfl (by kernel_rfl) (fun _ _ _ h => h) (.inl ⟨by rfl, fun w' hS' => ?_⟩) hS ?_ ?_
  rotate_left
  · obtain hn' := hS'
    go_simp
    with_reducible rfl
  rotate_left
  · simp only [Act.put, List.setIfInBounds_toArray, List.set_cons_zero, List.set_cons_succ]
    rfl
  refine take_ (i := 6) (N := some 19) (v := ?_) (a' := ?_) #[true, true, true, true, true, true, true, false, false, false, false, false, false, false, false, false, false] rfl rfl (by kernel_rfl) (fun _ _ _ h => h) (.inl ⟨by rfl, fun w' hS' => ?_⟩) hS ?_ ?_
  rotate_left
  · obtain hn' := hS'
    go_simp
    with_reducible rfl
  rotate_left
  · simp only [Act.put, List.setIfInBounds_toArray, List.set_cons_zero, List.set_cons_succ]
    rfl
  refine take_ (i := 7) (N := some 20) (v := ?_) (a' := ?_) #[true, true, true, true, true, true, true, true, false, false, false, false, false, false, false, false, false] rfl rfl (by kernel_rfl) (fun _ _ _ h => h) (.inl ⟨by rfl, fun w' hS' => ?_⟩) hS ?_ ?_
  rotate_left
  · obtain hn' := hS'
    go_simp
    with_reducible rfl
  rotate_left
  · simp only [Act.put, List.setIfInBounds_toArray, List.set_cons_zero, List.set_cons_succ]
    rfl
  refine take_ (i := 8) (N := some 21) (v := ?_) (a' := ?_) #[true, true, true, true, true, true, true, true, true, false, false, false, false, false, false, false, false] rfl rfl (by kernel_rfl) (fun _ _ _ h => h) (.inl ⟨by rfl, fun w' hS' => ?_⟩) hS ?_ ?_
  rotate_left
  · obtain hn' := hS'
    go_simp
    with_reducible rfl
  rotate_left
  · simp only [Act.put, List.setIfInBounds_toArray, List.set_cons_zero, List.set_cons_succ]
    rfl
  refine take_ (i := 9) (N := some 22) (v := ?_) (a' := ?_) #[true, true, true, true, true, true, true, true, true, true, false, false, false, false, false, false, false] rfl rfl (by kernel_rfl) (fun _ _ _ h => h) (.inl ⟨by rfl, fun w' hS' => ?_⟩) hS ?_ ?_
  rotate_left
  · obtain hn' := hS'
    go_simp
    with_reducible rfl
  rotate_left
  · simp only [Act.put, List.setIfInBounds_toArray, List.set_cons_zero, List.set_cons_succ]
    rfl
  refine take_ (i := 10) (N := some 23) (v := ?_) (a' := ?_) #[true, true, true, true, true, true, true, true, true, true, true, false, false, false, false, false, false] rfl rfl (by kernel_rfl) (fun _ _ _ h => h) (.inl ⟨by rfl, fun w' hS' => ?_⟩) hS ?_ ?_
  rotate_left
  · obtain hn' := hS'
    go_simp
    with_reducible rfl
  rotate_left
  · simp only [Act.put, List.setIfInBounds_toArray, List.set_cons_zero, List.set_cons_succ]
    rfl
  refine take_ (i := 11) (N := some 24) (v := ?_) (a' := ?_) #[true, true, true, true, true, true, true, true, true, true, true, true, false, false, false, false, false] rfl rfl (by kernel_rfl) (fun _ _ _ h => h) (.inl ⟨by rfl, fun w' hS' => ?_⟩) hS ?_ ?_
  rotate_left
  · obtain hn' := hS'
    go_simp
    with_reducible rfl
  rotate_left
  · simp only [Act.put, List.setIfInBounds_toArray, List.set_cons_zero, List.set_cons_succ]
    rfl
  refine take_ (i := 12) (N := some 25) (v := ?_) (a' := ?_) #[true, true, true, true, true, true, true, true, true, true, true, true, true, false, false, false, false] rfl rfl (by kernel_rfl) (fun _ _ _ h => h) (.inl ⟨by rfl, fun w' hS' => ?_⟩) hS ?_ ?_
  rotate_left
  · obtain hn' := hS'
    go_simp
    with_reducible rfl
  rotate_left
  · simp only [Act.put, List.setIfInBounds_toArray, List.set_cons_zero, List.set_cons_succ]
    rfl
  refine take_ (i := 13) (N := some 26) (v := ?_) (a' := ?_) #[true, true, true, true, true, true, true, true, true, true, true, true, true, true, false, false, false] rfl rfl (by kernel_rfl) (fun _ _ _ h => h) (.inl ⟨by rfl, fun w' hS' => ?_⟩) hS ?_ ?_
  rotate_left
  · obtain hn' := hS'
    go_simp
    with_reducible rfl
  rotate_left
  · simp only [Act.put, List.setIfInBounds_toArray, List.set_cons_zero, List.set_cons_succ]
    rfl
  refine take_ (i := 14) (N := some 27) (v := ?_) (a' := ?_) #[true, true, true, true, true, true, true, true, true, true, true, true, true, true, true, false, false] rfl rfl (by kernel_rfl) (fun _ _ _ h => h) (.inl ⟨by rfl, fun w' hS' => ?_⟩) hS ?_ ?_
  rotate_left
  · obtain hn' := hS'
    go_simp
    with_reducible rfl
  rotate_left
  · simp only [Act.put, List.setIfInBounds_toArray, List.set_cons_zero, List.set_cons_succ]
    rfl
  refine wpAnyLast_all (rs := [15]) (by kernel_rfl) (by simp) ?_
  intro i hi'
  obtain rfl := List.mem_singleton.1 hi'
  refine wpOp_step rfl (fun K' hK => ?_)
  go_simp
  refine hK _ _ ⟨fun _ _ => hS, ?_⟩
  clear hK K'
  refine wpAnyLast_all (rs := [16]) (by kernel_rfl) (by simp) ?_
  intro i hi'
  obtain rfl := List.mem_singleton.1 hi'
  refine wpOp_step rfl (fun K' hK => ?_)
  go_simp
  refine hK _ _ ⟨fun _ _ => hS, ?_⟩
  clear hK K'
  refine wpAnyLast_done (by kernel_rfl) ?_ _
  (try simp only [Act.put, List.setIfInBounds_toArray, List.set_cons_zero, List.set_cons_succ])
  go_wp2
  go_ret2
  exact ⟨by rw [empty_eq]; rfl, below_drew (Below.refl _ _)⟩
theorem turn_calls (s : Tab) (hw : s.Wf) (B : Nat) (k : Nat) (w : World) (h : IsTab w B s) (hk : k < s.n) :
    Calls Try.prog 25 #[.pointer (some ⟨B, 0, none⟩), .int .i64 (k : Int)] w fun e w' => e = .returned (.int .u64 ((s.ts.getD k 0 : Nat) : Int)) ∧ Below w.heap.size w w' := by
  have h64 := hw.n64
  have hkI : (k : Int) < 64 := by omega
  have hnone := none_calls s hw B (k : Int) w h
  rw [decide_eq_false (by omega), decide_eq_false (by omega), Bool.false_or] at hnone
  have hn := h.turn hw k (by omega)
  have hg : s.ts.getD k 0 = s.ts[k]'(by rw [hw.ts]; omega) := by rw [List.getD_eq_getElem?_getD, List.getElem?_eq_getElem (by rw [hw.ts]; omega)]; rfl
  rw [hg]
  generalize s.ts[k]'(by rw [hw.ts]; omega) = x at *
  clear hg
  go_enter Try.func25, Try.ntmps25
  go_wp2_with (first
    | (go_at_call 45; refine hnone.mono ?_; rintro e w1 ⟨rfl, rfl⟩))
  go_ret
  exact ⟨rfl, Below.refl _ _⟩
/-- What a method that writes leaves: all but the table is as it was. -/
structure But (B : Nat) (w w' : World) : Prop where
  os : w'.os = w.os
  tape : w'.tape = w.tape
  output : w'.output = w.output
  size : w.heap.size ≤ w'.heap.size
  block : ∀ k, k < w.heap.size → k ≠ B → w'.heap[k]? = w.heap[k]?
theorem But.below {B b : Nat} {a w w' : World} (h : Below b a w) (k : But B w w') (hb : b ≤ B) (hw : b ≤ w.heap.size) : Below b a w' :=
  ⟨k.os.trans h.os, k.tape.trans h.tape, k.output.trans h.output, Nat.le_trans h.size k.size, fun i hi => (k.block i (by omega) (by omega)).trans (h.block i hi)⟩
theorem But.refl (B : Nat) (w : World) : But B w w := ⟨rfl, rfl, rfl, Nat.le_refl _, fun _ _ _ => rfl⟩
theorem But.drew {B : Nat} {w w' : World} (h : But B w w') : But B w w'.drew := ⟨h.os, h.tape, h.output, h.size, h.block⟩
theorem But.set {B : Nat} {w w' : World} (h : But B w w') (j : Nat) (v : Value) : But B w (w'.setCell ⟨B, j, none⟩ v) :=
  ⟨h.os, h.tape, h.output, by simp [World.setCell]; exact h.size, fun k hk hne => (Below.heap_setCell w' ⟨B, j, none⟩ v k hne).trans (h.block k hk hne)⟩
def Tab.bind (s : Tab) (k : Nat) (x : ByteArray) : Tab := ⟨s.n, s.ns.set k x, s.ts.set k (s.ts.getD k 0 + 1)⟩
theorem unbind_calls (s : Tab) (hw : s.Wf) (B : Nat) (k : Nat) (w : World) (h : IsTab w B s) (hk : k < s.n) :
    Calls Try.prog 13 #[.pointer (some ⟨B, 0, none⟩), .int .i64 (k : Int)] w fun e w' => (s.ns.getD k ⟨#[]⟩ = ⟨#[]⟩ ∧ e = .returned (.int .i64 3) ∧ Below w.heap.size w w') ∨
      (s.ns.getD k ⟨#[]⟩ ≠ ⟨#[]⟩ ∧ e = .returned (.int .i64 0) ∧ But B w w' ∧ IsTab w' B (s.bind k ⟨#[]⟩)) := by
  have h64 := hw.n64
  have hkI : (k : Int) < 64 := by omega
  have hnone := none_calls s hw B (k : Int) w h
  rw [decide_eq_false (by omega), decide_eq_false (by omega), Bool.false_or] at hnone
  have hn := h.name hw k (by omega)
  have hf := h.frozen
  have hg : s.ns.getD k ⟨#[]⟩ = s.ns[k]'(by rw [hw.ns]; omega) := by rw [List.getD_eq_getElem?_getD, List.getElem?_eq_getElem (by rw [hw.ns]; omega)]; rfl
  rw [hg]
  generalize s.ns[k]'(by rw [hw.ns]; omega) = x at *
  clear hg
  have h1 := h.setName hw k (by omega) ⟨#[]⟩
  have w1' : Tab.Wf ⟨s.n, s.ns.set k ⟨#[]⟩, s.ts⟩ := ⟨hw.n1, hw.n64, by simp [hw.ns], hw.ts, hw.small⟩
  have hn2 := h1.turn w1' k (by omega)
  have hf2 := h1.frozen
  have hg2 : s.ts.getD k 0 = s.ts[k]'(by rw [hw.ts]; omega) := by rw [List.getD_eq_getElem?_getD, List.getElem?_eq_getElem (by rw [hw.ts]; omega)]; rfl
  have hsm : s.ts[k]'(by rw [hw.ts]; omega) < 18446744073709551615 := hw.small _ (List.getElem_mem _)
  simp only at hn2
  have hwr : IntKind.u64.wrap (((s.ts[k]'(by rw [hw.ts]; omega) : Nat) : Int) + 1) = ((s.ts[k]'(by rw [hw.ts]; omega) + 1 : Nat) : Int) := by simp [IntKind.wrap, IntKind.bits, IntKind.signed]; omega
  generalize s.ts[k]'(by rw [hw.ts]; omega) = t at *
  by_cases hx : x = ⟨#[]⟩
  · have he : x.toList.isEmpty = true := by rw [hx, ByteArray.toList_eq]; rfl
    go_enter Try.func13, Try.ntmps13
    go_wp2_with (first
      | (go_at_call 45; refine hnone.mono ?_; rintro e w1 ⟨rfl, rfl⟩))
    go_ret
    exact .inl ⟨hx, rfl, Below.refl _ _⟩
  · have he := str_ne0 hx
    go_enter Try.func13, Try.ntmps13
    go_wp2_with (first
      | (go_at_call 45; refine hnone.mono ?_; rintro e w1 ⟨rfl, rfl⟩))
    refine start_ (n := 13) (S := fun W' => W'.cell? ⟨B, 64 + k, none⟩ = some (.int .u64 (t : Int))) (ds := [12]) (#[false, false, false, false, false, false, false, false, false, false, false, false, false]) (by kernel_rfl) rfl rfl (hn2) (fun hS => ?_)
    refine take_ (i := 0) (N := some 28) (v := ?_) (a' := ?_) #[true, false, false, false, false, false, false, false, false, false, false, false, false] rfl rfl (by kernel_rfl) (fun _ _ _ h => h) (.inl ⟨by rfl, fun w' hS' => ?_⟩) hS ?_ ?_
    rotate_left
    · obtain hn' := hS'
      go_simp
      with_reducible rfl
    rotate_left
    · simp only [Act.put, List.setIfInBounds_toArray, List.set_cons_zero, List.set_cons_succ]
      rfl
    refine take_ (i := 1) (N := some 29) (v := ?_) (a' := ?_) #[true, true, false, false, false, false, false, false, false, false, false, false, false] rfl rfl (by kernel_rfl) (fun _ _ _ h => h) (.inl ⟨by rfl, fun w' hS' => ?_⟩) hS ?_ ?_
    rotate_left
    · obtain hn' := hS'
      go_simp
      with_reducible rfl
    rotate_left
    · simp only [Act.put, List.setIfInBounds_toArray, List.set_cons_zero, List.set_cons_succ]
      rfl
    refine take_ (i := 2) (N := some 30) (v := ?_) (a' := ?_) #[true, true, true, false, false, false, false, false, false, false, false, false, false] rfl rfl (by kernel_rfl) (fun _ _ _ h => h) (.inl ⟨by rfl, fun w' hS' => ?_⟩) hS ?_ ?_
    rotate_left
    · obtain hn' := hS'
      go_simp
      with_reducible rfl
    rotate_left
    · simp only [Act.put, List.setIfInBounds_toArray, List.set_cons_zero, List.set_cons_succ]
      rfl
    refine take_ (i := 3) (N := some 31) (v := ?_) (a' := ?_) #[true, true, true, true, false, false, false, false, false, false, false, false, false] rfl rfl (by kernel_rfl) (fun _ _ _ h => h) (.inl ⟨by rfl, fun w' hS' => ?_⟩) hS ?_ ?_
    rotate_left
    · obtain hn' := hS'
      go_simp
      with_reducible rfl
    rotate_left
    · simp only [Act.put, List.setIfInBounds_toArray, List.set_cons_zero, List.set_cons_succ]
      rfl
    refine take_ (i := 4) (N := some 32) (v := ?_) (a' := ?_) #[true, true, true, true, true, false, false, false, false, false, false, false, false] rfl rfl (by kernel_rfl) (fun _ _ _ h => h) (.inl ⟨by rfl, fun w' hS' => ?_⟩) hS ?_ ?_
    rotate_left
    · obtain hn' := hS'
      go_simp
      with_reducible rfl
    rotate_left
    · simp only [Act.put, List.setIfInBounds_toArray, List.set_cons_zero, List.set_cons_succ]
      rfl
    refine take_ (i := 5) (N := some 33) (v := ?_) (a' := ?_) #[true, true, true, true, true, true, false, false, false, false, false, false, false] rfl rfl (by kernel_rfl) (fun _ _ _ h => h) (.inl ⟨by rfl, fun w' hS' => ?_⟩) hS ?_ ?_
    rotate_left
    · obtain hn' := hS'
      go_simp
      with_reducible rfl
    rotate_left
    · simp only [Act.put, List.setIfInBounds_toArray, List.set_cons_zero, List.set_cons_succ]
      rfl
    refine take_ (i := 6) (N := some 34) (v := ?_) (a' := ?_) #[true, true, true, true, true, true, true, false, false, false, false, false, false] rfl rfl (by kernel_rfl) (fun _ _ _ h => h) (.inl ⟨by rfl, fun w' hS' => ?_⟩) hS ?_ ?_
    rotate_left
    · obtain hn' := hS'
      go_simp
      with_reducible rfl
    rotate_left
    · simp only [Act.put, List.setIfInBounds_toArray, List.set_cons_zero, List.set_cons_succ]
      rfl
    refine take_ (i := 7) (N := some 35) (v := ?_) (a' := ?_) #[true, true, true, true, true, true, true, true, false, false, false, false, false] rfl rfl (by kernel_rfl) (fun _ _ _ h => h) (.inl ⟨by rfl, fun w' hS' => ?_⟩) hS ?_ ?_
    rotate_left
    · obtain hn' := hS'
      go_simp
      with_reducible rfl
    rotate_left
    · simp only [Act.put, List.setIfInBounds_toArray, List.set_cons_zero, List.set_cons_succ]
      rfl
    refine take_ (i := 8) (N := some 36) (v := ?_) (a' := ?_) #[true, true, true, true, true, true, true, true, true, false, false, false, false] rfl rfl (by kernel_rfl) (fun _ _ _ h => h) (.inl ⟨by rfl, fun w' hS' => ?_⟩) hS ?_ ?_
    rotate_left
    · obtain hn' := hS'
      go_simp
      with_reducible rfl
    rotate_left
    · simp only [Act.put, List.setIfInBounds_toArray, List.set_cons_zero, List.set_cons_succ]
      rfl
    refine take_ (i := 9) (N := some 37) (v := ?_) (a' := ?_) #[true, true, true, true, true, true, true, true, true, true, false, false, false] rfl rfl (by kernel_rfl) (fun _ _ _ h => h) (.inl ⟨by rfl, fun w' hS' => ?_⟩) hS ?_ ?_
    rotate_left
    · obtain hn' := hS'
      go_simp
      with_reducible rfl
    rotate_left
    · simp only [Act.put, List.setIfInBounds_toArray, List.set_cons_zero, List.set_cons_succ]
      rfl
    refine take_ (i := 10) (N := some 38) (v := ?_) (a' := ?_) #[true, true, true, true, true, true, true, true, true, true, true, false, false] rfl rfl (by kernel_rfl) (fun _ _ _ h => h) (.inl ⟨by rfl, fun w' hS' => ?_⟩) hS ?_ ?_
    rotate_left
    · obtain hn' := hS'
      go_simp
      with_reducible rfl
    rotate_left
    · simp only [Act.put, List.setIfInBounds_toArray, List.set_cons_zero, List.set_cons_succ]
      rfl
    refine take_ (i := 11) (N := some 39) (v := ?_) (a' := ?_) #[true, true, true, true, true, true, true, true, true, true, true, true, false] rfl rfl (by kernel_rfl) (fun _ _ _ h => h) (.inl ⟨by rfl, fun w' hS' => ?_⟩) hS ?_ ?_
    rotate_left
    · obtain hn' := hS'
      go_simp
      with_reducible rfl
    rotate_left
    · simp only [Act.put, List.setIfInBounds_toArray, List.set_cons_zero, List.set_cons_succ]
      rfl
    refine wpAnyLast_all (rs := [12]) (by kernel_rfl) (by simp) ?_
    intro i hi'
    obtain rfl := List.mem_singleton.1 hi'
    refine wpOp_step rfl (fun K' hK => ?_)
    go_simp
    refine hK _ _ ⟨fun h => by simp at h, ?_⟩
    clear hK K'
    refine wpAnyLast_done (by kernel_rfl) ?_ _
    go_wp2
    go_ret
    exact .inr ⟨hx, rfl, (((But.refl B _).set k _).drew).set (64 + k) _, by rw [Tab.bind, hg2]; exact h1.drew.setTurn w1' k (by omega) t⟩
end Go.Proofs.Ythenjbonncbniaa
