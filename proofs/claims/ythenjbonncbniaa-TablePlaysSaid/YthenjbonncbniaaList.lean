/-
  Layer 25 (table): List, walked.
-/
import Derived.Test.YthenjbonncbniaaEqTab
import Derived.Laws.AppendOwn
import Derived.Maps.AppendAt
set_option linter.unusedVariables false
set_option linter.unusedSimpArgs false
namespace Go.Proofs.Ythenjbonncbniaa
open Go.RowKit Go.Proofs.YthenjbonncbniaaW.PrintWords Go.Proofs.YthenjbonncbniaaW.PrintLast

/-- Those that are bound, from k on: their cells. -/
def bound : List ByteArray → Nat → List Value
  | [], _ => []
  | x :: l, k => (if x = ⟨#[]⟩ then [] else [.int .i64 (k : Int), .string x]) ++ bound l (k + 1)
theorem info62 : (Try.prog.info? 62).map (fun i => (i.zero, i.size, i.bytes)) = some (some (.agg #[.int .i64 0, .string ⟨#[]⟩]), 2, 24) := by kernel_rfl
theorem und33 : Try.prog.underlying 33 = some (.slice 62) := by kernel_rfl
theorem cell_two (w : World) (x y : Value) (t : TypeId) : ∀ j u, [x, y][j]? = some u → (w.alloc (.cells #[x, y] t)).cell? ((⟨w.heap.size, 0, none⟩ : Addr).add j) = some u := by
  intro j u hj
  match j, hj with
  | 0, hj => simp at hj; subst hj; simp [Addr.add]
  | 1, hj => simp at hj; subst hj; simp [Addr.add]
  | j + 2, hj => simp at hj
theorem bound_snoc (x : ByteArray) : ∀ (l : List ByteArray) (k : Nat), bound (l ++ [x]) k = bound l k ++ (if x = ⟨#[]⟩ then [] else [.int .i64 ((k + l.length : Nat) : Int), .string x])
  | [], k => by simp [bound]
  | y :: l, k => by
    simp only [List.cons_append, bound, List.append_assoc, bound_snoc x l (k + 1), List.length_cons]
    rw [show k + 1 + l.length = k + (l.length + 1) from by omega]
theorem bound_even : ∀ (l : List ByteArray) (k : Nat), (bound l k).length = (bound l k).length / 2 * 2 ∧ (bound l k).length ≤ 2 * l.length
  | [], k => by simp [bound]
  | y :: l, k => by
    have := bound_even l (k + 1)
    simp only [bound, List.length_append, List.length_cons]
    split <;> simp <;> omega
theorem bound_blank : ∀ (l : List ByteArray) (k : Nat), (∀ x ∈ l, x = ⟨#[]⟩) → bound l k = []
  | [], k, _ => rfl
  | y :: l, k, h => by
    rw [bound, if_pos (h y (List.mem_cons_self ..)), List.nil_append]
    exact bound_blank l (k + 1) (fun x hx => h x (List.mem_cons_of_mem _ hx))
theorem blank_names (s : Tab) (hw : s.Wf) (h : s.blank = true) : ∀ x ∈ s.ns.take s.n, x = ⟨#[]⟩ := by
  intro x hx
  obtain ⟨i, hi, rfl⟩ := List.mem_iff_getElem.1 (List.mem_of_mem_take hx)
  have hi' : i < 64 := by rw [hw.ns] at hi; exact hi
  simp only [Tab.blank, Bool.and_eq_true, List.all_eq_true, List.mem_range] at h
  have h1 := h.1 i hi'
  rw [List.getD_eq_getElem?_getD, List.getElem?_eq_getElem hi] at h1
  rcases Decidable.em (s.ns[i] = (⟨#[]⟩ : ByteArray)) with e | e
  · exact e
  · have := str_ne e
    rw [show (some s.ns[i]).getD ⟨#[]⟩ = s.ns[i] from rfl, this] at h1
    cases h1
theorem load84 {w : World} {B : Nat} {s : Tab} (hw : s.Wf) (h : IsTab w B s) : (loadVar 84 ⟨B, 0, none⟩).run Try.prog w = .ok (.agg s.rows) w := by
  have := run_loadVar_first (P := Try.prog) w B 128 86 84 s.cells.toArray (0, 0) _ h und84 rfl info84 (by simp [Tab.cells, hw.ns, hw.ts])
  rw [this]
  rfl
theorem wpList_load_first {P : Program} {ops : Array Oper} {rest : List Oper} {o : Oper} {a : Act} {w : World} {Q : Exit → Act → World → Prop} (hwant : Region.wanted o (yielded ops a.tmps) = true) (ty : TypeId) (x : Operand) (ho : o.op = .load ty x)
    (g : Nat) (hx : a.eval x = .pointer (some ⟨g, 0, none⟩)) (cs : Array Value) (hld : (loadVar ty ⟨g, 0, none⟩).run P w = .ok (.agg cs) w)
    (h : wpList P ops Q rest (a.put o.dst (.agg cs)) w) : wpList P ops Q (o :: rest) a w :=
  wpList_step fun K hK => by
    rw [if_pos hwant]
    unfold Oper.wp execOp
    simp only [ho, hx, Instr.loadAt, Instr.sureAddr, Sem.run_bind, Sem.run_pure, Result.andThen_ok, hld]
    exact hK _ _ h
attribute [local go_sem high] eql84
set_option maxRecDepth 100000 in
theorem list_calls (s : Tab) (hw : s.Wf) (B : Nat) (w : World) (h : IsTab w B s) :
    Calls Try.prog 15 #[.pointer (some ⟨B, 0, none⟩)] w fun e w' => ∃ v, e = .returned v ∧ w'.ownsRow w.heap.size 62 2 v ((bound (s.ns.take s.n) 0).length / 2) (bound (s.ns.take s.n) 0) ∧ Below w.heap.size w w' := by
  have hld := load84 hw h
  have hz := zero84
  have hm := h.most hw
  have h64 := hw.n64
  have hcut := cut81 B s.n h64
  cases hb : s.blank with
  | true =>
    go_enter Try.func15, Try.ntmps15
    go_wp2_with (first
      | refine wpList_load_first rfl 84 _ rfl B rfl _ hld ?_)
    go_ret
    have hbl := bound_blank (s.ns.take s.n) 0 (blank_names s hw hb)
    rw [hbl]
    exact ⟨_, rfl, World.ownsRow_nil _ _ _ _, Below.refl _ _⟩
  | false =>
    go_enter Try.func15, Try.ntmps15
    go_wp2_with (first
      | refine wpList_load_first rfl 84 _ rfl B rfl _ hld ?_)
    refine start_ (n := 11) (S := fun W' => W'.cell? ⟨B, 128, none⟩ = some (.int .i64 (s.n : Int))) (ds := []) (#[false, false, false, false, false, false, false, false, false, false, false]) (by kernel_rfl) rfl rfl (hm) (fun hS => ?_)
    refine take_ (i := 0) (N := some 15) (v := ?_) (a' := ?_) #[true, false, false, false, false, false, false, false, false, false, false] rfl rfl (by kernel_rfl) (fun _ _ _ h => h) (.inl ⟨by rfl, fun w' hS' => ?_⟩) hS ?_ ?_
    rotate_left
    · obtain hm' := hS'
      go_simp
      with_reducible rfl
    rotate_left
    · simp only [Act.put, List.setIfInBounds_toArray, List.set_cons_zero, List.set_cons_succ]
      rfl
    refine take_ (i := 1) (N := some 16) (v := ?_) (a' := ?_) #[true, true, false, false, false, false, false, false, false, false, false] rfl rfl (by kernel_rfl) (fun _ _ _ h => h) (.inl ⟨by rfl, fun w' hS' => ?_⟩) hS ?_ ?_
    rotate_left
    · obtain hm' := hS'
      go_simp
      with_reducible rfl
    rotate_left
    · simp only [Act.put, List.setIfInBounds_toArray, List.set_cons_zero, List.set_cons_succ]
      rfl
    refine take_ (i := 2) (N := some 17) (v := ?_) (a' := ?_) #[true, true, true, false, false, false, false, false, false, false, false] rfl rfl (by kernel_rfl) (fun _ _ _ h => h) (.inl ⟨by rfl, fun w' hS' => ?_⟩) hS ?_ ?_
    rotate_left
    · obtain hm' := hS'
      go_simp
      with_reducible rfl
    rotate_left
    · simp only [Act.put, List.setIfInBounds_toArray, List.set_cons_zero, List.set_cons_succ]
      rfl
    refine take_ (i := 3) (N := some 18) (v := ?_) (a' := ?_) #[true, true, true, true, false, false, false, false, false, false, false] rfl rfl (by kernel_rfl) (fun _ _ _ h => h) (.inl ⟨by rfl, fun w' hS' => ?_⟩) hS ?_ ?_
    rotate_left
    · obtain hm' := hS'
      go_simp
      with_reducible rfl
    rotate_left
    · simp only [Act.put, List.setIfInBounds_toArray, List.set_cons_zero, List.set_cons_succ]
      rfl
    refine take_ (i := 4) (N := some 19) (v := ?_) (a' := ?_) #[true, true, true, true, true, false, false, false, false, false, false] rfl rfl (by kernel_rfl) (fun _ _ _ h => h) (.inl ⟨by rfl, fun w' hS' => ?_⟩) hS ?_ ?_
    rotate_left
    · obtain hm' := hS'
      go_simp
      with_reducible rfl
    rotate_left
    · simp only [Act.put, List.setIfInBounds_toArray, List.set_cons_zero, List.set_cons_succ]
      rfl
    refine take_ (i := 5) (N := some 20) (v := ?_) (a' := ?_) #[true, true, true, true, true, true, false, false, false, false, false] rfl rfl (by kernel_rfl) (fun _ _ _ h => h) (.inl ⟨by rfl, fun w' hS' => ?_⟩) hS ?_ ?_
    rotate_left
    · obtain hm' := hS'
      go_simp
      with_reducible rfl
    rotate_left
    · simp only [Act.put, List.setIfInBounds_toArray, List.set_cons_zero, List.set_cons_succ]
      rfl
    refine take_ (i := 6) (N := some 21) (v := ?_) (a' := ?_) #[true, true, true, true, true, true, true, false, false, false, false] rfl rfl (by kernel_rfl) (fun _ _ _ h => h) (.inl ⟨by rfl, fun w' hS' => ?_⟩) hS ?_ ?_
    rotate_left
    · obtain hm' := hS'
      go_simp
      with_reducible rfl
    rotate_left
    · simp only [Act.put, List.setIfInBounds_toArray, List.set_cons_zero, List.set_cons_succ]
      rfl
    refine take_ (i := 7) (N := some 22) (v := ?_) (a' := ?_) #[true, true, true, true, true, true, true, true, false, false, false] rfl rfl (by kernel_rfl) (fun _ _ _ h => h) (.inl ⟨by rfl, fun w' hS' => ?_⟩) hS ?_ ?_
    rotate_left
    · obtain hm' := hS'
      go_simp
      with_reducible rfl
    rotate_left
    · simp only [Act.put, List.setIfInBounds_toArray, List.set_cons_zero, List.set_cons_succ]
      rfl
    refine take_ (i := 8) (N := some 23) (v := ?_) (a' := ?_) #[true, true, true, true, true, true, true, true, true, false, false] rfl rfl (by kernel_rfl) (fun _ _ _ h => h) (.inl ⟨by rfl, fun w' hS' => ?_⟩) hS ?_ ?_
    rotate_left
    · obtain hm' := hS'
      go_simp
      with_reducible rfl
    rotate_left
    · simp only [Act.put, List.setIfInBounds_toArray, List.set_cons_zero, List.set_cons_succ]
      rfl
    refine take_ (i := 9) (N := some 24) (v := ?_) (a' := ?_) #[true, true, true, true, true, true, true, true, true, true, false] rfl rfl (by kernel_rfl) (fun _ _ _ h => h) (.inl ⟨by rfl, fun w' hS' => ?_⟩) hS ?_ ?_
    rotate_left
    · obtain hm' := hS'
      go_simp
      with_reducible rfl
    rotate_left
    · simp only [Act.put, List.setIfInBounds_toArray, List.set_cons_zero, List.set_cons_succ]
      rfl
    refine take_ (i := 10) (N := some 25) (v := ?_) (a' := ?_) #[true, true, true, true, true, true, true, true, true, true, true] rfl rfl (by kernel_rfl) (fun _ _ _ h => h) (.inl ⟨by rfl, fun w' hS' => ?_⟩) hS ?_ ?_
    rotate_left
    · obtain hm' := hS'
      go_simp
      with_reducible rfl
    rotate_left
    · simp only [Act.put, List.setIfInBounds_toArray, List.set_cons_zero, List.set_cons_succ]
      rfl
    refine wpAnyLast_done (by kernel_rfl) ?_ _
    have hT : IsTab w.drew B s := h
    have hBw := h.lt
    have hwd : w.drew.heap.size = w.heap.size := rfl
    have hB0 : Below w.heap.size w w.drew := below_drew (Below.refl _ _)
    generalize w.drew = wd at *
    go_wp2
    go_loopg [2, 3, 4, 25] s.n (fun q out a3 a4 i wr => ∃ k : Nat, k ≤ s.n ∧ q = s.n - k ∧ i = .int .i64 k ∧ wr.ownsRow w.heap.size 62 2 out ((bound (s.ns.take k) 0).length / 2) (bound (s.ns.take k) 0) ∧ Below w.heap.size w wr)
    case atStart => exact ⟨0, by omega, rfl, rfl, by rw [List.take_zero]; exact World.ownsRow_nil _ _ _ _, hB0⟩
    case round =>
      obtain ⟨k, hk, hq, rfl, hrow, hB⟩ := hrel
      have A := Lib.hid hq; clear hq
      have hTr : IsTab wr B s := h.below hB
      by_cases hlt : k < s.n
      · have hh : decide ((k : Int) < (s.n : Int)) = true := by simp; omega
        have hck := hTr.name hw k (by omega)
        have hlk : k < s.ns.length := by rw [hw.ns]; omega
        have hsn : Hid (bound (s.ns.take (k + 1)) 0 = bound (s.ns.take k) 0 ++ (if s.ns[k] = ⟨#[]⟩ then [] else [.int .i64 (k : Int), .string s.ns[k]])) := Lib.hid (by
          rw [List.take_succ_eq_append_getElem hlk, bound_snoc, List.length_take, Nat.min_eq_left (by omega), Nat.zero_add])
        generalize s.ns[k] = x at *
        obtain ⟨be1, be2⟩ := bound_even (s.ns.take k) 0
        rw [List.length_take] at be2
        by_cases hx : x = ⟨#[]⟩
        · have he : x.toList.isEmpty = true := by rw [hx, ByteArray.toList_eq]; rfl
          go_wp2
          go_roundg (s.n - (k + 1))
          case measure => have := A.out; omega
          case rel => exact ⟨k + 1, by omega, rfl, by go_num, by rw [hsn.out, if_pos hx, List.append_nil]; exact hrow, hB⟩
        · have he := str_ne0 hx
          obtain ⟨i0, hi, hz⟩ := Option.map_eq_some_iff.1 info62
          simp only [Prod.mk.injEq] at hz
          obtain ⟨hz0, hz1, hz2⟩ := hz
          go_wp2_with (first
            | (at_builtin; refine wpList_append_own _ rfl _ _ 33 rfl w.heap.size 62 i0 (.agg #[.int .i64 0, .string ⟨#[]⟩]) 2 24 und33 hi hz0 hz1 hz2 rfl (by decide) _ _ _ rfl (hrow.alloc _) ⟨wr.heap.size, 0, none⟩ 1 1 [.int .i64 (k : Int), .string x] rfl rfl (cell_two _ _ _ _) (by simp [Value.oneCell']) (by unfold maxLen; omega) (by omega) (by have := hB.size; simp; omega) ?_; intro v' w1 hown' hgrow _))
          go_roundg (s.n - (k + 1))
          case measure => have := A.out; omega
          case rel =>
            refine ⟨k + 1, by omega, rfl, by go_num, ?_, (hB.alloc hB.size _).grown hgrow (by have := hB.size; simp; omega) (own_base hrow)⟩
            rw [hsn.out, if_neg hx, List.length_append]
            have e : ((bound (s.ns.take k) 0).length + [Value.int IntKind.i64 (k : Int), .string x].length) / 2 = (bound (s.ns.take k) 0).length / 2 + 1 := by simp
            rw [e]
            exact hown'
      · obtain rfl : k = s.n := by omega
        go_wp2
        go_ret
        exact ⟨_, rfl, hrow, hB⟩
end Go.Proofs.Ythenjbonncbniaa
