/-
  Two arrays, compared: each element with each; and the first cells of a block, loaded.
-/
import Derived.Laws.StructEq
import Derived.Laws.Rows
set_option linter.unusedVariables false
set_option linter.unusedSimpArgs false
namespace Go.Proofs.Ythenjbonncbniaa
open Go

theorem eq_loop {P : Program} (w : World) (d : Nat) (e : TypeId) (xs ys : Array Value) (a b : Nat → Value) (eqv : Nat → Bool) :
    ∀ (l : List Nat), (∀ i ∈ l, (part e xs (i * 1)).run P w = .ok (a i) w ∧ (part e ys (i * 1)).run P w = .ok (b i) w ∧ (Op.equalIn d e (a i) (b i)).run P w = .ok (eqv i) w) →
      (forIn l ((none, ()) : Option Bool × Unit) fun i __s => do
              let __do_lift ← part e xs (i * 1)
              let __do_lift_1 ← part e ys (i * 1)
              let __do_lift ← Op.equalIn d e __do_lift __do_lift_1
              if (!__do_lift) = true then pure (ForInStep.done (some false, ())) else pure (ForInStep.yield (none, ()))).run P w = .ok (if l.all eqv then (none, ()) else (some false, ())) w
  | [], _ => by simp
  | i :: l, h => by
    obtain ⟨h1, h2, h3⟩ := h i (List.mem_cons_self ..)
    have ih := eq_loop w d e xs ys a b eqv l (fun j hj => h j (List.mem_cons_of_mem _ hj))
    rw [List.forIn_cons]
    simp only [Sem.run_bind, h1, h2, h3, Result.andThen_ok]
    cases hq : eqv i with
    | false => simp [hq]
    | true =>
      simp only [Bool.not_true, Bool.false_eq_true, if_false, Sem.run_pure, Result.andThen_ok, List.all_cons, hq, Bool.true_and]
      exact ih
theorem run_equalIn_array {P : Program} (w : World) (d : Nat) (t e : TypeId) (len : Nat) (xs ys : Array Value) (ht : P.underlying t = some (.array len e)) (hs : (Go.sizeOf e).run P w = .ok 1 w) (a b : Nat → Value) (eqv : Nat → Bool)
    (h : ∀ i, i < len → (part e xs i).run P w = .ok (a i) w ∧ (part e ys i).run P w = .ok (b i) w ∧ (Op.equalIn d e (a i) (b i)).run P w = .ok (eqv i) w) :
    (Op.equalIn (d + 1) t (.agg xs) (.agg ys)).run P w = .ok ((List.range len).all eqv) w := by
  simp only [Op.equalIn, Sem.run_bind, run_underlying ht, Result.andThen_ok, hs]
  rw [Std.Legacy.Range.forIn_eq_forIn_range']
  have hr : List.range' 0 (Std.Legacy.Range.size [:len]) 1 = List.range len := by
    rw [List.range_eq_range']
    congr 1
    simp [Std.Legacy.Range.size]
  rw [show (List.range' ([:len] : Std.Legacy.Range).start (Std.Legacy.Range.size [:len]) ([:len] : Std.Legacy.Range).step) = List.range len from hr]
  rw [eq_loop w d e xs ys a b eqv (List.range len) (fun i hi => by rw [Nat.mul_one]; exact h i (List.mem_range.1 hi))]
  cases (List.range len).all eqv <;> simp
theorem run_loadVar_first {P : Program} (w : World) (g n : Nat) (t ty : TypeId) (cs : Array Value) (fr : Nat × Nat) (d : TypeDesc) (hg : w.heap[g]? = some (.cells cs t fr))
    (hu : P.underlying ty = some d) (hd : (match d with | .struct _ | .array _ _ => true | _ => false) = true) (hi : (P.info? ty).map (·.size) = some n) (hn : n ≤ cs.size) :
    (loadVar ty ⟨g, 0, none⟩).run P w = .ok (.agg (cs.toList.take n).toArray) w := by
  have hl : (loadCells ⟨g, 0, none⟩ (cs.toList.take n).length).run P w = .ok (cs.toList.take n).toArray w :=
    run_loadCells_list (P := P) w ⟨g, 0, none⟩ (cs.toList.take n) (fun j v hv => by
      have hadd : (⟨g, 0, none⟩ : Addr).add j = ⟨g, j, none⟩ := by unfold Addr.add; split <;> simp_all
      rw [hadd, cell_of_row w g j cs t fr hg]
      have hj : j < n := by
        rcases Nat.lt_or_ge j n with h | h
        · exact h
        · rw [List.getElem?_take, if_neg (by omega)] at hv; cases hv
      rw [List.getElem?_take, if_pos hj] at hv
      simpa using hv)
  cases hq : P.info? ty with
  | none => simp [hq] at hi
  | some i =>
    have hs : i.size = n := by simpa [hq] using hi
    have hagg : (isAgg ty).run P w = .ok true w := by
      unfold isAgg
      rw [Sem.run_bind, run_underlying hu w]
      cases d <;> simp_all
    have hlen : (cs.toList.take n).length = n := by rw [List.length_take, Array.length_toList]; omega
    rw [hlen] at hl
    simp [loadVar, Sem.run_bind, hagg, Go.sizeOf, typeInfo, hq, hs, hl]
end Go.Proofs.Ythenjbonncbniaa
