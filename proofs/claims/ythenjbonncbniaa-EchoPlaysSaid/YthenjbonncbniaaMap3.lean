/-
  Layer 17 (echo): Packet's map of three methods.
-/
import Derived.Test.YthenjbonncbniaaTick
import Derived.MapKept
set_option linter.unusedVariables false
set_option linter.unusedSimpArgs false
namespace Go.Proofs.Ythenjbonncbniaa
open Go.RowKit Go.MapKept

theorem und97 : Try.prog.underlying 97 = some (.map 5 49) := by kernel_rfl
theorem und5 : Try.prog.underlying 5 = some (.int .u8) := by kernel_rfl
theorem info49 : (Try.prog.info? 49).map (·.zero) = some (some .nilFunc) := by kernel_rfl
theorem zero49 (w : World) : (zeroValue 49).run Try.prog w = .ok .nilFunc w := by
  obtain ⟨i, hi, hz⟩ := Option.map_eq_some_iff.1 info49
  simp [zeroValue, typeInfo, hi, hz]
def mapW (W : World) (m : Nat) (es : Array MapEntry) (c : Nat) : World := { W with heap := W.heap.setIfInBounds m (.map es c) }
theorem run_upd (W : World) (m : Nat) (es : Array MapEntry) (c : Nat) (k : Int) (v : Value) (h : W.heap[m]? = some (.map es c)) (hn : Instr.findNow (.int .u8) (.int .u8 k) es.toList 0 = some none) :
    (Instr.mapUpdate 97 (.map (some m)) (.int .u8 k) v).run Try.prog W = .ok () (mapW W m (es.push { key := .int .u8 k, val := v, born := c }) (c + 1)) := by
  simp [Instr.mapUpdate, run_underlying und97, Go.MapKept.run_getObj_map h, run_checkKey und5 (show IsKey (.int .u8) (.int .u8 k) from rfl), run_findKey und5 hn, run_setObj_map _ h, Result.andThen, mapW]
theorem mapW_at {W : World} {m : Nat} {es : Array MapEntry} {c : Nat} {o : Obj} (h : W.heap[m]? = some o) : (mapW W m es c).heap[m]? = some (.map es c) := (heap_set h).1
theorem mapW_below {b : Nat} {a W : World} {m : Nat} (h : Below b a W) (hm : b ≤ m) (es : Array MapEntry) (c : Nat) : Below b a (mapW W m es c) :=
  ⟨h.os, h.tape, h.output, by simp [mapW]; exact h.size, fun k hk => by
    rw [show (mapW W m es c).heap[k]? = (W.heap.setIfInBounds m (.map es c))[k]? from rfl, Array.getElem?_setIfInBounds_ne (by omega)]
    exact h.block k hk⟩
theorem run_look (W : World) (m : Nat) (es : Array MapEntry) (c : Nat) (k : Int) (h : W.heap[m]? = some (.map es c)) :
    (∀ i v, Instr.findNow (.int .u8) (.int .u8 k) es.toList 0 = some (some (i, v)) → (Instr.lookup 97 (.map (some m)) (.int .u8 k) true).run Try.prog W = .ok (.tuple #[v, .bool true]) W) ∧
    (Instr.findNow (.int .u8) (.int .u8 k) es.toList 0 = some none → (Instr.lookup 97 (.map (some m)) (.int .u8 k) true).run Try.prog W = .ok (.tuple #[.nilFunc, .bool false]) W) := by
  refine ⟨fun i v hn => ?_, fun hn => ?_⟩
  · simp [Instr.lookup, run_underlying und97, Go.MapKept.run_getObj_map h, run_checkKey und5 (show IsKey (.int .u8) (.int .u8 k) from rfl), run_findKey und5 hn, Result.andThen]
  · simp [Instr.lookup, run_underlying und97, Go.MapKept.run_getObj_map h, run_checkKey und5 (show IsKey (.int .u8) (.int .u8 k) from rfl), run_findKey und5 hn, Result.andThen, zero49]
def three (f g h : Value) : Array MapEntry := #[{ key := .int .u8 9, val := f, born := 0 }, { key := .int .u8 10, val := g, born := 1 }, { key := .int .u8 11, val := h, born := 2 }]
/-- What is found. -/
def pick3 (f g h : Value) (k : Int) : Value := if k = 9 then .tuple #[f, .bool true] else if k = 10 then .tuple #[g, .bool true] else if k = 11 then .tuple #[h, .bool true] else .tuple #[.nilFunc, .bool false]
theorem made3 (W : World) (f g h : Value) : ∃ W1 W2 W3, (Instr.mapUpdate 97 (.map (some W.heap.size)) (.int .u8 9) f).run Try.prog (W.alloc (.map #[] 0)) = .ok () W1 ∧
    (Instr.mapUpdate 97 (.map (some W.heap.size)) (.int .u8 10) g).run Try.prog W1 = .ok () W2 ∧ (Instr.mapUpdate 97 (.map (some W.heap.size)) (.int .u8 11) h).run Try.prog W2 = .ok () W3 ∧
    (∀ k : Int, (Instr.lookup 97 (.map (some W.heap.size)) (.int .u8 k) true).run Try.prog W3 = .ok (pick3 f g h k) W3) ∧ Below W.heap.size W W3 := by
  have h0 : (W.alloc (.map #[] 0)).heap[W.heap.size]? = some (.map #[] 0) := alloc_new _ _ _ rfl
  have h1 := mapW_at (es := #[{ key := .int .u8 9, val := f, born := 0 }]) (c := 1) h0
  have h2 := mapW_at (es := #[{ key := .int .u8 9, val := f, born := 0 }, { key := .int .u8 10, val := g, born := 1 }]) (c := 2) h1
  have h3 := mapW_at (es := three f g h) (c := 3) h2
  refine ⟨_, _, _, run_upd _ _ _ _ _ _ h0 rfl, run_upd _ _ _ _ _ _ h1 rfl, run_upd _ _ _ _ _ _ h2 rfl, fun k => ?_, mapW_below (mapW_below (mapW_below ((Below.refl _ _).alloc (Nat.le_refl _) _) (Nat.le_refl _) _ _) (Nat.le_refl _) _ _) (Nat.le_refl _) _ _⟩
  have hl := run_look _ _ _ _ k h3
  unfold pick3
  by_cases e9 : k = 9
  · subst e9; rw [if_pos rfl]; exact hl.1 0 f rfl
  · rw [if_neg e9]
    have n9 : (k == 9) = false := by simpa using e9
    by_cases e10 : k = 10
    · subst e10; rw [if_pos rfl]; exact hl.1 1 g rfl
    · rw [if_neg e10]
      have n10 : (k == 10) = false := by simpa using e10
      by_cases e11 : k = 11
      · subst e11; rw [if_pos rfl]; exact hl.1 2 h rfl
      · rw [if_neg e11]
        have n11 : (k == 11) = false := by simpa using e11
        exact hl.2 (by simp [three, Instr.findNow, Instr.sameNow, n9, n10, n11])
end Go.Proofs.Ythenjbonncbniaa
