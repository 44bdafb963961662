/-
  Layer 3 (escape): Put, walked.
-/
import Derived.Test.YtphoemgnfmlngaaEscKit
import Derived.Test.YtphoemgnfmlngaaEsc
import Derived.Test.YtphoemgnfmlngaaBridge
import Derived.Laws.EntriesVeiled
import Derived.RangeFuncBox
import Derived.Maps.AppendAt
import Derived.WalkSmall
import Derived.Lib.ConvBytes
import Derived.Test.YtphoemgnfmlngaaWLast
set_option linter.unusedVariables false
set_option linter.unusedSimpArgs false
namespace Go.Proofs.Ytphoemgnfmlngaa
open Go.RowKit Go.Shelf Go.Proofs.YtphoemgnfmlngaaW.PrintLast Go.Proofs.YtphoemgnfmlngaaW.PrintWords
attribute [local go_sem] Oper.semAt_some


set_option maxRecDepth 100000 in
set_option maxHeartbeats 2000000 in
theorem put_in (n : Nat) (hn : 4 ≤ n) (a : Nat) (ha : a < 4294967296) (s : ByteArray) (hs : s.size ≤ 35184372088832) (w : World) :
    CallsIn Fence.wide n Try.prog 31 #[.string s, .int .u32 a] w fun e w' => e = .returned (.string ⟨(Esc.put a s.data.toList).toArray⟩) ∧ Below w.heap.size w w' := by
  have h1 : 1 ≤ n := by omega
  have hlen : s.data.toList.length = s.size := by rw [Array.length_toList]; rfl
  obtain ⟨i0, hi, hz0, hz1, hz2⟩ := info_parts infoE5
  have hmf : ∀ (fn : Fn) (first cap : Array Value) (w : World), (Instr.makeFunc fn first cap).run Try.prog w = .ok (.func fn first cap) w := fun _ _ _ _ => rfl
  refine callsIn_of_wp_marks Try.func31 rfl trivial ?_ rfl
  simp only [Try.ntmps31, List.size_toArray, List.length_cons, List.length_nil, Nat.reduceAdd, Nat.reduceSub, Array.replicate_succ, Array.replicate_zero, List.push_toArray, List.append_toArray, List.nil_append, List.cons_append]
  gi_wp2_with (first
    | (refine ⟨trivial, ?_⟩; gi_at_call 53; refine (ebytes_in Fence.wide (n - 1) trivial rfl _ _).mono ?_; rintro e w2 ⟨rfl, rfl⟩))
  obtain ⟨W0, hW0⟩ : ∃ W0, ((((w.alloc (Obj.cells #[Value.int IntKind.u32 ↑a] 37)).alloc (Obj.cells #[Value.slice none 0 0] 24)).alloc (Obj.cells #[Value.func (Fn.func 56) #[] #[Value.pointer (some { block := w.heap.size, off := 0 })]] 76)).alloc (Obj.cells #[Value.string s] 9)) = W0 := ⟨_, rfl⟩
  rw [hW0]
  have hsz : W0.heap.size = w.heap.size + 4 := by rw [← hW0]; simp
  have b0 : Boxed W0 w.heap.size 37 (.int .u32 a) := by rw [← hW0]; exact (((Boxed.new w 37 _).alloc _).alloc _).alloc _
  have b1 : Boxed W0 (w.heap.size + 1) 24 (.slice none 0 0) := by
    rw [← hW0]
    have := Boxed.new (w.alloc (Obj.cells #[Value.int IntKind.u32 ↑a] 37)) 24 (.slice none 0 0)
    rw [World.size_alloc] at this
    exact (this.alloc _).alloc _
  have b2 : Boxed W0 (w.heap.size + 1 + 1) 76 (Value.func (Fn.func 56) #[] #[Value.pointer (some { block := w.heap.size, off := 0 })]) := by
    rw [← hW0]
    have := Boxed.new ((w.alloc (Obj.cells #[Value.int IntKind.u32 ↑a] 37)).alloc (Obj.cells #[Value.slice none 0 0] 24)) 76 (Value.func (Fn.func 56) #[] #[Value.pointer (some { block := w.heap.size, off := 0 })])
    rw [World.size_alloc, World.size_alloc] at this
    exact this.alloc _
  have b3 : Boxed W0 (w.heap.size + 1 + 1 + 1) 9 (.string s) := by
    rw [← hW0]
    have := Boxed.new (((w.alloc (Obj.cells #[Value.int IntKind.u32 ↑a] 37)).alloc (Obj.cells #[Value.slice none 0 0] 24)).alloc (Obj.cells #[Value.func (Fn.func 56) #[] #[Value.pointer (some { block := w.heap.size, off := 0 })]] 76)) 9 (.string s)
    rw [World.size_alloc, World.size_alloc, World.size_alloc] at this
    exact this
  have hB0 : Below w.heap.size w W0 := by
    rw [← hW0]
    exact ((((Below.refl _ w).alloc (Nat.le_refl _) _).alloc (by simp) _).alloc (by simp; omega) _).alloc (by simp; omega) _
  clear hW0
  refine wpIn_rangeFunc_ownF rfl h1 (gf := 62) (lb := #[.pointer (some ⟨w.heap.size + 1 + 1 + 1, 0, none⟩)]) rfl trivial (enters_of Try.func62 (by kernel_rfl) rfl)
    (ebytes_stops Fence.wide (n - 1) trivial rfl (by omega) (w.heap.size + 1 + 1 + 1) s (by omega) W0 b3.cell (by omega)) keepCell_t keepCell_b (Below.refl _ _) (fun _ => rfl)
    (fun pre W => ((((∃ v, Boxed W (w.heap.size + 1) 24 v ∧ W.ownsRow w.heap.size 5 1 v (Esc.put a pre).length (nums .u8 (ints (Esc.put a pre))) ∧ True) ∧ Boxed W w.heap.size 37 (.int .u32 a)) ∧ Boxed W (w.heap.size + 1 + 1) 76 (Value.func (Fn.func 56) #[] #[Value.pointer (some { block := w.heap.size, off := 0 })])) ∧ Boxed W (w.heap.size + 1 + 1 + 1) 9 (.string s)) ∧ Below w.heap.size w W)
    (fun _ _ _ => False)
    (OwnFrom.and (OwnFrom.and (OwnFrom.and (OwnFrom.and (Own.from (holdsRow_own w.heap.size (w.heap.size + 1) 24 5 1 (fun pre => (Esc.put a pre).length) (fun pre => nums .u8 (ints (Esc.put a pre))) (fun _ _ => True)) _) (boxed_ownF _ _ _ _)) (boxed_ownF _ _ _ _)) (boxed_ownF _ _ _ _)) (ownFrom_below (Nat.le_refl _) (by omega)))
    (fun _ _ _ _ _ hs _ _ => hs)
    ⟨⟨⟨⟨⟨_, b1, World.ownsRow_nil _ _ _ _, trivial⟩, b0⟩, b2⟩, b3⟩, hB0⟩
    (fun x => { tmps := #[.string s, .int .u32 a, undef, .pointer (some ⟨w.heap.size, 0, none⟩), .string ⟨#[]⟩, .pointer (some ⟨w.heap.size + 1, 0, none⟩), .pointer (some ⟨w.heap.size + 1 + 1, 0, none⟩), .int .u8 ((x.toNat : Nat) : Int), Value.func (Fn.func 56) #[] #[Value.pointer (some { block := w.heap.size, off := 0 })], .string s, .func (.func 62) #[] #[.pointer (some ⟨w.heap.size + 1 + 1 + 1, 0, none⟩)], .int .u8 ((x.toNat : Nat) : Int), undef, undef, undef, undef, undef, undef, undef, undef, undef, undef, undef, undef, undef, undef], defers := [] }) ?assign ?body ?done ?stop
  case assign =>
    intro l x W K hK
    simp only [encB]
    gi_wp2
    exact hK
  case body =>
    rintro l pre x W ⟨⟨⟨⟨⟨v, hv, hrow, _⟩, c0⟩, c2⟩, c3⟩, hB⟩ hlt
    have hc := hv.cell
    have hc0 := c0.cell
    have hc2 := c2.cell
    have hpl : (Esc.put a pre).length ≤ 2 * pre.length := Esc.put_le a pre
    have hsn := Lib.hid (Esc.put_snoc a pre x)
    have hx := x.toNat_lt
    cases hm : Esc.isE a x with
    | false =>
      rw [hm] at hsn
      gi_wp2_with (first
        | (refine ⟨trivial, (fun h => by cases h), ?_⟩; gi_at_call 56; refine (CallsIn.inRound l (callsIn_wide.2 (is_calls a x w.heap.size ha _ hc0))).mono ?_; rw [hm]; rintro e w' ⟨rfl, rfl⟩)
        | (gi_at_builtin; refine wpListIn_append_own _ rfl _ _ 24 rfl w.heap.size 5 i0 (.int .u8 0) 1 1 Try.underlying24 hi hz0 hz1 hz2 rfl (by decide) _ _ _ rfl (hrow.alloc _) ⟨W.heap.size, 0, none⟩ 1 1 [.int .u8 ((x.toNat : Nat) : Int)] rfl rfl (cell_one_new _ _ _) (by simp [Value.oneCell']) (by unfold maxLen; omega) (by omega) (by have := hB.size; simp; omega) ?_; intro v' w1 hown' hgrow _; obtain ⟨g', cap', rfl⟩ := ownsRow_succ hown'; obtain ⟨hv1, hv2, hr2, hk2, hb2⟩ := hv.appended (by decide) hrow hB.size (by omega) hown' hgrow; have hc1 := hv1.cell; have hf1 := hv1.frozen))
      refine ⟨hk2, keepCell_boxed c3 (boxed_app c3 (by decide) hrow hgrow (by omega)), ⟨⟨⟨⟨_, hv2, ?_, trivial⟩, boxed_app c0 (by decide) hrow hgrow (by omega)⟩, boxed_app c2 (by decide) hrow hgrow (by omega)⟩, boxed_app c3 (by decide) hrow hgrow (by omega)⟩, hB.trans hb2⟩
      rw [hsn.out]
      simpa [nums, ints] using hr2
    | true =>
      rw [hm] at hsn
      gi_wp2_with (first
        | (refine ⟨trivial, (fun h => by cases h), ?_⟩; gi_at_call 56; refine (CallsIn.inRound l (callsIn_wide.2 (is_calls a x w.heap.size ha _ hc0))).mono ?_; rw [hm]; rintro e w' ⟨rfl, rfl⟩))
      refine wpIn_region_of_any (by kernel_rfl) (by simp) (by rintro ⟨a, w, h⟩; exact h) ?_
      refine wpAny_of_last (ds := [4, 5]) (S := fun W' => Boxed W' (w.heap.size + 1) 24 v) _ _ _ _ ?_
      have hS : Boxed W.drew (w.heap.size + 1) 24 v := hv
      have hrowd : W.drew.ownsRow w.heap.size 5 1 v (Esc.put a pre).length (nums .u8 (ints (Esc.put a pre))) := hrow
      have hBd : Below w.heap.size w W.drew := below_drew hB
      refine wpAnyLast_take (i := 0) (v := v) rfl (by kernel_rfl) (by kernel_rfl) (by kernel_rfl) (by kernel_rfl) (by kernel_rfl) (fun _ _ _ h => h) (.inl ⟨rfl, fun w' hS' => ?_⟩) hS ?_
      · have s1 := hS'.cell; go_simp
      refine wpAnyLast_take (i := 1) (v := .int .u8 ((x.toNat : Nat) : Int)) rfl (by kernel_rfl) (by kernel_rfl) (by kernel_rfl) (by kernel_rfl) (by kernel_rfl) (fun _ _ _ h => h) (.inl ⟨rfl, fun w' hS' => ?_⟩) hS ?_
      · go_simp
      refine wpAnyLast_all (rs := [2]) (by kernel_rfl) (by simp) ?_
      intro i hi'
      obtain rfl := List.mem_singleton.1 hi'
      refine wpOp_step rfl (fun K' hK => ?_)
      go_simp
      refine (turned_calls x _).mono ?_
      rintro e w' ⟨rfl, rfl⟩
      refine hK _ _ ⟨fun _ h => h, ?_⟩
      clear hK K'
      refine wpAnyLast_all (rs := [3]) (by kernel_rfl) (by simp) ?_
      intro i hi'
      obtain rfl := List.mem_singleton.1 hi'
      refine wpOp_step rfl (fun K' hK => ?_)
      go_simp
      refine hK _ _ ⟨fun _ h => h.alloc _, ?_⟩
      clear hK K'
      refine wpAnyLast_all (rs := [4]) (by kernel_rfl) (by simp) ?_
      intro i hi'
      obtain rfl := List.mem_singleton.1 hi'
      refine wpOp_step rfl (fun K' hK => ?_)
      refine if_wanted rfl ?_
      refine wp_append_own _ (.tmp 15) (.tmp 18) 24 rfl w.heap.size 5 i0 (.int .u8 0) 1 1 Try.underlying24 hi hz0 hz1 hz2 rfl (by decide) v _ _ rfl (hrowd.alloc _) ⟨W.heap.size, 0, none⟩ 2 2 [.int .u8 125, .int .u8 ((x.toNat ^^^ 32 : Nat) : Int)] rfl rfl (cell_two_new _ _ _ _) (by simp [Value.oneCell']) (by unfold maxLen; omega) (by omega) (by have := hB.size; simp; omega) ?_
      intro v' w1 hown' hgrow _
      obtain ⟨g', cap', rfl⟩ := ownsRow_succ hown'
      obtain ⟨hv1, hv2, hr2, hk2, hb2⟩ := hS.appended (by decide) hrowd hBd.size (by omega) hown' hgrow
      have hc1 := hv1.cell
      have hf1 := hv1.frozen
      refine hK _ _ ⟨fun h => by simp at h, ?_⟩
      clear hK K'
      refine wpAnyLast_all (rs := [5]) (by kernel_rfl) (by simp) ?_
      intro i hi'
      obtain rfl := List.mem_singleton.1 hi'
      refine wpOp_step rfl (fun K' hK => ?_)
      go_simp
      refine hK _ _ ⟨fun h => by simp at h, ?_⟩
      refine wpAnyLast_done (by kernel_rfl) ?_ _
      have d0 : Boxed W.drew w.heap.size 37 (.int .u32 a) := c0
      have d2 : Boxed W.drew (w.heap.size + 1 + 1) 76 (Value.func (Fn.func 56) #[] #[Value.pointer (some { block := w.heap.size, off := 0 })]) := c2
      have d3 : Boxed W.drew (w.heap.size + 1 + 1 + 1) 9 (.string s) := c3
      refine ⟨(KeepsOthers.drew W).trans hk2, keepCell_boxed c3 (boxed_app d3 (by decide) hrowd hgrow (by omega)), ⟨⟨⟨⟨_, hv2, ?_, trivial⟩, boxed_app d0 (by decide) hrowd hgrow (by omega)⟩, boxed_app d2 (by decide) hrowd hgrow (by omega)⟩, boxed_app d3 (by decide) hrowd hgrow (by omega)⟩, hBd.trans hb2⟩
      rw [hsn.out]
      simpa [nums, ints] using hr2
  case done =>
    rintro D ys W hD rfl ⟨⟨⟨⟨⟨v, hv, hrow, _⟩, c0⟩, c2⟩, c3⟩, hB⟩ hK
    have hc := hv.cell
    have hcv := own_string (P := Try.prog) Try.underlying24 Try.underlying5 Try.underlying9 hrow
    rw [ints_str] at hcv
    gi_wp2
    refine ⟨by simp, .inl ⟨_, _, rfl, run_takeDeferred hK, ?_⟩⟩
    exact ⟨_, results_tmp rfl _ _ _, rfl, hB.trans (belowK_b (w := w) (Nat.le_refl _) W D _ _ (by omega) hK rfl rfl)⟩
  case stop =>
    rintro D c pre W _ _ h _
    exact h.elim

theorem put_calls (a : Nat) (ha : a < 4294967296) (s : ByteArray) (hs : s.size ≤ 35184372088832) (w : World) :
    Calls Try.prog 31 #[.string s, .int .u32 a] w fun e w' => e = .returned (.string ⟨(Esc.put a s.data.toList).toArray⟩) ∧ Below w.heap.size w w' :=
  callsIn_wide.1 (put_in 4 (by omega) a ha s hs w)
end Go.Proofs.Ytphoemgnfmlngaa
