/-
  Layer 3 (escape): Get, walked.
-/
import Derived.Test.YtphoemgnfmlngaaEscKit
import Derived.Test.YtphoemgnfmlngaaStrip
import Derived.Test.YtphoemgnfmlngaaEsc
import Derived.Test.YtphoemgnfmlngaaBridge
import Derived.Laws.EntriesVeiled
import Derived.RangeFuncBox
import Derived.Maps.AppendAt
import Derived.WalkSmall
import Derived.Lib.ConvBytes
import Derived.Test.YtphoemgnfmlngaaWLast
set_option linter.unusedVariables false
set_option linter.unusedSimpArgs false
namespace Go.Proofs.Ytphoemgnfmlngaa
open Go.RowKit Go.Shelf Go.Proofs.YtphoemgnfmlngaaW.PrintLast Go.Proofs.YtphoemgnfmlngaaW.PrintWords
attribute [local go_sem] Oper.semAt_some


theorem boxed_ownG {β : Type} (B : Nat) (t : TypeId) (f : β → Value) (n : Nat) : OwnFrom n (fun (s : β) W => Boxed W B t (f s)) := fun s W W' row h hg hr =>
  h.kept hg (fun e => by
    obtain ⟨_, o, ho, hc⟩ := hr B e.symm
    rw [show W.heap[B]? = _ from h] at ho; cases ho; cases hc)
theorem pure_ownF {β : Type} (n : Nat) (p : β → Prop) : OwnFrom n (fun (s : β) (_ : World) => p s) := fun _ _ _ _ h _ _ => h
theorem boxed_set_other {W : World} {B C : Nat} {t : TypeId} {u v : Value} (h : Boxed W C t u) (hne : C ≠ B) : Boxed (W.setCell ⟨B, 0, none⟩ v) C t u :=
  h.kept (grownBy_setCell' W B v) (by simpa using hne)
theorem flagged_prefix {p l : List UInt8} (h : p <+: l) (hp : Esc.flagged p = true) : Esc.flagged l = true := by
  obtain ⟨r, rfl⟩ := h
  simp only [Esc.flagged, List.any_append, Bool.or_eq_true] at hp ⊢
  exact .inl hp
def errPair (l : List UInt8) : Value := match Esc.get l with
  | none => .tuple #[.string ⟨#[]⟩, .int .i64 7]
  | some o => .tuple #[.string ⟨o.toArray⟩, .int .i64 0]

set_option maxRecDepth 100000 in
set_option maxHeartbeats 2000000 in
theorem get_in (n : Nat) (hn : 4 ≤ n) (s : ByteArray) (hs : s.size ≤ 140737488351232) (w : World) :
    CallsIn Fence.wide n Try.prog 26 #[.string s] w fun e w' => e = .returned (errPair s.data.toList) ∧ Below w.heap.size w w' := by
  have h1 : 1 ≤ n := by omega
  have hlen : s.data.toList.length = s.size := by rw [Array.length_toList]; rfl
  obtain ⟨i0, hi, hz0, hz1, hz2⟩ := info_parts infoE5
  refine callsIn_of_wp_marks Try.func26 rfl trivial ?_ rfl
  simp only [Try.ntmps26, List.size_toArray, List.length_cons, List.length_nil, Nat.reduceAdd, Nat.reduceSub, Array.replicate_succ, Array.replicate_zero, List.push_toArray, List.append_toArray, List.nil_append, List.cons_append]
  gi_wp2_with (first
    | refine wpIn_scope_straight ?_
    | refine wpIn_label ?_
    | (refine ⟨trivial, ?_⟩; gi_at_call 53; refine (ebytes_in Fence.wide (n - 1) trivial rfl _ _).mono ?_; rintro e w2 ⟨rfl, rfl⟩))
  obtain ⟨W0, hW0⟩ : ∃ W0, ((((w.alloc (Obj.cells #[Value.slice none 0 0] 24)).alloc (Obj.cells #[Value.bool false] 4)).alloc (Obj.cells #[Value.bool false] 4)).alloc (Obj.cells #[Value.string s] 9)) = W0 := ⟨_, rfl⟩
  rw [hW0]
  have hsz : W0.heap.size = w.heap.size + 4 := by rw [← hW0]; simp
  have b0 : Boxed W0 w.heap.size 24 (.slice none 0 0) := by rw [← hW0]; exact (((Boxed.new w 24 _).alloc _).alloc _).alloc _
  have b1 : Boxed W0 (w.heap.size + 1) 4 (.bool false) := by
    rw [← hW0]
    have := Boxed.new (w.alloc (Obj.cells #[Value.slice none 0 0] 24)) 4 (.bool false)
    rw [World.size_alloc] at this
    exact (this.alloc _).alloc _
  have b2 : Boxed W0 (w.heap.size + 1 + 1) 4 (.bool false) := by
    rw [← hW0]
    have := Boxed.new ((w.alloc (Obj.cells #[Value.slice none 0 0] 24)).alloc (Obj.cells #[Value.bool false] 4)) 4 (.bool false)
    rw [World.size_alloc, World.size_alloc] at this
    exact this.alloc _
  have b3 : Boxed W0 (w.heap.size + 1 + 1 + 1) 9 (.string s) := by
    rw [← hW0]
    have := Boxed.new (((w.alloc (Obj.cells #[Value.slice none 0 0] 24)).alloc (Obj.cells #[Value.bool false] 4)).alloc (Obj.cells #[Value.bool false] 4)) 9 (.string s)
    rw [World.size_alloc, World.size_alloc, World.size_alloc] at this
    exact this
  have hB0 : Below w.heap.size w W0 := by
    rw [← hW0]
    exact ((((Below.refl _ w).alloc (Nat.le_refl _) _).alloc (by simp) _).alloc (by simp; omega) _).alloc (by simp; omega) _
  clear hW0
  refine wpIn_rangeFunc_ownF rfl h1 (gf := 62) (lb := #[.pointer (some ⟨w.heap.size + 1 + 1 + 1, 0, none⟩)]) rfl trivial (enters_of Try.func62 (by kernel_rfl) rfl)
    (ebytes_stops Fence.wide (n - 1) trivial rfl (by omega) (w.heap.size + 1 + 1 + 1) s (by omega) W0 b3.cell (by omega)) keepCell_t keepCell_b (Below.refl _ _) (fun _ => rfl)
    (fun pre W => (((((∃ v, Boxed W w.heap.size 24 v ∧ W.ownsRow w.heap.size 5 1 v (Esc.gets pre).1.length (nums .u8 (ints (Esc.gets pre).1)) ∧ True) ∧ Boxed W (w.heap.size + 1) 4 (.bool (Esc.gets pre).2)) ∧ Boxed W (w.heap.size + 1 + 1) 4 (.bool false)) ∧ Boxed W (w.heap.size + 1 + 1 + 1) 9 (.string s)) ∧ Esc.flagged pre = false) ∧ Below w.heap.size w W)
    (fun c pre W => ((c = .exit 0 ∧ Esc.flagged pre = true) ∧ Boxed W (w.heap.size + 1 + 1) 4 (.bool true)) ∧ Below w.heap.size w W)
    (OwnFrom.and (OwnFrom.and (OwnFrom.and (OwnFrom.and (OwnFrom.and (Own.from (holdsRow_own w.heap.size w.heap.size 24 5 1 (fun pre => (Esc.gets pre).1.length) (fun pre => nums .u8 (ints (Esc.gets pre).1)) (fun _ _ => True)) _) (boxed_ownG _ _ (fun pre => .bool (Esc.gets pre).2) _)) (boxed_ownF _ _ _ _)) (boxed_ownF _ _ _ _)) (pure_ownF _ _)) (ownFrom_below (Nat.le_refl _) (by omega)))
    (fun c => OwnFrom.and (OwnFrom.and (pure_ownF _ _) (boxed_ownF _ _ _ _)) (ownFrom_below (Nat.le_refl _) (by omega)))
    ⟨⟨⟨⟨⟨⟨_, b0, World.ownsRow_nil _ _ _ _, trivial⟩, b1⟩, b2⟩, b3⟩, rfl⟩, hB0⟩
    (fun x => { tmps := #[.string s, undef, .string ⟨#[]⟩, .int .i64 0, .pointer (some ⟨w.heap.size, 0, none⟩), .pointer (some ⟨w.heap.size + 1, 0, none⟩), .pointer (some ⟨w.heap.size + 1 + 1, 0, none⟩), .int .u8 ((x.toNat : Nat) : Int), .string s, .func (.func 62) #[] #[.pointer (some ⟨w.heap.size + 1 + 1 + 1, 0, none⟩)], .int .u8 ((x.toNat : Nat) : Int), undef, undef, undef, undef, undef, undef, undef, undef, undef, undef, undef, undef, undef, undef, undef, undef, undef, undef, undef, undef, undef], defers := [] }) ?assign ?body ?done ?stop
  case assign =>
    intro l x W K hK
    simp only [encB]
    gi_wp2
    exact hK
  case body =>
    rintro l pre x W ⟨⟨⟨⟨⟨⟨v, hv, hrow, _⟩, c1⟩, c2⟩, c3⟩, hfl⟩, hB⟩ hlt
    have hc := hv.cell
    have hc1 := c1.cell
    have hf1 := c1.frozen
    have hc2 := c2.cell
    have hf2 := c2.frozen
    have hpl : (Esc.gets pre).1.length ≤ pre.length := Esc.gets_le pre
    have hfs : Esc.flagged (pre ++ [x]) = (x.toNat == 126) := by rw [Esc.flagged_snoc, hfl]; rfl
    have hgs : Esc.gets (pre ++ [x]) = Esc.gstep (Esc.gets pre) x := Esc.gets_snoc pre x
    have Hfs := Lib.hid hfs; clear hfs
    have Hgs := Lib.hid hgs; clear hgs
    have Hfl := Lib.hid hfl; clear hfl
    have hx := x.toNat_lt
    by_cases h126 : x.toNat = 126
    · have e1 : (((x.toNat : Nat) : Int) == 126) = true := by rw [beq_iff_eq]; omega
      have H126 := Lib.hid h126; clear h126
      gi_wp2
      exact ⟨KeepsOthers.setCell _ _ _, ⟨⟨rfl, by rw [Hfs.out, H126.out]; rfl⟩, c2.set _⟩, hB.setCell (p := ⟨w.heap.size + 1 + 1, 0, none⟩) (by simp; omega) _⟩
    have e1 : (((x.toNat : Nat) : Int) == 126) = false := by rw [beq_eq_false_iff_ne]; omega
    have Hf : Hid (Esc.flagged (pre ++ [x]) = false) := Lib.hid (by rw [Hfs.out, beq_eq_false_iff_ne]; exact h126)
    clear h126
    cases hl : (Esc.gets pre).2 with
    | true =>
      rw [hl] at c1 hc1
      have hg1 : (Esc.gets (pre ++ [x])).1 = (Esc.gets pre).1 ++ [x ^^^ 32] := by rw [Hgs.out, Esc.gstep, if_pos hl]
      have hg2 : (Esc.gets (pre ++ [x])).2 = false := by rw [Hgs.out, Esc.gstep, if_pos hl]
      have Hg1 := Lib.hid hg1; clear hg1
      have Hg2 := Lib.hid hg2; clear hg2
      have Hl := Lib.hid hl; clear hl
      gi_wp2
      refine wpIn_region_of_any (by kernel_rfl) (by simp) (by rintro ⟨a, w, h⟩; exact h) ?_
      refine wpAny_of_last (ds := [4, 5, 6]) (S := fun W' => Boxed W' w.heap.size 24 v) _ _ _ _ ?_
      have hS : Boxed W.drew w.heap.size 24 v := hv
      have hrowd : W.drew.ownsRow w.heap.size 5 1 v (Esc.gets pre).1.length (nums .u8 (ints (Esc.gets pre).1)) := hrow
      have hBd : Below w.heap.size w W.drew := below_drew hB
      have d1 : Boxed W.drew (w.heap.size + 1) 4 (.bool true) := c1
      have d2 : Boxed W.drew (w.heap.size + 1 + 1) 4 (.bool false) := c2
      have d3 : Boxed W.drew (w.heap.size + 1 + 1 + 1) 9 (.string s) := c3
      refine wpAnyLast_take (i := 0) (v := v) rfl (by kernel_rfl) (by kernel_rfl) (by kernel_rfl) (by kernel_rfl) (by kernel_rfl) (fun _ _ _ h => h) (.inl ⟨rfl, fun w' hS' => ?_⟩) hS ?_
      · have s1 := hS'.cell; go_simp
      refine wpAnyLast_take (i := 1) (v := .int .u8 ((x.toNat : Nat) : Int)) rfl (by kernel_rfl) (by kernel_rfl) (by kernel_rfl) (by kernel_rfl) (by kernel_rfl) (fun _ _ _ h => h) (.inl ⟨rfl, fun w' hS' => ?_⟩) hS ?_
      · go_simp
      refine wpAnyLast_all (rs := [2]) (by kernel_rfl) (by simp) ?_
      intro i hi'
      obtain rfl := List.mem_singleton.1 hi'
      refine wpOp_step rfl (fun K' hK => ?_)
      go_simp
      refine (turned_calls x _).mono ?_
      rintro e w' ⟨rfl, rfl⟩
      refine hK _ _ ⟨fun _ h => h, ?_⟩
      clear hK K'
      refine wpAnyLast_all (rs := [3]) (by kernel_rfl) (by simp) ?_
      intro i hi'
      obtain rfl := List.mem_singleton.1 hi'
      refine wpOp_step rfl (fun K' hK => ?_)
      go_simp
      refine hK _ _ ⟨fun _ h => h.alloc _, ?_⟩
      clear hK K'
      refine wpAnyLast_all (rs := [4]) (by kernel_rfl) (by simp) ?_
      intro i hi'
      obtain rfl := List.mem_singleton.1 hi'
      refine wpOp_step rfl (fun K' hK => ?_)
      refine if_wanted rfl ?_
      refine wp_append_own _ (.tmp 20) (.tmp 23) 24 rfl w.heap.size 5 i0 (.int .u8 0) 1 1 Try.underlying24 hi hz0 hz1 hz2 rfl (by decide) v _ _ rfl (hrowd.alloc _) ⟨W.heap.size, 0, none⟩ 1 1 [.int .u8 ((x.toNat ^^^ 32 : Nat) : Int)] rfl rfl (cell_one_new _ _ _) (by simp [Value.oneCell']) (by unfold maxLen; omega) (by omega) (by have := hB.size; simp; omega) ?_
      intro v' w1 hown' hgrow _
      obtain ⟨g', cap', rfl⟩ := ownsRow_succ hown'
      obtain ⟨hv1, hv2, hr2, hk2, hb2⟩ := hS.appended (by decide) hrowd hBd.size (by omega) hown' hgrow
      have hcv1 := hv1.cell
      have hfv1 := hv1.frozen
      have k1 := boxed_app (B := w.heap.size) (v' := .slice (some ⟨g', 0, none⟩) ((Esc.gets pre).1.length + 1) cap') d1 (by decide) hrowd hgrow (by omega)
      have k2 := boxed_app (B := w.heap.size) (v' := .slice (some ⟨g', 0, none⟩) ((Esc.gets pre).1.length + 1) cap') d2 (by decide) hrowd hgrow (by omega)
      have k3 := boxed_app (B := w.heap.size) (v' := .slice (some ⟨g', 0, none⟩) ((Esc.gets pre).1.length + 1) cap') d3 (by decide) hrowd hgrow (by omega)
      refine hK _ _ ⟨fun h => by simp at h, ?_⟩
      clear hK K'
      refine wpAnyLast_all (rs := [5]) (by kernel_rfl) (by simp) ?_
      intro i hi'
      obtain rfl := List.mem_singleton.1 hi'
      refine wpOp_step rfl (fun K' hK => ?_)
      go_simp
      refine hK _ _ ⟨fun h => by simp at h, ?_⟩
      clear hK K'
      refine wpAnyLast_all (rs := [6]) (by kernel_rfl) (by simp) ?_
      intro i hi'
      obtain rfl := List.mem_singleton.1 hi'
      refine wpOp_step rfl (fun K' hK => ?_)
      have hk1 := k1.cell
      have hkf1 := k1.frozen
      obtain ⟨w2, hw2⟩ : ∃ w2, w1.setCell ⟨w.heap.size, 0, none⟩ (.slice (some ⟨g', 0, none⟩) ((Esc.gets pre).1.length + 1) cap') = w2 := ⟨_, rfl⟩
      rw [hw2] at hv2 hr2 hk2 hb2 k1 k2 k3 hk1 hkf1 ⊢
      go_simp
      refine hK _ _ ⟨fun h => by simp at h, ?_⟩
      refine wpAnyLast_done (by kernel_rfl) ?_ _
      have k3' := boxed_set_other (B := w.heap.size + 1) (v := .bool false) k3 (by omega)
      refine ⟨((KeepsOthers.drew W).trans hk2).trans (KeepsOthers.setCell _ _ _), keepCell_boxed c3 k3', ⟨⟨⟨⟨⟨_, boxed_set_other hv2 (by omega), ?_, trivial⟩, ?_⟩, boxed_set_other k2 (by omega)⟩, k3'⟩, Hf.out⟩, (hBd.trans hb2).setCell (p := ⟨w.heap.size + 1, 0, none⟩) (by simp) _⟩
      · rw [Hg1.out]
        have hr3 := hr2.kept (grownBy_setCell' w2 (w.heap.size + 1) (.bool false)) (.inr (fun e => by
          have := k1.not_row (by decide) hr2
          exact this e.symm))
        simpa [nums, ints] using hr3
      · rw [Hg2.out]
        exact k1.set _
    | false =>
      rw [hl] at c1 hc1
      by_cases h125 : x.toNat = 125
      · have e2 : (((x.toNat : Nat) : Int) == 125) = true := by rw [beq_iff_eq]; omega
        have hg : Esc.gets (pre ++ [x]) = ((Esc.gets pre).1, true) := by rw [Hgs.out, Esc.gstep, hl, if_neg (by simp), if_pos (by rw [beq_iff_eq]; exact h125)]
        have Hg := Lib.hid hg; clear hg
        have Hl := Lib.hid hl; clear hl
        have H125 := Lib.hid h125; clear h125
        gi_wp2
        refine ⟨KeepsOthers.setCell _ _ _, keepCell_boxed c3 (boxed_set_other c3 (by omega)), ⟨⟨⟨⟨⟨v, boxed_set_other hv (by omega), ?_, trivial⟩, ?_⟩, boxed_set_other c2 (by omega)⟩, boxed_set_other c3 (by omega)⟩, Hf.out⟩, hB.setCell (p := ⟨w.heap.size + 1, 0, none⟩) (by simp) _⟩
        · rw [Hg.out]
          exact hrow.kept (grownBy_setCell' W (w.heap.size + 1) (.bool true)) (.inr (fun e => (c1.not_row (by decide) hrow) e.symm))
        · rw [Hg.out]
          exact c1.set _
      · have e2 : (((x.toNat : Nat) : Int) == 125) = false := by rw [beq_eq_false_iff_ne]; omega
        have hg : Esc.gets (pre ++ [x]) = ((Esc.gets pre).1 ++ [x], false) := by rw [Hgs.out, Esc.gstep, hl, if_neg (by simp), if_neg (by rw [beq_iff_eq]; exact h125)]
        have Hg := Lib.hid hg; clear hg
        have Hl := Lib.hid hl; clear hl
        have H125 := Lib.hid h125; clear h125
        gi_wp2_with (first
          | (gi_at_builtin; refine wpListIn_append_own _ rfl _ _ 24 rfl w.heap.size 5 i0 (.int .u8 0) 1 1 Try.underlying24 hi hz0 hz1 hz2 rfl (by decide) _ _ _ rfl (hrow.alloc _) ⟨W.heap.size, 0, none⟩ 1 1 [.int .u8 ((x.toNat : Nat) : Int)] rfl rfl (cell_one_new _ _ _) (by simp [Value.oneCell']) (by unfold maxLen; omega) (by omega) (by have := hB.size; simp; omega) ?_; intro v' w1 hown' hgrow _; obtain ⟨g', cap', rfl⟩ := ownsRow_succ hown'; obtain ⟨hv1, hv2, hr2, hk2, hb2⟩ := hv.appended (by decide) hrow hB.size (by omega) hown' hgrow; have hcv1 := hv1.cell; have hfv1 := hv1.frozen))
        refine ⟨hk2, keepCell_boxed c3 (boxed_app c3 (by decide) hrow hgrow (by omega)), ⟨⟨⟨⟨⟨_, hv2, ?_, trivial⟩, ?_⟩, boxed_app c2 (by decide) hrow hgrow (by omega)⟩, boxed_app c3 (by decide) hrow hgrow (by omega)⟩, Hf.out⟩, hB.trans hb2⟩
        · rw [Hg.out]
          simpa [nums, ints] using hr2
        · rw [Hg.out]
          exact boxed_app c1 (by decide) hrow hgrow (by omega)
  case done =>
    rintro D ys W hD rfl ⟨⟨⟨⟨⟨⟨v, hv, hrow, _⟩, c1⟩, c2⟩, c3⟩, hfl⟩, hB⟩ hK
    have hc := hv.cell
    have hc1 := c1.cell
    have hc2 := c2.cell
    have hcv := own_string (P := Try.prog) Try.underlying24 Try.underlying5 Try.underlying9 hrow
    rw [ints_str] at hcv
    have hbel := hB.trans (belowK_b (w := w) (Nat.le_refl _) W D _ (.deferred none) (by omega) hK rfl rfl)
    cases hl : (Esc.gets s.data.toList).2 with
    | true =>
      rw [hl] at hc1
      have He : Hid (errPair s.data.toList = .tuple #[.string ⟨#[]⟩, .int .i64 7]) := Lib.hid (by simp [errPair, Esc.get, hfl, hl])
      clear hl hfl
      gi_wp2
      refine ⟨by simp, .inl ⟨_, _, rfl, run_takeDeferred hK, ?_⟩⟩
      exact ⟨_, results_tmp2 rfl _ _ _, by rw [He.out]; rfl, hbel⟩
    | false =>
      rw [hl] at hc1
      have He : Hid (errPair s.data.toList = .tuple #[.string ⟨(Esc.gets s.data.toList).1.toArray⟩, .int .i64 0]) := Lib.hid (by simp [errPair, Esc.get, hfl, hl])
      clear hl hfl
      gi_wp2
      refine ⟨by simp, .inl ⟨_, _, rfl, run_takeDeferred hK, ?_⟩⟩
      exact ⟨_, results_tmp2 rfl _ _ _, by rw [He.out]; rfl, hbel⟩
  case stop =>
    rintro D c pre W hD hpre ⟨⟨⟨rfl, hfl⟩, c2⟩, hB⟩ hK
    have hc2 := c2.cell
    have hbel := hB.trans (belowK_b (w := w) (Nat.le_refl _) W D _ (.deferred none) (by omega) hK rfl rfl)
    have hfs := flagged_prefix hpre hfl
    have He : Hid (errPair s.data.toList = .tuple #[.string ⟨#[]⟩, .int .i64 7]) := Lib.hid (by simp [errPair, Esc.get, hfs])
    clear hfs hfl hpre
    gi_wp2
    refine ⟨by simp, .inl ⟨_, _, rfl, run_takeDeferred hK, ?_⟩⟩
    exact ⟨_, results_tmp2 rfl _ _ _, by rw [He.out]; rfl, hbel⟩

theorem get_calls (s : ByteArray) (hs : s.size ≤ 140737488351232) (w : World) :
    Calls Try.prog 26 #[.string s] w fun e w' => e = .returned (errPair s.data.toList) ∧ Below w.heap.size w w' :=
  callsIn_wide.1 (get_in 4 (by omega) s hs w)
theorem strip_calls (a : Nat) (ha : a < 4294967296) (s : ByteArray) (hs : s.size ≤ 140737488351232) (w : World) :
    Calls Try.prog 33 #[.string s, .int .u32 a] w fun e w' => e = .returned (.string ⟨(Esc.strip a s.data.toList).toArray⟩) ∧ Below w.heap.size w w' :=
  callsIn_wide.1 (strip_in 4 (by omega) a ha s hs w)
end Go.Proofs.Ytphoemgnfmlngaa
