/-
  Layer 8 (option): Get, walked.
-/
import Derived.Test.YtjkhmnipffdliaaEach
import Derived.Test.YtjkhmnipffdliaaRange
import Derived.RangeFuncBox
import Derived.Laws.EntriesVeiled
import Derived.WalkSmall
set_option linter.unusedVariables false
set_option linter.unusedSimpArgs false
namespace Go.Proofs.Ytjkhmnipffdliaa
open Go.Shelf Go.RowKit Go.Proofs.YtjkhmnipffdliaaW.PrintWords Go.Proofs.YtjkhmnipffdliaaW.PrintLast

attribute [local go_sem] Oper.semAt_some
/-- What Get answers. -/
def fin (n : Nat) (ss : List Stp) : List Opt × Int × Int := match ss.find? (fun x => decide (x.e ≠ 0)) with
  | some x => ([], (x.at_ : Int), x.e)
  | none => (ss.map (·.o), (n : Int), 0)
def getS (s : ByteArray) : List Opt × Int × Int := if 1496 < s.size then ([], 0, 5) else fin s.size (steps s (s.size + 1) 0 0)
theorem fin_all {n : Nat} {ss : List Stp} (h : ∀ x ∈ ss, x.e = 0) : fin n ss = (ss.map (·.o), (n : Int), 0) := by
  have : ss.find? (fun x => decide (x.e ≠ 0)) = none := by
    rw [List.find?_eq_none]
    intro x hx
    simp [h x hx]
  rw [fin, this]
theorem fin_bad {n : Nat} {ss pre : List Stp} {x : Stp} (hp : pre ++ [x] <+: ss) (h : ∀ y ∈ pre, y.e = 0) (hx : x.e ≠ 0) : fin n ss = ([], (x.at_ : Int), x.e) := by
  obtain ⟨r, rfl⟩ := hp
  have h1 : pre.find? (fun x => decide (x.e ≠ 0)) = none := by
    rw [List.find?_eq_none]
    intro y hy
    simp [h y hy]
  have : (pre ++ [x] ++ r).find? (fun x => decide (x.e ≠ 0)) = some x := by
    rw [List.append_assoc, List.find?_append, h1]
    simp [hx]
  rw [fin, this]
theorem results_cells3 {fn : Func} {p q r : Tmp} {tp tq tr : TypeId} (h : fn.results = #[.cell p tp, .cell q tq, .cell r tr]) (tmps : Array Value) (P : Program) (w : World) {a b c : Addr} {u v x : Value}
    (ha : tmps.getD p undef = .pointer (some a)) (hb : tmps.getD q undef = .pointer (some b)) (hc : tmps.getD r undef = .pointer (some c))
    (la : (loadVar tp a).run P w = .ok u w) (lb : (loadVar tq b).run P w = .ok v w) (lc : (loadVar tr c).run P w = .ok x w) : (results fn tmps).run P w = .ok (.tuple #[u, v, x]) w := by
  simp only [Array.getD_eq_getD_getElem?] at ha hb hc
  simp only [results, h]
  simp [Sem.run_bind, Result.andThen, ha, hb, hc, la, lb, lc, asAddr]
theorem keepT_alloc (W : World) (o : Obj) : KeepT W (W.alloc o) := fun b cs t _ hv => (Lib.alloc_old _ _ _ (Array.getElem?_eq_some_iff.1 hv).1).trans hv
theorem keepT_app {W w1 : World} {base b0 : Nat} {v v' u : Value} {k : Nat} {xs : List Value} {tmp : Obj} (hrow : W.ownsRow base 32 2 v k xs) (hb0 : Boxed W b0 22 u) (hgrow : (W.alloc tmp).grownBy w1 v.ownBlock) : KeepT W (w1.setCell ⟨b0, 0, none⟩ v') := fun b cs t ht hv => by
  have hlt := (Array.getElem?_eq_some_iff.1 hv).1
  have hbb : b ≠ b0 := fun e => by
    subst e
    rw [show W.heap[b]? = _ from hb0] at hv
    simp only [Option.some.injEq, Obj.cells.injEq] at hv
    rcases ht with rfl | rfl <;> exact absurd hv.2.1 (by decide)
  rw [Below.heap_setCell _ _ _ _ hbb, hgrow.block b (by simp; omega) (own_ne hrow hv (by rcases ht with rfl | rfl <;> decide)), Lib.alloc_old _ _ _ hlt]
  exact hv
theorem boxed_app {W w1 : World} {n₀ B C : Nat} {t' e : TypeId} {size : Nat} {v v' u : Value} {k : Nat} {xs : List Value} {tmp : Obj} (hC : Boxed W C t' u) (hne : t' ≠ e) (hrow : W.ownsRow n₀ e size v k xs)
    (hgrow : (W.alloc tmp).grownBy w1 v.ownBlock) (hCB : C ≠ B) : Boxed (w1.setCell ⟨B, 0, none⟩ v') C t' u :=
  ((hC.alloc tmp).kept hgrow (hC.not_row hne hrow)).kept (grownBy_setCell' w1 B v') (by simpa using hCB)
theorem boxed_ownF {β : Type} (B : Nat) (t : TypeId) (v : Value) (n : Nat) : OwnFrom n (fun (_ : β) W => Boxed W B t v) := fun s W W' row h hg hr =>
  h.kept hg (fun e => by
    obtain ⟨_, o, ho, hc⟩ := hr B e.symm
    rw [show W.heap[B]? = _ from h] at ho; cases ho; cases hc)
theorem boxed_ownG {β : Type} (B : Nat) (t : TypeId) (f : β → Value) (n : Nat) : OwnFrom n (fun (s : β) W => Boxed W B t (f s)) := fun s W W' row h hg hr =>
  h.kept hg (fun e => by
    obtain ⟨_, o, ho, hc⟩ := hr B e.symm
    rw [show W.heap[B]? = _ from h] at ho; cases ho; cases hc)
theorem pure_ownF {β : Type} (n : Nat) (p : β → Prop) : OwnFrom n (fun (s : β) (_ : World) => p s) := fun _ _ _ _ h _ _ => h
theorem boxed_set_other {W : World} {B C : Nat} {t : TypeId} {u v : Value} (h : Boxed W C t u) (hne : C ≠ B) : Boxed (W.setCell ⟨B, 0, none⟩ v) C t u :=
  h.kept (grownBy_setCell' W B v) (by simpa using hne)
theorem own_slice {W : World} {B e size n : Nat} {v : Value} {xs : List Value} (h : W.ownsRow B e size v n xs) : ∃ ao cap, v = .slice ao n cap := by
  rcases h.2 with ⟨hv, h0⟩ | ⟨g, cap, cur, hv, _⟩
  · exact ⟨none, 0, by rw [hv, h0]⟩
  · exact ⟨_, _, hv⟩
theorem row_own_n {w : World} {B n : Nat} {v : Value} {l : List Opt} (h : w.ownsRow B 32 2 v n (optCells l)) (hn : n = l.length) : IsRow w v l := by subst hn; exact row_own h
def GI (w : World) (pre : List Stp) (W : World) : Prop :=
  (((((∃ v, Boxed W w.heap.size 22 v ∧ W.ownsRow w.heap.size 32 2 v pre.length (optCells (pre.map (·.o))) ∧ True) ∧ Boxed W (w.heap.size + 1) 3 (.int .i64 0)) ∧ Boxed W (w.heap.size + 1 + 1) 25 (.int .i64 0)) ∧ (∀ x ∈ pre, x.e = 0)) ∧ Below w.heap.size w W)
theorem gi_own (w : World) (n : Nat) (hn : w.heap.size ≤ n) : OwnFrom n (GI w) :=
  OwnFrom.and (OwnFrom.and (OwnFrom.and (OwnFrom.and (Own.from (holdsRow_own w.heap.size w.heap.size 22 32 2 (fun pre : List Stp => pre.length) (fun pre => optCells (pre.map (·.o))) (fun _ _ => True)) _) (boxed_ownF _ _ _ _)) (boxed_ownF _ _ _ _)) (pure_ownF _ _)) (ownFrom_below (Nat.le_refl _) hn)
def GX (w : World) (c : Code) (pre : List Stp) (W : World) : Prop :=
  ∃ (pre' : List Stp) (x : Stp), (((((c = .ret ∧ pre = pre' ++ [x] ∧ (∀ y ∈ pre', y.e = 0) ∧ x.e ≠ 0) ∧ Boxed W w.heap.size 22 (.slice none 0 0)) ∧ Boxed W (w.heap.size + 1) 3 (.int .i64 (x.at_ : Int))) ∧ Boxed W (w.heap.size + 1 + 1) 25 (.int .i64 x.e)) ∧ Below w.heap.size w W)
theorem gx_own (w : World) (n : Nat) (hn : w.heap.size ≤ n) (c : Code) : OwnFrom n (GX w c) := fun s A B row ⟨pre', x, ⟨⟨⟨h1, h2⟩, h3⟩, h4⟩, h5⟩ hg hr =>
  ⟨pre', x, ⟨⟨⟨h1, boxed_ownF (β := Unit) _ _ _ n () A B row h2 hg hr⟩, boxed_ownF (β := Unit) _ _ _ n () A B row h3 hg hr⟩, boxed_ownF (β := Unit) _ _ _ n () A B row h4 hg hr⟩, ownFrom_below (β := Unit) (Nat.le_refl _) hn () A B row h5 hg hr⟩
def stepCells (x : Stp) : Array Value := #[.int .u8 (tv x.o.t), .string x.o.d, .int .i64 (x.at_ : Int), .int .i64 x.e]
def GM (w : World) (act : Nat → Stp → Act) (pre : List Stp) (x : Stp) (a' : Act) (W : World) : Prop :=
  GI w pre W ∧ ∃ b, a' = act b x ∧ W.heap[b]? = some (.cells (stepCells x) 56 (0, 0))
theorem gm_own (w : World) (n : Nat) (hn : w.heap.size ≤ n) (act : Nat → Stp → Act) (a' : Act) : OwnFrom n (fun (p : List Stp × Stp) W => GM w act p.1 p.2 a' W) := fun s A B row ⟨h1, b, h2, h3⟩ hg hr =>
  ⟨gi_own w n hn s.1 A B row h1 hg hr, b, h2, (hg.block b (Array.getElem?_eq_some_iff.1 h3).1 (fun e => by
    obtain ⟨_, o, ho, hc⟩ := hr b e.symm
    rw [h3] at ho; cases ho; cases hc)).trans h3⟩
set_option maxRecDepth 100000 in
set_option maxHeartbeats 4000000 in
theorem get_in (n : Nat) (hn : 4 ≤ n) (s : ByteArray) (w : World) :
    CallsIn Fence.wide n Try.prog 11 #[.string s] w fun e w' => ∃ v, e = .returned (.tuple #[v, .int .i64 (getS s).2.1, .int .i64 (getS s).2.2]) ∧ IsRow w' v (getS s).1 ∧ Below w.heap.size w w' := by
  have h1 : 1 ≤ n := by omega
  obtain ⟨i0, hi, hz⟩ := Option.map_eq_some_iff.1 info32
  simp only [Prod.mk.injEq] at hz
  obtain ⟨hz0, hz1, hz2⟩ := hz
  refine callsIn_of_wp_marks Try.func11 rfl trivial ?_ rfl
  simp only [Try.ntmps11, List.size_toArray, List.length_cons, List.length_nil, Nat.reduceAdd, Nat.reduceSub, Array.replicate_succ, Array.replicate_zero, List.push_toArray, List.append_toArray, List.nil_append, List.cons_append]
  by_cases hlong : 1496 < s.size
  · have g1 : getS s = ([], 0, 5) := if_pos hlong
    rw [g1]
    have q1 : decide ((1496 : Int) < (s.size : Int)) = true := by simp; omega
    have q1' : decide (1496 < s.size) = true := by simp; omega
    gi_wp2
    refine ⟨_, results_cells3 rfl _ _ _ rfl rfl rfl (by go_simp; rfl) (by go_simp; rfl) (by go_simp; rfl), ?_⟩
    exact ⟨_, rfl, ⟨none, 0, rfl, row_nil _ _ _⟩, (((Below.refl _ _).alloc (Nat.le_refl _) _).alloc (by simp) _).alloc (by simp; omega) _⟩
  · have g1 : getS s = fin s.size (steps s (s.size + 1) 0 0) := if_neg hlong
    rw [g1]
    have hs : s.size ≤ 1496 := by omega
    have q1 : decide ((1496 : Int) < (s.size : Int)) = false := by simp; omega
    have q1' : decide (1496 < s.size) = false := by simp; omega
    gi_wp2_with (first
      | refine wpIn_scope_straight ?_
      | refine wpIn_label ?_
      | (refine ⟨trivial, ?_⟩; gi_at_call 23; refine (each_in (n - 1) _ _).mono ?_; rintro e w2 ⟨rfl, rfl⟩))
    obtain ⟨W0, hW0⟩ : ∃ W0, ((((w.alloc (Obj.cells #[Value.slice none 0 0] 22)).alloc (Obj.cells #[Value.int .i64 0] 3)).alloc (Obj.cells #[Value.int .i64 0] 25)).alloc (Obj.cells #[Value.string s] 9)) = W0 := ⟨_, rfl⟩
    rw [hW0]
    have hsz : W0.heap.size = w.heap.size + 4 := by rw [← hW0]; simp
    have b0 : Boxed W0 w.heap.size 22 (.slice none 0 0) := by rw [← hW0]; exact (((Boxed.new w 22 _).alloc _).alloc _).alloc _
    have b1_ : Boxed W0 (w.heap.size + 1) 3 (.int .i64 0) := by
      rw [← hW0]
      have := Boxed.new (w.alloc (Obj.cells #[Value.slice none 0 0] 22)) 3 (.int .i64 0)
      rw [World.size_alloc] at this
      exact (this.alloc _).alloc _
    have b2 : Boxed W0 (w.heap.size + 1 + 1) 25 (.int .i64 0) := by
      rw [← hW0]
      have := Boxed.new ((w.alloc (Obj.cells #[Value.slice none 0 0] 22)).alloc (Obj.cells #[Value.int .i64 0] 3)) 25 (.int .i64 0)
      rw [World.size_alloc, World.size_alloc] at this
      exact this.alloc _
    have b3 : Boxed W0 (w.heap.size + 1 + 1 + 1) 9 (.string s) := by
      rw [← hW0]
      have := Boxed.new (((w.alloc (Obj.cells #[Value.slice none 0 0] 22)).alloc (Obj.cells #[Value.int .i64 0] 3)).alloc (Obj.cells #[Value.int .i64 0] 25)) 9 (.string s)
      rw [World.size_alloc, World.size_alloc, World.size_alloc] at this
      exact this
    have hB0 : Below w.heap.size w W0 := by
      rw [← hW0]
      exact ((((Below.refl _ w).alloc (Nat.le_refl _) _).alloc (by simp) _).alloc (by simp; omega) _).alloc (by simp; omega) _
    clear hW0
    refine rangeFunc_wide h1 (gf := 29) (lb := #[.pointer (some ⟨w.heap.size + 1 + 1 + 1, 0, none⟩)]) rfl (enters_of Try.func29 (by kernel_rfl) rfl)
      (each_stops (n - 1) (by omega) (w.heap.size + 1 + 1 + 1) s (by omega) W0 b3) keepT_t keepT_b (fun _ => rfl)
      (GI w) (GM w (fun b x => { tmps := #[.string s, undef, .pointer (some ⟨w.heap.size, 0, none⟩), .pointer (some ⟨w.heap.size + 1, 0, none⟩), .pointer (some ⟨w.heap.size + 1 + 1, 0, none⟩), .pointer (some ⟨b, 0, none⟩), .string s, .int .i64 (s.size : Int), .bool false, .string s, .func (.func 29) #[] #[.pointer (some ⟨w.heap.size + 1 + 1 + 1, 0, none⟩)], .agg (stepCells x), undef, undef, undef, undef, undef, undef, undef, undef, undef, undef, undef, undef, undef, undef, undef], defers := [] })) (GX w)
      (gi_own w _ (by omega)) (fun a' => gm_own w _ (by omega) _ a') (gx_own w _ (by omega)) ⟨⟨⟨⟨⟨_, b0, World.ownsRow_nil _ _ _ _, trivial⟩, b1_⟩, b2⟩, fun x hx => by simp at hx⟩, hB0⟩ ?assign ?body ?done ?stop
    case assign =>
      intro l pre x W hI hlt
      have hbel := hI.2
      simp only [encS]
      gi_wp2
      exact ⟨KeepsOthers.alloc W _, keepT_alloc W _, (gi_own w _ (Nat.le_refl _)).alloc _ hI, W.heap.size, rfl, heap_alloc_new W _⟩
    case body =>
      rintro l pre x a' W ⟨⟨⟨⟨⟨⟨v, hv, hrow, _⟩, c1⟩, c2⟩, hall⟩, hB⟩, b, rfl, hb⟩ hlt
      have hc := hv.cell
      have hf := hv.frozen
      have hc1 := c1.cell
      have hf1 := c1.frozen
      have hc2 := c2.cell
      have hf2 := c2.frozen
      have k0 : W.cell? ⟨b, 0, none⟩ = some (.int .u8 (tv x.o.t)) := by rw [Lib.cell_of_heap hb]; rfl
      have k1 : W.cell? ⟨b, 1, none⟩ = some (.string x.o.d) := by rw [Lib.cell_of_heap hb]; rfl
      have k2 : W.cell? ⟨b, 2, none⟩ = some (.int .i64 (x.at_ : Int)) := by rw [Lib.cell_of_heap hb]; rfl
      have k3 : W.cell? ⟨b, 3, none⟩ = some (.int .i64 x.e) := by rw [Lib.cell_of_heap hb]; rfl
      have hcl := optCells_length (pre.map (·.o))
      rw [List.length_map] at hcl
      have Hall := Lib.hid hall; clear hall
      have nb0 : b ≠ w.heap.size := fun e => by subst e; rw [show W.heap[_]? = _ from hv] at hb; simp at hb
      have nb1 : b ≠ w.heap.size + 1 := fun e => by subst e; rw [show W.heap[_]? = _ from c1] at hb; simp at hb
      have nb2 : b ≠ w.heap.size + 1 + 1 := fun e => by subst e; rw [show W.heap[_]? = _ from c2] at hb; simp at hb
      by_cases he : x.e = 0
      · have e1 : (x.e != 0) = false := by simpa using he
        have He := Lib.hid he; clear he
        gi_wp2_with (first
          | (gi_at_builtin; refine wpListIn_append_own _ rfl _ _ 22 rfl w.heap.size 32 i0 (.agg #[.int .u8 0, .string ⟨#[]⟩]) 2 24 und22 hi hz0 hz1 hz2 rfl (by decide) _ _ _ rfl (hrow.alloc _) ⟨W.heap.size, 0, none⟩ 1 1 [.int .u8 (tv x.o.t), .string x.o.d] rfl rfl (cell_two _ _ _ _) (by simp [Value.oneCell']) (by unfold maxLen; omega) (by omega) (by have := hB.size; simp; omega) ?_; intro v' w1 hown' hgrow _; obtain ⟨g', cap', rfl⟩ := ownsRow_succ hown'; obtain ⟨hv1, hv2, hr2, hk2, hb2⟩ := hv.appended (by decide) hrow hB.size (Nat.le_refl _) hown' hgrow; have hcv1 := hv1.cell; have hfv1 := hv1.frozen))
        refine ⟨hk2, keepT_app hrow hv hgrow, ⟨⟨⟨⟨_, hv2, ?_, trivial⟩, boxed_app c1 (by decide) hrow hgrow (by omega)⟩, boxed_app c2 (by decide) hrow hgrow (by omega)⟩, ?_⟩, hB.trans hb2⟩
        · rw [List.length_append, List.map_append, List.map_cons, List.map_nil, optCells_snoc]
          exact hr2
        · intro y hy
          rcases List.mem_append.1 hy with hy | hy
          · exact Hall.out y hy
          · rw [List.mem_singleton.1 hy]; exact He.out
      · have e1 : (x.e != 0) = true := by simpa using he
        have He := Lib.hid he; clear he
        gi_wp2
        refine wpIn_region_of_any (by kernel_rfl) (by simp) (by rintro ⟨a, w, h⟩; exact h) ?_
        refine wpAny_of_last (ds := [6]) (S := fun W' => W'.cell? ⟨b, 2, none⟩ = some (.int .i64 (x.at_ : Int)) ∧ W'.cell? ⟨b, 3, none⟩ = some (.int .i64 x.e)) _ _ _ _ ?_
        have hS : W.drew.cell? ⟨b, 2, none⟩ = some (.int .i64 (x.at_ : Int)) ∧ W.drew.cell? ⟨b, 3, none⟩ = some (.int .i64 x.e) := ⟨k2, k3⟩
        refine wpAnyLast_take (i := 0) (v := .pointer (some ⟨b, 2, none⟩)) rfl (by kernel_rfl) (by kernel_rfl) (by kernel_rfl) (by kernel_rfl) (by kernel_rfl) (fun _ _ _ h => h) (.inl ⟨rfl, fun w' hS' => ?_⟩) hS ?_
        · go_simp
        refine wpAnyLast_take (i := 1) (v := .int .i64 (x.at_ : Int)) rfl (by kernel_rfl) (by kernel_rfl) (by kernel_rfl) (by kernel_rfl) (by kernel_rfl) (fun _ _ _ h => h) (.inl ⟨rfl, fun w' hS' => ?_⟩) hS ?_
        · obtain ⟨s1, s2⟩ := hS'; go_simp
        refine wpAnyLast_take (i := 2) (v := .pointer (some ⟨b, 3, none⟩)) rfl (by kernel_rfl) (by kernel_rfl) (by kernel_rfl) (by kernel_rfl) (by kernel_rfl) (fun _ _ _ h => h) (.inl ⟨rfl, fun w' hS' => ?_⟩) hS ?_
        · go_simp
        refine wpAnyLast_take (i := 3) (v := .int .i64 x.e) rfl (by kernel_rfl) (by kernel_rfl) (by kernel_rfl) (by kernel_rfl) (by kernel_rfl) (fun _ _ _ h => h) (.inl ⟨rfl, fun w' hS' => ?_⟩) hS ?_
        · obtain ⟨s1, s2⟩ := hS'; go_simp
        refine wpAnyLast_all (rs := [4]) (by kernel_rfl) (by simp) ?_
        intro i hi'
        obtain rfl := List.mem_singleton.1 hi'
        refine wpOp_step rfl (fun K' hK => ?_)
        go_simp
        refine hK _ _ ⟨fun _ _ => ⟨by rw [World.cell?_drew, World.cell?_setCell_other _ _ _ _ (by simp [nb0])]; exact k2, by rw [World.cell?_drew, World.cell?_setCell_other _ _ _ _ (by simp [nb0])]; exact k3⟩, ?_⟩
        clear hK K'
        refine wpAnyLast_all (rs := [5]) (by kernel_rfl) (by simp) ?_
        intro i hi'
        obtain rfl := List.mem_singleton.1 hi'
        refine wpOp_step rfl (fun K' hK => ?_)
        go_simp
        refine hK _ _ ⟨fun _ _ => ⟨by rw [World.cell?_drew, World.cell?_setCell_other _ _ _ _ (by simp [nb1]), World.cell?_setCell_other _ _ _ _ (by simp [nb0])]; exact k2, by rw [World.cell?_drew, World.cell?_setCell_other _ _ _ _ (by simp [nb1]), World.cell?_setCell_other _ _ _ _ (by simp [nb0])]; exact k3⟩, ?_⟩
        clear hK K'
        refine wpAnyLast_all (rs := [6]) (by kernel_rfl) (by simp) ?_
        intro i hi'
        obtain rfl := List.mem_singleton.1 hi'
        refine wpOp_step rfl (fun K' hK => ?_)
        go_simp
        refine hK _ _ ⟨fun h => by simp at h, ?_⟩
        clear hK K'
        refine wpAnyLast_done (by kernel_rfl) ?_ _
        gi_wp2
        refine ⟨(((KeepsOthers.setCell _ _ _).trans (KeepsOthers.setCell _ _ _)).trans (KeepsOthers.setCell _ _ _)).trans (KeepsOthers.drew _), pre, x, ⟨⟨⟨⟨rfl, rfl, Hall.out, He.out⟩, ?_⟩, ?_⟩, ?_⟩, ?_⟩
        · exact boxed_set_other (boxed_set_other (hv.set _) (by omega)) (by omega)
        · exact boxed_set_other ((boxed_set_other c1 (by omega)).set _) (by omega)
        · exact (boxed_set_other (boxed_set_other c2 (by omega)) (by omega)).set _
        · exact below_drew (((hB.setCell (p := ⟨w.heap.size, 0, none⟩) (Nat.le_refl _) _).setCell (p := ⟨w.heap.size + 1, 0, none⟩) (by simp) _).setCell (p := ⟨w.heap.size + 1 + 1, 0, none⟩) (by simp; omega) _)
    case done =>
      rintro D ys W hD rfl ⟨⟨⟨⟨⟨v, hv, hrow, _⟩, c1⟩, c2⟩, hall⟩, hB⟩ hK
      have hc := hv.cell
      have hf := hv.frozen
      have hc1 := c1.cell
      have hf1 := c1.frozen
      have hc2 := c2.cell
      have hf2 := c2.frozen
      have hbel := hB.trans (belowK_b (w := w) (Nat.le_refl _) W D _ (.deferred none) (by omega) hK rfl rfl)
      have Hg := Lib.hid (fin_all (n := s.size) hall); clear hall
      obtain ⟨ao, cap, rfl⟩ := own_slice hrow
      generalize hys : steps s (s.size + 1) 0 0 = ys at *
      have Hys := Lib.hid hys; clear hys
      gi_wp2
      obtain ⟨W4, hW4⟩ : ∃ W4, (((W.setCell ⟨w.heap.size, 0, none⟩ (.slice ao ys.length cap)).setCell ⟨w.heap.size + 1, 0, none⟩ (.int .i64 (s.size : Int))).setCell ⟨w.heap.size + 1 + 1, 0, none⟩ (.int .i64 0)) = W4 := ⟨_, rfl⟩
      rw [hW4]
      have v0 : Boxed W4 w.heap.size 22 (.slice ao ys.length cap) := by rw [← hW4]; exact boxed_set_other (boxed_set_other (hv.set _) (by omega)) (by omega)
      have v1 : Boxed W4 (w.heap.size + 1) 3 (.int .i64 (s.size : Int)) := by rw [← hW4]; exact boxed_set_other ((boxed_set_other c1 (by omega)).set _) (by omega)
      have v2 : Boxed W4 (w.heap.size + 1 + 1) 25 (.int .i64 0) := by rw [← hW4]; exact (boxed_set_other (boxed_set_other c2 (by omega)) (by omega)).set _
      have hB4 : Below w.heap.size w W4 := by rw [← hW4]; exact (((hB.setCell (p := ⟨w.heap.size, 0, none⟩) (Nat.le_refl _) _).setCell (p := ⟨w.heap.size + 1, 0, none⟩) (by simp) _).setCell (p := ⟨w.heap.size + 1 + 1, 0, none⟩) (by simp; omega) _)
      have hK4 : W4.heap[D]? = some (.deferred (some [])) := by rw [← hW4]; exact (((KeepsOthers.setCell W _ _).trans (KeepsOthers.setCell _ _ _)).trans (KeepsOthers.setCell _ _ _)).same _ _ hK rfl
      have hr4 : W4.ownsRow w.heap.size 32 2 (.slice ao ys.length cap) ys.length (optCells (ys.map (·.o))) := by
        rw [← hW4]
        exact own_setCell (own_setCell (own_setCell hrow (hv.not_row (by decide) hrow) _) (c1.not_row (by decide) hrow) _) (c2.not_row (by decide) hrow) _
      clear hW4
      have hr5 := ownsRow_putObj hr4 (.deferred none) hK4 rfl
      have u0 := ((boxed_ownF (β := Unit) w.heap.size 22 (.slice ao ys.length cap) 0).putObj (s := ()) (.deferred none) v0 (Nat.zero_le _) hK4 rfl).cell
      have u1 := ((boxed_ownF (β := Unit) (w.heap.size + 1) 3 (.int .i64 (s.size : Int)) 0).putObj (s := ()) (.deferred none) v1 (Nat.zero_le _) hK4 rfl).cell
      have u2 := ((boxed_ownF (β := Unit) (w.heap.size + 1 + 1) 25 (.int .i64 0) 0).putObj (s := ()) (.deferred none) v2 (Nat.zero_le _) hK4 rfl).cell
      have hbel := hB4.trans (belowK_b (w := w) (Nat.le_refl _) W4 D _ (.deferred none) (by omega) hK4 rfl rfl)
      refine ⟨by simp, .inl ⟨_, _, rfl, run_takeDeferred hK4, ?_⟩⟩
      refine ⟨_, results_cells3 rfl _ _ _ rfl rfl rfl (by go_simp; rfl) (by go_simp; rfl) (by go_simp; rfl), ?_⟩
      rw [Hys.out, Hg.out]
      exact ⟨_, rfl, row_own_n hr5 (by simp), hbel⟩
    case stop =>
      rintro D c pre W hD hpre ⟨pre', x, ⟨⟨⟨⟨rfl, rfl, hall, hx⟩, hv⟩, c1⟩, c2⟩, hB⟩ hK
      have hbel := hB.trans (belowK_b (w := w) (Nat.le_refl _) W D _ (.deferred none) (by omega) hK rfl rfl)
      have Hg := Lib.hid (fin_bad (n := s.size) hpre hall hx); clear hall
      gi_wp2
      have u0 := ((boxed_ownF (β := Unit) w.heap.size 22 (.slice none 0 0) 0).putObj (s := ()) (.deferred none) hv (Nat.zero_le _) hK rfl).cell
      have u1 := ((boxed_ownF (β := Unit) (w.heap.size + 1) 3 (.int .i64 (x.at_ : Int)) 0).putObj (s := ()) (.deferred none) c1 (Nat.zero_le _) hK rfl).cell
      have u2 := ((boxed_ownF (β := Unit) (w.heap.size + 1 + 1) 25 (.int .i64 x.e) 0).putObj (s := ()) (.deferred none) c2 (Nat.zero_le _) hK rfl).cell
      refine ⟨by simp, .inl ⟨_, _, rfl, run_takeDeferred hK, ?_⟩⟩
      refine ⟨_, results_cells3 rfl _ _ _ rfl rfl rfl (by go_simp; rfl) (by go_simp; rfl) (by go_simp; rfl), ?_⟩
      rw [Hg.out]
      exact ⟨_, rfl, ⟨none, 0, rfl, row_nil _ _ _⟩, hbel⟩
theorem get_calls (s : ByteArray) (w : World) :
    Calls Try.prog 11 #[.string s] w fun e w' => ∃ v, e = .returned (.tuple #[v, .int .i64 (getS s).2.1, .int .i64 (getS s).2.2]) ∧ IsRow w' v (getS s).1 ∧ Below w.heap.size w w' :=
  callsIn_wide.1 (get_in 4 (by omega) s w)
end Go.Proofs.Ytjkhmnipffdliaa
