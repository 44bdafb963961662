/-
  Layer 15 (ipcppol): Judge, walked.
-/
import Derived.Test.YtlcckkdkcbelhaaDoorLk
import Derived.Test.YtlcckkdkcbelhaaDoorPs
set_option linter.unusedVariables false
set_option linter.unusedSimpArgs false
namespace Go.Proofs.YtlcckkdkcbelhaaDoor
open Go.RowKit Go.Proofs.YtlcckkdkcbelhaaDoorW.PrintWords Go.Proofs.YtlcckkdkcbelhaaDoorW.PrintLast

/-- What Judge answers, and leaves. -/
def judge (s : Pol) (l : List Opt) : Int × List Opt × Pol :=
  if (look s.c l).r ≠ [] then (4, (look s.c l).r, { s with naks := 0 }) else if (look s.c l).n ≠ [] ∧ s.naks < s.c.max then (3, (look s.c l).n, { s with naks := s.naks + 1 }) else
  if (look s.c l).c ≠ [] then (4, (look s.c l).c, { s with naks := 0 }) else (2, l, { s with peer := (getI l).1, naks := 0 })
theorem OwnL.row {w : World} {B : Nat} {v : Value} {l : List Opt} (h : OwnL w B v l) : IsRow w v l := row_own h
theorem OwnL.lower {W : World} {B B' : Nat} {v : Value} {l : List Opt} (h : OwnL W B v l) (hb : B' ≤ B) : OwnL W B' v l := by
  refine ⟨h.1, ?_⟩
  rcases h.2 with hn | ⟨g, cap, cur, rfl, hg, rest⟩
  · exact .inl hn
  · exact .inr ⟨g, cap, cur, rfl, Nat.le_trans hb hg, rest⟩
theorem OwnL.set {W : World} {B : Nat} {v : Value} {l : List Opt} (h : OwnL W B v l) (g i : Nat) (hg : g < B) (u : Value) : OwnL (W.setCell ⟨g, i, none⟩ u) B v l :=
  own_setCell h (fun e => by have := (h.lt g e.symm).1; omega) u
theorem len_pos {l : List Opt} (h : l ≠ []) : decide ((0 : Int) < (l.length : Int)) = true ∧ decide (0 < l.length) = true := by
  cases l with
  | nil => exact absurd rfl h
  | cons a l => simp
theorem len_zero {l : List Opt} (h : ¬ l ≠ []) : decide ((0 : Int) < (l.length : Int)) = false ∧ decide (0 < l.length) = false := by
  have : l = [] := Classical.not_not.1 h
  subst this; exact ⟨rfl, rfl⟩
def notU8 : Value → Bool
  | .int .u8 _ => false
  | .map _ => false
  | _ => true
theorem pol_notU8 (s : Pol) : s.cells.all notU8 = true := by simp [Pol.cells, notU8]
theorem pol_cell {w : World} {b : Nat} {s : Pol} (h : IsPol w b s) {x : Addr} {v : Value} (hx : w.cell? x = some v) (hv : notU8 v = false) : x.block ≠ b := fun e => by
  have hs := World.cell?_spot hx
  obtain ⟨xb, xo, xs⟩ := x
  simp only at e hs
  subst e hs
  rw [blk_cell h] at hx
  have := Array.all_eq_true_iff_forall_mem.1 (pol_notU8 s) v (Array.mem_of_getElem? hx)
  rw [hv] at this
  cases this
theorem But.cell {b : Nat} {w W : World} (h : But b w W) {x : Addr} {v : Value} (hx : w.cell? x = some v) (hne : x.block ≠ b) : W.cell? x = some v := by
  rw [← hx]
  exact World.cell?_of_block (h.block _ (cell_lt hx) hne)
theorem Row.but {w W : World} {b : Nat} {s : Pol} {a : Option Addr} {c : Nat} {l : List Opt} (h : Row w a c l) (hb : But b w W) (hp : IsPol w b s) : Row W a c l := by
  refine ⟨h.1, ?_⟩
  rcases h.2 with h0 | ⟨x, e, hc⟩
  · exact .inl h0
  · refine .inr ⟨x, e, fun j u hj => ?_⟩
    cases l with
    | nil => simp [optCells] at hj
    | cons o l =>
      have h1 := hc 0 _ rfl
      have hne : x.block ≠ b := by
        rw [show x.add 0 = x from if_pos rfl] at h1
        exact pol_cell hp h1 rfl
      refine hb.cell (hc j u hj) ?_
      unfold Addr.add
      split <;> exact hne
theorem look_map {W : World} {bm : Nat} {cs : Array Value} {t : TypeId} {fr : Nat × Nat} {r : Value} (h : W.heap[bm]? = some (.cells cs t fr)) : (Instr.lookup 91 (.map (some bm)) (.int .u8 3) true).run Tryd.prog W ≠ .ok r W := by
  intro e
  obtain ⟨x, hg⟩ : ∃ x, (getObj bm).run Tryd.prog W = .halt x W := ⟨_, by simp [getObj, Sem.run, h]; rfl⟩
  simp [Instr.lookup, run_underlying und91, hg, Result.andThen] at e
theorem K.but {w W : World} {b : Nat} {s : Pol} (h : K w) (hb : But b w W) (hp : IsPol w b s) : K W := by
  have n0 : (1 : Nat) ≠ b := pol_cell hp h.c0 rfl
  have g : ∀ {i : Nat} {v : Value}, w.cell? ⟨1, i, none⟩ = some v → W.cell? ⟨1, i, none⟩ = some v := fun hx => hb.cell hx n0
  obtain ⟨bm, o, m0, m1, m2⟩ := h.map
  have n1 : (0 : Nat) ≠ b := pol_cell hp m0 rfl
  have n2 : bm ≠ b := fun e => by
    subst e
    have hp' : w.heap[bm]? = some (.cells s.cells 66 (0, 0)) := hp
    have := m2 w m1 3 ⟨by decide, by decide⟩
    exact look_map hp' this
  exact ⟨g h.c0, g h.c1, g h.c2, g h.c3, g h.c4, g h.c5, bm, o, hb.cell m0 n1, (hb.block bm ((Array.getElem?_eq_some_iff.1 m1).1) n2).trans m1, m2⟩
theorem isPol_naks {w : World} {b : Nat} {s : Pol} (h : IsPol w b s) (z : Int) : IsPol (w.setCell ⟨b, 24, none⟩ (.int .i64 z)) b { s with naks := z } := blk_set h 24 _
theorem isPol_peer {w : World} {b : Nat} {s : Pol} (h : IsPol w b s) (x : Icp) : IsPol ((((((w.setCell ⟨b, 18, none⟩ (.bool x.ha)).setCell ⟨b, 19, none⟩ (.int .u32 (nv x.a))).setCell ⟨b, 20, none⟩ (.bool x.h1)).setCell ⟨b, 21, none⟩ (.int .u32 (nv x.d1))).setCell ⟨b, 22, none⟩ (.bool x.h2)).setCell ⟨b, 23, none⟩ (.int .u32 (nv x.d2))) b { s with peer := x } :=
  blk_set (blk_set (blk_set (blk_set (blk_set (blk_set h 18 _) 19 _) 20 _) 21 _) 22 _) 23 _
set_option maxHeartbeats 16000000 in
set_option maxRecDepth 100000 in
theorem judge_calls (s : Pol) (pb : Nat) (l : List Opt) (a : Option Addr) (c : Nat) (w : World) (h : Row w a c l) (hs : l.length < 1000000) (hK : K w) (hp : IsPol w pb s) (hn : 0 ≤ s.naks ∧ s.naks ≤ 1000) :
    Calls Tryd.prog 10 #[.pointer (some ⟨pb, 0, none⟩), .slice a l.length c] w fun e w' => ∃ v, e = .returned (.tuple #[.int .u8 (judge s l).1, v]) ∧ IsRow w' v (judge s l).2.1 ∧ But pb w w' ∧ IsPol w' pb (judge s l).2.2 := by
  have hlk := fun W (h1 : Row W a c l) h2 h3 => look_calls s pb l a c W h1 hs h2 h3
  have hjd : Hid (judge s l = if (look s.c l).r ≠ [] then (4, (look s.c l).r, { s with naks := 0 }) else if (look s.c l).n ≠ [] ∧ s.naks < s.c.max then (3, (look s.c l).n, { s with naks := s.naks + 1 }) else
    if (look s.c l).c ≠ [] then (4, (look s.c l).c, { s with naks := 0 }) else (2, l, { s with peer := (getI l).1, naks := 0 })) := Lib.hid rfl
  generalize look s.c l = V at *
  have hpl := hp.lt
  go_enter Tryd.func10, Tryd.ntmps10
  go_upto_region 3 with fail
  go_cut [6, 7] from 10 to 16 (fun s6 s7 wx => s7 = .int .i64 s.naks ∧ ∃ (vb : Nat) (ra na ka : Option Addr) (rc nc kc : Nat), s6 = .pointer (some ⟨vb, 0, none⟩) ∧ wx.heap[vb]? = some (.cells #[.slice ra V.r.length rc, .slice na V.n.length nc, .slice ka V.c.length kc] 68 (0, 0)) ∧
    OwnL wx w.heap.size (.slice ra V.r.length rc) V.r ∧ OwnL wx w.heap.size (.slice na V.n.length nc) V.n ∧ OwnL wx w.heap.size (.slice ka V.c.length kc) V.c ∧ w.heap.size ≤ vb ∧ Below w.heap.size w wx)
  case first =>
    refine start_ (n := 10) (S := fun W' => Below w.heap.size w W') (ds := []) (#[false, false, false, false, false, false, false, false, false, false]) (by kernel_rfl) rfl rfl (below_drew (Below.refl _ _)) (fun hS => ?_)
    generalize w.drew = wa at *
    refine take_ (i := 0) (N := some 10) (v := ?_) (a' := ?_) #[true, false, false, false, false, false, false, false, false, false] rfl rfl (by kernel_rfl) (fun _ _ _ h => h) (.inl ⟨by rfl, fun w' hS' => ?_⟩) hS ?_ ?_
    rotate_left
    · have t1 := fun i => blk_cell (hp.below hS') i
      simp only [Pol.cells] at t1
      go_simp
      with_reducible rfl
    rotate_left
    · simp only [Act.put, List.setIfInBounds_toArray, List.set_cons_zero, List.set_cons_succ]
      rfl
    refine take_ (i := 1) (N := some 11) (v := ?_) (a' := ?_) #[true, true, false, false, false, false, false, false, false, false] rfl rfl (by kernel_rfl) (fun _ _ _ h => h) (.inl ⟨by rfl, fun w' hS' => ?_⟩) hS ?_ ?_
    rotate_left
    · have t1 := fun i => blk_cell (hp.below hS') i
      simp only [Pol.cells] at t1
      go_simp
      with_reducible rfl
    rotate_left
    · simp only [Act.put, List.setIfInBounds_toArray, List.set_cons_zero, List.set_cons_succ]
      rfl
    refine take_ (i := 3) (N := some 13) (v := ?_) (a' := ?_) #[true, true, false, true, false, false, false, false, false, false] rfl rfl (by kernel_rfl) (fun _ _ _ h => h) (.inl ⟨by rfl, fun w' hS' => ?_⟩) hS ?_ ?_
    rotate_left
    · have t1 := fun i => blk_cell (hp.below hS') i
      simp only [Pol.cells] at t1
      go_simp
      with_reducible rfl
    rotate_left
    · simp only [Act.put, List.setIfInBounds_toArray, List.set_cons_zero, List.set_cons_succ]
      rfl
    refine take_ (i := 4) (N := some 14) (v := ?_) (a' := ?_) #[true, true, false, true, true, false, false, false, false, false] rfl rfl (by kernel_rfl) (fun _ _ _ h => h) (.inl ⟨by rfl, fun w' hS' => ?_⟩) hS ?_ ?_
    rotate_left
    · have t1 := fun i => blk_cell (hp.below hS') i
      simp only [Pol.cells] at t1
      go_simp
      with_reducible rfl
    rotate_left
    · simp only [Act.put, List.setIfInBounds_toArray, List.set_cons_zero, List.set_cons_succ]
      rfl
    refine take_ (i := 5) (N := some 15) (v := ?_) (a' := ?_) #[true, true, false, true, true, true, false, false, false, false] rfl rfl (by kernel_rfl) (fun _ _ _ h => h) (.inl ⟨by rfl, fun w' hS' => ?_⟩) hS ?_ ?_
    rotate_left
    · have t1 := fun i => blk_cell (hp.below hS') i
      simp only [Pol.cells] at t1
      go_simp
      with_reducible rfl
    rotate_left
    · simp only [Act.put, List.setIfInBounds_toArray, List.set_cons_zero, List.set_cons_succ]
      rfl
    refine take_ (i := 6) (N := some 16) (v := ?_) (a' := ?_) #[true, true, false, true, true, true, true, false, false, false] rfl rfl (by kernel_rfl) (fun _ _ _ h => h) (.inl ⟨by rfl, fun w' hS' => ?_⟩) hS ?_ ?_
    rotate_left
    · have t1 := fun i => blk_cell (hp.below hS') i
      simp only [Pol.cells] at t1
      go_simp
      with_reducible rfl
    rotate_left
    · simp only [Act.put, List.setIfInBounds_toArray, List.set_cons_zero, List.set_cons_succ]
      rfl
    refine wpAnyLast_all (rs := [2, 7]) (by kernel_rfl) (by simp) ?_
    intro i hi'
    rcases List.mem_cons.1 hi' with rfl | hi'
    · refine wpOp_step rfl (fun K' hK' => ?_)
      go_simp
      go_at_call 29
      with_reducible refine (hlk _ (h.below hS) (hK.below hS) (hp.below hS)).mono ?_
      rintro e w3 ⟨r, n, k, rfl, h3, hb⟩
      have hT := hS.trans (hb.mono hS.size)
      have hlow := hS.size
      have hS3 := hT
      obtain ⟨ra, rc, rfl⟩ := own_form h3.own1
      obtain ⟨na, nc, rfl⟩ := own_form h3.own2
      obtain ⟨ka, kc, rfl⟩ := own_form h3.own3
      refine hK' _ _ ⟨fun _ _ => hT, ?_⟩
      clear hK' K' hS
      simp only [Act.put, List.setIfInBounds_toArray, List.set_cons_zero, List.set_cons_succ]
      have hS := hT
      clear hT
      refine wpAnyLast_all (rs := [7]) (by kernel_rfl) (by simp) ?_
      intro i hi'
      obtain rfl := List.mem_singleton.1 hi'
      refine wpOp_step rfl (fun K' hK' => ?_)
      go_simp
      have hT := hS.alloc hS.size (.cells #[.slice none 0 0, .slice none 0 0, .slice none 0 0] 68)
      refine hK' _ _ ⟨fun _ _ => hT, ?_⟩
      clear hK' K' hS
      simp only [Act.put, List.setIfInBounds_toArray, List.set_cons_zero, List.set_cons_succ]
      have hS := hT
      clear hT
      refine wpAnyLast_all (rs := [8]) (by kernel_rfl) (by simp) ?_
      intro i hi'
      obtain rfl := List.mem_singleton.1 hi'
      refine wpOp_step rfl (fun K' hK' => ?_)
      go_simp
      have hT := hS3.alloc hS3.size (.cells #[.slice ra V.r.length rc, .slice na V.n.length nc, .slice ka V.c.length kc] 68)
      refine hK' _ _ ⟨fun _ _ => hT, ?_⟩
      clear hK' K' hS
      simp only [Act.put, List.setIfInBounds_toArray, List.set_cons_zero, List.set_cons_succ]
      have hS := hT
      clear hT
      refine wpAnyLast_all (rs := [9]) (by kernel_rfl) (by simp) ?_
      intro i hi'
      obtain rfl := List.mem_singleton.1 hi'
      refine wpOp_step rfl (fun K' hK' => ?_)
      go_simp
      refine hK' _ _ ⟨fun _ h => h, ?_⟩
      clear hK' K'
      simp only [Act.put, List.setIfInBounds_toArray, List.set_cons_zero, List.set_cons_succ]
      refine wpAnyLast_done (by kernel_rfl) ?_ _
      go_wp2
      go_meet
      have hb2 := (Below.refl w3.heap.size w3).alloc (Nat.le_refl _) (.cells #[.slice ra V.r.length rc, .slice na V.n.length nc, .slice ka V.c.length kc] 68)
      exact ⟨rfl, _, _, _, _, _, _, _, rfl, alloc_new _ _ _ rfl, (h3.own1.below hb2).lower hlow, (h3.own2.below hb2).lower hlow, (h3.own3.below hb2).lower hlow, hS3.size, hS⟩
    · obtain rfl := List.mem_singleton.1 hi'
      refine wpOp_step rfl (fun K' hK' => ?_)
      go_simp
      have hT := hS.alloc hS.size (.cells #[.slice none 0 0, .slice none 0 0, .slice none 0 0] 68)
      have nv1 : (wa.alloc (.cells #[.slice none 0 0, .slice none 0 0, .slice none 0 0] 68)).heap[wa.heap.size]? = some (.cells #[.slice none 0 0, .slice none 0 0, .slice none 0 0] 68 (0, 0)) := alloc_new _ _ _ rfl
      have nlt : wa.heap.size < (wa.alloc (.cells #[.slice none 0 0, .slice none 0 0, .slice none 0 0] 68)).heap.size := by simp
      have hvb := hS.size
      refine hK' _ _ ⟨fun _ _ => hT, ?_⟩
      clear hK' K' hS
      simp only [Act.put, List.setIfInBounds_toArray, List.set_cons_zero, List.set_cons_succ]
      have hS := hT
      clear hT
      generalize wa.alloc (.cells #[.slice none 0 0, .slice none 0 0, .slice none 0 0] 68) = wb at *
      generalize wa.heap.size = vb at *
      refine wpAnyLast_all (rs := [2]) (by kernel_rfl) (by simp) ?_
      intro i hi'
      obtain rfl := List.mem_singleton.1 hi'
      refine wpOp_step rfl (fun K' hK' => ?_)
      go_simp
      go_at_call 29
      with_reducible refine (hlk _ (h.below hS) (hK.below hS) (hp.below hS)).mono ?_
      rintro e w3 ⟨r, n, k, rfl, h3, hb⟩
      have hT := hS.trans (hb.mono hS.size)
      have hlow := hS.size
      have n3 := (hb.block _ nlt).trans nv1
      obtain ⟨ra, rc, rfl⟩ := own_form h3.own1
      obtain ⟨na, nc, rfl⟩ := own_form h3.own2
      obtain ⟨ka, kc, rfl⟩ := own_form h3.own3
      refine hK' _ _ ⟨fun _ _ => hT, ?_⟩
      clear hK' K' hS
      simp only [Act.put, List.setIfInBounds_toArray, List.set_cons_zero, List.set_cons_succ]
      have hS := hT
      clear hT
      refine wpAnyLast_all (rs := [8]) (by kernel_rfl) (by simp) ?_
      intro i hi'
      obtain rfl := List.mem_singleton.1 hi'
      refine wpOp_step rfl (fun K' hK' => ?_)
      have v1 := fun i => blk_cell n3 i
      have v2 := fun i => blk_frozen n3 i
      have v3 := fun u i => blk_cell (blk_set n3 0 u) i
      have v4 := fun u i => blk_frozen (blk_set n3 0 u) i
      have v5 := fun u u' i => blk_cell (blk_set (blk_set n3 0 u) 1 u') i
      have v6 := fun u u' i => blk_frozen (blk_set (blk_set n3 0 u) 1 u') i
      go_simp
      have hT := ((hS.setCell (p := ⟨vb, 0, none⟩) hvb (.slice ra V.r.length rc)).setCell (p := ⟨vb, 1, none⟩) hvb (.slice na V.n.length nc)).setCell (p := ⟨vb, 2, none⟩) hvb (.slice ka V.c.length kc)
      refine hK' _ _ ⟨fun _ _ => hT, ?_⟩
      clear hK' K' hS
      simp only [Act.put, List.setIfInBounds_toArray, List.set_cons_zero, List.set_cons_succ]
      have hS := hT
      clear hT
      refine wpAnyLast_all (rs := [9]) (by kernel_rfl) (by simp) ?_
      intro i hi'
      obtain rfl := List.mem_singleton.1 hi'
      refine wpOp_step rfl (fun K' hK' => ?_)
      go_simp
      refine hK' _ _ ⟨fun _ h => h, ?_⟩
      clear hK' K'
      simp only [Act.put, List.setIfInBounds_toArray, List.set_cons_zero, List.set_cons_succ]
      refine wpAnyLast_done (by kernel_rfl) ?_ _
      go_wp2
      go_meet
      exact ⟨rfl, vb, _, _, _, _, _, _, rfl, blk_set (blk_set (blk_set n3 0 _) 1 _) 2 _, (((h3.own1.set vb 0 nlt _).set vb 1 nlt _).set vb 2 nlt _).lower hlow, (((h3.own2.set vb 0 nlt _).set vb 1 nlt _).set vb 2 nlt _).lower hlow, (((h3.own3.set vb 0 nlt _).set vb 1 nlt _).set vb 2 nlt _).lower hlow, hvb, hS⟩
  case rest =>
    obtain ⟨rfl, vb, ra, na, ka, rc, nc, kc, rfl, hv, q1, q2, q3, hvb, hB⟩ := hcut
    have hpx := hp.below hB
    have hne : vb ≠ pb := by omega
    have t1 := fun i => blk_cell hpx i
    have t2 := fun i => blk_frozen hpx i
    simp only [Pol.cells] at t1
    go_upto_block 0 with fail
    have hp0 := isPol_naks hpx 0
    have hB0 : But pb w (wc.setCell ⟨pb, 24, none⟩ (.int .i64 0)) := (But.of_below hB).set 24 _
    have hv0 := (Below.heap_setCell wc ⟨pb, 24, none⟩ (.int .i64 0) vb hne).trans hv
    have o1 := (q1.set pb 24 hpl (.int .i64 0))
    have o2 := (q2.set pb 24 hpl (.int .i64 0))
    have o3 := (q3.set pb 24 hpl (.int .i64 0))
    clear t1 t2 q1 q2 q3 hv
    have hKy := hK.but hB0 hp
    have hly := h.but hB0 hp
    clear hpx hB
    generalize wc.setCell ⟨pb, 24, none⟩ (.int .i64 0) = wy at *
    have t1 := fun i => blk_cell hp0 i
    have t2 := fun i => blk_frozen hp0 i
    simp only [Pol.cells] at t1
    have v1 := fun i => blk_cell hv0 i
    by_cases c1 : V.r ≠ []
    · obtain ⟨d1, d2⟩ := len_pos c1
      have hj := Lib.hid (hjd.out.trans (if_pos c1))
      obtain ⟨_, _, e1, r1⟩ := row_own o1
      cases e1
      clear c1
      go_wp2
      go_quiet (fail)
      go_wp2
      go_ret2
      rw [hj.out]
      exact ⟨_, rfl, ⟨_, _, rfl, r1.below (below_drewN (Below.refl _ _) _)⟩, hB0.trans (But.of_below (below_drewN (Below.refl _ _) _)), hp0⟩
    · obtain ⟨d1, d2⟩ := len_zero c1
      by_cases c2 : V.n ≠ [] ∧ s.naks < s.c.max
      · obtain ⟨d3, d4⟩ := len_pos c2.1
        have d5 : decide (s.naks < s.c.max) = true := decide_eq_true c2.2
        have hj := Lib.hid (hjd.out.trans (by rw [if_neg c1, if_pos c2]))
        obtain ⟨_, _, e1, r1⟩ := row_own o2
        cases e1
        clear c1 c2
        obtain ⟨n1, n2⟩ := hn
        have hv1 : (wy.setCell ⟨pb, 24, none⟩ (.int .i64 (s.naks + 1))).heap[vb]? = _ := (Below.heap_setCell wy ⟨pb, 24, none⟩ (.int .i64 (s.naks + 1)) vb hne).trans hv0
        have x1 := fun i => blk_cell hv1 i
        have hB1 := hB0.set 24 (.int .i64 (s.naks + 1))
        have hp1 := isPol_naks hp0 (s.naks + 1)
        have r2 : Row (wy.setCell ⟨pb, 24, none⟩ (.int .i64 (s.naks + 1))) _ _ V.n := r1.but ((But.refl pb wy).set 24 _) hp0
        go_wp2
        go_quiet (fail)
        go_wp2
        go_ret2
        rw [hj.out]
        exact ⟨_, rfl, ⟨_, _, rfl, r2.below (below_drewN (Below.refl _ _) _)⟩, hB1.trans (But.of_below (below_drewN (Below.refl _ _) _)), hp1⟩
      · by_cases c3 : V.c ≠ []
        · obtain ⟨d6, d7⟩ := len_pos c3
          have hj := Lib.hid (hjd.out.trans (by rw [if_neg c1, if_neg c2, if_pos c3]))
          obtain ⟨_, _, e1, r1⟩ := row_own o3
          cases e1
          by_cases c4 : V.n ≠ []
          · obtain ⟨d3, d4⟩ := len_pos c4
            have d5 : decide (s.naks < s.c.max) = false := decide_eq_false (fun e => c2 ⟨c4, e⟩)
            clear c1 c2 c3 c4
            go_wp2
            go_quiet (fail)
            go_wp2
            go_ret2
            rw [hj.out]
            exact ⟨_, rfl, ⟨_, _, rfl, r1.below (below_drewN (Below.refl _ _) _)⟩, hB0.trans (But.of_below (below_drewN (Below.refl _ _) _)), hp0⟩
          · obtain ⟨d3, d4⟩ := len_zero c4
            clear c1 c2 c3 c4
            go_wp2
            go_quiet (fail)
            go_wp2
            go_ret2
            rw [hj.out]
            exact ⟨_, rfl, ⟨_, _, rfl, r1.below (below_drewN (Below.refl _ _) _)⟩, hB0.trans (But.of_below (below_drewN (Below.refl _ _) _)), hp0⟩
        · obtain ⟨d6, d7⟩ := len_zero c3
          have hj := Lib.hid (hjd.out.trans (by rw [if_neg c1, if_neg c2, if_neg c3]))
          have hge := fun W hr hk => geti_calls l a c W hr hs hk
          obtain ⟨x, hxx⟩ : ∃ x, (getI l).1 = x := ⟨_, rfl⟩
          obtain ⟨b1, z1, b2, z2, b3, z3⟩ := x
          generalize (getI l).2.2 = ge at *
          have hge2 : ∀ W, Row W a c l → K W → Calls Tryd.prog 11 #[.slice a l.length c] W fun e w' => ∃ v, e = .returned (.tuple #[.agg #[.bool b1, .int .u32 (nv z1), .bool b2, .int .u32 (nv z2), .bool b3, .int .u32 (nv z3)], v, .int .i64 ge]) ∧ IsRow w' v (getI l).2.1 ∧ Below W.heap.size W w' := fun W hr hk => by
            have := hge W hr hk
            rw [hxx] at this
            exact this
          clear hge
          by_cases c4 : V.n ≠ []
          · obtain ⟨d3, d4⟩ := len_pos c4
            have d5 : decide (s.naks < s.c.max) = false := decide_eq_false (fun e => c2 ⟨c4, e⟩)
            clear c1 c2 c3 c4
            go_wp2_with (first
              | (go_at_call 11; with_reducible refine (hge2 _ hly hKy).mono ?_; rintro e w5 ⟨v5, rfl, _, hb5⟩
                 have hp5 := hp0.below hb5
                 have hl5 := hly.below hb5
                 have hB5 := hB0.trans (But.of_below hb5)
                 have t5 := fun i => blk_cell hp5 i
                 have t6 := fun i => blk_frozen hp5 i
                 simp only [Pol.cells] at t5
                 have hp6 := isPol_peer hp5 ⟨b1, z1, b2, z2, b3, z3⟩
                 have hB6 := (((((hB5.set 18 (.bool b1)).set 19 (.int .u32 (nv z1))).set 20 (.bool b2)).set 21 (.int .u32 (nv z2))).set 22 (.bool b3)).set 23 (.int .u32 (nv z3))
                 have hl6 := hl5.but ((((((But.refl pb w5).set 18 (.bool b1)).set 19 (.int .u32 (nv z1))).set 20 (.bool b2)).set 21 (.int .u32 (nv z2))).set 22 (.bool b3) |>.set 23 (.int .u32 (nv z3))) hp5)
              | (go_at_call 30; with_reducible refine (clone_calls l a c _ hl6 hs).mono ?_; rintro e w7 ⟨v7, rfl, r7, hb7⟩))
            go_ret2
            rw [hj.out, hxx]
            exact ⟨_, rfl, r7, hB6.trans (But.of_below hb7), hp6.below hb7⟩
          · obtain ⟨d3, d4⟩ := len_zero c4
            clear c1 c2 c3 c4
            go_wp2_with (first
              | (go_at_call 11; with_reducible refine (hge2 _ hly hKy).mono ?_; rintro e w5 ⟨v5, rfl, _, hb5⟩
                 have hp5 := hp0.below hb5
                 have hl5 := hly.below hb5
                 have hB5 := hB0.trans (But.of_below hb5)
                 have t5 := fun i => blk_cell hp5 i
                 have t6 := fun i => blk_frozen hp5 i
                 simp only [Pol.cells] at t5
                 have hp6 := isPol_peer hp5 ⟨b1, z1, b2, z2, b3, z3⟩
                 have hB6 := (((((hB5.set 18 (.bool b1)).set 19 (.int .u32 (nv z1))).set 20 (.bool b2)).set 21 (.int .u32 (nv z2))).set 22 (.bool b3)).set 23 (.int .u32 (nv z3))
                 have hl6 := hl5.but ((((((But.refl pb w5).set 18 (.bool b1)).set 19 (.int .u32 (nv z1))).set 20 (.bool b2)).set 21 (.int .u32 (nv z2))).set 22 (.bool b3) |>.set 23 (.int .u32 (nv z3))) hp5)
              | (go_at_call 30; with_reducible refine (clone_calls l a c _ hl6 hs).mono ?_; rintro e w7 ⟨v7, rfl, r7, hb7⟩))
            go_ret2
            rw [hj.out, hxx]
            exact ⟨_, rfl, r7, hB6.trans (But.of_below hb7), hp6.below hb7⟩
end Go.Proofs.YtlcckkdkcbelhaaDoor
