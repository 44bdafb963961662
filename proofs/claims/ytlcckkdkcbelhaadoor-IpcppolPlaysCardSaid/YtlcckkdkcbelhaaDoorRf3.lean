/-
  Layer 15 (ipcppol), the document's policy: its Judge, walked.
-/
import Derived.Test.YtlcckkdkcbelhaaDoorRf2
import Derived.Test.YtlcckkdkcbelhaaDoorLng
set_option linter.unusedVariables false
set_option linter.unusedSimpArgs false
namespace Go.Proofs.YtlcckkdkcbelhaaDoor

theorem givT_kof (c : Conf) (o : Opt) : givT c o.t = c.given (kof o) := by
  unfold givT kof Conf.given
  by_cases h3 : o.t = 3
  · rw [if_pos h3, if_pos h3, if_pos rfl]
  · rw [if_neg h3, if_neg h3]
    by_cases h129 : o.t = 129
    · rw [if_pos h129, if_pos h129]; rfl
    · rw [if_neg h129, if_neg h129]; rfl
theorem oct_iff {o : Opt} (hg : goodO o = true) (u : UInt32) : o.d = oct u ↔ ad4 o.d = u := by
  constructor
  · intro e; rw [e, ad4_oct]
  · intro e; rw [← e, oct_ad4 _ (good_kof hg).2.2]
theorem kof_zero {o : Opt} (hg : goodO o = true) : kof o = 0 ↔ o.t = 3 := by
  constructor
  · intro e; have := (good_kof hg).2.1; rw [e] at this; exact this
  · intro e; unfold kof; rw [if_pos e]
theorem verd_one (c : Conf) (pre : List Opt) (o : Opt) : verd c pre o = if twice pre o = true then 1 else if (oneO c o).1 = 2 then 1 else if (oneO c o).1 = 1 then 2 else 0 := by
  unfold verd
  by_cases ht : twice pre o = true
  · rw [if_pos (.inl ht), if_pos ht]
  rw [if_neg ht]
  unfold oneO
  by_cases hg : goodO o = false
  · rw [if_pos (.inr hg), if_pos hg]; rfl
  rw [if_neg (fun h => h.elim ht hg), if_neg hg, givT_kof]
  have hg' : goodO o = true := by simpa using hg
  by_cases h0 : c.given (kof o) = 0
  · rw [if_pos h0, if_pos h0]
    have e : (kof o ≠ 0 ∨ ad4 o.d = 0) ↔ (o.t ≠ 3 ∨ o.d = oct 0) := by rw [oct_iff hg', Ne, Ne, kof_zero hg']
    by_cases h1 : o.t ≠ 3 ∨ o.d = oct 0
    · rw [if_pos (e.2 h1), if_pos h1]; rfl
    · rw [if_neg (fun h => h1 (e.1 h)), if_neg h1]; rfl
  · rw [if_neg h0, if_neg h0]
    by_cases h1 : ad4 o.d = c.given (kof o)
    · rw [if_pos h1, if_pos ((oct_iff hg' _).2 h1)]; rfl
    · rw [if_neg h1, if_neg (fun h => h1 ((oct_iff hg' _).1 h))]; rfl
theorem one_cases (c : Conf) (o : Opt) : ((oneO c o).1 = 0) ∨ ((oneO c o).1 = 1 ∧ (oneO c o).2 = ⟨o.t, oct (c.given (kof o))⟩) ∨ ((oneO c o).1 = 2) := by
  unfold oneO
  split
  · exact .inr (.inr rfl)
  split
  · split
    · exact .inr (.inr rfl)
    · exact .inl rfl
  split
  · exact .inl rfl
  · exact .inr (.inl ⟨rfl, by rw [givT_kof]⟩)
/-- The naks at last. -/
def naksAt (c : Conf) (l n : List Opt) : List Opt := n ++ (if (l.filter (hasT 3)).isEmpty = true ∧ c.peer ≠ 0 then [⟨3, oct c.peer⟩] else [])
theorem lacks_filter (c : Conf) (l : List Opt) : lacks c l = true ↔ ((l.filter (hasT 3)).isEmpty = true ∧ c.peer ≠ 0) := by
  unfold lacks
  rw [Bool.and_eq_true, decide_eq_true_eq, List.all_eq_true, List.isEmpty_iff, List.filter_eq_nil_iff, and_comm]
  refine and_congr_left fun _ => forall_congr' fun o => imp_congr_right fun _ => ?_
  unfold hasT
  simp
/-- Judge, by the loop's three rows. -/
theorem judge_rows (s : Pol) (l : List Opt) (V : V3) (hV : runL s.c l [] ⟨[], [], []⟩ = V) : judge s l = if V.r ≠ [] then (4, V.r, { s with naks := 0 }) else if naksAt s.c l V.n ≠ [] ∧ s.naks < s.c.max then (3, naksAt s.c l V.n, { s with naks := s.naks + 1 }) else
    if V.c ≠ [] then (4, V.c, { s with naks := 0 }) else (2, l, { s with peer := (getI l).1, naks := 0 }) := by
  have hl : look s.c l = ⟨V.r, naksAt s.c l V.n, V.c⟩ := by
    unfold look naksAt
    rw [hV]
    by_cases h : lacks s.c l = true
    · rw [if_pos h, if_pos ((lacks_filter s.c l).1 h)]
    · rw [if_neg h, if_neg (fun e => h ((lacks_filter s.c l).2 e)), List.append_nil]
  unfold judge
  rw [hl]
end Go.Proofs.YtlcckkdkcbelhaaDoor
namespace Go.Proofs.YtlcckkdkcbelhaaDoor
open Go.RowKit Go.Proofs.YtlcckkdkcbelhaaDoorW.PrintWords Go.Proofs.YtlcckkdkcbelhaaDoorW.PrintLast

theorem isRef_peer {w : World} {b : Nat} {s : Pol} (h : IsRef w b s) (x : Icp) : IsRef ((((((w.setCell ⟨b, 18, none⟩ (.bool x.ha)).setCell ⟨b, 19, none⟩ (.int .u32 (nv x.a))).setCell ⟨b, 20, none⟩ (.bool x.h1)).setCell ⟨b, 21, none⟩ (.int .u32 (nv x.d1))).setCell ⟨b, 22, none⟩ (.bool x.h2)).setCell ⟨b, 23, none⟩ (.int .u32 (nv x.d2))) b { s with peer := x } :=
  blk_set (blk_set (blk_set (blk_set (blk_set (blk_set h 18 _) 19 _) 20 _) 21 _) 22 _) 23 _
theorem isRef_naks {w : World} {b : Nat} {s : Pol} (h : IsRef w b s) (z : Int) : IsRef (w.setCell ⟨b, 24, none⟩ (.int .i64 z)) b { s with naks := z } := blk_set h 24 _
set_option maxHeartbeats 32000000 in
set_option maxRecDepth 100000 in
theorem rjudge_calls (s : Pol) (pb : Nat) (l : List Opt) (a : Option Addr) (c : Nat) (w : World) (h : Row w a c l) (hnl : a = none → c = 0 ∧ l = []) (hs : l.length < 1000) (hp : IsRef w pb s) (hn : 0 ≤ s.naks ∧ s.naks ≤ 1000) :
    Calls Tryd.prog 38 #[.pointer (some ⟨pb, 0, none⟩), .slice a l.length c] w fun e w' => ∃ v, e = .returned (.tuple #[.int .u8 (judge s l).1, v]) ∧ IsRow w' v (judge s l).2.1 ∧ But pb w w' ∧ IsRef w' pb (judge s l).2.2 := by
  have hu57 := Tryd.underlying57
  have c0 := Lib.hid h.1
  obtain ⟨i0, hi, hz⟩ := Option.map_eq_some_iff.1 info57
  simp only [Prod.mk.injEq] at hz
  obtain ⟨hz0, hz1, hz2⟩ := hz
  have hpl := hp.lt
  have HJ := Lib.hid (judge_rows s l)
  have hfin : Hid (runL s.c l [] ⟨[], [], []⟩ = runL s.c (l.drop 0) (l.take 0) ⟨[], [], []⟩) := Lib.hid (by simp)
  replace hnl := Lib.hid hnl
  generalize judge s l = J at *
  go_enter Tryd.func38, Tryd.ntmps38
  go_wp2
  go_loopg [6, 7, 8, 9] l.length (fun q vr vn vk i wr => ∃ (j : Nat) (v : V3), j ≤ l.length ∧ q = l.length - j ∧ i = .int .i64 (j : Int) ∧ Hid (runL s.c l [] ⟨[], [], []⟩ = runL s.c (l.drop j) (l.take j) v) ∧ v.r.length ≤ j ∧ v.n.length ≤ j ∧ v.c.length ≤ j ∧ Three wr w.heap.size vr vn vk v.r v.n v.c ∧ Below w.heap.size w wr)
  case atStart => exact ⟨0, ⟨[], [], []⟩, by omega, rfl, rfl, hfin, Nat.le_refl _, Nat.le_refl _, Nat.le_refl _, three_nil _ _, Below.refl _ _⟩
  case round =>
    obtain ⟨j, v, hj, hq, rfl, hrun, l1, l2, l3, h3, hB⟩ := hrel
    have A := Lib.hid hq; clear hq
    clear hfin
    obtain ⟨ra, rc, hra⟩ := own_form h3.own1
    obtain ⟨na, nc, hna⟩ := own_form h3.own2
    obtain ⟨ka, kc, hka⟩ := own_form h3.own3
    obtain rfl := hra
    obtain rfl := hna
    obtain rfl := hka
    by_cases hlt : j < l.length
    · have q1 : decide ((j : Int) < (l.length : Int)) = true := by simp; omega
      obtain ⟨x, rfl, x0, x1⟩ := (h.below hB).at_ j hlt
      have hatw : ∀ W, Below w.heap.size w W → W.cell? (x.add (j * 2)) = some (.int .u8 (tv l[j].t)) ∧ W.cell? ⟨(x.add (j * 2)).block, (x.add (j * 2)).off + 1, none⟩ = some (.string l[j].d) := fun W hW => by
        obtain ⟨y, ey, g1, g2⟩ := (h.below hW).at_ j hlt
        obtain rfl := Option.some.inj ey
        exact ⟨g1, g2⟩
      have hat : ∀ W, Below wr.heap.size wr W → W.cell? (x.add (j * 2)) = some (.int .u8 (tv l[j].t)) ∧ W.cell? ⟨(x.add (j * 2)).block, (x.add (j * 2)).off + 1, none⟩ = some (.string l[j].d) := fun W hW => ⟨(hW.cell (cell_lt x0)).trans x0, (hW.cell (cell_lt x1)).trans x1⟩
      have hdr : Hid (l.drop j = l[j] :: l.drop (j + 1)) := Lib.hid (List.drop_eq_getElem_cons hlt)
      have htk : Hid (l.take (j + 1) = l.take j ++ [l[j]]) := Lib.hid (List.take_succ_eq_append_getElem hlt)
      have hjc : j ≤ c := by have := c0.out; omega
      have hlen : (l.take j).length = j := by rw [List.length_take]; omega
      have hfind := fun W (hr : Row W (some x) c (l.take j)) => rfind_calls l[j].t (l.take j) (some x) c W hr (by omega)
      rw [head_told, hlen] at hfind
      have htw : Hid ((!((l.take j).filter (hasT l[j].t)).isEmpty) = twice (l.take j) l[j]) := Lib.hid rfl
      have hone := fun W hW => rone_calls s pb l[j] W hW
      have hvd := Lib.hid (verd_one s.c (l.take j) l[j])
      have hoc := one_cases s.c l[j]
      have hstep := Lib.hid (run_step hrun.out hdr.out htk.out)
      generalize l[j] = o at *
      generalize ((l.take j).filter (hasT o.t)).headD noOpt = ho at *
      generalize (!((l.take j).filter (hasT o.t)).isEmpty) = tw at *
      obtain ⟨code, p, hcp⟩ : ∃ code p, oneO s.c o = (code, p) := ⟨_, _, rfl⟩
      rw [hcp] at hone hvd hoc
      simp only at hone hoc
      replace hoc := Lib.hid hoc
      have e0 := x0
      have e1 := x1
      go_upto_region 6 with (first
        | (go_at_call 50; with_reducible refine (hone _ (hp.below hB)).mono ?_; rintro e w1 ⟨rfl, hb1⟩))
      have B1 := hb1.trans (((Below.refl w1.heap.size w1).alloc (Nat.le_refl _) (.cells #[.int .u8 (tv p.t), .string p.d] 57)).mono hb1.size)
      have nb := alloc_new w1 _ (.cells #[.int .u8 (tv p.t), .string p.d] 57) rfl
      have nl : w1.heap.size < (w1.alloc (.cells #[.int .u8 (tv p.t), .string p.d] 57)).heap.size := by simp
      have nge : w.heap.size ≤ w1.heap.size := Nat.le_trans hB.size hb1.size
      clear hb1 e0 e1 hone
      generalize w1.alloc (.cells #[.int .u8 (tv p.t), .string p.d] 57) = wA at *
      generalize w1.heap.size = ob at *
      go_cut [12, 13] from 34 to 45 (fun s12 s13 wx => s13 = .bool tw ∧ ∃ wD, Below wr.heap.size wr wD ∧ wD.heap[ob]? = some (.cells #[.int .u8 (tv p.t), .string p.d] 57 (0, 0)) ∧ wx = wD)
      case first =>
        refine start_ (n := 15) (S := fun W' => Below wr.heap.size wr W' ∧ W'.heap[ob]? = some (.cells #[.int .u8 (tv p.t), .string p.d] 57 (0, 0))) (ds := []) (#[false, false, false, false, false, false, false, false, false, false, false, false, false, false, false]) (by kernel_rfl) rfl rfl (⟨below_drew B1, nb⟩) (fun hS => ?_)
        have hge : wr.heap.size ≤ wA.drew.heap.size := B1.size
        have nl2 : ob < wA.drew.heap.size := nl
        generalize wA.drew = wB at *
        refine take_ (i := 0) (N := some 35) (v := ?_) (a' := ?_) #[true, false, false, false, false, false, false, false, false, false, false, false, false, false, false] rfl rfl (by kernel_rfl) (fun _ _ _ h => h) (.inl ⟨by rfl, fun w' hS' => ?_⟩) hS ?_ ?_
        rotate_left
        · go_simp
          with_reducible rfl
        rotate_left
        · simp only [Act.put, List.setIfInBounds_toArray, List.set_cons_zero, List.set_cons_succ]
          rfl
        refine take_ (i := 1) (N := some 36) (v := ?_) (a' := ?_) #[true, true, false, false, false, false, false, false, false, false, false, false, false, false, false] rfl rfl (by kernel_rfl) (fun _ _ _ h => h) (.inl ⟨by rfl, fun w' hS' => ?_⟩) hS ?_ ?_
        rotate_left
        · go_simp
          with_reducible rfl
        rotate_left
        · simp only [Act.put, List.setIfInBounds_toArray, List.set_cons_zero, List.set_cons_succ]
          rfl
        refine take_ (i := 2) (N := some 37) (v := ?_) (a' := ?_) #[true, true, true, false, false, false, false, false, false, false, false, false, false, false, false] rfl rfl (by kernel_rfl) (fun _ _ _ h => h) (.inl ⟨by rfl, fun w' hS' => ?_⟩) hS ?_ ?_
        rotate_left
        · go_simp
          with_reducible rfl
        rotate_left
        · simp only [Act.put, List.setIfInBounds_toArray, List.set_cons_zero, List.set_cons_succ]
          rfl
        refine take_ (i := 3) (N := some 38) (v := ?_) (a' := ?_) #[true, true, true, true, false, false, false, false, false, false, false, false, false, false, false] rfl rfl (by kernel_rfl) (fun _ _ _ h => h) (.inl ⟨by rfl, fun w' hS' => ?_⟩) hS ?_ ?_
        rotate_left
        · go_simp
          with_reducible rfl
        rotate_left
        · simp only [Act.put, List.setIfInBounds_toArray, List.set_cons_zero, List.set_cons_succ]
          rfl
        refine take_ (i := 4) (N := some 39) (v := ?_) (a' := ?_) #[true, true, true, true, true, false, false, false, false, false, false, false, false, false, false] rfl rfl (by kernel_rfl) (fun _ _ _ h => h) (.inl ⟨by rfl, fun w' hS' => ?_⟩) hS ?_ ?_
        rotate_left
        · have u0 := (hat _ hS'.1).1
          go_simp
          with_reducible rfl
        rotate_left
        · simp only [Act.put, List.setIfInBounds_toArray, List.set_cons_zero, List.set_cons_succ]
          rfl
        refine take_ (i := 5) (N := some 40) (v := ?_) (a' := ?_) #[true, true, true, true, true, true, false, false, false, false, false, false, false, false, false] rfl rfl (by kernel_rfl) (fun _ _ _ h => h) (.inl ⟨by rfl, fun w' hS' => ?_⟩) hS ?_ ?_
        rotate_left
        · go_simp
          with_reducible rfl
        rotate_left
        · simp only [Act.put, List.setIfInBounds_toArray, List.set_cons_zero, List.set_cons_succ]
          rfl
        refine take_ (i := 6) (N := some 41) (v := ?_) (a' := ?_) #[true, true, true, true, true, true, true, false, false, false, false, false, false, false, false] rfl rfl (by kernel_rfl) (fun _ _ _ h => h) (.inl ⟨by rfl, fun w' hS' => ?_⟩) hS ?_ ?_
        rotate_left
        · go_simp
          with_reducible rfl
        rotate_left
        · simp only [Act.put, List.setIfInBounds_toArray, List.set_cons_zero, List.set_cons_succ]
          rfl
        refine take_ (i := 7) (N := some 42) (v := ?_) (a' := ?_) #[true, true, true, true, true, true, true, true, false, false, false, false, false, false, false] rfl rfl (by kernel_rfl) (fun _ _ _ h => h) (.inl ⟨by rfl, fun w' hS' => ?_⟩) hS ?_ ?_
        rotate_left
        · go_simp
          with_reducible rfl
        rotate_left
        · simp only [Act.put, List.setIfInBounds_toArray, List.set_cons_zero, List.set_cons_succ]
          rfl
        refine wpAnyLast_all (rs := [8, 12]) (by kernel_rfl) (by simp) ?_
        intro i hi'
        rcases List.mem_cons.1 hi' with rfl | hi'
        · refine wpOp_step rfl (fun K' hK' => ?_)
          go_simp
          go_at_call 32
          with_reducible refine (hfind _ (row_take (h.below (hB.trans (hS.1.mono hB.size))) j)).mono ?_
          rintro e w6 ⟨rfl, hb6⟩
          have hT : Below wr.heap.size wr w6 ∧ w6.heap[ob]? = some (.cells #[.int .u8 (tv p.t), .string p.d] 57 (0, 0)) := ⟨hS.1.trans (hb6.mono hS.1.size), (hb6.block _ ((Array.getElem?_eq_some_iff.1 hS.2).1)).trans hS.2⟩
          refine hK' _ _ ⟨fun _ _ => hT, ?_⟩
          clear hK' K' hS
          simp only [Act.put, List.setIfInBounds_toArray, List.set_cons_zero, List.set_cons_succ]
          have hS := hT
          clear hT
          refine take_ (i := 9) (N := some 34) (v := ?_) (a' := ?_) #[true, true, true, true, true, true, true, true, true, true, false, false, false, false, false] rfl rfl (by kernel_rfl) (fun _ _ _ h => h) (.inl ⟨by rfl, fun w' hS' => ?_⟩) hS ?_ ?_
          rotate_left
          · go_simp
            with_reducible rfl
          rotate_left
          · simp only [Act.put, List.setIfInBounds_toArray, List.set_cons_zero, List.set_cons_succ]
            rfl
          refine take_ (i := 10) (N := some 44) (v := ?_) (a' := ?_) #[true, true, true, true, true, true, true, true, true, true, true, false, false, false, false] rfl rfl (by kernel_rfl) (fun _ _ _ h => h) (.inl ⟨by rfl, fun w' hS' => ?_⟩) hS ?_ ?_
          rotate_left
          · go_simp
            with_reducible rfl
          rotate_left
          · simp only [Act.put, List.setIfInBounds_toArray, List.set_cons_zero, List.set_cons_succ]
            rfl
          refine take_ (i := 11) (N := some 45) (v := ?_) (a' := ?_) #[true, true, true, true, true, true, true, true, true, true, true, true, false, false, false] rfl rfl (by kernel_rfl) (fun _ _ _ h => h) (.inl ⟨by rfl, fun w' hS' => ?_⟩) hS ?_ ?_
          rotate_left
          · go_simp
            with_reducible rfl
          rotate_left
          · simp only [Act.put, List.setIfInBounds_toArray, List.set_cons_zero, List.set_cons_succ]
            rfl
          refine wpAnyLast_all (rs := [12]) (by kernel_rfl) (by simp) ?_
          intro i hi'
          obtain rfl := List.mem_singleton.1 hi'
          refine wpOp_step rfl (fun K' hK' => ?_)
          go_simp
          have hT6 := hS
          have hT : Below wr.heap.size wr (w6.alloc (.cells #[.int .u8 0, .string ⟨#[]⟩] 57)) ∧ (w6.alloc (.cells #[.int .u8 0, .string ⟨#[]⟩] 57)).heap[ob]? = some (.cells #[.int .u8 (tv p.t), .string p.d] 57 (0, 0)) := ⟨hS.1.alloc hS.1.size _, (Lib.alloc_old _ _ _ ((Array.getElem?_eq_some_iff.1 hS.2).1)).trans hS.2⟩
          refine hK' _ _ ⟨fun _ _ => hT, ?_⟩
          clear hK' K' hS
          simp only [Act.put, List.setIfInBounds_toArray, List.set_cons_zero, List.set_cons_succ]
          have hS := hT
          clear hT
          refine wpAnyLast_all (rs := [13]) (by kernel_rfl) (by simp) ?_
          intro i hi'
          obtain rfl := List.mem_singleton.1 hi'
          refine wpOp_step rfl (fun K' hK' => ?_)
          go_simp
          have hT : Below wr.heap.size wr (w6.alloc (.cells #[.int .u8 (tv ho.t), .string ho.d] 57)) ∧ (w6.alloc (.cells #[.int .u8 (tv ho.t), .string ho.d] 57)).heap[ob]? = some (.cells #[.int .u8 (tv p.t), .string p.d] 57 (0, 0)) := ⟨hT6.1.alloc hT6.1.size _, (Lib.alloc_old _ _ _ ((Array.getElem?_eq_some_iff.1 hT6.2).1)).trans hT6.2⟩
          refine hK' _ _ ⟨fun _ _ => hT, ?_⟩
          clear hK' K' hS
          simp only [Act.put, List.setIfInBounds_toArray, List.set_cons_zero, List.set_cons_succ]
          have hS := hT
          clear hT
          refine wpAnyLast_all (rs := [14]) (by kernel_rfl) (by simp) ?_
          intro i hi'
          obtain rfl := List.mem_singleton.1 hi'
          refine wpOp_step rfl (fun K' hK' => ?_)
          go_simp
          refine hK' _ _ ⟨fun _ h => h, ?_⟩
          clear hK' K'
          simp only [Act.put, List.setIfInBounds_toArray, List.set_cons_zero, List.set_cons_succ]
          refine wpAnyLast_done (by kernel_rfl) ?_ _
          go_wp2
          go_meet
          exact ⟨rfl, _, hS.1, hS.2, rfl⟩
        · obtain rfl := List.mem_singleton.1 hi'
          refine wpOp_step rfl (fun K' hK' => ?_)
          go_simp
          have nv1 := alloc_new wB _ (.cells #[.int .u8 0, .string ⟨#[]⟩] 57) rfl
          have nvl : wB.heap.size < (wB.alloc (.cells #[.int .u8 0, .string ⟨#[]⟩] 57)).heap.size := by simp
          have hgb := hS.1.size
          have hob := (Array.getElem?_eq_some_iff.1 hS.2).1
          have hT : Below wr.heap.size wr (wB.alloc (.cells #[.int .u8 0, .string ⟨#[]⟩] 57)) ∧ (wB.alloc (.cells #[.int .u8 0, .string ⟨#[]⟩] 57)).heap[ob]? = some (.cells #[.int .u8 (tv p.t), .string p.d] 57 (0, 0)) := ⟨hS.1.alloc hS.1.size _, (Lib.alloc_old _ _ _ ((Array.getElem?_eq_some_iff.1 hS.2).1)).trans hS.2⟩
          refine hK' _ _ ⟨fun _ _ => hT, ?_⟩
          clear hK' K' hS
          simp only [Act.put, List.setIfInBounds_toArray, List.set_cons_zero, List.set_cons_succ]
          have hS := hT
          clear hT
          generalize wB.alloc (.cells #[.int .u8 0, .string ⟨#[]⟩] 57) = wX at *
          generalize wB.heap.size = vb at *
          refine wpAnyLast_all (rs := [8]) (by kernel_rfl) (by simp) ?_
          intro i hi'
          obtain rfl := List.mem_singleton.1 hi'
          refine wpOp_step rfl (fun K' hK' => ?_)
          go_simp
          go_at_call 32
          with_reducible refine (hfind _ (row_take (h.below (hB.trans (hS.1.mono hB.size))) j)).mono ?_
          rintro e w6 ⟨rfl, hb6⟩
          have nv6 := (hb6.block _ nvl).trans nv1
          have hT : Below wr.heap.size wr w6 ∧ w6.heap[ob]? = some (.cells #[.int .u8 (tv p.t), .string p.d] 57 (0, 0)) := ⟨hS.1.trans (hb6.mono hS.1.size), (hb6.block _ ((Array.getElem?_eq_some_iff.1 hS.2).1)).trans hS.2⟩
          refine hK' _ _ ⟨fun _ _ => hT, ?_⟩
          clear hK' K' hS
          simp only [Act.put, List.setIfInBounds_toArray, List.set_cons_zero, List.set_cons_succ]
          have hS := hT
          clear hT
          refine take_ (i := 9) (N := some 34) (v := ?_) (a' := ?_) #[true, true, true, true, true, true, true, true, true, true, false, false, true, false, false] rfl rfl (by kernel_rfl) (fun _ _ _ h => h) (.inl ⟨by rfl, fun w' hS' => ?_⟩) hS ?_ ?_
          rotate_left
          · go_simp
            with_reducible rfl
          rotate_left
          · simp only [Act.put, List.setIfInBounds_toArray, List.set_cons_zero, List.set_cons_succ]
            rfl
          refine take_ (i := 10) (N := some 44) (v := ?_) (a' := ?_) #[true, true, true, true, true, true, true, true, true, true, true, false, true, false, false] rfl rfl (by kernel_rfl) (fun _ _ _ h => h) (.inl ⟨by rfl, fun w' hS' => ?_⟩) hS ?_ ?_
          rotate_left
          · go_simp
            with_reducible rfl
          rotate_left
          · simp only [Act.put, List.setIfInBounds_toArray, List.set_cons_zero, List.set_cons_succ]
            rfl
          refine take_ (i := 11) (N := some 45) (v := ?_) (a' := ?_) #[true, true, true, true, true, true, true, true, true, true, true, true, true, false, false] rfl rfl (by kernel_rfl) (fun _ _ _ h => h) (.inl ⟨by rfl, fun w' hS' => ?_⟩) hS ?_ ?_
          rotate_left
          · go_simp
            with_reducible rfl
          rotate_left
          · simp only [Act.put, List.setIfInBounds_toArray, List.set_cons_zero, List.set_cons_succ]
            rfl
          refine wpAnyLast_all (rs := [13]) (by kernel_rfl) (by simp) ?_
          intro i hi'
          obtain rfl := List.mem_singleton.1 hi'
          refine wpOp_step rfl (fun K' hK' => ?_)
          have v1 := fun i => blk_cell nv6 i
          have v2 := fun i => blk_frozen nv6 i
          have v3 := fun u i => blk_cell (blk_set nv6 0 u) i
          have v4 := fun u i => blk_frozen (blk_set nv6 0 u) i
          go_simp
          have hT : Below wr.heap.size wr ((w6.setCell ⟨vb, 0, none⟩ (.int .u8 (tv ho.t))).setCell ⟨vb, 1, none⟩ (.string ho.d)) ∧ ((w6.setCell ⟨vb, 0, none⟩ (.int .u8 (tv ho.t))).setCell ⟨vb, 1, none⟩ (.string ho.d)).heap[ob]? = some (.cells #[.int .u8 (tv p.t), .string p.d] 57 (0, 0)) := ⟨(hS.1.setCell (p := ⟨vb, 0, none⟩) hgb _).setCell (p := ⟨vb, 1, none⟩) hgb _, (Below.heap_setCell _ ⟨vb, 1, none⟩ _ _ (by simp only; omega)).trans ((Below.heap_setCell _ ⟨vb, 0, none⟩ _ _ (by simp only; omega)).trans hS.2)⟩
          refine hK' _ _ ⟨fun _ _ => hT, ?_⟩
          clear hK' K' hS
          simp only [Act.put, List.setIfInBounds_toArray, List.set_cons_zero, List.set_cons_succ]
          have hS := hT
          clear hT
          refine wpAnyLast_all (rs := [14]) (by kernel_rfl) (by simp) ?_
          intro i hi'
          obtain rfl := List.mem_singleton.1 hi'
          refine wpOp_step rfl (fun K' hK' => ?_)
          go_simp
          refine hK' _ _ ⟨fun _ h => h, ?_⟩
          clear hK' K'
          simp only [Act.put, List.setIfInBounds_toArray, List.set_cons_zero, List.set_cons_succ]
          refine wpAnyLast_done (by kernel_rfl) ?_ _
          go_wp2
          go_meet
          exact ⟨rfl, _, hS.1, hS.2, rfl⟩
      case rest =>
        obtain ⟨rfl, wD, BD, obD, hwx⟩ := hcut
        obtain rfl := hwx.symm
        clear B1 nb nl hfind wA
        have oD := fun i => blk_cell obD i
        have h3D := h3.below BD
        have BwD := hB.trans (BD.mono hB.size)
        obtain ⟨y0, y1⟩ := hat _ BD
        have hsz := BwD.size
        clear h3 hat x0 x1
        cases tw with
        | true =>
          have hv1 := Lib.hid (show verd s.c (l.take j) o = 1 by rw [hvd.out, ← htw.out]; rfl)
          have hal := optCells_length v.r
          go_wp2_with (first
            | (at_builtin; refine wpList_append_own_at _ rfl _ _ 32 rfl w.heap.size 57 i0 (.agg #[.int .u8 0, .string ⟨#[]⟩]) 2 24 und32 hi hz0 hz1 hz2 rfl (by decide) (.slice ra v.r.length rc) v.r.length (optCells v.r) rfl (h3D.below ((Below.refl wD.heap.size wD).alloc (Nat.le_refl _) (.cells #[.int .u8 (tv o.t), .string o.d] 57))).own1 ⟨wD.heap.size, 0, none⟩ 1 1 [.int .u8 (tv o.t), .string o.d] rfl rfl (cell_two _ _ _ _) (by simp [Value.oneCell']) (by unfold maxLen; omega) (by omega) (by simp; omega) ?_
               intro v5 w5 hown5 hg5 _ hat5
               have h35 := ((h3D.below ((Below.refl wD.heap.size wD).alloc (Nat.le_refl _) (.cells #[.int .u8 (tv o.t), .string o.d] 57))).push (o := o) hown5 hg5 hat5)
               have B5 := (BwD.alloc BwD.size (.cells #[.int .u8 (tv o.t), .string o.d] 57)).grown hg5 (by simp; omega) (own_base (h3D.below ((Below.refl wD.heap.size wD).alloc (Nat.le_refl _) (.cells #[.int .u8 (tv o.t), .string o.d] 57))).own1)))
          go_roundg (l.length - (j + 1))
          case measure => have := A.out; omega
          case rel => exact ⟨j + 1, ⟨v.r ++ [o], v.n, v.c⟩, by omega, rfl, by go_num, Lib.hid (hstep.out.trans (by rw [step_rej hv1.out])), by simp; omega, by simp only; omega, by simp only; omega, h35, B5⟩
        | false =>
          have hvd2 : Hid (verd s.c (l.take j) o = if code = 2 then 1 else if code = 1 then 2 else 0) := Lib.hid (by rw [hvd.out, ← htw.out]; rfl)
          rcases hoc.out with rfl | ⟨rfl, rfl⟩ | rfl
          · have hv1 := Lib.hid (show verd s.c (l.take j) o = 0 from hvd2.out)
            go_wp2
            go_roundg (l.length - (j + 1))
            case measure => have := A.out; omega
            case rel => exact ⟨j + 1, v, by omega, rfl, by go_num, Lib.hid (hstep.out.trans (by rw [step_no hv1.out])), by omega, by omega, by omega, h3D, BwD⟩
          · have hv1 := Lib.hid (show verd s.c (l.take j) o = 2 from hvd2.out)
            have hal := optCells_length v.n
            have hal2 := optCells_length v.c
            go_wp2_with (first
              | (at_builtin; refine wpList_append_own_at _ rfl _ _ 32 rfl w.heap.size 57 i0 (.agg #[.int .u8 0, .string ⟨#[]⟩]) 2 24 und32 hi hz0 hz1 hz2 rfl (by decide) (.slice na v.n.length nc) v.n.length (optCells v.n) rfl (h3D.below ((Below.refl wD.heap.size wD).alloc (Nat.le_refl _) (.cells #[.int .u8 (tv o.t), .string (oct (s.c.given (kof o)))] 57))).own2 ⟨wD.heap.size, 0, none⟩ 1 1 [.int .u8 (tv o.t), .string (oct (s.c.given (kof o)))] rfl rfl (cell_two _ _ _ _) (by simp [Value.oneCell']) (by unfold maxLen; omega) (by omega) (by simp; omega) ?_
                 intro v5 w5 hown5 hg5 _ hat5
                 have h35 := ((h3D.below ((Below.refl wD.heap.size wD).alloc (Nat.le_refl _) (.cells #[.int .u8 (tv o.t), .string (oct (s.c.given (kof o)))] 57))).rot.push (o := ⟨o.t, oct (s.c.given (kof o))⟩) hown5 hg5 hat5).rot.rot
                 have B5 := (BwD.alloc BwD.size (.cells #[.int .u8 (tv o.t), .string (oct (s.c.given (kof o)))] 57)).grown hg5 (by simp; omega) (own_base (h3D.below ((Below.refl wD.heap.size wD).alloc (Nat.le_refl _) (.cells #[.int .u8 (tv o.t), .string (oct (s.c.given (kof o)))] 57))).own2)
                 obtain ⟨y50, y51⟩ := hatw _ B5
                 have hsz5 := B5.size)
              | (at_builtin; refine wpList_append_own_at _ rfl _ _ 32 rfl w.heap.size 57 i0 (.agg #[.int .u8 0, .string ⟨#[]⟩]) 2 24 und32 hi hz0 hz1 hz2 rfl (by decide) (.slice ka v.c.length kc) v.c.length (optCells v.c) rfl (h35.below ((Below.refl w5.heap.size w5).alloc (Nat.le_refl _) (.cells #[.int .u8 (tv o.t), .string o.d] 57))).own3 ⟨w5.heap.size, 0, none⟩ 1 1 [.int .u8 (tv o.t), .string o.d] rfl rfl (cell_two _ _ _ _) (by simp [Value.oneCell']) (by unfold maxLen; omega) (by omega) (by simp; omega) ?_
                 intro v7 w7 hown7 hg7 _ hat7
                 have h37 := ((h35.below ((Below.refl w5.heap.size w5).alloc (Nat.le_refl _) (.cells #[.int .u8 (tv o.t), .string o.d] 57))).rot.rot.push (o := o) hown7 hg7 hat7).rot
                 have B7 := (B5.alloc B5.size (.cells #[.int .u8 (tv o.t), .string o.d] 57)).grown hg7 (by simp; omega) (own_base (h35.below ((Below.refl w5.heap.size w5).alloc (Nat.le_refl _) (.cells #[.int .u8 (tv o.t), .string o.d] 57))).own3)))
            go_roundg (l.length - (j + 1))
            case measure => have := A.out; omega
            case rel => exact ⟨j + 1, ⟨v.r, v.n ++ [⟨o.t, oct (s.c.given (kof o))⟩], v.c ++ [o]⟩, by omega, rfl, by go_num, Lib.hid (hstep.out.trans (by rw [step_nak hv1.out])), by simp only; omega, by simp; omega, by simp; omega, h37, B7⟩
          · have hv1 := Lib.hid (show verd s.c (l.take j) o = 1 from hvd2.out)
            have hal := optCells_length v.r
            go_wp2_with (first
              | (at_builtin; refine wpList_append_own_at _ rfl _ _ 32 rfl w.heap.size 57 i0 (.agg #[.int .u8 0, .string ⟨#[]⟩]) 2 24 und32 hi hz0 hz1 hz2 rfl (by decide) (.slice ra v.r.length rc) v.r.length (optCells v.r) rfl (h3D.below ((Below.refl wD.heap.size wD).alloc (Nat.le_refl _) (.cells #[.int .u8 (tv o.t), .string o.d] 57))).own1 ⟨wD.heap.size, 0, none⟩ 1 1 [.int .u8 (tv o.t), .string o.d] rfl rfl (cell_two _ _ _ _) (by simp [Value.oneCell']) (by unfold maxLen; omega) (by omega) (by simp; omega) ?_
                 intro v5 w5 hown5 hg5 _ hat5
                 have h35 := ((h3D.below ((Below.refl wD.heap.size wD).alloc (Nat.le_refl _) (.cells #[.int .u8 (tv o.t), .string o.d] 57))).push (o := o) hown5 hg5 hat5)
                 have B5 := (BwD.alloc BwD.size (.cells #[.int .u8 (tv o.t), .string o.d] 57)).grown hg5 (by simp; omega) (own_base (h3D.below ((Below.refl wD.heap.size wD).alloc (Nat.le_refl _) (.cells #[.int .u8 (tv o.t), .string o.d] 57))).own1)))
            go_roundg (l.length - (j + 1))
            case measure => have := A.out; omega
            case rel => exact ⟨j + 1, ⟨v.r ++ [o], v.n, v.c⟩, by omega, rfl, by go_num, Lib.hid (hstep.out.trans (by rw [step_rej hv1.out])), by simp; omega, by simp only; omega, by simp only; omega, h35, B5⟩
    · obtain rfl : j = l.length := by omega
      have q1 : decide ((l.length : Int) < (l.length : Int)) = false := by simp
      have hV : runL s.c l [] ⟨[], [], []⟩ = v := by rw [hrun.out, List.drop_length]; rfl
      have hJ := Lib.hid (HJ.out v hV)
      clear hV HJ hrun
      have hpr := hp.below hB
      have t1 := fun i => blk_cell hpr i
      have t2 := fun i => blk_frozen hpr i
      simp only [Pol.rcells] at t1
      have Bw : But pb w wr := But.of_below hB
      by_cases c1 : v.r ≠ []
      · obtain ⟨d1, d2⟩ := len_pos c1
        have hj := Lib.hid (hJ.out.trans (if_pos c1))
        obtain ⟨_, _, er, r1⟩ := row_own (h3.own1.set pb 24 hpl (.int .i64 0))
        cases er
        clear c1
        go_wp2
        go_ret2
        rw [hj.out]
        exact ⟨_, rfl, ⟨_, _, rfl, r1⟩, Bw.set 24 _, isRef_naks hpr 0⟩
      · obtain ⟨d1, d2⟩ := len_zero c1
        have hJ2 := Lib.hid (hJ.out.trans (if_neg c1))
        clear hJ c1
        have hfd := fun W hW => rfind_calls 3 l a c W hW (by omega)
        rw [head_told, show tv 3 = (3 : Int) from rfl] at hfd
        obtain ⟨hd, hhd⟩ : ∃ o : Opt, (l.filter (hasT 3)).headD noOpt = o := ⟨_, rfl⟩
        rw [hhd] at hfd
        have hN : Hid (naksAt s.c l v.n = v.n ++ (if (!(!(l.filter (hasT 3)).isEmpty) && (nv s.c.peer != 0)) = true then [⟨3, oct s.c.peer⟩] else [])) := Lib.hid (by
          have hpe : (nv s.c.peer != 0) = decide (s.c.peer ≠ 0) := by
            rw [bne, show (0 : Int) = nv 0 from rfl, ni_bool]
            by_cases hh : s.c.peer = 0 <;> simp [hh]
          unfold naksAt
          rw [hpe]
          simp)
        generalize naksAt s.c l v.n = n' at *
        generalize (!(l.filter (hasT 3)).isEmpty) = has at *
        clear hhd
        obtain ⟨pz, hpz⟩ : ∃ b, (nv s.c.peer != 0) = b := ⟨_, rfl⟩
        rw [hpz] at hN
        go_upto_region 19 with (first
          | (go_at_call 32; with_reducible refine (hfd _ (h.below hB)).mono ?_; rintro e w1 ⟨rfl, hb1⟩))
        have B1 := (hb1.trans (((Below.refl w1.heap.size w1).alloc (Nat.le_refl _) (.cells #[.int .u8 (tv hd.t), .string hd.d] 57)).mono hb1.size))
        generalize w1.alloc (.cells #[.int .u8 (tv hd.t), .string hd.d] 57) = wA at *
        have BA := hB.trans (B1.mono hB.size)
        have h3A := h3.below B1
        have hpA := hpr.below B1
        clear hb1 t1 t2 h3 hB B1 hpr Bw hfd
        have hszA := BA.size
        go_cut [91] from 82 to 90 (fun s91 wx => s91 = .bool (!has && pz) ∧ wx = wA)
        case first =>
          have t1 := fun i => blk_cell hpA i
          simp only [Pol.rcells] at t1
          cases has <;> cases pz <;> (go_wp2; go_meet; exact ⟨rfl, rfl⟩)
        case rest =>
          obtain ⟨rfl, hwx⟩ := hcut
          obtain rfl := hwx.symm
          generalize (!has && pz) = lk at *
          go_upto_if 91 with fail
          go_cut [7] from 92 to 100 (fun s7 wx => ∃ v7, s7 = v7 ∧ Three wx w.heap.size (.slice ra v.r.length rc) v7 (.slice ka v.c.length kc) v.r n' v.c ∧ n'.length ≤ l.length + 1 ∧ Below w.heap.size w wx)
          case first =>
            cases lk with
            | false =>
              have hn' : n' = v.n := by rw [hN.out]; exact List.append_nil _
              go_wp2
              go_meet
              exact ⟨_, rfl, by rw [hn']; exact h3A, by rw [hn']; omega, BA⟩
            | true =>
              have hn' : n' = v.n ++ [⟨3, oct s.c.peer⟩] := by rw [hN.out]; rfl
              have t1 := fun i => blk_cell hpA i
              simp only [Pol.rcells] at t1
              have hA3 : ∀ W : World, Calls Tryd.prog 51 #[.int .u8 3, .int .u32 (nv s.c.peer)] W fun e w' => e = .returned (.agg #[.int .u8 3, .string (oct s.c.peer)]) ∧ Below W.heap.size W w' := fun W => raddr_calls 3 s.c.peer W
              have hal := optCells_length v.n
              go_wp2_with (first
                | (go_at_call 51; with_reducible refine (hA3 _).mono ?_; rintro e w3 ⟨rfl, hb3⟩
                   have h3C := (h3A.below hb3).below ((Below.refl w3.heap.size w3).alloc (Nat.le_refl _) (.cells #[.int .u8 3, .string (oct s.c.peer)] 57))
                   have BC := (BA.trans (hb3.mono BA.size)).alloc (BA.trans (hb3.mono BA.size)).size (.cells #[.int .u8 3, .string (oct s.c.peer)] 57)
                   have hszC := BC.size)
                | (at_builtin; refine wpList_append_own_at _ rfl _ _ 32 rfl w.heap.size 57 i0 (.agg #[.int .u8 0, .string ⟨#[]⟩]) 2 24 und32 hi hz0 hz1 hz2 rfl (by decide) (.slice na v.n.length nc) v.n.length (optCells v.n) rfl h3C.own2 ⟨w3.heap.size, 0, none⟩ 1 1 [.int .u8 3, .string (oct s.c.peer)] rfl rfl (cell_two _ _ _ _) (by simp [Value.oneCell']) (by unfold maxLen; omega) (by omega) hszC ?_
                   intro v' w5 hown5 hg5 _ hat5
                   have h35 := ((h3C.rot).push (o := ⟨3, oct s.c.peer⟩) hown5 hg5 hat5).rot.rot
                   have B5 := BC.grown hg5 hszC (own_base h3C.own2)))
              go_meet
              exact ⟨_, rfl, by rw [hn']; exact h35, by rw [hn']; simp; omega, B5⟩
          case rest =>
            obtain ⟨v7, hv7, h3E, hnl', BE⟩ := hcut
            obtain rfl := hv7.symm
            clear h3A BA hpA hszA hN
            obtain ⟨na2, nc2, hna2⟩ := own_form h3E.own2
            obtain rfl := hna2
            obtain ⟨wE, hwE⟩ : ∃ W, W = wc := ⟨_, rfl⟩
            obtain rfl := hwE
            have hpE := hp.below BE
            have t1 := fun i => blk_cell hpE i
            have t2 := fun i => blk_frozen hpE i
            simp only [Pol.rcells] at t1
            have Bw : But pb w wE := But.of_below BE
            by_cases c2 : n' ≠ [] ∧ s.naks < s.c.max
            · obtain ⟨d3, d4⟩ := len_pos c2.1
              have d5 : decide (s.naks < s.c.max) = true := decide_eq_true c2.2
              have hj := Lib.hid (hJ2.out.trans (if_pos c2))
              obtain ⟨n1, n2⟩ := hn
              obtain ⟨_, _, er, r1⟩ := row_own (h3E.own2.set pb 24 hpl (.int .i64 (s.naks + 1)))
              cases er
              clear c2
              go_upto_region 21 with fail
              go_quiet (fail)
              go_wp2
              go_ret2
              rw [hj.out]
              obtain ⟨_, _, er2, r2⟩ := row_own ((h3E.own2.below (below_drewN (Below.refl _ _) nq)).set pb 24 hpl (.int .i64 (s.naks + 1)))
              cases er2
              exact ⟨_, rfl, ⟨_, _, rfl, r2⟩, (Bw.trans (But.of_below (below_drewN (Below.refl _ _) _))).set 24 _, isRef_naks (hpE.below (below_drewN (Below.refl _ _) _)) _⟩
            · have hJ3 := Lib.hid (hJ2.out.trans (if_neg c2))
              replace c2 := Lib.hid c2
              go_upto_region 21 with fail
              go_cut [115] from 101 to 114 (fun s115 wx => s115 = .bool false ∧ ∃ n, wx = wE.drewN n)
              case first =>
                by_cases c4 : n' ≠ []
                · obtain ⟨d3, d4⟩ := len_pos c4
                  have d5 : decide (s.naks < s.c.max) = false := decide_eq_false (fun e => c2.out ⟨c4, e⟩)
                  clear c4
                  go_quiet (fail)
                  go_wp2
                  go_meet
                  exact ⟨rfl, _, rfl⟩
                · obtain ⟨d3, d4⟩ := len_zero c4
                  clear c4
                  go_quiet (fail)
                  go_wp2
                  go_meet
                  exact ⟨rfl, _, rfl⟩
              case rest =>
                obtain ⟨rfl, nn, hwn⟩ := hcut
                obtain rfl := hwn.symm
                have hbn := below_drewN (Below.refl wE.heap.size wE) nn
                have h3F := h3E.below hbn
                have hpF := hpE.below hbn
                have BF := Bw.trans (But.of_below hbn)
                clear t1 t2 h3E hpE BE Bw hbn
                generalize wE.drewN nn = wF at *
                have t1 := fun i => blk_cell hpF i
                have t2 := fun i => blk_frozen hpF i
                simp only [Pol.rcells] at t1
                by_cases c3 : v.c ≠ []
                · obtain ⟨d6, d7⟩ := len_pos c3
                  have hj := Lib.hid (hJ3.out.trans (if_pos c3))
                  clear c3
                  obtain ⟨_, _, er2, r2⟩ := row_own (h3F.own3.set pb 24 (show pb < w.heap.size from hpl) (.int .i64 0))
                  cases er2
                  go_wp2
                  go_ret2
                  rw [hj.out]
                  exact ⟨_, rfl, ⟨_, _, rfl, r2⟩, BF.set 24 _, isRef_naks hpF _⟩
                · obtain ⟨d6, d7⟩ := len_zero c3
                  have hj := Lib.hid (hJ3.out.trans (if_neg c3))
                  clear c3
                  have hpG := isRef_naks hpF 0
                  have BG := BF.set 24 (.int .i64 0)
                  have hlG := h.butR BG hp
                  have hge := fun W hr => rget_calls l a c W hr (by omega)
                  obtain ⟨⟨b1, z1, b2, z2, b3, z3⟩, hxx⟩ : ∃ x, (getI l).1 = x := ⟨_, rfl⟩
                  rw [hxx] at hj
                  generalize (getI l).2.2 = ge at *
                  have hge2 : ∀ W, Row W a c l → Calls Tryd.prog 52 #[.slice a l.length c] W fun e w' => ∃ v, e = .returned (.tuple #[.agg #[.bool b1, .int .u32 (nv z1), .bool b2, .int .u32 (nv z2), .bool b3, .int .u32 (nv z3)], v, .int .i64 ge]) ∧ Below W.heap.size W w' := fun W hr => by
                    have := hge W hr
                    rw [hxx] at this
                    exact this
                  clear hge hxx
                  go_upto_region 29 with (first
                    | (go_at_call 52; with_reducible refine (hge2 _ hlG).mono ?_; rintro e w5 ⟨v5, rfl, hb5⟩
                       have hp5 := (hpG.below hb5).below ((Below.refl w5.heap.size w5).alloc (Nat.le_refl _) (.cells #[.bool b1, .int .u32 (nv z1), .bool b2, .int .u32 (nv z2), .bool b3, .int .u32 (nv z3)] 36))
                       have hB5 := BG.trans (But.of_below (hb5.trans (((Below.refl w5.heap.size w5).alloc (Nat.le_refl _) (.cells #[.bool b1, .int .u32 (nv z1), .bool b2, .int .u32 (nv z2), .bool b3, .int .u32 (nv z3)] 36)).mono hb5.size)))
                       have t5 := fun i => blk_cell hp5 i
                       have t6 := fun i => blk_frozen hp5 i
                       simp only [Pol.rcells] at t5))
                  have hp6 := isRef_peer hp5 ⟨b1, z1, b2, z2, b3, z3⟩
                  have hB6 := (((((hB5.set 18 (.bool b1)).set 19 (.int .u32 (nv z1))).set 20 (.bool b2)).set 21 (.int .u32 (nv z2))).set 22 (.bool b3)).set 23 (.int .u32 (nv z3))
                  have hl6 := h.butR hB6 hp
                  clear t5 t6 hp5 hB5 hlG BG hpG
                  generalize (((((((w5.alloc (.cells #[.bool b1, .int .u32 (nv z1), .bool b2, .int .u32 (nv z2), .bool b3, .int .u32 (nv z3)] 36)).setCell ⟨pb, 18, none⟩ (.bool b1)).setCell ⟨pb, 19, none⟩ (.int .u32 (nv z1))).setCell ⟨pb, 20, none⟩ (.bool b2)).setCell ⟨pb, 21, none⟩ (.int .u32 (nv z2))).setCell ⟨pb, 22, none⟩ (.bool b3)).setCell ⟨pb, 23, none⟩ (.int .u32 (nv z3))) = w6 at *
                  go_wp2_with (first
                    | (at_builtin; refine wpList_append_row rfl _ _ rfl w6.heap.size _ [] l 0 rfl rfl (World.ownsRow_nil _ _ _ _) a c rfl hl6 hnl.out (by simp) (by omega) (Nat.le_refl _) ?_
                       intro v7 w7 hown7 hg7
                       rw [List.nil_append] at hown7
                       have hb7 := (Below.refl w6.heap.size w6).grown hg7 (Nat.le_refl _) (fun k hk => by cases hk)
                       obtain ⟨ya, yc, rfl, r7⟩ := row_own hown7))
                  go_ret2
                  rw [hj.out]
                  exact ⟨_, rfl, ⟨_, _, rfl, r7⟩, hB6.trans (But.of_below hb7), hp6.below hb7⟩
end Go.Proofs.YtlcckkdkcbelhaaDoor
