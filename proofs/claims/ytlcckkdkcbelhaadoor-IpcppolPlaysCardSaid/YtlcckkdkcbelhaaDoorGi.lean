/-
  Layer 15 (ipcppol): only, and ipcpopt's Get, walked.
-/
import Derived.Test.YtlcckkdkcbelhaaDoorIp
set_option linter.unusedVariables false
set_option linter.unusedSimpArgs false
namespace Go.Proofs.YtlcckkdkcbelhaaDoor
open Go.RowKit Go.Proofs.YtlcckkdkcbelhaaDoorW.PrintWords Go.Proofs.YtlcckkdkcbelhaaDoorW.PrintLast

set_option maxRecDepth 100000 in
theorem only_calls (x : Icp) (o : Opt) (rest : List Opt) (hp : (putI x).1 = o :: rest) (w : World) (hK : K w) :
    Calls Tryd.prog 45 #[.agg x.cells] w fun e w' => e = .returned (.agg #[.int .u8 (tv o.t), .string o.d]) ∧ Below w.heap.size w w' := by
  have L : ∀ o1 o2, K ((w.alloc o1).alloc o2) := fun o1 o2 => hK.below (((Below.refl _ _).alloc (Nat.le_refl _) _).alloc (by simp) _)
  have hu57 := Tryd.underlying57
  obtain ⟨ha, a, h1, d1, h2, d2⟩ := x
  have hP : ∀ w, K w → Calls Tryd.prog 33 #[.agg #[.bool ha, .int .u32 (nv a), .bool h1, .int .u32 (nv d1), .bool h2, .int .u32 (nv d2)]] w fun e w' => ∃ v, e = .returned (.tuple #[v, .int .i64 (putI ⟨ha, a, h1, d1, h2, d2⟩).2]) ∧ w'.ownsRow w.heap.size 57 2 v (o :: rest).length (optCells (o :: rest)) ∧ Below w.heap.size w w' := fun w h => by
    have := puti_calls ⟨ha, a, h1, d1, h2, d2⟩ w h
    rw [hp] at this
    exact this
  generalize (putI ⟨ha, a, h1, d1, h2, d2⟩).2 = pe at *
  rw [show (Icp.mk ha a h1 d1 h2 d2).cells = #[.bool ha, .int .u32 (nv a), .bool h1, .int .u32 (nv d1), .bool h2, .int .u32 (nv d2)] from rfl]
  clear hp
  go_enter Tryd.func45, Tryd.ntmps45
  go_wp2_with (first
    | (go_at_call 33; with_reducible refine (hP _ (L _ _)).mono ?_; rintro e w1 ⟨v, rfl, hown, hb1⟩
       obtain ⟨ra, rc, rfl, hrow⟩ := row_own hown
       have hb0 := ((Below.refl w.heap.size w).alloc (Nat.le_refl _) (.cells #[.bool ha, .int .u32 (nv a), .bool h1, .int .u32 (nv d1), .bool h2, .int .u32 (nv d2)] 36)).alloc (by simp) (.cells #[.int .u8 0, .string ⟨#[]⟩] 57)
       have hB1 := hb0.trans (hb1.mono (by simp; omega))
       have b1 : w1.heap[w.heap.size + 1]? = some (.cells #[.int .u8 0, .string ⟨#[]⟩] 57 (0, 0)) := (hb1.block _ (by simp)).trans (alloc_new _ _ _ (by simp))
       obtain ⟨x, rfl, x0, x1⟩ := hrow.at_ 0 (by simp)
       simp only [List.getElem_cons_zero] at x0 x1
       rw [show x.add (0 * 2) = x from if_pos rfl] at x0 x1
       have n1 : (0 : Int) < (((o :: rest).length : Nat) : Int) := by rw [List.length_cons]; omega
       have n2 : 0 < (o :: rest).length := by simp
       have c0 := blk_cell b1 0
       have c1 := blk_cell b1 1
       have f1 := fun i => blk_frozen b1 i
       have B1 := Lib.hid b1
       clear b1 hown hrow
       generalize (o :: rest).length = n at *))
  have b4 := blk_set (blk_set B1.out 0 (.int .u8 (tv o.t))) 1 (.string o.d)
  have e0 := blk_cell b4 0
  have e1 := blk_cell b4 1
  have e2 := fun i => blk_frozen b4 i
  (try simp only [Exit.inBlock, Exit.then])
  refine bodyPost_ret (v := .agg #[.int .u8 (tv o.t), .string o.d]) ?_ rfl ⟨rfl, ?_⟩
  · exact results_cell1 rfl _ _ _ rfl (by go_simp)
  · first
      | exact ((hB1.setCell (p := ⟨w.heap.size + 1, 0, none⟩) (by simp) _).setCell (p := ⟨w.heap.size + 1, 1, none⟩) (by simp) _)
      | exact (((hB1.setCell (p := ⟨w.heap.size + 1, 0, none⟩) (by simp) _).setCell (p := ⟨w.heap.size + 1, 1, none⟩) (by simp) _).setCell (p := ⟨w.heap.size + 1, 0, none⟩) (by simp) _).setCell (p := ⟨w.heap.size + 1, 1, none⟩) (by simp) _
/-- Which kind a good option is. -/
def kof (o : Opt) : Nat := if o.t = 3 then 0 else if o.t = 129 then 1 else 2
def Icp.set (x : Icp) (k : Nat) (v : UInt32) : Icp := if k = 0 then { x with ha := true, a := v } else if k = 1 then { x with h1 := true, d1 := v } else { x with h2 := true, d2 := v }
/-- What Get answers, of what is left, behind what was. -/
def getL : List Opt → Icp → List Opt → Icp × List Opt × Int
  | [], x, odd => (x, odd, 0)
  | o :: l, x, odd => if goodO o = true then (if x.has (kof o) = true then (noI, [], 9) else getL l (x.set (kof o) (ad4 o.d)) odd) else getL l x (odd ++ [o])
def getI (l : List Opt) : Icp × List Opt × Int := getL l noI []
theorem good_is {o : Opt} {k : Nat} (hk : k < 3) (h : isK k o) : goodO o = true ∧ kof o = k := by
  rw [isK_any]
  obtain ⟨h1, h2⟩ := h
  rcases (show k = 0 ∨ k = 1 ∨ k = 2 by omega) with rfl | rfl | rfl
  · exact ⟨decide_eq_true (.inl ⟨h1, h2⟩), by unfold kof; rw [h1]; rfl⟩
  · exact ⟨decide_eq_true (.inr (.inl ⟨h1, h2⟩)), by unfold kof; rw [h1]; rfl⟩
  · exact ⟨decide_eq_true (.inr (.inr ⟨h1, h2⟩)), by unfold kof; rw [h1]; rfl⟩
theorem get_has {l : List Opt} {o : Opt} {x : Icp} {odd : List Opt} {k : Nat} (hk : k < 3) (h : isK k o) (hx : x.has k = true) : getL (o :: l) x odd = (noI, [], 9) := by
  obtain ⟨h1, h2⟩ := good_is hk h
  rw [getL, if_pos h1, h2, if_pos hx]
theorem get_new {l : List Opt} {o : Opt} {x : Icp} {odd : List Opt} {k : Nat} (hk : k < 3) (h : isK k o) (hx : x.has k = false) : getL (o :: l) x odd = getL l (x.set k (ad4 o.d)) odd := by
  obtain ⟨h1, h2⟩ := good_is hk h
  rw [getL, if_pos h1, h2, if_neg (by rw [hx]; decide)]
theorem get_odd {l : List Opt} {o : Opt} {x : Icp} {odd : List Opt} (h : goodO o = false) : getL (o :: l) x odd = getL l x (odd ++ [o]) := by
  rw [getL, if_neg (by rw [h]; decide)]
theorem findV_k {o : Opt} {k : Nat} (hk : k < 3) (h : isK k o) : findV o = .tuple #[.agg #[.int .u8 (tv (tk k)), .func (.func (89 + k)) #[] #[]], .int .u32 (nv (ad4 o.d)), .bool true] := by
  have ne : ∀ j, j < 3 → j ≠ k → ¬ isK j o := fun j hj hne hj2 => hne ((good_is hj hj2).2.symm.trans (good_is hk h).2)
  unfold findV
  rcases (show k = 0 ∨ k = 1 ∨ k = 2 by omega) with rfl | rfl | rfl
  · rw [if_pos h]; rfl
  · rw [if_neg (ne 0 (by omega) (by omega)), if_pos h]; rfl
  · rw [if_neg (ne 0 (by omega) (by omega)), if_neg (ne 1 (by omega) (by omega)), if_pos h]; rfl
theorem findV_no {o : Opt} (h : ∀ k, k < 3 → ¬ isK k o) : findV o = .tuple #[.agg #[.int .u8 0, .nilFunc], .int .u32 0, .bool false] ∧ goodO o = false := by
  have h0 := h 0 (by omega); have h1 := h 1 (by omega); have h2 := h 2 (by omega)
  refine ⟨by unfold findV; rw [if_neg h0, if_neg h1, if_neg h2], ?_⟩
  rw [isK_any]
  exact decide_eq_false (by simp [h0, h1, h2])
theorem kinds_cases (o : Opt) : (∃ k, k < 3 ∧ isK k o) ∨ ∀ k, k < 3 → ¬ isK k o := by
  by_cases h : ∃ k, k < 3 ∧ isK k o
  · exact .inl h
  · exact .inr fun k hk hh => h ⟨k, hk, hh⟩
theorem own_one {W : World} {B g n : Nat} {v : Value} {xs : List Value} {cs : Array Value} (h : W.ownsRow B 57 2 v n xs) (hb : W.heap[g]? = some (.cells cs 36 (0, 0))) (i : Nat) (u : Value) : (W.setCell ⟨g, i, none⟩ u).ownsRow B 57 2 v n xs :=
  own_setCell h (own_ne h hb (by decide)) u
theorem own_six {W : World} {B g n : Nat} {v : Value} {xs : List Value} {cs : Array Value} (h : W.ownsRow B 57 2 v n xs) (hb : W.heap[g]? = some (.cells cs 36 (0, 0))) (u0 u1 u2 u3 u4 u5 : Value) :
    ((((((W.setCell ⟨g, 0, none⟩ u0).setCell ⟨g, 1, none⟩ u1).setCell ⟨g, 2, none⟩ u2).setCell ⟨g, 3, none⟩ u3).setCell ⟨g, 4, none⟩ u4).setCell ⟨g, 5, none⟩ u5).ownsRow B 57 2 v n xs := by
  have b0 := blk_set hb 0 u0
  have b1 := blk_set b0 1 u1
  have b2 := blk_set b1 2 u2
  have b3 := blk_set b2 3 u3
  have b4 := blk_set b3 4 u4
  exact own_one (own_one (own_one (own_one (own_one (own_one h hb 0 u0) b0 1 u1) b1 2 u2) b2 3 u3) b3 4 u4) b4 5 u5
set_option maxHeartbeats 8000000 in
set_option maxRecDepth 100000 in
theorem geti_calls (l : List Opt) (a : Option Addr) (c : Nat) (w : World) (h : Row w a c l) (hs : l.length < 1000000) (hK : K w) :
    Calls Tryd.prog 11 #[.slice a l.length c] w fun e w' => ∃ v, e = .returned (.tuple #[.agg (getI l).1.cells, v, .int .i64 (getI l).2.2]) ∧ IsRow w' v (getI l).2.1 ∧ Below w.heap.size w w' := by
  have hu57 := Tryd.underlying57
  have c0 := Lib.hid h.1
  obtain ⟨i0, hi, hz⟩ := Option.map_eq_some_iff.1 info57
  simp only [Prod.mk.injEq] at hz
  obtain ⟨hz0, hz1, hz2⟩ := hz
  go_enter Tryd.func11, Tryd.ntmps11
  go_wp2
  go_loopg [3, 4, 14] l.length (fun q odd e i wr => ∃ (j : Nat) (x : Icp) (od : List Opt), j ≤ l.length ∧ q = l.length - j ∧ i = .int .i64 (j : Int) ∧ e = .int .i64 0 ∧ Hid (getI l = getL (l.drop j) x od) ∧ od.length ≤ j ∧ wr.ownsRow w.heap.size 57 2 odd od.length (optCells od) ∧
    wr.heap[w.heap.size]? = some (.cells x.cells 36 (0, 0)) ∧ Below w.heap.size w wr)
  case atStart => exact ⟨0, noI, [], by omega, rfl, rfl, rfl, Lib.hid rfl, Nat.le_refl _, World.ownsRow_nil _ _ _ _, alloc_new _ _ _ rfl, (Below.refl _ _).alloc (Nat.le_refl _) _⟩
  case round =>
    obtain ⟨j, ⟨ha, a', h1, d1, h2, d2⟩, od, hj, hq, rfl, rfl, hgl, hod, hrow, b0, hB⟩ := hrel
    have hxc : (Icp.mk ha a' h1 d1 h2 d2).cells = #[.bool ha, .int .u32 (nv a'), .bool h1, .int .u32 (nv d1), .bool h2, .int .u32 (nv d2)] := rfl
    rw [hxc] at b0
    clear hxc
    have A := Lib.hid hq; clear hq
    have hsz := hB.size
    have z0 := (Array.getElem?_eq_some_iff.1 b0).1
    have hKr := hK.below hB
    by_cases hlt : j < l.length
    · have q1 : decide ((j : Int) < (l.length : Int)) = true := by simp; omega
      obtain ⟨x, rfl, x0, x1⟩ := (h.below hB).at_ j hlt
      have hdr : Hid (l.drop j = l[j] :: l.drop (j + 1)) := Lib.hid (List.drop_eq_getElem_cons hlt)
      have hal := optCells_length od
      generalize l[j] = o at *
      have hF := fun w hK => find_k o w hK
      have bo : ∀ w1, Below (wr.alloc (.cells #[.int .u8 (tv o.t), .string o.d] 57)).heap.size (wr.alloc (.cells #[.int .u8 (tv o.t), .string o.d] 57)) w1 → w1.heap[wr.heap.size]? = some (.cells #[.int .u8 (tv o.t), .string o.d] 57 (0, 0)) := fun w1 hb => (hb.block _ (by simp)).trans (alloc_new _ _ _ rfl)
      have bx : ∀ w1, Below (wr.alloc (.cells #[.int .u8 (tv o.t), .string o.d] 57)).heap.size (wr.alloc (.cells #[.int .u8 (tv o.t), .string o.d] 57)) w1 → w1.heap[w.heap.size]? = some (.cells #[.bool ha, .int .u32 (nv a'), .bool h1, .int .u32 (nv d1), .bool h2, .int .u32 (nv d2)] 36 (0, 0)) := fun w1 hb => (hb.block _ (by simp; omega)).trans ((Lib.alloc_old _ _ _ z0).trans b0)
      have hKa : K (wr.alloc (.cells #[.int .u8 (tv o.t), .string o.d] 57)) := hKr.below ((Below.refl _ _).alloc (Nat.le_refl _) _)
      have hBa := hB.alloc hsz (.cells #[.int .u8 (tv o.t), .string o.d] 57)
      have hra := hrow.alloc (.cells #[.int .u8 (tv o.t), .string o.d] 57)
      rcases kinds_cases o with ⟨k, hk, hko⟩ | hno
      · have hfk := findV_k hk hko
        rw [hfk] at hF
        clear hfk
        rcases (show k = 0 ∨ k = 1 ∨ k = 2 by omega) with rfl | rfl | rfl
        · cases ha with
          | true =>
            have hg := Lib.hid ((hgl.out.trans (congrArg (fun q => getL q _ _) hdr.out)).trans (get_has hk hko (rfl : Icp.has ⟨true, a', h1, d1, h2, d2⟩ 0 = true)))
            have Hko := Lib.hid hko; clear hko
            go_wp2_with (first
              | (go_at_call 31; with_reducible refine (hF _ hKa).mono ?_; rintro e w1 ⟨rfl, hb1⟩
                 have o1 := bo _ hb1
                 have x1' := bx _ hb1
                 have r1 := own_below hra hb1
                 have hB1 := hBa.trans (hb1.mono hBa.size)
                 have y0 := (Array.getElem?_eq_some_iff.1 x1').1
                 clear bo bx hra hBa hKa hF hb1)
              | (go_at_call 89; with_reducible refine (ptr0_calls w.heap.size _).mono ?_; rintro e w2 ⟨rfl, hb2⟩
                 have x2' : w2.heap[w.heap.size]? = some (.cells #[.bool true, .int .u32 (nv a'), .bool h1, .int .u32 (nv d1), .bool h2, .int .u32 (nv d2)] 36 (0, 0)) := (hb2.block _ (by simp; omega)).trans ((Lib.alloc_old _ _ _ y0).trans x1')
                 have r2 := own_below (r1.alloc _) hb2
                 have hB2 := (hB1.alloc hB1.size _).trans (hb2.mono (by have := hB1.size; simp; omega))
                 have e0 := fun i => blk_cell x2' i
                 have e1 := fun i => blk_frozen x2' i
                 have X2 := Lib.hid x2'
                 clear x2' r1 hB1 hb2 x1' o1))
            (try simp only [Exit.inBlock, Exit.then])
            have b4 := blk_set (blk_set (blk_set (blk_set (blk_set (blk_set X2.out 0 (.bool false)) 1 (.int .u32 0)) 2 (.bool false)) 3 (.int .u32 0)) 4 (.bool false)) 5 (.int .u32 0)
            have g0 := fun i => blk_cell b4 i
            have g1 := fun i => blk_frozen b4 i
            refine bodyPost_ret (v := .tuple #[.agg noI.cells, .slice none 0 0, .int .i64 9]) ?_ rfl ?_
            · exact results_cell_tt rfl _ _ _ rfl rfl rfl (by go_simp; try rfl)
            · rw [hg.out]
              refine ⟨_, rfl, ⟨none, 0, rfl, row_nil _ _ _⟩, ?_⟩
              exact (((((hB2.setCell (p := ⟨w.heap.size, 0, none⟩) (Nat.le_refl _) _).setCell (p := ⟨w.heap.size, 1, none⟩) (Nat.le_refl _) _).setCell (p := ⟨w.heap.size, 2, none⟩) (Nat.le_refl _) _).setCell (p := ⟨w.heap.size, 3, none⟩) (Nat.le_refl _) _).setCell (p := ⟨w.heap.size, 4, none⟩) (Nat.le_refl _) _).setCell (p := ⟨w.heap.size, 5, none⟩) (Nat.le_refl _) _
          | false =>
            have hg := Lib.hid ((hgl.out.trans (congrArg (fun q => getL q _ _) hdr.out)).trans (get_new hk hko (rfl : Icp.has ⟨false, a', h1, d1, h2, d2⟩ 0 = false)))
            have Hko := Lib.hid hko; clear hko
            go_wp2_with (first
              | (go_at_call 31; with_reducible refine (hF _ hKa).mono ?_; rintro e w1 ⟨rfl, hb1⟩
                 have o1 := bo _ hb1
                 have x1' := bx _ hb1
                 have r1 := own_below hra hb1
                 have hB1 := hBa.trans (hb1.mono hBa.size)
                 have y0 := (Array.getElem?_eq_some_iff.1 x1').1
                 clear bo bx hra hBa hKa hF hb1)
              | (go_at_call 89; with_reducible refine (ptr0_calls w.heap.size _).mono ?_; rintro e w2 ⟨rfl, hb2⟩
                 have x2' : w2.heap[w.heap.size]? = some (.cells #[.bool false, .int .u32 (nv a'), .bool h1, .int .u32 (nv d1), .bool h2, .int .u32 (nv d2)] 36 (0, 0)) := (hb2.block _ (by simp; omega)).trans ((Lib.alloc_old _ _ _ y0).trans x1')
                 have r2 := own_below (r1.alloc _) hb2
                 have hB2 := (hB1.alloc hB1.size _).trans (hb2.mono (by have := hB1.size; simp; omega))
                 have e0 := fun i => blk_cell x2' i
                 have e1 := fun i => blk_frozen x2' i
                 have X2 := Lib.hid x2'
                 clear x2' r1 hB1 hb2 x1' o1))
            go_roundg (l.length - (j + 1))
            case measure => have := A.out; omega
            case rel =>
              refine ⟨j + 1, _, od, by omega, rfl, by go_num, rfl, hg, by omega, ?_, blk_set (blk_set X2.out 0 (.bool true)) 1 (.int .u32 (nv (ad4 o.d))), (hB2.setCell (p := ⟨w.heap.size, 0, none⟩) (Nat.le_refl _) _).setCell (p := ⟨w.heap.size, 1, none⟩) (Nat.le_refl _) _⟩
              exact own_setCell (own_setCell r2 (own_ne r2 X2.out (by decide)) (.bool true)) (own_ne (own_setCell r2 (own_ne r2 X2.out (by decide)) (.bool true)) (blk_set X2.out 0 (.bool true)) (by decide)) _
        · cases h1 with
          | true =>
            have hg := Lib.hid ((hgl.out.trans (congrArg (fun q => getL q _ _) hdr.out)).trans (get_has hk hko (rfl : Icp.has ⟨ha, a', true, d1, h2, d2⟩ 1 = true)))
            have Hko := Lib.hid hko; clear hko
            go_wp2_with (first
              | (go_at_call 31; with_reducible refine (hF _ hKa).mono ?_; rintro e w1 ⟨rfl, hb1⟩
                 have o1 := bo _ hb1
                 have x1' := bx _ hb1
                 have r1 := own_below hra hb1
                 have hB1 := hBa.trans (hb1.mono hBa.size)
                 have y0 := (Array.getElem?_eq_some_iff.1 x1').1
                 clear bo bx hra hBa hKa hF hb1)
              | (go_at_call 90; with_reducible refine (ptr1_calls w.heap.size _).mono ?_; rintro e w2 ⟨rfl, hb2⟩
                 have x2' : w2.heap[w.heap.size]? = some (.cells #[.bool ha, .int .u32 (nv a'), .bool true, .int .u32 (nv d1), .bool h2, .int .u32 (nv d2)] 36 (0, 0)) := (hb2.block _ (by simp; omega)).trans ((Lib.alloc_old _ _ _ y0).trans x1')
                 have r2 := own_below (r1.alloc _) hb2
                 have hB2 := (hB1.alloc hB1.size _).trans (hb2.mono (by have := hB1.size; simp; omega))
                 have e0 := fun i => blk_cell x2' i
                 have e1 := fun i => blk_frozen x2' i
                 have X2 := Lib.hid x2'
                 clear x2' r1 hB1 hb2 x1' o1))
            (try simp only [Exit.inBlock, Exit.then])
            have b4 := blk_set (blk_set (blk_set (blk_set (blk_set (blk_set X2.out 0 (.bool false)) 1 (.int .u32 0)) 2 (.bool false)) 3 (.int .u32 0)) 4 (.bool false)) 5 (.int .u32 0)
            have g0 := fun i => blk_cell b4 i
            have g1 := fun i => blk_frozen b4 i
            refine bodyPost_ret (v := .tuple #[.agg noI.cells, .slice none 0 0, .int .i64 9]) ?_ rfl ?_
            · exact results_cell_tt rfl _ _ _ rfl rfl rfl (by go_simp; try rfl)
            · rw [hg.out]
              refine ⟨_, rfl, ⟨none, 0, rfl, row_nil _ _ _⟩, ?_⟩
              exact (((((hB2.setCell (p := ⟨w.heap.size, 0, none⟩) (Nat.le_refl _) _).setCell (p := ⟨w.heap.size, 1, none⟩) (Nat.le_refl _) _).setCell (p := ⟨w.heap.size, 2, none⟩) (Nat.le_refl _) _).setCell (p := ⟨w.heap.size, 3, none⟩) (Nat.le_refl _) _).setCell (p := ⟨w.heap.size, 4, none⟩) (Nat.le_refl _) _).setCell (p := ⟨w.heap.size, 5, none⟩) (Nat.le_refl _) _
          | false =>
            have hg := Lib.hid ((hgl.out.trans (congrArg (fun q => getL q _ _) hdr.out)).trans (get_new hk hko (rfl : Icp.has ⟨ha, a', false, d1, h2, d2⟩ 1 = false)))
            have Hko := Lib.hid hko; clear hko
            go_wp2_with (first
              | (go_at_call 31; with_reducible refine (hF _ hKa).mono ?_; rintro e w1 ⟨rfl, hb1⟩
                 have o1 := bo _ hb1
                 have x1' := bx _ hb1
                 have r1 := own_below hra hb1
                 have hB1 := hBa.trans (hb1.mono hBa.size)
                 have y0 := (Array.getElem?_eq_some_iff.1 x1').1
                 clear bo bx hra hBa hKa hF hb1)
              | (go_at_call 90; with_reducible refine (ptr1_calls w.heap.size _).mono ?_; rintro e w2 ⟨rfl, hb2⟩
                 have x2' : w2.heap[w.heap.size]? = some (.cells #[.bool ha, .int .u32 (nv a'), .bool false, .int .u32 (nv d1), .bool h2, .int .u32 (nv d2)] 36 (0, 0)) := (hb2.block _ (by simp; omega)).trans ((Lib.alloc_old _ _ _ y0).trans x1')
                 have r2 := own_below (r1.alloc _) hb2
                 have hB2 := (hB1.alloc hB1.size _).trans (hb2.mono (by have := hB1.size; simp; omega))
                 have e0 := fun i => blk_cell x2' i
                 have e1 := fun i => blk_frozen x2' i
                 have X2 := Lib.hid x2'
                 clear x2' r1 hB1 hb2 x1' o1))
            go_roundg (l.length - (j + 1))
            case measure => have := A.out; omega
            case rel =>
              refine ⟨j + 1, _, od, by omega, rfl, by go_num, rfl, hg, by omega, ?_, blk_set (blk_set X2.out 2 (.bool true)) 3 (.int .u32 (nv (ad4 o.d))), (hB2.setCell (p := ⟨w.heap.size, 2, none⟩) (Nat.le_refl _) _).setCell (p := ⟨w.heap.size, 3, none⟩) (Nat.le_refl _) _⟩
              exact own_setCell (own_setCell r2 (own_ne r2 X2.out (by decide)) (.bool true)) (own_ne (own_setCell r2 (own_ne r2 X2.out (by decide)) (.bool true)) (blk_set X2.out 2 (.bool true)) (by decide)) _
        · cases h2 with
          | true =>
            have hg := Lib.hid ((hgl.out.trans (congrArg (fun q => getL q _ _) hdr.out)).trans (get_has hk hko (rfl : Icp.has ⟨ha, a', h1, d1, true, d2⟩ 2 = true)))
            have Hko := Lib.hid hko; clear hko
            go_wp2_with (first
              | (go_at_call 31; with_reducible refine (hF _ hKa).mono ?_; rintro e w1 ⟨rfl, hb1⟩
                 have o1 := bo _ hb1
                 have x1' := bx _ hb1
                 have r1 := own_below hra hb1
                 have hB1 := hBa.trans (hb1.mono hBa.size)
                 have y0 := (Array.getElem?_eq_some_iff.1 x1').1
                 clear bo bx hra hBa hKa hF hb1)
              | (go_at_call 91; with_reducible refine (ptr2_calls w.heap.size _).mono ?_; rintro e w2 ⟨rfl, hb2⟩
                 have x2' : w2.heap[w.heap.size]? = some (.cells #[.bool ha, .int .u32 (nv a'), .bool h1, .int .u32 (nv d1), .bool true, .int .u32 (nv d2)] 36 (0, 0)) := (hb2.block _ (by simp; omega)).trans ((Lib.alloc_old _ _ _ y0).trans x1')
                 have r2 := own_below (r1.alloc _) hb2
                 have hB2 := (hB1.alloc hB1.size _).trans (hb2.mono (by have := hB1.size; simp; omega))
                 have e0 := fun i => blk_cell x2' i
                 have e1 := fun i => blk_frozen x2' i
                 have X2 := Lib.hid x2'
                 clear x2' r1 hB1 hb2 x1' o1))
            (try simp only [Exit.inBlock, Exit.then])
            have b4 := blk_set (blk_set (blk_set (blk_set (blk_set (blk_set X2.out 0 (.bool false)) 1 (.int .u32 0)) 2 (.bool false)) 3 (.int .u32 0)) 4 (.bool false)) 5 (.int .u32 0)
            have g0 := fun i => blk_cell b4 i
            have g1 := fun i => blk_frozen b4 i
            refine bodyPost_ret (v := .tuple #[.agg noI.cells, .slice none 0 0, .int .i64 9]) ?_ rfl ?_
            · exact results_cell_tt rfl _ _ _ rfl rfl rfl (by go_simp; try rfl)
            · rw [hg.out]
              refine ⟨_, rfl, ⟨none, 0, rfl, row_nil _ _ _⟩, ?_⟩
              exact (((((hB2.setCell (p := ⟨w.heap.size, 0, none⟩) (Nat.le_refl _) _).setCell (p := ⟨w.heap.size, 1, none⟩) (Nat.le_refl _) _).setCell (p := ⟨w.heap.size, 2, none⟩) (Nat.le_refl _) _).setCell (p := ⟨w.heap.size, 3, none⟩) (Nat.le_refl _) _).setCell (p := ⟨w.heap.size, 4, none⟩) (Nat.le_refl _) _).setCell (p := ⟨w.heap.size, 5, none⟩) (Nat.le_refl _) _
          | false =>
            have hg := Lib.hid ((hgl.out.trans (congrArg (fun q => getL q _ _) hdr.out)).trans (get_new hk hko (rfl : Icp.has ⟨ha, a', h1, d1, false, d2⟩ 2 = false)))
            have Hko := Lib.hid hko; clear hko
            go_wp2_with (first
              | (go_at_call 31; with_reducible refine (hF _ hKa).mono ?_; rintro e w1 ⟨rfl, hb1⟩
                 have o1 := bo _ hb1
                 have x1' := bx _ hb1
                 have r1 := own_below hra hb1
                 have hB1 := hBa.trans (hb1.mono hBa.size)
                 have y0 := (Array.getElem?_eq_some_iff.1 x1').1
                 clear bo bx hra hBa hKa hF hb1)
              | (go_at_call 91; with_reducible refine (ptr2_calls w.heap.size _).mono ?_; rintro e w2 ⟨rfl, hb2⟩
                 have x2' : w2.heap[w.heap.size]? = some (.cells #[.bool ha, .int .u32 (nv a'), .bool h1, .int .u32 (nv d1), .bool false, .int .u32 (nv d2)] 36 (0, 0)) := (hb2.block _ (by simp; omega)).trans ((Lib.alloc_old _ _ _ y0).trans x1')
                 have r2 := own_below (r1.alloc _) hb2
                 have hB2 := (hB1.alloc hB1.size _).trans (hb2.mono (by have := hB1.size; simp; omega))
                 have e0 := fun i => blk_cell x2' i
                 have e1 := fun i => blk_frozen x2' i
                 have X2 := Lib.hid x2'
                 clear x2' r1 hB1 hb2 x1' o1))
            go_roundg (l.length - (j + 1))
            case measure => have := A.out; omega
            case rel =>
              refine ⟨j + 1, _, od, by omega, rfl, by go_num, rfl, hg, by omega, ?_, blk_set (blk_set X2.out 4 (.bool true)) 5 (.int .u32 (nv (ad4 o.d))), (hB2.setCell (p := ⟨w.heap.size, 4, none⟩) (Nat.le_refl _) _).setCell (p := ⟨w.heap.size, 5, none⟩) (Nat.le_refl _) _⟩
              exact own_setCell (own_setCell r2 (own_ne r2 X2.out (by decide)) (.bool true)) (own_ne (own_setCell r2 (own_ne r2 X2.out (by decide)) (.bool true)) (blk_set X2.out 4 (.bool true)) (by decide)) _
      · obtain ⟨hfn, hgf⟩ := findV_no hno
        rw [hfn] at hF
        clear hfn
        have hg := Lib.hid ((hgl.out.trans (congrArg (fun q => getL q _ _) hdr.out)).trans (get_odd hgf))
        clear hgf hno
        go_wp2_with (first
          | (go_at_call 31; with_reducible refine (hF _ hKa).mono ?_; rintro e w1 ⟨rfl, hb1⟩
             have o1 := bo _ hb1
             have x1' := bx _ hb1
             have r1 := own_below hra hb1
             have hB1 := hBa.trans (hb1.mono hBa.size)
             have y0 := (Array.getElem?_eq_some_iff.1 x1').1
             have y1 := (Array.getElem?_eq_some_iff.1 o1).1
             have oc : ∀ ob, (w1.alloc ob).heap[wr.heap.size]? = some (.cells #[.int .u8 (tv o.t), .string o.d] 57 (0, 0)) := fun ob => (Lib.alloc_old _ _ _ y1).trans o1
             have e0 := fun ob => blk_cell (oc ob) 0
             have e1 := fun ob => blk_cell (oc ob) 1
             clear bo bx hra hBa hKa hF hb1 oc)
          | (at_builtin; refine wpList_append_own _ rfl _ _ 32 rfl w.heap.size 57 i0 (.agg #[.int .u8 0, .string ⟨#[]⟩]) 2 24 und32 hi hz0 hz1 hz2 rfl (by decide) _ _ _ rfl ((r1.alloc _).alloc _) ⟨w1.heap.size + 1, 0, none⟩ 1 1 [.int .u8 (tv o.t), .string o.d] (by go_simp) rfl (by have := cell_two (w1.alloc (.cells #[.int .u8 0, .nilFunc] 73)) (.int .u8 (tv o.t)) (.string o.d) 57; rw [World.size_alloc] at this; exact this) (by simp [Value.oneCell']) (by unfold maxLen; omega) (by omega) (by have := hB1.size; simp; omega) ?_
             intro v' w2 hown' hgrow _
             have x2a := (Lib.alloc_old (w1.alloc (.cells #[.int .u8 0, .nilFunc] 73)) (.cells #[.int .u8 (tv o.t), .string o.d] 57) _ (by simp; omega)).trans ((Lib.alloc_old w1 (.cells #[.int .u8 0, .nilFunc] 73) _ y0).trans x1')
             have x2' := (hgrow.block w.heap.size ((Array.getElem?_eq_some_iff.1 x2a).1) (own_ne ((r1.alloc _).alloc _) x2a (by decide))).trans x2a
             have hB2 := ((hB1.alloc hB1.size (.cells #[.int .u8 0, .nilFunc] 73)).alloc (by have := hB1.size; simp; omega) (.cells #[.int .u8 (tv o.t), .string o.d] 57)).grown hgrow (by have := hB1.size; simp; omega) (own_base r1)))
        go_roundg (l.length - (j + 1))
        case measure => have := A.out; omega
        case rel =>
          refine ⟨j + 1, _, od ++ [o], by omega, rfl, by go_num, rfl, hg, by simp; omega, ?_, x2', hB2⟩
          rw [List.length_append, optCells_append]
          exact hown'
    · obtain rfl : j = l.length := by omega
      have q1 : decide ((l.length : Int) < (l.length : Int)) = false := by simp
      have hg : getI l = (⟨ha, a', h1, d1, h2, d2⟩, od, 0) := by rw [hgl.out, List.drop_length]; rfl
      have hg' := Lib.hid hg; clear hg
      have e0 := fun i => blk_cell b0 i
      have e1 := fun i => blk_frozen b0 i
      have B0 := Lib.hid b0
      have h6 := own_six hrow B0.out (.bool ha) (.int .u32 (nv a')) (.bool h1) (.int .u32 (nv d1)) (.bool h2) (.int .u32 (nv d2))
      obtain ⟨ra, rc, rfl, orow⟩ := row_own h6
      clear b0
      go_wp2
      (try simp only [Exit.inBlock, Exit.then])
      have b4 := blk_set (blk_set (blk_set (blk_set (blk_set (blk_set B0.out 0 (.bool ha)) 1 (.int .u32 (nv a'))) 2 (.bool h1)) 3 (.int .u32 (nv d1))) 4 (.bool h2)) 5 (.int .u32 (nv d2))
      have g0 := fun i => blk_cell b4 i
      have g1 := fun i => blk_frozen b4 i
      have hb6 := (((((hB.setCell (p := ⟨w.heap.size, 0, none⟩) (Nat.le_refl _) (.bool ha)).setCell (p := ⟨w.heap.size, 1, none⟩) (Nat.le_refl _) (.int .u32 (nv a'))).setCell (p := ⟨w.heap.size, 2, none⟩) (Nat.le_refl _) (.bool h1)).setCell (p := ⟨w.heap.size, 3, none⟩) (Nat.le_refl _) (.int .u32 (nv d1))).setCell (p := ⟨w.heap.size, 4, none⟩) (Nat.le_refl _) (.bool h2)).setCell (p := ⟨w.heap.size, 5, none⟩) (Nat.le_refl _) (.int .u32 (nv d2))
      refine bodyPost_ret (v := .tuple #[.agg (Icp.mk ha a' h1 d1 h2 d2).cells, .slice ra od.length rc, .int .i64 0]) ?_ rfl ?_
      · exact results_cell_tt rfl _ _ _ rfl rfl rfl (by go_simp; try rfl)
      · rw [hg'.out]
        exact ⟨_, rfl, ⟨ra, rc, rfl, orow⟩, hb6⟩
end Go.Proofs.YtlcckkdkcbelhaaDoor
