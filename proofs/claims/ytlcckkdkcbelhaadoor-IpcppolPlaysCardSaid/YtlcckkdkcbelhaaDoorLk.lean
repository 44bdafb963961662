/-
  Layer 15 (ipcppol): look, walked.
-/
import Derived.Test.YtlcckkdkcbelhaaDoorKf
import Derived.Deep.CutRange
import Derived.Deep.CutBlock
set_option linter.unusedVariables false
set_option linter.unusedSimpArgs false
namespace Go.Proofs.YtlcckkdkcbelhaaDoor
open Go.RowKit Go.Proofs.YtlcckkdkcbelhaaDoorW.PrintWords Go.Proofs.YtlcckkdkcbelhaaDoorW.PrintLast

theorem head_told (f : List Opt) : headV f = .tuple #[.agg #[.int .u8 (tv (f.headD noOpt).t), .string (f.headD noOpt).d], .bool (!f.isEmpty)] := by
  cases f with
  | nil => rfl
  | cons o f => rfl
theorem row_take {w : World} {a : Option Addr} {c : Nat} {l : List Opt} (h : Row w a c l) (j : Nat) : Row w a c (l.take j) := by
  refine ⟨by rw [List.length_take]; have := h.1; omega, ?_⟩
  rcases h.2 with h0 | ⟨x, e, hc⟩
  · exact .inl (by rw [List.length_take]; omega)
  · refine .inr ⟨x, e, fun j' u hj => hc j' u ?_⟩
    rw [show l = l.take j ++ l.drop j from (List.take_append_drop j l).symm, optCells_append, List.getElem?_append_left (List.getElem?_eq_some_iff.1 hj).1]
    exact hj
theorem row_new (W : World) (o : Opt) : Row (W.alloc (.cells #[.int .u8 (tv o.t), .string o.d] 57)) (some ⟨W.heap.size, 0, none⟩) 1 [o] :=
  ⟨Nat.le_refl _, .inr ⟨_, rfl, fun j u hj => cell_two W _ _ 57 j u hj⟩⟩
/-- How things stand in a round. -/
structure Cx (w W : World) (r n k : Value) (v : V3) (ob : Nat) (o : Opt) : Prop where
  blk : W.heap[w.heap.size]? = some (.cells #[r, n, k] 68 (0, 0))
  rows : Three W w.heap.size r n k v.r v.n v.c
  obk : W.heap[ob]? = some (.cells #[.int .u8 (tv o.t), .string o.d] 57 (0, 0))
  nob : some ob ≠ r.ownBlock ∧ some ob ≠ n.ownBlock ∧ some ob ≠ k.ownBlock
  bel : Below w.heap.size w W
theorem Cx.below {w W W' : World} {r n k : Value} {v : V3} {ob : Nat} {o : Opt} (h : Cx w W r n k v ob o) (hb : Below W.heap.size W W') : Cx w W' r n k v ob o :=
  ⟨(hb.block _ ((Array.getElem?_eq_some_iff.1 h.blk).1)).trans h.blk, h.rows.below hb, (hb.block _ ((Array.getElem?_eq_some_iff.1 h.obk).1)).trans h.obk, h.nob, h.bel.trans (hb.mono h.bel.size)⟩
theorem Cx.alloc {w W : World} {r n k : Value} {v : V3} {ob : Nat} {o : Opt} (h : Cx w W r n k v ob o) (c : Obj) : Cx w (W.alloc c) r n k v ob o := h.below ((Below.refl _ _).alloc (Nat.le_refl _) _)
theorem Cx.drew {w W : World} {r n k : Value} {v : V3} {ob : Nat} {o : Opt} (h : Cx w W r n k v ob o) : Cx w W.drew r n k v ob o := h.below (below_drew (Below.refl _ _))
theorem Cx.set {w W : World} {r n k : Value} {v : V3} {ob : Nat} {o : Opt} (h : Cx w W r n k v ob o) (q i : Nat) (u : Value) (hq : w.heap.size < q) (hqo : ob ≠ q) (h1 : some q ≠ r.ownBlock) (h2 : some q ≠ n.ownBlock) (h3 : some q ≠ k.ownBlock) : Cx w (W.setCell ⟨q, i, none⟩ u) r n k v ob o :=
  ⟨(Below.heap_setCell W ⟨q, i, none⟩ u _ (by simp only; omega)).trans h.blk, ⟨own_setCell h.rows.own1 h1 u, own_setCell h.rows.own2 h2 u, own_setCell h.rows.own3 h3 u, h.rows.rn, h.rows.rc, h.rows.nc⟩,
    (Below.heap_setCell W ⟨q, i, none⟩ u _ hqo).trans h.obk, h.nob, h.bel.setCell (p := ⟨q, i, none⟩) (by simp only; omega) u⟩
theorem own_form {w : World} {B n : Nat} {v : Value} {xs : List Value} (h : w.ownsRow B 57 2 v n xs) : ∃ a c, v = .slice a n c := by
  rcases h.2 with ⟨rfl, h0⟩ | ⟨g, cap, cur, rfl, _⟩
  · exact ⟨none, 0, by rw [h0]⟩
  · exact ⟨_, _, rfl⟩
theorem Cx.push_r {w W W' : World} {r r' n k : Value} {v : V3} {ob : Nat} {o : Opt} (h : Cx w W r n k v ob o) (hown : W'.ownsRow w.heap.size 57 2 r' (v.r.length + 1) (optCells v.r ++ [.int .u8 (tv o.t), .string o.d]))
    (hg : (W.alloc (.cells #[.int .u8 (tv o.t), .string o.d] 57)).grownBy W' r.ownBlock) (hat : r'.ownBlock = r.ownBlock ∨ r'.ownBlock = some (W.alloc (.cells #[.int .u8 (tv o.t), .string o.d] 57)).heap.size) :
    (W'.setCell ⟨w.heap.size, 0, none⟩ r').heap[w.heap.size]? = some (.cells #[r', n, k] 68 (0, 0)) ∧ Three (W'.setCell ⟨w.heap.size, 0, none⟩ r') w.heap.size r' n k (v.r ++ [o]) v.n v.c ∧ Below w.heap.size w (W'.setCell ⟨w.heap.size, 0, none⟩ r') := by
  have ha := h.alloc (.cells #[.int .u8 (tv o.t), .string o.d] 57)
  have hb := (hg.block w.heap.size ((Array.getElem?_eq_some_iff.1 ha.blk).1) (own_ne ha.rows.own1 ha.blk (by decide))).trans ha.blk
  have h3 := ha.rows.push hown hg hat
  refine ⟨blk_set hb 0 r', ⟨own_setCell h3.own1 (own_ne h3.own1 hb (by decide)) r', own_setCell h3.own2 (own_ne h3.own2 hb (by decide)) r', own_setCell h3.own3 (own_ne h3.own3 hb (by decide)) r', h3.rn, h3.rc, h3.nc⟩, ?_⟩
  exact (ha.bel.grown hg ha.bel.size (own_base ha.rows.own1)).setCell (p := ⟨w.heap.size, 0, none⟩) (Nat.le_refl _) r'
theorem run_step {c : Conf} {l : List Opt} {j : Nat} {o : Opt} {v V : V3} (h1 : V = runL c (l.drop j) (l.take j) v) (h2 : l.drop j = o :: l.drop (j + 1)) (h3 : l.take (j + 1) = l.take j ++ [o]) : V = runL c (l.drop (j + 1)) (l.take (j + 1)) (step3 c (l.take j) o v) := by
  rw [h1, h2, runL, h3]
theorem step_rej {c : Conf} {pre : List Opt} {o : Opt} {v : V3} (h : verd c pre o = 1) : step3 c pre o v = ⟨v.r ++ [o], v.n, v.c⟩ := if_pos h
theorem step_no {c : Conf} {pre : List Opt} {o : Opt} {v : V3} (h : verd c pre o = 0) : step3 c pre o v = v := by unfold step3; rw [h]; rfl
theorem step_nak {c : Conf} {pre : List Opt} {o : Opt} {v : V3} (h : verd c pre o = 2) : step3 c pre o v = ⟨v.r, v.n ++ [⟨o.t, oct (c.given (kof o))⟩], v.c ++ [o]⟩ := by unfold step3; rw [h]; rfl
theorem type_cases (o : Opt) : (∃ k, k < 3 ∧ o.t = tk k) ∨ (∀ k, k < 3 → o.t ≠ tk k) := by
  by_cases h : ∃ k, k < 3 ∧ o.t = tk k
  · exact .inl h
  · exact .inr fun k hk hh => h ⟨k, hk, hh⟩
theorem kindV_no {o : Opt} (h : ∀ k, k < 3 → o.t ≠ tk k) : kindV (tv o.t) = .tuple #[.agg #[.nilFunc, .nilFunc, .nilFunc, .nilFunc], .bool false] ∧ goodO o = false := by
  have h0 := h 0 (by omega); have h1 := h 1 (by omega); have h2 := h 2 (by omega)
  constructor
  · unfold kindV
    rw [if_neg (fun e => h0 (tv_inj (e.trans (rfl : (3 : Int) = tv (tk 0))))), if_neg (fun e => h1 (tv_inj (e.trans (rfl : (129 : Int) = tv (tk 1))))), if_neg (fun e => h2 (tv_inj (e.trans (rfl : (131 : Int) = tv (tk 2)))))]
  · unfold goodO
    exact decide_eq_false (fun hh => by rcases hh.1 with e | e | e; exact h0 e; exact h1 e; exact h2 e)
def En (f : FuncId) : Prop := ∀ (args : Array Value) (w : World), (callFunc f args).run Tryd.prog w = .ok (.enter f args) w
theorem en_of {f : FuncId} {fn : Func} {c : Code} (hf : Tryd.prog.funcs[f]? = some fn) (hname : (fn.name == "runtime.NumGoroutine") = false) (hb : fn.body = some c) : En f := fun args w => by
  have h1 : fn.name ≠ "runtime.NumGoroutine" := by simpa using hname
  simp [callFunc, hf, h1, hb]
theorem en77 : En 77 := en_of Tryd.func77 (by kernel_rfl) rfl
theorem en78 : En 78 := en_of Tryd.func78 (by kernel_rfl) rfl
theorem en79 : En 79 := en_of Tryd.func79 (by kernel_rfl) rfl
theorem en81 : En 81 := en_of Tryd.func81 (by kernel_rfl) rfl
theorem en82 : En 82 := en_of Tryd.func82 (by kernel_rfl) rfl
theorem en83 : En 83 := en_of Tryd.func83 (by kernel_rfl) rfl
theorem en85 : En 85 := en_of Tryd.func85 (by kernel_rfl) rfl
theorem en86 : En 86 := en_of Tryd.func86 (by kernel_rfl) rfl
theorem en87 : En 87 := en_of Tryd.func87 (by kernel_rfl) rfl
theorem kind_fns (kk : Nat) (h : kk < 3) : ∃ f1 f2 f3 f4 : FuncId, kindV (tv (tk kk)) = .tuple #[.agg #[.func (.func f1) #[] #[], .func (.func f2) #[] #[], .func (.func f3) #[] #[], .func (.func f4) #[] #[]], .bool true] ∧ En f1 ∧ En f2 ∧ En f3 ∧
    (∀ (c : Conf) (w : World), Calls Tryd.prog f1 #[.agg c.cells] w fun e w' => e = .returned (.int .u32 (nv (c.given kk))) ∧ Below w.heap.size w w') ∧
    (∀ (x : Icp) (w : World), Calls Tryd.prog f2 #[.agg x.cells] w fun e w' => e = .returned (.int .u32 (nv (x.val kk))) ∧ Below w.heap.size w w') ∧
    (∀ (u : UInt32) (w : World), Calls Tryd.prog f3 #[.int .u32 (nv u)] w fun e w' => e = .returned (.agg (noI.set kk u).cells) ∧ Below w.heap.size w w') := by
  rcases (show kk = 0 ∨ kk = 1 ∨ kk = 2 by omega) with rfl | rfl | rfl
  · exact ⟨77, 78, 79, 80, rfl, en77, en78, en79, given0_calls, says0_calls, make0_calls⟩
  · exact ⟨81, 82, 83, 84, rfl, en81, en82, en83, given1_calls, says1_calls, make1_calls⟩
  · exact ⟨85, 86, 87, 88, rfl, en85, en86, en87, given2_calls, says2_calls, make2_calls⟩
theorem val_set (kk : Nat) (h : kk < 3) (u : UInt32) : (noI.set kk u).val kk = u := by
  rcases (show kk = 0 ∨ kk = 1 ∨ kk = 2 by omega) with rfl | rfl | rfl <;> rfl
theorem tv_tk3 (kk : Nat) (h : kk < 3) : (tv (tk kk) != 3) = !decide (kk = 0) := by
  rcases (show kk = 0 ∨ kk = 1 ∨ kk = 2 by omega) with rfl | rfl | rfl <;> rfl
theorem icp_form (x : Icp) : ∃ (b1 b2 b3 : Bool) (z1 z2 z3 : Int), x.cells = #[.bool b1, .int .u32 z1, .bool b2, .int .u32 z2, .bool b3, .int .u32 z3] := ⟨_, _, _, _, _, _, rfl⟩
theorem two_at {W : World} {g : Nat} {a b : Value} {t : TypeId} (h : W.heap[g]? = some (.cells #[a, b] t (0, 0))) : ∀ j u, [a, b][j]? = some u → W.cell? ((⟨g, 0, none⟩ : Addr).add j) = some u := by
  intro j u hj
  rw [add_zero, blk_cell h]
  match j, hj with
  | 0, hj => exact hj
  | 1, hj => exact hj
theorem three_set {W : World} {g : Nat} {r n c : Value} {x y z : List Opt} {cs : Array Value} (h : Three W g r n c x y z) (hb : W.heap[g]? = some (.cells cs 68 (0, 0))) (i : Nat) (u : Value) : Three (W.setCell ⟨g, i, none⟩ u) g r n c x y z :=
  ⟨own_setCell h.own1 (own_ne h.own1 hb (by decide)) u, own_setCell h.own2 (own_ne h.own2 hb (by decide)) u, own_setCell h.own3 (own_ne h.own3 hb (by decide)) u, h.rn, h.rc, h.nc⟩
theorem below_set {B : Nat} {a W : World} (h : Below B a W) (g i : Nat) (hg : B ≤ g) (v : Value) : Below B a (W.setCell ⟨g, i, none⟩ v) := h.setCell (p := ⟨g, i, none⟩) hg v
theorem lacks_snoc (b0 : Bool) (l : List Opt) (o : Opt) : (b0 && (l ++ [o]).all fun o => !decide (o.t = 3)) = ((b0 && l.all fun o => !decide (o.t = 3)) && !decide (o.t = 3)) := by
  rw [List.all_append, List.all_cons, List.all_nil, Bool.and_true, Bool.and_assoc]
theorem tne3 (o : Opt) : (tv o.t != 3) = !decide (o.t = 3) := by
  rw [show (3 : Int) = tv 3 from rfl, bne, ti_bool]
attribute [local go_sem] fv
set_option maxHeartbeats 16000000 in
set_option maxRecDepth 100000 in
theorem look_calls (s : Pol) (pb : Nat) (l : List Opt) (a : Option Addr) (c : Nat) (w : World) (h : Row w a c l) (hs : l.length < 1000000) (hK : K w) (hp : IsPol w pb s) :
    Calls Tryd.prog 29 #[.pointer (some ⟨pb, 0, none⟩), .slice a l.length c] w fun e w' => ∃ r n k, e = .returned (.agg #[r, n, k]) ∧ Three w' w.heap.size r n k (look s.c l).r (look s.c l).n (look s.c l).c ∧ Below w.heap.size w w' := by
  have hu57 := Tryd.underlying57
  have c0 := Lib.hid h.1
  obtain ⟨i0, hi, hz⟩ := Option.map_eq_some_iff.1 info57
  simp only [Prod.mk.injEq] at hz
  obtain ⟨hz0, hz1, hz2⟩ := hz
  have p1 : ∀ ob, (w.alloc ob).heap[pb]? = some (.cells s.cells 66 (0, 0)) := fun ob => (Lib.alloc_old _ _ _ hp.lt).trans hp
  have p2 : ∀ ob, (w.alloc ob).cell? ⟨pb, 7, none⟩ = some (.int .u32 (nv s.c.peer)) := fun ob => by rw [blk_cell (p1 ob) 7]; rfl
  clear p1
  obtain ⟨b0, hb0⟩ : ∃ b, decide (s.c.peer ≠ 0) = b := ⟨_, rfl⟩
  have hb1 : (nv s.c.peer != 0) = b0 := by
    rw [← hb0, show (0 : Int) = nv 0 from rfl, bne, ni_bool]
    by_cases h : s.c.peer = 0 <;> simp [h]
  have Hb0 := Lib.hid hb0; clear hb0
  go_enter Tryd.func29, Tryd.ntmps29
  go_wp2
  go_loopg [5, 25] l.length (fun q lk i wr => ∃ (j : Nat) (r n k : Value) (v : V3), j ≤ l.length ∧ q = l.length - j ∧ i = .int .i64 (j : Int) ∧ lk = .bool (b0 && (l.take j).all fun o => !decide (o.t = 3)) ∧ Hid (runL s.c l [] ⟨[], [], []⟩ = runL s.c (l.drop j) (l.take j) v) ∧ v.r.length ≤ j ∧ v.n.length ≤ j ∧ v.c.length ≤ j ∧
    wr.heap[w.heap.size]? = some (.cells #[r, n, k] 68 (0, 0)) ∧ Three wr w.heap.size r n k v.r v.n v.c ∧ Below w.heap.size w wr)
  case atStart => exact ⟨0, _, _, _, ⟨[], [], []⟩, by omega, rfl, rfl, by simp, Lib.hid rfl, Nat.le_refl _, Nat.le_refl _, Nat.le_refl _, alloc_new _ _ _ rfl, three_nil _ _, (Below.refl _ _).alloc (Nat.le_refl _) _⟩
  case round =>
    obtain ⟨j, r, n, k, v, hj, hq, rfl, rfl, hrun, l1, l2, l3, b0', hthree, hB⟩ := hrel
    have A := Lib.hid hq; clear hq
    clear p2 hb1
    have hsz := hB.size
    by_cases hlt : j < l.length
    · have q1 : decide ((j : Int) < (l.length : Int)) = true := by simp; omega
      obtain ⟨x, rfl, x0, x1⟩ := (h.below hB).at_ j hlt
      have hdr : Hid (l.drop j = l[j] :: l.drop (j + 1)) := Lib.hid (List.drop_eq_getElem_cons hlt)
      have htk : Hid (l.take (j + 1) = l.take j ++ [l[j]]) := Lib.hid (List.take_succ_eq_append_getElem hlt)
      have hjc : j ≤ c := by have := c0.out; omega
      have hlen : (l.take j).length = j := by rw [List.length_take]; omega
      have hfind := fun W (hr : Row W (some x) c (l.take j)) => find_calls l[j].t (l.take j) (some x) c W hr (by omega)
      rw [head_told, hlen] at hfind
      have htw : Hid ((!((l.take j).filter (hasT l[j].t)).isEmpty) = twice (l.take j) l[j]) := Lib.hid rfl
      generalize hobj : l[j] = o at *
      clear hobj
      generalize ((l.take j).filter (hasT o.t)).headD noOpt = ho at *
      generalize (!((l.take j).filter (hasT o.t)).isEmpty) = tw at *
      have hcx : Cx w (wr.alloc (.cells #[.int .u8 (tv o.t), .string o.d] 57)) r n k v wr.heap.size o := by
        have hb := (Below.refl wr.heap.size wr).alloc (Nat.le_refl _) (.cells #[.int .u8 (tv o.t), .string o.d] 57)
        exact ⟨(hb.block _ ((Array.getElem?_eq_some_iff.1 b0').1)).trans b0', hthree.below hb, alloc_new _ _ _ rfl, ⟨hthree.own1.ne_new _ (Nat.le_refl _), hthree.own2.ne_new _ (Nat.le_refl _), hthree.own3.ne_new _ (Nat.le_refl _)⟩, hB.alloc hsz _⟩
      have hl0 : Hid ((b0 && (l.take (j + 1)).all fun o => !decide (o.t = 3)) = ((b0 && (l.take j).all fun o => !decide (o.t = 3)) && !decide (o.t = 3))) := Lib.hid (by rw [htk.out, lacks_snoc])
      generalize (b0 && (l.take j).all fun o => !decide (o.t = 3)) = lb at *
      have h3 := tne3 o
      go_upto_region 5 with fail
      go_cut [5] from 30 to 35 (fun s5 wx => s5 = .bool (lb && !decide (o.t = 3)) ∧ wx = wr.alloc (.cells #[.int .u8 (tv o.t), .string o.d] 57))
      case first =>
        cases lb with
        | true =>
          go_wp2
          go_meet
          exact ⟨rfl, rfl⟩
        | false =>
          go_wp2
          go_meet
          exact ⟨rfl, rfl⟩
      case rest =>
        obtain ⟨rfl, rfl⟩ := hcut
        clear b0' hthree
        generalize (lb && !decide (o.t = 3)) = nb at *
        have hob : wr.heap.size < (wr.alloc (.cells #[.int .u8 (tv o.t), .string o.d] 57)).heap.size := by simp
        generalize wr.alloc (.cells #[.int .u8 (tv o.t), .string o.d] 57) = wA at *
        generalize wr.heap.size = ob at *
        clear hB x0 x1 h3
        go_upto_region 6 with fail
        go_cut [9] from 36 to 44 (fun s9 wx => s9 = .bool tw ∧ Cx w wx r n k v ob o)
        case first =>
          refine start_ (n := 12) (S := fun W' => W'.cell? ⟨ob, 0, none⟩ = some (.int .u8 (tv o.t))) (ds := [11]) (#[false, false, false, false, false, false, false, false, false, false, false, false]) (by kernel_rfl) rfl rfl (by rw [World.cell?_drew, blk_cell hcx.obk 0]; rfl) (fun hS => ?_)
          have hcx1 := hcx.drew
          clear hcx
          have hob1 : ob < wA.drew.heap.size := hob
          generalize wA.drew = wB at *
          refine take_ (i := 0) (N := some 37) (v := ?_) (a' := ?_) #[true, false, false, false, false, false, false, false, false, false, false, false] rfl rfl (by kernel_rfl) (fun _ _ _ h => h) (.inl ⟨by rfl, fun w' hS' => ?_⟩) hS ?_ ?_
          rotate_left
          · obtain s1 := hS'
            go_simp
            with_reducible rfl
          rotate_left
          · simp only [Act.put, List.setIfInBounds_toArray, List.set_cons_zero, List.set_cons_succ]
            rfl
          refine take_ (i := 1) (N := some 38) (v := ?_) (a' := ?_) #[true, true, false, false, false, false, false, false, false, false, false, false] rfl rfl (by kernel_rfl) (fun _ _ _ h => h) (.inl ⟨by rfl, fun w' hS' => ?_⟩) hS ?_ ?_
          rotate_left
          · obtain s1 := hS'
            go_simp
            with_reducible rfl
          rotate_left
          · simp only [Act.put, List.setIfInBounds_toArray, List.set_cons_zero, List.set_cons_succ]
            rfl
          refine take_ (i := 2) (N := some 39) (v := ?_) (a' := ?_) #[true, true, true, false, false, false, false, false, false, false, false, false] rfl rfl (by kernel_rfl) (fun _ _ _ h => h) (.inl ⟨by rfl, fun w' hS' => ?_⟩) hS ?_ ?_
          rotate_left
          · obtain s1 := hS'
            go_simp
            with_reducible rfl
          rotate_left
          · simp only [Act.put, List.setIfInBounds_toArray, List.set_cons_zero, List.set_cons_succ]
            rfl
          refine take_ (i := 3) (N := some 40) (v := ?_) (a' := ?_) #[true, true, true, true, false, false, false, false, false, false, false, false] rfl rfl (by kernel_rfl) (fun _ _ _ h => h) (.inl ⟨by rfl, fun w' hS' => ?_⟩) hS ?_ ?_
          rotate_left
          · obtain s1 := hS'
            go_simp
            with_reducible rfl
          rotate_left
          · simp only [Act.put, List.setIfInBounds_toArray, List.set_cons_zero, List.set_cons_succ]
            rfl
          refine take_ (i := 4) (N := some 41) (v := ?_) (a' := ?_) #[true, true, true, true, true, false, false, false, false, false, false, false] rfl rfl (by kernel_rfl) (fun _ _ _ h => h) (.inl ⟨by rfl, fun w' hS' => ?_⟩) hS ?_ ?_
          rotate_left
          · obtain s1 := hS'
            go_simp
            with_reducible rfl
          rotate_left
          · simp only [Act.put, List.setIfInBounds_toArray, List.set_cons_zero, List.set_cons_succ]
            rfl
          refine wpAnyLast_all (rs := [5, 9]) (by kernel_rfl) (by simp) ?_
          intro i hi'
          rcases List.mem_cons.1 hi' with rfl | hi'
          · refine wpOp_step rfl (fun K' hK' => ?_)
            go_simp
            go_at_call 43
            with_reducible refine (hfind _ (row_take (h.below hcx1.bel) j)).mono ?_
            rintro e w3 ⟨rfl, hb3⟩
            have hcx3 := hcx1.below hb3
            have hT : w3.cell? ⟨ob, 0, none⟩ = some (.int .u8 (tv o.t)) := (hb3.cell (p := ⟨ob, 0, none⟩) (cell_lt hS)).trans hS
            refine hK' _ _ ⟨fun _ _ => hT, ?_⟩
            clear hK' K' hS
            simp only [Act.put, List.setIfInBounds_toArray, List.set_cons_zero, List.set_cons_succ]
            have hS := hT
            clear hT
            refine take_ (i := 6) (N := some 36) (v := ?_) (a' := ?_) #[true, true, true, true, true, true, true, false, false, false, false, false] rfl rfl (by kernel_rfl) (fun _ _ _ h => h) (.inl ⟨by rfl, fun w' hS' => ?_⟩) hS ?_ ?_
            rotate_left
            · obtain s1 := hS'
              go_simp
              with_reducible rfl
            rotate_left
            · simp only [Act.put, List.setIfInBounds_toArray, List.set_cons_zero, List.set_cons_succ]
              rfl
            refine take_ (i := 7) (N := some 43) (v := ?_) (a' := ?_) #[true, true, true, true, true, true, true, true, false, false, false, false] rfl rfl (by kernel_rfl) (fun _ _ _ h => h) (.inl ⟨by rfl, fun w' hS' => ?_⟩) hS ?_ ?_
            rotate_left
            · obtain s1 := hS'
              go_simp
              with_reducible rfl
            rotate_left
            · simp only [Act.put, List.setIfInBounds_toArray, List.set_cons_zero, List.set_cons_succ]
              rfl
            refine take_ (i := 8) (N := some 44) (v := ?_) (a' := ?_) #[true, true, true, true, true, true, true, true, true, false, false, false] rfl rfl (by kernel_rfl) (fun _ _ _ h => h) (.inl ⟨by rfl, fun w' hS' => ?_⟩) hS ?_ ?_
            rotate_left
            · obtain s1 := hS'
              go_simp
              with_reducible rfl
            rotate_left
            · simp only [Act.put, List.setIfInBounds_toArray, List.set_cons_zero, List.set_cons_succ]
              rfl
            refine wpAnyLast_all (rs := [9]) (by kernel_rfl) (by simp) ?_
            intro i hi'
            obtain rfl := List.mem_singleton.1 hi'
            refine wpOp_step rfl (fun K' hK' => ?_)
            go_simp
            refine hK' _ _ ⟨fun _ h => (((Below.refl w3.heap.size w3).alloc (Nat.le_refl _) _).cell (p := ⟨ob, 0, none⟩) (cell_lt h)).trans h, ?_⟩
            clear hK' K'
            simp only [Act.put, List.setIfInBounds_toArray, List.set_cons_zero, List.set_cons_succ]
            refine wpAnyLast_all (rs := [10]) (by kernel_rfl) (by simp) ?_
            intro i hi'
            obtain rfl := List.mem_singleton.1 hi'
            refine wpOp_step rfl (fun K' hK' => ?_)
            go_simp
            refine hK' _ _ ⟨fun _ _ => (((Below.refl w3.heap.size w3).alloc (Nat.le_refl _) _).cell (p := ⟨ob, 0, none⟩) (cell_lt hS)).trans hS, ?_⟩
            clear hK' K'
            simp only [Act.put, List.setIfInBounds_toArray, List.set_cons_zero, List.set_cons_succ]
            refine wpAnyLast_all (rs := [11]) (by kernel_rfl) (by simp) ?_
            intro i hi'
            obtain rfl := List.mem_singleton.1 hi'
            refine wpOp_step rfl (fun K' hK' => ?_)
            go_simp
            refine hK' _ _ ⟨fun h => by simp at h, ?_⟩
            clear hK' K'
            simp only [Act.put, List.setIfInBounds_toArray, List.set_cons_zero, List.set_cons_succ]
            refine wpAnyLast_done (by kernel_rfl) ?_ _
            go_wp2
            go_meet
            exact ⟨rfl, hcx3.alloc _⟩
          · obtain rfl := List.mem_singleton.1 hi'
            refine wpOp_step rfl (fun K' hK' => ?_)
            go_simp
            refine hK' _ _ ⟨fun _ h => (((Below.refl wB.heap.size wB).alloc (Nat.le_refl _) _).cell (p := ⟨ob, 0, none⟩) (cell_lt h)).trans h, ?_⟩
            clear hK' K'
            simp only [Act.put, List.setIfInBounds_toArray, List.set_cons_zero, List.set_cons_succ]
            have hcx2 := hcx1.alloc (.cells #[.int .u8 0, .string ⟨#[]⟩] 57)
            have hS2 := (((Below.refl wB.heap.size wB).alloc (Nat.le_refl _) (.cells #[.int .u8 0, .string ⟨#[]⟩] 57)).cell (p := ⟨ob, 0, none⟩) (cell_lt hS)).trans hS
            clear hS
            have hS := hS2
            clear hS2
            refine wpAnyLast_all (rs := [5]) (by kernel_rfl) (by simp) ?_
            intro i hi'
            obtain rfl := List.mem_singleton.1 hi'
            refine wpOp_step rfl (fun K' hK' => ?_)
            go_simp
            go_at_call 43
            with_reducible refine (hfind _ (row_take (h.below hcx2.bel) j)).mono ?_
            rintro e w3 ⟨rfl, hb3⟩
            have hcx3 := hcx2.below hb3
            have hT : w3.cell? ⟨ob, 0, none⟩ = some (.int .u8 (tv o.t)) := (hb3.cell (p := ⟨ob, 0, none⟩) (cell_lt hS)).trans hS
            refine hK' _ _ ⟨fun _ _ => hT, ?_⟩
            clear hK' K' hS
            simp only [Act.put, List.setIfInBounds_toArray, List.set_cons_zero, List.set_cons_succ]
            have hS := hT
            clear hT
            have n3 : w3.heap[wB.heap.size]? = some (.cells #[.int .u8 0, .string ⟨#[]⟩] 57 (0, 0)) := (hb3.block _ (by simp)).trans (alloc_new _ _ _ rfl)
            have c3 := fun i => blk_cell n3 i
            have f3 := fun i => blk_frozen n3 i
            refine take_ (i := 6) (N := some 36) (v := ?_) (a' := ?_) #[true, true, true, true, true, true, true, false, false, true, false, false] rfl rfl (by kernel_rfl) (fun _ _ _ h => h) (.inl ⟨by rfl, fun w' hS' => ?_⟩) hS ?_ ?_
            rotate_left
            · obtain s1 := hS'
              go_simp
              with_reducible rfl
            rotate_left
            · simp only [Act.put, List.setIfInBounds_toArray, List.set_cons_zero, List.set_cons_succ]
              rfl
            refine take_ (i := 7) (N := some 43) (v := ?_) (a' := ?_) #[true, true, true, true, true, true, true, true, false, true, false, false] rfl rfl (by kernel_rfl) (fun _ _ _ h => h) (.inl ⟨by rfl, fun w' hS' => ?_⟩) hS ?_ ?_
            rotate_left
            · obtain s1 := hS'
              go_simp
              with_reducible rfl
            rotate_left
            · simp only [Act.put, List.setIfInBounds_toArray, List.set_cons_zero, List.set_cons_succ]
              rfl
            refine take_ (i := 8) (N := some 44) (v := ?_) (a' := ?_) #[true, true, true, true, true, true, true, true, true, true, false, false] rfl rfl (by kernel_rfl) (fun _ _ _ h => h) (.inl ⟨by rfl, fun w' hS' => ?_⟩) hS ?_ ?_
            rotate_left
            · obtain s1 := hS'
              go_simp
              with_reducible rfl
            rotate_left
            · simp only [Act.put, List.setIfInBounds_toArray, List.set_cons_zero, List.set_cons_succ]
              rfl
            refine wpAnyLast_all (rs := [10]) (by kernel_rfl) (by simp) ?_
            intro i hi'
            obtain rfl := List.mem_singleton.1 hi'
            refine wpOp_step rfl (fun K' hK' => ?_)
            go_simp
            refine hK' _ _ ⟨fun _ _ => by rw [World.cell?_setCell_other _ _ _ _ (by first | (simp; done) | (simp; omega)), World.cell?_setCell_other _ _ _ _ (by first | (simp; done) | (simp; omega))]; exact hS, ?_⟩
            clear hK' K'
            simp only [Act.put, List.setIfInBounds_toArray, List.set_cons_zero, List.set_cons_succ]
            refine wpAnyLast_all (rs := [11]) (by kernel_rfl) (by simp) ?_
            intro i hi'
            obtain rfl := List.mem_singleton.1 hi'
            refine wpOp_step rfl (fun K' hK' => ?_)
            go_simp
            refine hK' _ _ ⟨fun h => by simp at h, ?_⟩
            clear hK' K'
            simp only [Act.put, List.setIfInBounds_toArray, List.set_cons_zero, List.set_cons_succ]
            refine wpAnyLast_done (by kernel_rfl) ?_ _
            go_wp2
            go_meet
            have g0 : w.heap.size < wB.heap.size := (Array.getElem?_eq_some_iff.1 hcx1.blk).1
            have g1 : ob ≠ wB.heap.size := by omega
            have g2 := hcx1.rows.own1.ne_new _ (Nat.le_refl _)
            have g3 := hcx1.rows.own2.ne_new _ (Nat.le_refl _)
            have g4 := hcx1.rows.own3.ne_new _ (Nat.le_refl _)
            exact ⟨rfl, (hcx3.set _ 0 _ g0 g1 g2 g3 g4).set _ 1 _ g0 g1 g2 g3 g4⟩
        case rest =>
          obtain ⟨rfl, hcx1⟩ := hcut
          clear hcx
          have hstep := Lib.hid (run_step hrun.out hdr.out htk.out)
          have hKc := hK.below hcx1.bel
          obtain ⟨bm, mo, m0, m1, mlk⟩ := hKc.map
          have mlk1 := mlk wc m1 (tv o.t) (tv_range _)
          clear mlk
          have e0 := blk_cell hcx1.obk 0
          have e1 := blk_cell hcx1.obk 1
          clear wA hob
          rcases type_cases o with ⟨kk, hkk, ht⟩ | hno
          · skip
            obtain ⟨f1, f2, f3, f4, hkv, en1, en2, en3, hgiv0, hsay0, hmk0⟩ := kind_fns kk hkk
            rw [ht, hkv, ← ht] at mlk1
            unfold En at en1 en2 en3
            have ht3 : (tv o.t != 3) = !decide (kk = 0) := by rw [ht]; exact tv_tk3 kk hkk
            have Ht3 := Lib.hid ht3; clear ht3
            have Ht := Lib.hid ht; clear ht hkv
            go_upto_region 8 with fail
            have hcx2 := hcx1.alloc (.cells #[.func (.func f1) #[] #[], .func (.func f2) #[] #[], .func (.func f3) #[] #[], .func (.func f4) #[] #[]] 90)
            have nk : (wc.alloc (.cells #[.func (.func f1) #[] #[], .func (.func f2) #[] #[], .func (.func f3) #[] #[], .func (.func f4) #[] #[]] 90)).heap[wc.heap.size]? = some (.cells #[.func (.func f1) #[] #[], .func (.func f2) #[] #[], .func (.func f3) #[] #[], .func (.func f4) #[] #[]] 90 (0, 0)) := alloc_new _ _ _ rfl
            have nkb : w.heap.size < wc.heap.size := (Array.getElem?_eq_some_iff.1 hcx1.blk).1
            generalize wc.alloc (.cells #[.func (.func f1) #[] #[], .func (.func f2) #[] #[], .func (.func f3) #[] #[], .func (.func f4) #[] #[]] 90) = wD at *
            have d0 := blk_cell hcx2.obk 0
            have d1 := blk_cell hcx2.obk 1
            have hgc := good_calls o wD (hK.below hcx2.bel)
            clear e0 e1 mlk1 m0 m1 hcx1 hKc
            generalize wc.heap.size = kb at *
            go_cut [61] from 52 to 61 (fun s61 wx => s61 = .bool (tw || !goodO o) ∧ Cx w wx r n k v ob o ∧ wx.heap[kb]? = some (.cells #[.func (.func f1) #[] #[], .func (.func f2) #[] #[], .func (.func f3) #[] #[], .func (.func f4) #[] #[]] 90 (0, 0)))
            case first =>
              cases tw with
              | true =>
                go_wp2
                go_meet
                exact ⟨rfl, hcx2, nk⟩
              | false =>
                go_wp2_with (first
                  | (go_at_call 44; with_reducible refine hgc.mono ?_; rintro e w3 ⟨rfl, hb3⟩))
                go_meet
                exact ⟨rfl, hcx2.below hb3, (hb3.block _ ((Array.getElem?_eq_some_iff.1 nk).1)).trans nk⟩
            case rest =>
              obtain ⟨rfl, hcx3, nk3⟩ := hcut
              clear d0 d1 hgc hcx2 nk wD
              have d0 := blk_cell hcx3.obk 0
              have d1 := blk_cell hcx3.obk 1
              have d2 := fun i => blk_cell hcx3.blk i
              have d3 := fun ob => fun i => blk_cell (hcx3.alloc ob).blk i
              have d4 := fun ob => fun i => blk_frozen (hcx3.alloc ob).blk i
              cases hrj : (tw || !goodO o) with
              | true =>
                have hv1 := Lib.hid (show verd s.c (l.take j) o = 1 from if_pos (by rw [← htw.out]; simpa using hrj))
                clear hrj nk3
                have hcx2 := hcx3
                go_wp2_with (first
                  | (at_builtin; refine wpList_append_own_at _ rfl _ _ 32 rfl w.heap.size 57 i0 (.agg #[.int .u8 0, .string ⟨#[]⟩]) 2 24 und32 hi hz0 hz1 hz2 rfl (by decide) r v.r.length (optCells v.r) rfl (hcx2.alloc (.cells #[.int .u8 (tv o.t), .string o.d] 57)).rows.own1 ⟨wc.heap.size, 0, none⟩ 1 1 [.int .u8 (tv o.t), .string o.d] rfl rfl (cell_two _ _ _ _) (by simp [Value.oneCell']) (by unfold maxLen; omega) (by omega) (hcx2.alloc (.cells #[.int .u8 (tv o.t), .string o.d] 57)).bel.size ?_
                     intro r' w5 hown5 hg5 _ hat5
                     obtain ⟨k1, k2, k3⟩ := hcx2.push_r hown5 hg5 hat5
                     have e5 := (hg5.block w.heap.size ((Array.getElem?_eq_some_iff.1 (hcx2.alloc (.cells #[.int .u8 (tv o.t), .string o.d] 57)).blk).1) (own_ne (hcx2.alloc (.cells #[.int .u8 (tv o.t), .string o.d] 57)).rows.own1 (hcx2.alloc (.cells #[.int .u8 (tv o.t), .string o.d] 57)).blk (by decide))).trans (hcx2.alloc (.cells #[.int .u8 (tv o.t), .string o.d] 57)).blk
                     have e6 := fun i => blk_cell e5 i
                     have e7 := fun i => blk_frozen e5 i
                     obtain ⟨ra, rc, rfl⟩ := own_form hown5
                     clear hown5 hg5 hat5 e5))
                go_roundg (l.length - (j + 1))
                case measure => have := A.out; omega
                case rel =>
                  refine ⟨j + 1, _, _, _, _, by omega, rfl, by go_num, by rw [hl0.out], Lib.hid (hstep.out.trans (by rw [step_rej hv1.out])), by simp; omega, by simp only; omega, by simp only; omega, k1, k2, k3⟩
              | false =>
                have hgt : tw = false ∧ goodO o = true := by simpa using hrj
                clear hrj
                have hko : isK kk o := ⟨Ht.out, (of_decide_eq_true hgt.2).2⟩
                have hvd : Hid (verd s.c (l.take j) o = if s.c.given kk = 0 then (if kk ≠ 0 ∨ ad4 o.d = 0 then 1 else 0) else if ad4 o.d = s.c.given kk then 0 else 2) := Lib.hid (by unfold verd; rw [if_neg (by rw [← htw.out, hgt.1, hgt.2]; simp), (good_is hkk hko).2])
                have hG : ∀ (W : World) (a : Option Addr) (c : Nat), Row W a c [o] → K W → Calls Tryd.prog 11 #[.slice a 1 c] W _ := fun W a c hr hk => geti_calls [o] a c W hr (by simp) hk
                rw [get_one o kk hkk hko] at hG
                have hkof : Hid (kof o = kk) := Lib.hid (good_is hkk hko).2
                clear hgt hko
                generalize ad4 o.d = av at *
                have hsay := hsay0 (noI.set kk av)
                rw [val_set kk hkk] at hsay
                obtain ⟨b1, b2, b3, z1, z2, z3, hxc⟩ := icp_form (noI.set kk av)
                have hgiv : ∀ W : World, Calls Tryd.prog f1 #[.agg #[.int .u32 (nv s.c.addr), .int .u32 (nv s.c.peer), .int .u32 (nv s.c.dns1), .int .u32 (nv s.c.dns2), .bool s.c.want, .int .i64 s.c.max]] W fun e w' => e = .returned (.int .u32 (nv (s.c.given kk))) ∧ Below W.heap.size W w' := hgiv0 s.c
                rw [hxc] at hG hsay
                clear hxc hgiv0 hsay0
                have hG2 : ∀ (W : World) (a : Option Addr) (c : Nat), Row W a c [o] → K W → Calls Tryd.prog 11 #[.slice a 1 c] W fun e w' => ∃ v, e = .returned (.tuple #[.agg #[.bool b1, .int .u32 z1, .bool b2, .int .u32 z2, .bool b3, .int .u32 z3], v, .int .i64 0]) ∧ IsRow w' v [] ∧ Below W.heap.size W w' := hG
                clear hG
                go_upto_region 11 with (first
                  | (go_at_call 11; with_reducible refine (hG2 _ _ _ (row_new wc o) (hK.below (hcx3.alloc (.cells #[.int .u8 (tv o.t), .string o.d] 57)).bel)).mono ?_; rintro e w5 ⟨v5, rfl, _, hb5⟩
                     have hcx4 := (hcx3.alloc (.cells #[.int .u8 (tv o.t), .string o.d] 57)).below hb5
                     have nk4 := (hb5.block _ (by have := (Array.getElem?_eq_some_iff.1 nk3).1; simp; omega)).trans ((Lib.alloc_old _ _ _ ((Array.getElem?_eq_some_iff.1 nk3).1)).trans nk3)
                     clear hb5))
                have hcx5 := hcx4.alloc (.cells #[.bool b1, .int .u32 z1, .bool b2, .int .u32 z2, .bool b3, .int .u32 z3] 36)
                have nk5 := (Lib.alloc_old w5 (.cells #[.bool b1, .int .u32 z1, .bool b2, .int .u32 z2, .bool b3, .int .u32 z3] 36) _ ((Array.getElem?_eq_some_iff.1 nk4).1)).trans nk4
                have nx5 : (w5.alloc (.cells #[.bool b1, .int .u32 z1, .bool b2, .int .u32 z2, .bool b3, .int .u32 z3] 36)).heap[w5.heap.size]? = some (.cells #[.bool b1, .int .u32 z1, .bool b2, .int .u32 z2, .bool b3, .int .u32 z3] 36 (0, 0)) := alloc_new _ _ _ rfl
                have np5 := hp.below hcx5.bel
                generalize w5.alloc (.cells #[.bool b1, .int .u32 z1, .bool b2, .int .u32 z2, .bool b3, .int .u32 z3] 36) = wF at *
                generalize w5.heap.size = xb at *
                clear hcx3 nk3 hcx4 nk4 d0 d1 d2 d3 d4 hG2
                go_cut [15, 16] from 75 to 85 (fun s15 s16 wx => s15 = .int .u32 (nv (s.c.given kk)) ∧ s16 = .int .u32 (nv av) ∧ Cx w wx r n k v ob o ∧ wx.heap[kb]? = some (.cells #[.func (.func f1) #[] #[], .func (.func f2) #[] #[], .func (.func f3) #[] #[], .func (.func f4) #[] #[]] 90 (0, 0)))
                case first =>
                  skip
                  refine start_ (n := 13) (S := fun W' => W'.heap[kb]? = some (.cells #[.func (.func f1) #[] #[], .func (.func f2) #[] #[], .func (.func f3) #[] #[], .func (.func f4) #[] #[]] 90 (0, 0)) ∧ W'.heap[pb]? = some (.cells s.cells 66 (0, 0)) ∧ W'.heap[xb]? = some (.cells #[.bool b1, .int .u32 z1, .bool b2, .int .u32 z2, .bool b3, .int .u32 z3] 36 (0, 0))) (ds := []) (#[false, false, false, false, false, false, false, false, false, false, false, false, false]) (by kernel_rfl) rfl rfl (⟨nk5, np5, nx5⟩) (fun hS => ?_)
                  have hcx6 := hcx5.drew
                  clear hcx5 nk5 np5 nx5
                  generalize wF.drew = wG at *
                  refine take_ (i := 0) (N := some 75) (v := ?_) (a' := ?_) #[true, false, false, false, false, false, false, false, false, false, false, false, false] rfl rfl (by kernel_rfl) (fun _ _ _ h => h) (.inl ⟨by rfl, fun w' hS' => ?_⟩) hS ?_ ?_
                  rotate_left
                  · obtain ⟨s1, s2, s3⟩ := hS'
                    have t1 := fun i => blk_cell s1 i
                    have t2 := fun i => blk_cell s2 i
                    have t3 := fun i => blk_cell s3 i
                    simp only [Pol.cells] at t2
                    go_simp
                    with_reducible rfl
                  rotate_left
                  · simp only [Act.put, List.setIfInBounds_toArray, List.set_cons_zero, List.set_cons_succ]
                    rfl
                  refine take_ (i := 1) (N := some 76) (v := ?_) (a' := ?_) #[true, true, false, false, false, false, false, false, false, false, false, false, false] rfl rfl (by kernel_rfl) (fun _ _ _ h => h) (.inl ⟨by rfl, fun w' hS' => ?_⟩) hS ?_ ?_
                  rotate_left
                  · obtain ⟨s1, s2, s3⟩ := hS'
                    have t1 := fun i => blk_cell s1 i
                    have t2 := fun i => blk_cell s2 i
                    have t3 := fun i => blk_cell s3 i
                    simp only [Pol.cells] at t2
                    go_simp
                    with_reducible rfl
                  rotate_left
                  · simp only [Act.put, List.setIfInBounds_toArray, List.set_cons_zero, List.set_cons_succ]
                    rfl
                  refine take_ (i := 2) (N := some 77) (v := ?_) (a' := ?_) #[true, true, true, false, false, false, false, false, false, false, false, false, false] rfl rfl (by kernel_rfl) (fun _ _ _ h => h) (.inl ⟨by rfl, fun w' hS' => ?_⟩) hS ?_ ?_
                  rotate_left
                  · obtain ⟨s1, s2, s3⟩ := hS'
                    have t1 := fun i => blk_cell s1 i
                    have t2 := fun i => blk_cell s2 i
                    have t3 := fun i => blk_cell s3 i
                    simp only [Pol.cells] at t2
                    go_simp
                    with_reducible rfl
                  rotate_left
                  · simp only [Act.put, List.setIfInBounds_toArray, List.set_cons_zero, List.set_cons_succ]
                    rfl
                  refine take_ (i := 3) (N := some 78) (v := ?_) (a' := ?_) #[true, true, true, true, false, false, false, false, false, false, false, false, false] rfl rfl (by kernel_rfl) (fun _ _ _ h => h) (.inl ⟨by rfl, fun w' hS' => ?_⟩) hS ?_ ?_
                  rotate_left
                  · obtain ⟨s1, s2, s3⟩ := hS'
                    have t1 := fun i => blk_cell s1 i
                    have t2 := fun i => blk_cell s2 i
                    have t3 := fun i => blk_cell s3 i
                    simp only [Pol.cells] at t2
                    go_simp
                    with_reducible rfl
                  rotate_left
                  · simp only [Act.put, List.setIfInBounds_toArray, List.set_cons_zero, List.set_cons_succ]
                    rfl
                  refine take_ (i := 4) (N := some 79) (v := ?_) (a' := ?_) #[true, true, true, true, true, false, false, false, false, false, false, false, false] rfl rfl (by kernel_rfl) (fun _ _ _ h => h) (.inl ⟨by rfl, fun w' hS' => ?_⟩) hS ?_ ?_
                  rotate_left
                  · obtain ⟨s1, s2, s3⟩ := hS'
                    have t1 := fun i => blk_cell s1 i
                    have t2 := fun i => blk_cell s2 i
                    have t3 := fun i => blk_cell s3 i
                    simp only [Pol.cells] at t2
                    go_simp
                    with_reducible rfl
                  rotate_left
                  · simp only [Act.put, List.setIfInBounds_toArray, List.set_cons_zero, List.set_cons_succ]
                    rfl
                  refine take_ (i := 5) (N := some 80) (v := ?_) (a' := ?_) #[true, true, true, true, true, true, false, false, false, false, false, false, false] rfl rfl (by kernel_rfl) (fun _ _ _ h => h) (.inl ⟨by rfl, fun w' hS' => ?_⟩) hS ?_ ?_
                  rotate_left
                  · obtain ⟨s1, s2, s3⟩ := hS'
                    have t1 := fun i => blk_cell s1 i
                    have t2 := fun i => blk_cell s2 i
                    have t3 := fun i => blk_cell s3 i
                    simp only [Pol.cells] at t2
                    go_simp
                    with_reducible rfl
                  rotate_left
                  · simp only [Act.put, List.setIfInBounds_toArray, List.set_cons_zero, List.set_cons_succ]
                    rfl
                  refine take_ (i := 7) (N := some 82) (v := ?_) (a' := ?_) #[true, true, true, true, true, true, false, true, false, false, false, false, false] rfl rfl (by kernel_rfl) (fun _ _ _ h => h) (.inl ⟨by rfl, fun w' hS' => ?_⟩) hS ?_ ?_
                  rotate_left
                  · obtain ⟨s1, s2, s3⟩ := hS'
                    have t1 := fun i => blk_cell s1 i
                    have t2 := fun i => blk_cell s2 i
                    have t3 := fun i => blk_cell s3 i
                    simp only [Pol.cells] at t2
                    go_simp
                    with_reducible rfl
                  rotate_left
                  · simp only [Act.put, List.setIfInBounds_toArray, List.set_cons_zero, List.set_cons_succ]
                    rfl
                  refine take_ (i := 8) (N := some 83) (v := ?_) (a' := ?_) #[true, true, true, true, true, true, false, true, true, false, false, false, false] rfl rfl (by kernel_rfl) (fun _ _ _ h => h) (.inl ⟨by rfl, fun w' hS' => ?_⟩) hS ?_ ?_
                  rotate_left
                  · obtain ⟨s1, s2, s3⟩ := hS'
                    have t1 := fun i => blk_cell s1 i
                    have t2 := fun i => blk_cell s2 i
                    have t3 := fun i => blk_cell s3 i
                    simp only [Pol.cells] at t2
                    go_simp
                    with_reducible rfl
                  rotate_left
                  · simp only [Act.put, List.setIfInBounds_toArray, List.set_cons_zero, List.set_cons_succ]
                    rfl
                  refine take_ (i := 9) (N := some 84) (v := ?_) (a' := ?_) #[true, true, true, true, true, true, false, true, true, true, false, false, false] rfl rfl (by kernel_rfl) (fun _ _ _ h => h) (.inl ⟨by rfl, fun w' hS' => ?_⟩) hS ?_ ?_
                  rotate_left
                  · obtain ⟨s1, s2, s3⟩ := hS'
                    have t1 := fun i => blk_cell s1 i
                    have t2 := fun i => blk_cell s2 i
                    have t3 := fun i => blk_cell s3 i
                    simp only [Pol.cells] at t2
                    go_simp
                    with_reducible rfl
                  rotate_left
                  · simp only [Act.put, List.setIfInBounds_toArray, List.set_cons_zero, List.set_cons_succ]
                    rfl
                  refine wpAnyLast_all (rs := [6]) (by kernel_rfl) (by simp) ?_
                  intro i hi'
                  obtain rfl := List.mem_singleton.1 hi'
                  refine wpOp_step rfl (fun K' hK' => ?_)
                  go_simp
                  with_reducible refine (hgiv _).mono ?_
                  rintro e w7 ⟨rfl, hb⟩
                  have hcx7 := hcx6.below hb
                  have hT : w7.heap[kb]? = some (.cells #[.func (.func f1) #[] #[], .func (.func f2) #[] #[], .func (.func f3) #[] #[], .func (.func f4) #[] #[]] 90 (0, 0)) ∧ w7.heap[pb]? = some (.cells s.cells 66 (0, 0)) ∧ w7.heap[xb]? = some (.cells #[.bool b1, .int .u32 z1, .bool b2, .int .u32 z2, .bool b3, .int .u32 z3] 36 (0, 0)) := ⟨(hb.block _ ((Array.getElem?_eq_some_iff.1 hS.1).1)).trans hS.1, (hb.block _ ((Array.getElem?_eq_some_iff.1 hS.2.1).1)).trans hS.2.1, (hb.block _ ((Array.getElem?_eq_some_iff.1 hS.2.2).1)).trans hS.2.2⟩
                  refine hK' _ _ ⟨fun _ _ => hT, ?_⟩
                  clear hK' K' hS
                  simp only [Act.put, List.setIfInBounds_toArray, List.set_cons_zero, List.set_cons_succ]
                  have hS := hT
                  clear hT hb
                  refine wpAnyLast_all (rs := [10]) (by kernel_rfl) (by simp) ?_
                  intro i hi'
                  obtain rfl := List.mem_singleton.1 hi'
                  refine wpOp_step rfl (fun K' hK' => ?_)
                  go_simp
                  with_reducible refine (hsay _).mono ?_
                  rintro e w8 ⟨rfl, hb⟩
                  have hcx8 := hcx7.below hb
                  have hT : w8.heap[kb]? = some (.cells #[.func (.func f1) #[] #[], .func (.func f2) #[] #[], .func (.func f3) #[] #[], .func (.func f4) #[] #[]] 90 (0, 0)) ∧ w8.heap[pb]? = some (.cells s.cells 66 (0, 0)) ∧ w8.heap[xb]? = some (.cells #[.bool b1, .int .u32 z1, .bool b2, .int .u32 z2, .bool b3, .int .u32 z3] 36 (0, 0)) := ⟨(hb.block _ ((Array.getElem?_eq_some_iff.1 hS.1).1)).trans hS.1, (hb.block _ ((Array.getElem?_eq_some_iff.1 hS.2.1).1)).trans hS.2.1, (hb.block _ ((Array.getElem?_eq_some_iff.1 hS.2.2).1)).trans hS.2.2⟩
                  refine hK' _ _ ⟨fun _ _ => hT, ?_⟩
                  clear hK' K' hS
                  simp only [Act.put, List.setIfInBounds_toArray, List.set_cons_zero, List.set_cons_succ]
                  have hS := hT
                  clear hT hb
                  refine wpAnyLast_all (rs := [11]) (by kernel_rfl) (by simp) ?_
                  intro i hi'
                  obtain rfl := List.mem_singleton.1 hi'
                  refine wpOp_step rfl (fun K' hK' => ?_)
                  go_simp
                  refine hK' _ _ ⟨fun _ _ => hS, ?_⟩
                  clear hK' K'
                  simp only [Act.put, List.setIfInBounds_toArray, List.set_cons_zero, List.set_cons_succ]
                  refine wpAnyLast_all (rs := [12]) (by kernel_rfl) (by simp) ?_
                  intro i hi'
                  obtain rfl := List.mem_singleton.1 hi'
                  refine wpOp_step rfl (fun K' hK' => ?_)
                  go_simp
                  refine hK' _ _ ⟨fun _ _ => hS, ?_⟩
                  clear hK' K'
                  simp only [Act.put, List.setIfInBounds_toArray, List.set_cons_zero, List.set_cons_succ]
                  refine wpAnyLast_done (by kernel_rfl) ?_ _
                  go_wp2
                  go_meet
                  exact ⟨rfl, rfl, hcx8, hS.1⟩
                case rest =>
                  obtain ⟨rfl, rfl, hcx3, nk3⟩ := hcut
                  clear hcx5 nk5 np5 nx5
                  have d0 := blk_cell hcx3.obk 0
                  have d1 := blk_cell hcx3.obk 1
                  have d2 := fun i => blk_cell hcx3.blk i
                  have d3 := fun ob => fun i => blk_cell (hcx3.alloc ob).blk i
                  have d4 := fun ob => fun i => blk_frozen (hcx3.alloc ob).blk i
                  by_cases hw : s.c.given kk = 0
                  · have w0 : (nv (s.c.given kk) == 0) = true := by rw [show (0 : Int) = nv 0 from rfl, ni_bool, decide_eq_true hw]
                    have w1 : (nv (s.c.given kk) != 0) = false := by rw [bne, w0]; rfl
                    by_cases hk0 : kk = 0
                    · have ht3 : (tv o.t != 3) = false := by rw [Ht3.out, decide_eq_true hk0]; rfl
                      by_cases ha : av = 0
                      · have a0 : (nv av == 0) = true := by rw [show (0 : Int) = nv 0 from rfl, ni_bool, decide_eq_true ha]
                        have hv1 := Lib.hid (hvd.out.trans (by rw [if_pos hw, if_pos (.inr ha)]))
                        clear ha hk0
                        clear hw nk3
                        have hcx2 := hcx3
                        clear hvd
                        go_wp2_with (first
                          | (at_builtin; refine wpList_append_own_at _ rfl _ _ 32 rfl w.heap.size 57 i0 (.agg #[.int .u8 0, .string ⟨#[]⟩]) 2 24 und32 hi hz0 hz1 hz2 rfl (by decide) r v.r.length (optCells v.r) rfl (hcx2.alloc (.cells #[.int .u8 (tv o.t), .string o.d] 57)).rows.own1 ⟨wc.heap.size, 0, none⟩ 1 1 [.int .u8 (tv o.t), .string o.d] rfl rfl (cell_two _ _ _ _) (by simp [Value.oneCell']) (by unfold maxLen; omega) (by omega) (hcx2.alloc (.cells #[.int .u8 (tv o.t), .string o.d] 57)).bel.size ?_
                             intro r' w5 hown5 hg5 _ hat5
                             obtain ⟨k1, k2, k3⟩ := hcx2.push_r hown5 hg5 hat5
                             have e5 := (hg5.block w.heap.size ((Array.getElem?_eq_some_iff.1 (hcx2.alloc (.cells #[.int .u8 (tv o.t), .string o.d] 57)).blk).1) (own_ne (hcx2.alloc (.cells #[.int .u8 (tv o.t), .string o.d] 57)).rows.own1 (hcx2.alloc (.cells #[.int .u8 (tv o.t), .string o.d] 57)).blk (by decide))).trans (hcx2.alloc (.cells #[.int .u8 (tv o.t), .string o.d] 57)).blk
                             have e6 := fun i => blk_cell e5 i
                             have e7 := fun i => blk_frozen e5 i
                             obtain ⟨ra, rc, rfl⟩ := own_form hown5
                             clear hown5 hg5 hat5 e5))
                        go_roundg (l.length - (j + 1))
                        case measure => have := A.out; omega
                        case rel =>
                          refine ⟨j + 1, _, _, _, _, by omega, rfl, by go_num, by rw [hl0.out], Lib.hid (hstep.out.trans (by rw [step_rej hv1.out])), by simp; omega, by simp only; omega, by simp only; omega, k1, k2, k3⟩
                      · have a0 : (nv av == 0) = false := by rw [show (0 : Int) = nv 0 from rfl, ni_bool, decide_eq_false ha]
                        have hv1 := Lib.hid (hvd.out.trans (by rw [if_pos hw, if_neg (by simp [ha, hk0])]))
                        clear ha hvd hk0
                        clear hw nk3
                        go_wp2
                        go_roundg (l.length - (j + 1))
                        case measure => have := A.out; omega
                        case rel =>
                          refine ⟨j + 1, _, _, _, _, by omega, rfl, by go_num, by rw [hl0.out], Lib.hid (hstep.out.trans (by rw [step_no hv1.out])), by omega, by omega, by omega, hcx3.blk, hcx3.rows, hcx3.bel⟩
                    · have ht3 : (tv o.t != 3) = true := by rw [Ht3.out, decide_eq_false hk0]; rfl
                      have hv1 := Lib.hid (hvd.out.trans (by rw [if_pos hw, if_pos (.inl hk0)]))
                      clear hk0
                      clear hw nk3
                      have hcx2 := hcx3
                      clear hvd
                      go_wp2_with (first
                        | (at_builtin; refine wpList_append_own_at _ rfl _ _ 32 rfl w.heap.size 57 i0 (.agg #[.int .u8 0, .string ⟨#[]⟩]) 2 24 und32 hi hz0 hz1 hz2 rfl (by decide) r v.r.length (optCells v.r) rfl (hcx2.alloc (.cells #[.int .u8 (tv o.t), .string o.d] 57)).rows.own1 ⟨wc.heap.size, 0, none⟩ 1 1 [.int .u8 (tv o.t), .string o.d] rfl rfl (cell_two _ _ _ _) (by simp [Value.oneCell']) (by unfold maxLen; omega) (by omega) (hcx2.alloc (.cells #[.int .u8 (tv o.t), .string o.d] 57)).bel.size ?_
                           intro r' w5 hown5 hg5 _ hat5
                           obtain ⟨k1, k2, k3⟩ := hcx2.push_r hown5 hg5 hat5
                           have e5 := (hg5.block w.heap.size ((Array.getElem?_eq_some_iff.1 (hcx2.alloc (.cells #[.int .u8 (tv o.t), .string o.d] 57)).blk).1) (own_ne (hcx2.alloc (.cells #[.int .u8 (tv o.t), .string o.d] 57)).rows.own1 (hcx2.alloc (.cells #[.int .u8 (tv o.t), .string o.d] 57)).blk (by decide))).trans (hcx2.alloc (.cells #[.int .u8 (tv o.t), .string o.d] 57)).blk
                           have e6 := fun i => blk_cell e5 i
                           have e7 := fun i => blk_frozen e5 i
                           obtain ⟨ra, rc, rfl⟩ := own_form hown5
                           clear hown5 hg5 hat5 e5))
                      go_roundg (l.length - (j + 1))
                      case measure => have := A.out; omega
                      case rel =>
                        refine ⟨j + 1, _, _, _, _, by omega, rfl, by go_num, by rw [hl0.out], Lib.hid (hstep.out.trans (by rw [step_rej hv1.out])), by simp; omega, by simp only; omega, by simp only; omega, k1, k2, k3⟩
                  · have w0 : (nv (s.c.given kk) == 0) = false := by rw [show (0 : Int) = nv 0 from rfl, ni_bool, decide_eq_false hw]
                    have w1 : (nv (s.c.given kk) != 0) = true := by rw [bne, w0]; rfl
                    by_cases ha : av = s.c.given kk
                    · have a0 : (nv av != nv (s.c.given kk)) = false := by rw [bne, ni_bool, decide_eq_true ha]; rfl
                      have hv1 := Lib.hid (hvd.out.trans (by rw [if_neg hw, if_pos ha]))
                      clear ha hvd
                      clear hw nk3
                      go_wp2
                      go_roundg (l.length - (j + 1))
                      case measure => have := A.out; omega
                      case rel =>
                        refine ⟨j + 1, _, _, _, _, by omega, rfl, by go_num, by rw [hl0.out], Lib.hid (hstep.out.trans (by rw [step_no hv1.out])), by omega, by omega, by omega, hcx3.blk, hcx3.rows, hcx3.bel⟩
                    · have a0 : (nv av != nv (s.c.given kk)) = true := by rw [bne, ni_bool, decide_eq_false ha]; rfl
                      have hv1 := Lib.hid (hvd.out.trans (by rw [if_neg hw, if_neg ha]))
                      clear ha hvd hw
                      go_upto_region 15 with fail
                      have hmk2 := hmk0 (s.c.given kk)
                      have hon : ∀ W, K W → Calls Tryd.prog 45 #[.agg (noI.set kk (s.c.given kk)).cells] W fun e w' => e = .returned (.agg #[.int .u8 (tv (tk kk)), .string (oct (s.c.given kk))]) ∧ Below W.heap.size W w' := fun W hw => only_calls (noI.set kk (s.c.given kk)) ⟨tk kk, oct (s.c.given kk)⟩ [] (put_one kk hkk _) W hw
                      have hnew : Hid (∀ v : V3, step3 s.c (l.take j) o v = ⟨v.r, v.n ++ [⟨tk kk, oct (s.c.given kk)⟩], v.c ++ [o]⟩) := Lib.hid (fun v => by rw [step_nak hv1.out, hkof.out, Ht.out])
                      obtain ⟨x1, x2, x3, y1, y2, y3, hxw⟩ := icp_form (noI.set kk (s.c.given kk))
                      rw [hxw] at hmk2 hon
                      clear hxw hmk0
                      generalize s.c.given kk = wn at *
                      generalize oct wn = ow at *
                      have Htk := Lib.hid (rfl : tv (tk kk) = tv (tk kk))
                      skip
                      refine start_ (n := 18) (S := fun W' => W'.heap[w.heap.size]? = some (.cells #[r, n, k] 68 (0, 0)) ∧ W'.heap[kb]? = some (.cells #[.func (.func f1) #[] #[], .func (.func f2) #[] #[], .func (.func f3) #[] #[], .func (.func f4) #[] #[]] 90 (0, 0)) ∧ W'.heap[ob]? = some (.cells #[.int .u8 (tv o.t), .string o.d] 57 (0, 0))) (ds := [15, 17]) (#[false, false, false, false, false, false, false, false, false, false, false, false, false, false, false, false, false, false]) (by kernel_rfl) rfl rfl (⟨hcx3.blk, nk3, hcx3.obk⟩) (fun hS => ?_)
                      have h3 := hcx3.drew.rows
                      have hBl := hcx3.drew.bel
                      have nob := hcx3.nob
                      clear d0 d1 d2 d3 d4 nk3 hcx3
                      generalize wc.drew = wa at *
                      refine take_ (i := 0) (N := some 112) (v := ?_) (a' := ?_) #[true, false, false, false, false, false, false, false, false, false, false, false, false, false, false, false, false, false] rfl rfl (by kernel_rfl) (fun _ _ _ h => h) (.inl ⟨by rfl, fun w' hS' => ?_⟩) hS ?_ ?_
                      rotate_left
                      · obtain ⟨s1, s2, s3⟩ := hS'
                        have t1 := fun i => blk_cell s1 i
                        have t2 := fun i => blk_cell s2 i
                        have t3 := fun i => blk_cell s3 i
                        go_simp
                        with_reducible rfl
                      rotate_left
                      · simp only [Act.put, List.setIfInBounds_toArray, List.set_cons_zero, List.set_cons_succ]
                        rfl
                      refine take_ (i := 1) (N := some 113) (v := ?_) (a' := ?_) #[true, true, false, false, false, false, false, false, false, false, false, false, false, false, false, false, false, false] rfl rfl (by kernel_rfl) (fun _ _ _ h => h) (.inl ⟨by rfl, fun w' hS' => ?_⟩) hS ?_ ?_
                      rotate_left
                      · obtain ⟨s1, s2, s3⟩ := hS'
                        have t1 := fun i => blk_cell s1 i
                        have t2 := fun i => blk_cell s2 i
                        have t3 := fun i => blk_cell s3 i
                        go_simp
                        with_reducible rfl
                      rotate_left
                      · simp only [Act.put, List.setIfInBounds_toArray, List.set_cons_zero, List.set_cons_succ]
                        rfl
                      refine take_ (i := 2) (N := some 114) (v := ?_) (a' := ?_) #[true, true, true, false, false, false, false, false, false, false, false, false, false, false, false, false, false, false] rfl rfl (by kernel_rfl) (fun _ _ _ h => h) (.inl ⟨by rfl, fun w' hS' => ?_⟩) hS ?_ ?_
                      rotate_left
                      · obtain ⟨s1, s2, s3⟩ := hS'
                        have t1 := fun i => blk_cell s1 i
                        have t2 := fun i => blk_cell s2 i
                        have t3 := fun i => blk_cell s3 i
                        go_simp
                        with_reducible rfl
                      rotate_left
                      · simp only [Act.put, List.setIfInBounds_toArray, List.set_cons_zero, List.set_cons_succ]
                        rfl
                      refine take_ (i := 3) (N := some 115) (v := ?_) (a' := ?_) #[true, true, true, true, false, false, false, false, false, false, false, false, false, false, false, false, false, false] rfl rfl (by kernel_rfl) (fun _ _ _ h => h) (.inl ⟨by rfl, fun w' hS' => ?_⟩) hS ?_ ?_
                      rotate_left
                      · obtain ⟨s1, s2, s3⟩ := hS'
                        have t1 := fun i => blk_cell s1 i
                        have t2 := fun i => blk_cell s2 i
                        have t3 := fun i => blk_cell s3 i
                        go_simp
                        with_reducible rfl
                      rotate_left
                      · simp only [Act.put, List.setIfInBounds_toArray, List.set_cons_zero, List.set_cons_succ]
                        rfl
                      refine take_ (i := 4) (N := some 116) (v := ?_) (a' := ?_) #[true, true, true, true, true, false, false, false, false, false, false, false, false, false, false, false, false, false] rfl rfl (by kernel_rfl) (fun _ _ _ h => h) (.inl ⟨by rfl, fun w' hS' => ?_⟩) hS ?_ ?_
                      rotate_left
                      · obtain ⟨s1, s2, s3⟩ := hS'
                        have t1 := fun i => blk_cell s1 i
                        have t2 := fun i => blk_cell s2 i
                        have t3 := fun i => blk_cell s3 i
                        go_simp
                        with_reducible rfl
                      rotate_left
                      · simp only [Act.put, List.setIfInBounds_toArray, List.set_cons_zero, List.set_cons_succ]
                        rfl
                      refine take_ (i := 9) (N := some 121) (v := ?_) (a' := ?_) #[true, true, true, true, true, false, false, false, false, true, false, false, false, false, false, false, false, false] rfl rfl (by kernel_rfl) (fun _ _ _ h => h) (.inl ⟨by rfl, fun w' hS' => ?_⟩) hS ?_ ?_
                      rotate_left
                      · obtain ⟨s1, s2, s3⟩ := hS'
                        have t1 := fun i => blk_cell s1 i
                        have t2 := fun i => blk_cell s2 i
                        have t3 := fun i => blk_cell s3 i
                        go_simp
                        with_reducible rfl
                      rotate_left
                      · simp only [Act.put, List.setIfInBounds_toArray, List.set_cons_zero, List.set_cons_succ]
                        rfl
                      refine take_ (i := 10) (N := some 122) (v := ?_) (a' := ?_) #[true, true, true, true, true, false, false, false, false, true, true, false, false, false, false, false, false, false] rfl rfl (by kernel_rfl) (fun _ _ _ h => h) (.inl ⟨by rfl, fun w' hS' => ?_⟩) hS ?_ ?_
                      rotate_left
                      · obtain ⟨s1, s2, s3⟩ := hS'
                        have t1 := fun i => blk_cell s1 i
                        have t2 := fun i => blk_cell s2 i
                        have t3 := fun i => blk_cell s3 i
                        go_simp
                        with_reducible rfl
                      rotate_left
                      · simp only [Act.put, List.setIfInBounds_toArray, List.set_cons_zero, List.set_cons_succ]
                        rfl
                      refine take_ (i := 11) (N := some 123) (v := ?_) (a' := ?_) #[true, true, true, true, true, false, false, false, false, true, true, true, false, false, false, false, false, false] rfl rfl (by kernel_rfl) (fun _ _ _ h => h) (.inl ⟨by rfl, fun w' hS' => ?_⟩) hS ?_ ?_
                      rotate_left
                      · obtain ⟨s1, s2, s3⟩ := hS'
                        have t1 := fun i => blk_cell s1 i
                        have t2 := fun i => blk_cell s2 i
                        have t3 := fun i => blk_cell s3 i
                        go_simp
                        with_reducible rfl
                      rotate_left
                      · simp only [Act.put, List.setIfInBounds_toArray, List.set_cons_zero, List.set_cons_succ]
                        rfl
                      have hK0 := hK
                      refine wpAnyLast_all (rs := [5, 12]) (by kernel_rfl) (by simp) ?_
                      intro i hi'
                      rcases List.mem_cons.1 hi' with rfl | hi'
                      · refine wpOp_step rfl (fun K' hK' => ?_)
                        go_simp
                        with_reducible refine (hmk2 _).mono ?_
                        rintro e wv1 ⟨rfl, hb⟩
                        have hT : wv1.heap[w.heap.size]? = some (.cells #[r, n, k] 68 (0, 0)) ∧ wv1.heap[kb]? = some (.cells #[.func (.func f1) #[] #[], .func (.func f2) #[] #[], .func (.func f3) #[] #[], .func (.func f4) #[] #[]] 90 (0, 0)) ∧ wv1.heap[ob]? = some (.cells #[.int .u8 (tv o.t), .string o.d] 57 (0, 0)) := ⟨(hb.block _ ((Array.getElem?_eq_some_iff.1 hS.1).1)).trans hS.1, (hb.block _ ((Array.getElem?_eq_some_iff.1 hS.2.1).1)).trans hS.2.1, (hb.block _ ((Array.getElem?_eq_some_iff.1 hS.2.2).1)).trans hS.2.2⟩
                        replace h3 := h3.below hb
                        replace hBl := hBl.trans (hb.mono hBl.size)
                        refine hK' _ _ ⟨fun _ _ => hT, ?_⟩
                        clear hK' K' hS hb
                        simp only [Act.put, List.setIfInBounds_toArray, List.set_cons_zero, List.set_cons_succ]
                        have hS := hT
                        clear hT
                        refine wpAnyLast_all (rs := [6, 12]) (by kernel_rfl) (by simp) ?_
                        intro i hi'
                        rcases List.mem_cons.1 hi' with rfl | hi'
                        · refine wpOp_step rfl (fun K' hK' => ?_)
                          go_simp
                          go_at_call 45
                          with_reducible refine (hon _ (hK0.below hBl)).mono ?_
                          rintro e wv2 ⟨rfl, hb⟩
                          have hT : wv2.heap[w.heap.size]? = some (.cells #[r, n, k] 68 (0, 0)) ∧ wv2.heap[kb]? = some (.cells #[.func (.func f1) #[] #[], .func (.func f2) #[] #[], .func (.func f3) #[] #[], .func (.func f4) #[] #[]] 90 (0, 0)) ∧ wv2.heap[ob]? = some (.cells #[.int .u8 (tv o.t), .string o.d] 57 (0, 0)) := ⟨(hb.block _ ((Array.getElem?_eq_some_iff.1 hS.1).1)).trans hS.1, (hb.block _ ((Array.getElem?_eq_some_iff.1 hS.2.1).1)).trans hS.2.1, (hb.block _ ((Array.getElem?_eq_some_iff.1 hS.2.2).1)).trans hS.2.2⟩
                          replace h3 := h3.below hb
                          replace hBl := hBl.trans (hb.mono hBl.size)
                          refine hK' _ _ ⟨fun _ _ => hT, ?_⟩
                          clear hK' K' hS hb
                          simp only [Act.put, List.setIfInBounds_toArray, List.set_cons_zero, List.set_cons_succ]
                          have hS := hT
                          clear hT
                          refine wpAnyLast_all (rs := [7, 12]) (by kernel_rfl) (by simp) ?_
                          intro i hi'
                          rcases List.mem_cons.1 hi' with rfl | hi'
                          · refine wpOp_step rfl (fun K' hK' => ?_)
                            go_simp
                            have hb := (Below.refl wv2.heap.size wv2).alloc (Nat.le_refl _) (.cells #[.int .u8 (tv (tk kk)), .string ow] 57)
                            have hT : (wv2.alloc (.cells #[.int .u8 (tv (tk kk)), .string ow] 57)).heap[w.heap.size]? = some (.cells #[r, n, k] 68 (0, 0)) ∧ (wv2.alloc (.cells #[.int .u8 (tv (tk kk)), .string ow] 57)).heap[kb]? = some (.cells #[.func (.func f1) #[] #[], .func (.func f2) #[] #[], .func (.func f3) #[] #[], .func (.func f4) #[] #[]] 90 (0, 0)) ∧ (wv2.alloc (.cells #[.int .u8 (tv (tk kk)), .string ow] 57)).heap[ob]? = some (.cells #[.int .u8 (tv o.t), .string o.d] 57 (0, 0)) := ⟨(hb.block _ ((Array.getElem?_eq_some_iff.1 hS.1).1)).trans hS.1, (hb.block _ ((Array.getElem?_eq_some_iff.1 hS.2.1).1)).trans hS.2.1, (hb.block _ ((Array.getElem?_eq_some_iff.1 hS.2.2).1)).trans hS.2.2⟩
                            replace h3 := h3.below hb
                            replace hBl := hBl.trans (hb.mono hBl.size)
                            have hga : (wv2.alloc (.cells #[.int .u8 (tv (tk kk)), .string ow] 57)).heap[wv2.heap.size]? = some (.cells #[.int .u8 (tv (tk kk)), .string ow] 57 (0, 0)) := alloc_new _ _ _ rfl
                            refine hK' _ _ ⟨fun _ _ => hT, ?_⟩
                            clear hK' K' hS hb
                            simp only [Act.put, List.setIfInBounds_toArray, List.set_cons_zero, List.set_cons_succ]
                            have hS := hT
                            clear hT
                            generalize wv2.alloc (.cells #[.int .u8 (tv (tk kk)), .string ow] 57) = wv3 at *
                            generalize wv2.heap.size = ga at *
                            refine wpAnyLast_all (rs := [8, 12]) (by kernel_rfl) (by simp) ?_
                            intro i hi'
                            rcases List.mem_cons.1 hi' with rfl | hi'
                            · refine wpOp_step rfl (fun K' hK' => ?_)
                              rw [if_pos (by rfl)]
                              refine wp_append_own_at (.tmp 113) (.tmp 119) 32 rfl w.heap.size 57 i0 (.agg #[.int .u8 0, .string ⟨#[]⟩]) 2 24 und32 hi hz0 hz1 hz2 rfl (by decide) n v.n.length (optCells v.n) rfl h3.own2 ⟨ga, 0, none⟩ 1 1 [.int .u8 (tv (tk kk)), .string ow] rfl rfl (two_at hga) (by simp [Value.oneCell']) (by unfold maxLen; omega) (by omega) hBl.size ?_
                              intro n' wv4 hownn hgn hatn
                              have h4 := (h3.rot.push (o := ⟨tk kk, ow⟩) hownn hgn hatn).rot.rot
                              obtain ⟨na, nc, rfl⟩ := own_form hownn
                              have hT : wv4.heap[w.heap.size]? = some (.cells #[r, n, k] 68 (0, 0)) ∧ wv4.heap[kb]? = some (.cells #[.func (.func f1) #[] #[], .func (.func f2) #[] #[], .func (.func f3) #[] #[], .func (.func f4) #[] #[]] 90 (0, 0)) ∧ wv4.heap[ob]? = some (.cells #[.int .u8 (tv o.t), .string o.d] 57 (0, 0)) := ⟨(hgn.block _ ((Array.getElem?_eq_some_iff.1 hS.1).1) (own_ne h3.own2 hS.1 (by decide))).trans hS.1, (hgn.block _ ((Array.getElem?_eq_some_iff.1 hS.2.1).1) (own_ne h3.own2 hS.2.1 (by decide))).trans hS.2.1, (hgn.block _ ((Array.getElem?_eq_some_iff.1 hS.2.2).1) nob.2.1).trans hS.2.2⟩
                              replace hBl := hBl.grown hgn hBl.size (own_base h3.own2)
                              refine hK' _ _ ⟨fun _ _ => hT, ?_⟩
                              clear hK' K' hS h3 hgn hownn hatn hga
                              simp only [Act.put, List.setIfInBounds_toArray, List.set_cons_zero, List.set_cons_succ]
                              have hS := hT
                              have h3 := h4
                              clear hT h4
                              refine take_ (i := 14) (N := some 126) (v := ?_) (a' := ?_) #[true, true, true, true, true, true, true, true, true, true, true, true, false, false, true, false, false, false] rfl rfl (by kernel_rfl) (fun _ _ _ h => h) (.inl ⟨by rfl, fun w' hS' => ?_⟩) hS ?_ ?_
                              rotate_left
                              · obtain ⟨s1, s2, s3⟩ := hS'
                                have t1 := fun i => blk_cell s1 i
                                have t2 := fun i => blk_cell s2 i
                                have t3 := fun i => blk_cell s3 i
                                go_simp
                                with_reducible rfl
                              rotate_left
                              · simp only [Act.put, List.setIfInBounds_toArray, List.set_cons_zero, List.set_cons_succ]
                                rfl
                              refine wpAnyLast_all (rs := [12]) (by kernel_rfl) (by simp) ?_
                              intro i hi'
                              obtain rfl := List.mem_singleton.1 hi'
                              refine wpOp_step rfl (fun K' hK' => ?_)
                              go_simp
                              have hb := (Below.refl wv4.heap.size wv4).alloc (Nat.le_refl _) (.cells #[.int .u8 (tv o.t), .string o.d] 57)
                              have hT : (wv4.alloc (.cells #[.int .u8 (tv o.t), .string o.d] 57)).heap[w.heap.size]? = some (.cells #[r, n, k] 68 (0, 0)) ∧ (wv4.alloc (.cells #[.int .u8 (tv o.t), .string o.d] 57)).heap[kb]? = some (.cells #[.func (.func f1) #[] #[], .func (.func f2) #[] #[], .func (.func f3) #[] #[], .func (.func f4) #[] #[]] 90 (0, 0)) ∧ (wv4.alloc (.cells #[.int .u8 (tv o.t), .string o.d] 57)).heap[ob]? = some (.cells #[.int .u8 (tv o.t), .string o.d] 57 (0, 0)) := ⟨(hb.block _ ((Array.getElem?_eq_some_iff.1 hS.1).1)).trans hS.1, (hb.block _ ((Array.getElem?_eq_some_iff.1 hS.2.1).1)).trans hS.2.1, (hb.block _ ((Array.getElem?_eq_some_iff.1 hS.2.2).1)).trans hS.2.2⟩
                              replace h3 := h3.below hb
                              replace hBl := hBl.trans (hb.mono hBl.size)
                              have hgb : (wv4.alloc (.cells #[.int .u8 (tv o.t), .string o.d] 57)).heap[wv4.heap.size]? = some (.cells #[.int .u8 (tv o.t), .string o.d] 57 (0, 0)) := alloc_new _ _ _ rfl
                              refine hK' _ _ ⟨fun _ _ => hT, ?_⟩
                              clear hK' K' hS hb
                              simp only [Act.put, List.setIfInBounds_toArray, List.set_cons_zero, List.set_cons_succ]
                              have hS := hT
                              clear hT
                              generalize wv4.alloc (.cells #[.int .u8 (tv o.t), .string o.d] 57) = wv5 at *
                              generalize wv4.heap.size = gb at *
                              refine wpAnyLast_all (rs := [13]) (by kernel_rfl) (by simp) ?_
                              intro i hi'
                              obtain rfl := List.mem_singleton.1 hi'
                              refine wpOp_step rfl (fun K' hK' => ?_)
                              rw [if_pos (by rfl)]
                              refine wp_append_own_at (.tmp 122) (.tmp 124) 32 rfl w.heap.size 57 i0 (.agg #[.int .u8 0, .string ⟨#[]⟩]) 2 24 und32 hi hz0 hz1 hz2 rfl (by decide) k v.c.length (optCells v.c) rfl h3.own3 ⟨gb, 0, none⟩ 1 1 [.int .u8 (tv o.t), .string o.d] rfl rfl (two_at hgb) (by simp [Value.oneCell']) (by unfold maxLen; omega) (by omega) hBl.size ?_
                              intro k' wv6 hownk hgk hatk
                              have h4 := (h3.rot.rot.push (o := o) hownk hgk hatk).rot
                              obtain ⟨ka, kc, rfl⟩ := own_form hownk
                              have hT : wv6.heap[w.heap.size]? = some (.cells #[r, n, k] 68 (0, 0)) ∧ wv6.heap[kb]? = some (.cells #[.func (.func f1) #[] #[], .func (.func f2) #[] #[], .func (.func f3) #[] #[], .func (.func f4) #[] #[]] 90 (0, 0)) ∧ wv6.heap[ob]? = some (.cells #[.int .u8 (tv o.t), .string o.d] 57 (0, 0)) := ⟨(hgk.block _ ((Array.getElem?_eq_some_iff.1 hS.1).1) (own_ne h3.own3 hS.1 (by decide))).trans hS.1, (hgk.block _ ((Array.getElem?_eq_some_iff.1 hS.2.1).1) (own_ne h3.own3 hS.2.1 (by decide))).trans hS.2.1, (hgk.block _ ((Array.getElem?_eq_some_iff.1 hS.2.2).1) nob.2.2).trans hS.2.2⟩
                              replace hBl := hBl.grown hgk hBl.size (own_base h3.own3)
                              refine hK' _ _ ⟨fun _ _ => hT, ?_⟩
                              clear hK' K' hS h3 hgk hownk hatk
                              simp only [Act.put, List.setIfInBounds_toArray, List.set_cons_zero, List.set_cons_succ]
                              have hS := hT
                              have h3 := h4
                              clear hT h4
                              refine wpAnyLast_all (rs := [15]) (by kernel_rfl) (by simp) ?_
                              intro i hi'
                              obtain rfl := List.mem_singleton.1 hi'
                              refine wpOp_step rfl (fun K' hK' => ?_)
                              have v1 := fun i => blk_cell hS.1 i
                              have v2 := fun i => blk_frozen hS.1 i
                              go_simp
                              refine hK' _ _ ⟨fun h => by simp at h, ?_⟩
                              clear hK' K'
                              simp only [Act.put, List.setIfInBounds_toArray, List.set_cons_zero, List.set_cons_succ]
                              refine wpAnyLast_all (rs := [16]) (by kernel_rfl) (by simp) ?_
                              intro i hi'
                              obtain rfl := List.mem_singleton.1 hi'
                              refine wpOp_step rfl (fun K' hK' => ?_)
                              go_simp
                              refine hK' _ _ ⟨fun _ h => h, ?_⟩
                              clear hK' K'
                              simp only [Act.put, List.setIfInBounds_toArray, List.set_cons_zero, List.set_cons_succ]
                              refine wpAnyLast_all (rs := [17]) (by kernel_rfl) (by simp) ?_
                              intro i hi'
                              obtain rfl := List.mem_singleton.1 hi'
                              refine wpOp_step rfl (fun K' hK' => ?_)
                              have v1 := fun i => blk_cell (blk_set hS.1 1 (.slice na (v.n.length + 1) nc)) i
                              have v2 := fun i => blk_frozen (blk_set hS.1 1 (.slice na (v.n.length + 1) nc)) i
                              go_simp
                              refine hK' _ _ ⟨fun h => by simp at h, ?_⟩
                              clear hK' K'
                              simp only [Act.put, List.setIfInBounds_toArray, List.set_cons_zero, List.set_cons_succ]
                              refine wpAnyLast_done (by kernel_rfl) ?_ _
                              have m1 := blk_set (blk_set hS.1 1 (.slice na (v.n.length + 1) nc)) 2 (.slice ka (v.c.length + 1) kc)
                              have m2 := three_set (three_set h3 hS.1 1 (.slice na (v.n.length + 1) nc)) (blk_set hS.1 1 _) 2 (.slice ka (v.c.length + 1) kc)
                              have m3 := (hBl.setCell (p := ⟨w.heap.size, 1, none⟩) (Nat.le_refl _) (.slice na (v.n.length + 1) nc)).setCell (p := ⟨w.heap.size, 2, none⟩) (Nat.le_refl _) (.slice ka (v.c.length + 1) kc)
                              go_wp2
                              go_roundg (l.length - (j + 1))
                              case measure => have := A.out; omega
                              case rel =>
                                exact ⟨j + 1, _, _, _, ⟨v.r, v.n ++ [⟨tk kk, ow⟩], v.c ++ [o]⟩, by omega, rfl, by go_num, by rw [hl0.out], Lib.hid (hstep.out.trans (by rw [hnew.out])), by simp only; omega, by simp; omega, by simp; omega, m1, m2, m3⟩
                            · obtain rfl := List.mem_singleton.1 hi'
                              refine wpOp_step rfl (fun K' hK' => ?_)
                              have h3old := h3
                              go_simp
                              have hb := (Below.refl wv3.heap.size wv3).alloc (Nat.le_refl _) (.cells #[.int .u8 (tv o.t), .string o.d] 57)
                              have hT : (wv3.alloc (.cells #[.int .u8 (tv o.t), .string o.d] 57)).heap[w.heap.size]? = some (.cells #[r, n, k] 68 (0, 0)) ∧ (wv3.alloc (.cells #[.int .u8 (tv o.t), .string o.d] 57)).heap[kb]? = some (.cells #[.func (.func f1) #[] #[], .func (.func f2) #[] #[], .func (.func f3) #[] #[], .func (.func f4) #[] #[]] 90 (0, 0)) ∧ (wv3.alloc (.cells #[.int .u8 (tv o.t), .string o.d] 57)).heap[ob]? = some (.cells #[.int .u8 (tv o.t), .string o.d] 57 (0, 0)) := ⟨(hb.block _ ((Array.getElem?_eq_some_iff.1 hS.1).1)).trans hS.1, (hb.block _ ((Array.getElem?_eq_some_iff.1 hS.2.1).1)).trans hS.2.1, (hb.block _ ((Array.getElem?_eq_some_iff.1 hS.2.2).1)).trans hS.2.2⟩
                              replace h3 := h3.below hb
                              replace hBl := hBl.trans (hb.mono hBl.size)
                              replace hga := (hb.block _ ((Array.getElem?_eq_some_iff.1 hga).1)).trans hga
                              have hgb : (wv3.alloc (.cells #[.int .u8 (tv o.t), .string o.d] 57)).heap[wv3.heap.size]? = some (.cells #[.int .u8 (tv o.t), .string o.d] 57 (0, 0)) := alloc_new _ _ _ rfl
                              have ngb : some wv3.heap.size ≠ n.ownBlock := fun e => by have := (h3old.own2.lt _ e.symm).2; omega
                              refine hK' _ _ ⟨fun _ _ => hT, ?_⟩
                              clear hK' K' hS hb
                              simp only [Act.put, List.setIfInBounds_toArray, List.set_cons_zero, List.set_cons_succ]
                              have hS := hT
                              clear hT
                              generalize wv3.alloc (.cells #[.int .u8 (tv o.t), .string o.d] 57) = wv7 at *
                              generalize wv3.heap.size = gb at *
                              refine wpAnyLast_all (rs := [8]) (by kernel_rfl) (by simp) ?_
                              intro i hi'
                              obtain rfl := List.mem_singleton.1 hi'
                              refine wpOp_step rfl (fun K' hK' => ?_)
                              rw [if_pos (by rfl)]
                              refine wp_append_own_at (.tmp 113) (.tmp 119) 32 rfl w.heap.size 57 i0 (.agg #[.int .u8 0, .string ⟨#[]⟩]) 2 24 und32 hi hz0 hz1 hz2 rfl (by decide) n v.n.length (optCells v.n) rfl h3.own2 ⟨ga, 0, none⟩ 1 1 [.int .u8 (tv (tk kk)), .string ow] rfl rfl (two_at hga) (by simp [Value.oneCell']) (by unfold maxLen; omega) (by omega) hBl.size ?_
                              intro n' wv8 hownn hgn hatn
                              have h4 := (h3.rot.push (o := ⟨tk kk, ow⟩) hownn hgn hatn).rot.rot
                              obtain ⟨na, nc, rfl⟩ := own_form hownn
                              have hT : wv8.heap[w.heap.size]? = some (.cells #[r, n, k] 68 (0, 0)) ∧ wv8.heap[kb]? = some (.cells #[.func (.func f1) #[] #[], .func (.func f2) #[] #[], .func (.func f3) #[] #[], .func (.func f4) #[] #[]] 90 (0, 0)) ∧ wv8.heap[ob]? = some (.cells #[.int .u8 (tv o.t), .string o.d] 57 (0, 0)) := ⟨(hgn.block _ ((Array.getElem?_eq_some_iff.1 hS.1).1) (own_ne h3.own2 hS.1 (by decide))).trans hS.1, (hgn.block _ ((Array.getElem?_eq_some_iff.1 hS.2.1).1) (own_ne h3.own2 hS.2.1 (by decide))).trans hS.2.1, (hgn.block _ ((Array.getElem?_eq_some_iff.1 hS.2.2).1) nob.2.1).trans hS.2.2⟩
                              replace hBl := hBl.grown hgn hBl.size (own_base h3.own2)
                              replace hgb := (hgn.block _ ((Array.getElem?_eq_some_iff.1 hgb).1) ngb).trans hgb
                              refine hK' _ _ ⟨fun _ _ => hT, ?_⟩
                              clear hK' K' hS h3 hgn hownn hatn hga
                              simp only [Act.put, List.setIfInBounds_toArray, List.set_cons_zero, List.set_cons_succ]
                              have hS := hT
                              have h3 := h4
                              clear hT h4
                              refine take_ (i := 14) (N := some 126) (v := ?_) (a' := ?_) #[true, true, true, true, true, true, true, true, true, true, true, true, true, false, true, false, false, false] rfl rfl (by kernel_rfl) (fun _ _ _ h => h) (.inl ⟨by rfl, fun w' hS' => ?_⟩) hS ?_ ?_
                              rotate_left
                              · obtain ⟨s1, s2, s3⟩ := hS'
                                have t1 := fun i => blk_cell s1 i
                                have t2 := fun i => blk_cell s2 i
                                have t3 := fun i => blk_cell s3 i
                                go_simp
                                with_reducible rfl
                              rotate_left
                              · simp only [Act.put, List.setIfInBounds_toArray, List.set_cons_zero, List.set_cons_succ]
                                rfl
                              refine wpAnyLast_all (rs := [13]) (by kernel_rfl) (by simp) ?_
                              intro i hi'
                              obtain rfl := List.mem_singleton.1 hi'
                              refine wpOp_step rfl (fun K' hK' => ?_)
                              rw [if_pos (by rfl)]
                              refine wp_append_own_at (.tmp 122) (.tmp 124) 32 rfl w.heap.size 57 i0 (.agg #[.int .u8 0, .string ⟨#[]⟩]) 2 24 und32 hi hz0 hz1 hz2 rfl (by decide) k v.c.length (optCells v.c) rfl h3.own3 ⟨gb, 0, none⟩ 1 1 [.int .u8 (tv o.t), .string o.d] rfl rfl (two_at hgb) (by simp [Value.oneCell']) (by unfold maxLen; omega) (by omega) hBl.size ?_
                              intro k' wv9 hownk hgk hatk
                              have h4 := (h3.rot.rot.push (o := o) hownk hgk hatk).rot
                              obtain ⟨ka, kc, rfl⟩ := own_form hownk
                              have hT : wv9.heap[w.heap.size]? = some (.cells #[r, n, k] 68 (0, 0)) ∧ wv9.heap[kb]? = some (.cells #[.func (.func f1) #[] #[], .func (.func f2) #[] #[], .func (.func f3) #[] #[], .func (.func f4) #[] #[]] 90 (0, 0)) ∧ wv9.heap[ob]? = some (.cells #[.int .u8 (tv o.t), .string o.d] 57 (0, 0)) := ⟨(hgk.block _ ((Array.getElem?_eq_some_iff.1 hS.1).1) (own_ne h3.own3 hS.1 (by decide))).trans hS.1, (hgk.block _ ((Array.getElem?_eq_some_iff.1 hS.2.1).1) (own_ne h3.own3 hS.2.1 (by decide))).trans hS.2.1, (hgk.block _ ((Array.getElem?_eq_some_iff.1 hS.2.2).1) nob.2.2).trans hS.2.2⟩
                              replace hBl := hBl.grown hgk hBl.size (own_base h3.own3)
                              refine hK' _ _ ⟨fun _ _ => hT, ?_⟩
                              clear hK' K' hS h3 hgk hownk hatk
                              simp only [Act.put, List.setIfInBounds_toArray, List.set_cons_zero, List.set_cons_succ]
                              have hS := hT
                              have h3 := h4
                              clear hT h4
                              refine wpAnyLast_all (rs := [15]) (by kernel_rfl) (by simp) ?_
                              intro i hi'
                              obtain rfl := List.mem_singleton.1 hi'
                              refine wpOp_step rfl (fun K' hK' => ?_)
                              have v1 := fun i => blk_cell hS.1 i
                              have v2 := fun i => blk_frozen hS.1 i
                              go_simp
                              refine hK' _ _ ⟨fun h => by simp at h, ?_⟩
                              clear hK' K'
                              simp only [Act.put, List.setIfInBounds_toArray, List.set_cons_zero, List.set_cons_succ]
                              refine wpAnyLast_all (rs := [16]) (by kernel_rfl) (by simp) ?_
                              intro i hi'
                              obtain rfl := List.mem_singleton.1 hi'
                              refine wpOp_step rfl (fun K' hK' => ?_)
                              go_simp
                              refine hK' _ _ ⟨fun _ h => h, ?_⟩
                              clear hK' K'
                              simp only [Act.put, List.setIfInBounds_toArray, List.set_cons_zero, List.set_cons_succ]
                              refine wpAnyLast_all (rs := [17]) (by kernel_rfl) (by simp) ?_
                              intro i hi'
                              obtain rfl := List.mem_singleton.1 hi'
                              refine wpOp_step rfl (fun K' hK' => ?_)
                              have v1 := fun i => blk_cell (blk_set hS.1 1 (.slice na (v.n.length + 1) nc)) i
                              have v2 := fun i => blk_frozen (blk_set hS.1 1 (.slice na (v.n.length + 1) nc)) i
                              go_simp
                              refine hK' _ _ ⟨fun h => by simp at h, ?_⟩
                              clear hK' K'
                              simp only [Act.put, List.setIfInBounds_toArray, List.set_cons_zero, List.set_cons_succ]
                              refine wpAnyLast_done (by kernel_rfl) ?_ _
                              have m1 := blk_set (blk_set hS.1 1 (.slice na (v.n.length + 1) nc)) 2 (.slice ka (v.c.length + 1) kc)
                              have m2 := three_set (three_set h3 hS.1 1 (.slice na (v.n.length + 1) nc)) (blk_set hS.1 1 _) 2 (.slice ka (v.c.length + 1) kc)
                              have m3 := (hBl.setCell (p := ⟨w.heap.size, 1, none⟩) (Nat.le_refl _) (.slice na (v.n.length + 1) nc)).setCell (p := ⟨w.heap.size, 2, none⟩) (Nat.le_refl _) (.slice ka (v.c.length + 1) kc)
                              go_wp2
                              go_roundg (l.length - (j + 1))
                              case measure => have := A.out; omega
                              case rel =>
                                exact ⟨j + 1, _, _, _, ⟨v.r, v.n ++ [⟨tk kk, ow⟩], v.c ++ [o]⟩, by omega, rfl, by go_num, by rw [hl0.out], Lib.hid (hstep.out.trans (by rw [hnew.out])), by simp only; omega, by simp; omega, by simp; omega, m1, m2, m3⟩
                          · obtain rfl := List.mem_singleton.1 hi'
                            refine wpOp_step rfl (fun K' hK' => ?_)
                            have h3old := h3
                            go_simp
                            have hb := (Below.refl wv2.heap.size wv2).alloc (Nat.le_refl _) (.cells #[.int .u8 (tv o.t), .string o.d] 57)
                            have hT : (wv2.alloc (.cells #[.int .u8 (tv o.t), .string o.d] 57)).heap[w.heap.size]? = some (.cells #[r, n, k] 68 (0, 0)) ∧ (wv2.alloc (.cells #[.int .u8 (tv o.t), .string o.d] 57)).heap[kb]? = some (.cells #[.func (.func f1) #[] #[], .func (.func f2) #[] #[], .func (.func f3) #[] #[], .func (.func f4) #[] #[]] 90 (0, 0)) ∧ (wv2.alloc (.cells #[.int .u8 (tv o.t), .string o.d] 57)).heap[ob]? = some (.cells #[.int .u8 (tv o.t), .string o.d] 57 (0, 0)) := ⟨(hb.block _ ((Array.getElem?_eq_some_iff.1 hS.1).1)).trans hS.1, (hb.block _ ((Array.getElem?_eq_some_iff.1 hS.2.1).1)).trans hS.2.1, (hb.block _ ((Array.getElem?_eq_some_iff.1 hS.2.2).1)).trans hS.2.2⟩
                            replace h3 := h3.below hb
                            replace hBl := hBl.trans (hb.mono hBl.size)
                            have hgb : (wv2.alloc (.cells #[.int .u8 (tv o.t), .string o.d] 57)).heap[wv2.heap.size]? = some (.cells #[.int .u8 (tv o.t), .string o.d] 57 (0, 0)) := alloc_new _ _ _ rfl
                            have ngb : some wv2.heap.size ≠ n.ownBlock := fun e => by have := (h3old.own2.lt _ e.symm).2; omega
                            refine hK' _ _ ⟨fun _ _ => hT, ?_⟩
                            clear hK' K' hS hb
                            simp only [Act.put, List.setIfInBounds_toArray, List.set_cons_zero, List.set_cons_succ]
                            have hS := hT
                            clear hT
                            generalize wv2.alloc (.cells #[.int .u8 (tv o.t), .string o.d] 57) = wv10 at *
                            generalize wv2.heap.size = gb at *
                            refine wpAnyLast_all (rs := [7]) (by kernel_rfl) (by simp) ?_
                            intro i hi'
                            obtain rfl := List.mem_singleton.1 hi'
                            refine wpOp_step rfl (fun K' hK' => ?_)
                            go_simp
                            have hb := (Below.refl wv10.heap.size wv10).alloc (Nat.le_refl _) (.cells #[.int .u8 (tv (tk kk)), .string ow] 57)
                            have hT : (wv10.alloc (.cells #[.int .u8 (tv (tk kk)), .string ow] 57)).heap[w.heap.size]? = some (.cells #[r, n, k] 68 (0, 0)) ∧ (wv10.alloc (.cells #[.int .u8 (tv (tk kk)), .string ow] 57)).heap[kb]? = some (.cells #[.func (.func f1) #[] #[], .func (.func f2) #[] #[], .func (.func f3) #[] #[], .func (.func f4) #[] #[]] 90 (0, 0)) ∧ (wv10.alloc (.cells #[.int .u8 (tv (tk kk)), .string ow] 57)).heap[ob]? = some (.cells #[.int .u8 (tv o.t), .string o.d] 57 (0, 0)) := ⟨(hb.block _ ((Array.getElem?_eq_some_iff.1 hS.1).1)).trans hS.1, (hb.block _ ((Array.getElem?_eq_some_iff.1 hS.2.1).1)).trans hS.2.1, (hb.block _ ((Array.getElem?_eq_some_iff.1 hS.2.2).1)).trans hS.2.2⟩
                            replace h3 := h3.below hb
                            replace hBl := hBl.trans (hb.mono hBl.size)
                            replace hgb := (hb.block _ ((Array.getElem?_eq_some_iff.1 hgb).1)).trans hgb
                            have hga : (wv10.alloc (.cells #[.int .u8 (tv (tk kk)), .string ow] 57)).heap[wv10.heap.size]? = some (.cells #[.int .u8 (tv (tk kk)), .string ow] 57 (0, 0)) := alloc_new _ _ _ rfl
                            refine hK' _ _ ⟨fun _ _ => hT, ?_⟩
                            clear hK' K' hS hb
                            simp only [Act.put, List.setIfInBounds_toArray, List.set_cons_zero, List.set_cons_succ]
                            have hS := hT
                            clear hT
                            generalize wv10.alloc (.cells #[.int .u8 (tv (tk kk)), .string ow] 57) = wv11 at *
                            generalize wv10.heap.size = ga at *
                            refine wpAnyLast_all (rs := [8]) (by kernel_rfl) (by simp) ?_
                            intro i hi'
                            obtain rfl := List.mem_singleton.1 hi'
                            refine wpOp_step rfl (fun K' hK' => ?_)
                            rw [if_pos (by rfl)]
                            refine wp_append_own_at (.tmp 113) (.tmp 119) 32 rfl w.heap.size 57 i0 (.agg #[.int .u8 0, .string ⟨#[]⟩]) 2 24 und32 hi hz0 hz1 hz2 rfl (by decide) n v.n.length (optCells v.n) rfl h3.own2 ⟨ga, 0, none⟩ 1 1 [.int .u8 (tv (tk kk)), .string ow] rfl rfl (two_at hga) (by simp [Value.oneCell']) (by unfold maxLen; omega) (by omega) hBl.size ?_
                            intro n' wv12 hownn hgn hatn
                            have h4 := (h3.rot.push (o := ⟨tk kk, ow⟩) hownn hgn hatn).rot.rot
                            obtain ⟨na, nc, rfl⟩ := own_form hownn
                            have hT : wv12.heap[w.heap.size]? = some (.cells #[r, n, k] 68 (0, 0)) ∧ wv12.heap[kb]? = some (.cells #[.func (.func f1) #[] #[], .func (.func f2) #[] #[], .func (.func f3) #[] #[], .func (.func f4) #[] #[]] 90 (0, 0)) ∧ wv12.heap[ob]? = some (.cells #[.int .u8 (tv o.t), .string o.d] 57 (0, 0)) := ⟨(hgn.block _ ((Array.getElem?_eq_some_iff.1 hS.1).1) (own_ne h3.own2 hS.1 (by decide))).trans hS.1, (hgn.block _ ((Array.getElem?_eq_some_iff.1 hS.2.1).1) (own_ne h3.own2 hS.2.1 (by decide))).trans hS.2.1, (hgn.block _ ((Array.getElem?_eq_some_iff.1 hS.2.2).1) nob.2.1).trans hS.2.2⟩
                            replace hBl := hBl.grown hgn hBl.size (own_base h3.own2)
                            replace hgb := (hgn.block _ ((Array.getElem?_eq_some_iff.1 hgb).1) ngb).trans hgb
                            refine hK' _ _ ⟨fun _ _ => hT, ?_⟩
                            clear hK' K' hS h3 hgn hownn hatn hga
                            simp only [Act.put, List.setIfInBounds_toArray, List.set_cons_zero, List.set_cons_succ]
                            have hS := hT
                            have h3 := h4
                            clear hT h4
                            refine take_ (i := 14) (N := some 126) (v := ?_) (a' := ?_) #[true, true, true, true, true, true, true, true, true, true, true, true, true, false, true, false, false, false] rfl rfl (by kernel_rfl) (fun _ _ _ h => h) (.inl ⟨by rfl, fun w' hS' => ?_⟩) hS ?_ ?_
                            rotate_left
                            · obtain ⟨s1, s2, s3⟩ := hS'
                              have t1 := fun i => blk_cell s1 i
                              have t2 := fun i => blk_cell s2 i
                              have t3 := fun i => blk_cell s3 i
                              go_simp
                              with_reducible rfl
                            rotate_left
                            · simp only [Act.put, List.setIfInBounds_toArray, List.set_cons_zero, List.set_cons_succ]
                              rfl
                            refine wpAnyLast_all (rs := [13]) (by kernel_rfl) (by simp) ?_
                            intro i hi'
                            obtain rfl := List.mem_singleton.1 hi'
                            refine wpOp_step rfl (fun K' hK' => ?_)
                            rw [if_pos (by rfl)]
                            refine wp_append_own_at (.tmp 122) (.tmp 124) 32 rfl w.heap.size 57 i0 (.agg #[.int .u8 0, .string ⟨#[]⟩]) 2 24 und32 hi hz0 hz1 hz2 rfl (by decide) k v.c.length (optCells v.c) rfl h3.own3 ⟨gb, 0, none⟩ 1 1 [.int .u8 (tv o.t), .string o.d] rfl rfl (two_at hgb) (by simp [Value.oneCell']) (by unfold maxLen; omega) (by omega) hBl.size ?_
                            intro k' wv13 hownk hgk hatk
                            have h4 := (h3.rot.rot.push (o := o) hownk hgk hatk).rot
                            obtain ⟨ka, kc, rfl⟩ := own_form hownk
                            have hT : wv13.heap[w.heap.size]? = some (.cells #[r, n, k] 68 (0, 0)) ∧ wv13.heap[kb]? = some (.cells #[.func (.func f1) #[] #[], .func (.func f2) #[] #[], .func (.func f3) #[] #[], .func (.func f4) #[] #[]] 90 (0, 0)) ∧ wv13.heap[ob]? = some (.cells #[.int .u8 (tv o.t), .string o.d] 57 (0, 0)) := ⟨(hgk.block _ ((Array.getElem?_eq_some_iff.1 hS.1).1) (own_ne h3.own3 hS.1 (by decide))).trans hS.1, (hgk.block _ ((Array.getElem?_eq_some_iff.1 hS.2.1).1) (own_ne h3.own3 hS.2.1 (by decide))).trans hS.2.1, (hgk.block _ ((Array.getElem?_eq_some_iff.1 hS.2.2).1) nob.2.2).trans hS.2.2⟩
                            replace hBl := hBl.grown hgk hBl.size (own_base h3.own3)
                            refine hK' _ _ ⟨fun _ _ => hT, ?_⟩
                            clear hK' K' hS h3 hgk hownk hatk
                            simp only [Act.put, List.setIfInBounds_toArray, List.set_cons_zero, List.set_cons_succ]
                            have hS := hT
                            have h3 := h4
                            clear hT h4
                            refine wpAnyLast_all (rs := [15]) (by kernel_rfl) (by simp) ?_
                            intro i hi'
                            obtain rfl := List.mem_singleton.1 hi'
                            refine wpOp_step rfl (fun K' hK' => ?_)
                            have v1 := fun i => blk_cell hS.1 i
                            have v2 := fun i => blk_frozen hS.1 i
                            go_simp
                            refine hK' _ _ ⟨fun h => by simp at h, ?_⟩
                            clear hK' K'
                            simp only [Act.put, List.setIfInBounds_toArray, List.set_cons_zero, List.set_cons_succ]
                            refine wpAnyLast_all (rs := [16]) (by kernel_rfl) (by simp) ?_
                            intro i hi'
                            obtain rfl := List.mem_singleton.1 hi'
                            refine wpOp_step rfl (fun K' hK' => ?_)
                            go_simp
                            refine hK' _ _ ⟨fun _ h => h, ?_⟩
                            clear hK' K'
                            simp only [Act.put, List.setIfInBounds_toArray, List.set_cons_zero, List.set_cons_succ]
                            refine wpAnyLast_all (rs := [17]) (by kernel_rfl) (by simp) ?_
                            intro i hi'
                            obtain rfl := List.mem_singleton.1 hi'
                            refine wpOp_step rfl (fun K' hK' => ?_)
                            have v1 := fun i => blk_cell (blk_set hS.1 1 (.slice na (v.n.length + 1) nc)) i
                            have v2 := fun i => blk_frozen (blk_set hS.1 1 (.slice na (v.n.length + 1) nc)) i
                            go_simp
                            refine hK' _ _ ⟨fun h => by simp at h, ?_⟩
                            clear hK' K'
                            simp only [Act.put, List.setIfInBounds_toArray, List.set_cons_zero, List.set_cons_succ]
                            refine wpAnyLast_done (by kernel_rfl) ?_ _
                            have m1 := blk_set (blk_set hS.1 1 (.slice na (v.n.length + 1) nc)) 2 (.slice ka (v.c.length + 1) kc)
                            have m2 := three_set (three_set h3 hS.1 1 (.slice na (v.n.length + 1) nc)) (blk_set hS.1 1 _) 2 (.slice ka (v.c.length + 1) kc)
                            have m3 := (hBl.setCell (p := ⟨w.heap.size, 1, none⟩) (Nat.le_refl _) (.slice na (v.n.length + 1) nc)).setCell (p := ⟨w.heap.size, 2, none⟩) (Nat.le_refl _) (.slice ka (v.c.length + 1) kc)
                            go_wp2
                            go_roundg (l.length - (j + 1))
                            case measure => have := A.out; omega
                            case rel =>
                              exact ⟨j + 1, _, _, _, ⟨v.r, v.n ++ [⟨tk kk, ow⟩], v.c ++ [o]⟩, by omega, rfl, by go_num, by rw [hl0.out], Lib.hid (hstep.out.trans (by rw [hnew.out])), by simp only; omega, by simp; omega, by simp; omega, m1, m2, m3⟩
                        · obtain rfl := List.mem_singleton.1 hi'
                          refine wpOp_step rfl (fun K' hK' => ?_)
                          have h3old := h3
                          go_simp
                          have hb := (Below.refl wv1.heap.size wv1).alloc (Nat.le_refl _) (.cells #[.int .u8 (tv o.t), .string o.d] 57)
                          have hT : (wv1.alloc (.cells #[.int .u8 (tv o.t), .string o.d] 57)).heap[w.heap.size]? = some (.cells #[r, n, k] 68 (0, 0)) ∧ (wv1.alloc (.cells #[.int .u8 (tv o.t), .string o.d] 57)).heap[kb]? = some (.cells #[.func (.func f1) #[] #[], .func (.func f2) #[] #[], .func (.func f3) #[] #[], .func (.func f4) #[] #[]] 90 (0, 0)) ∧ (wv1.alloc (.cells #[.int .u8 (tv o.t), .string o.d] 57)).heap[ob]? = some (.cells #[.int .u8 (tv o.t), .string o.d] 57 (0, 0)) := ⟨(hb.block _ ((Array.getElem?_eq_some_iff.1 hS.1).1)).trans hS.1, (hb.block _ ((Array.getElem?_eq_some_iff.1 hS.2.1).1)).trans hS.2.1, (hb.block _ ((Array.getElem?_eq_some_iff.1 hS.2.2).1)).trans hS.2.2⟩
                          replace h3 := h3.below hb
                          replace hBl := hBl.trans (hb.mono hBl.size)
                          have hgb : (wv1.alloc (.cells #[.int .u8 (tv o.t), .string o.d] 57)).heap[wv1.heap.size]? = some (.cells #[.int .u8 (tv o.t), .string o.d] 57 (0, 0)) := alloc_new _ _ _ rfl
                          have ngb : some wv1.heap.size ≠ n.ownBlock := fun e => by have := (h3old.own2.lt _ e.symm).2; omega
                          refine hK' _ _ ⟨fun _ _ => hT, ?_⟩
                          clear hK' K' hS hb
                          simp only [Act.put, List.setIfInBounds_toArray, List.set_cons_zero, List.set_cons_succ]
                          have hS := hT
                          clear hT
                          generalize wv1.alloc (.cells #[.int .u8 (tv o.t), .string o.d] 57) = wv14 at *
                          generalize wv1.heap.size = gb at *
                          refine wpAnyLast_all (rs := [6]) (by kernel_rfl) (by simp) ?_
                          intro i hi'
                          obtain rfl := List.mem_singleton.1 hi'
                          refine wpOp_step rfl (fun K' hK' => ?_)
                          go_simp
                          go_at_call 45
                          with_reducible refine (hon _ (hK0.below hBl)).mono ?_
                          rintro e wv15 ⟨rfl, hb⟩
                          have hT : wv15.heap[w.heap.size]? = some (.cells #[r, n, k] 68 (0, 0)) ∧ wv15.heap[kb]? = some (.cells #[.func (.func f1) #[] #[], .func (.func f2) #[] #[], .func (.func f3) #[] #[], .func (.func f4) #[] #[]] 90 (0, 0)) ∧ wv15.heap[ob]? = some (.cells #[.int .u8 (tv o.t), .string o.d] 57 (0, 0)) := ⟨(hb.block _ ((Array.getElem?_eq_some_iff.1 hS.1).1)).trans hS.1, (hb.block _ ((Array.getElem?_eq_some_iff.1 hS.2.1).1)).trans hS.2.1, (hb.block _ ((Array.getElem?_eq_some_iff.1 hS.2.2).1)).trans hS.2.2⟩
                          replace h3 := h3.below hb
                          replace hBl := hBl.trans (hb.mono hBl.size)
                          replace hgb := (hb.block _ ((Array.getElem?_eq_some_iff.1 hgb).1)).trans hgb
                          refine hK' _ _ ⟨fun _ _ => hT, ?_⟩
                          clear hK' K' hS hb
                          simp only [Act.put, List.setIfInBounds_toArray, List.set_cons_zero, List.set_cons_succ]
                          have hS := hT
                          clear hT
                          refine wpAnyLast_all (rs := [7]) (by kernel_rfl) (by simp) ?_
                          intro i hi'
                          obtain rfl := List.mem_singleton.1 hi'
                          refine wpOp_step rfl (fun K' hK' => ?_)
                          go_simp
                          have hb := (Below.refl wv15.heap.size wv15).alloc (Nat.le_refl _) (.cells #[.int .u8 (tv (tk kk)), .string ow] 57)
                          have hT : (wv15.alloc (.cells #[.int .u8 (tv (tk kk)), .string ow] 57)).heap[w.heap.size]? = some (.cells #[r, n, k] 68 (0, 0)) ∧ (wv15.alloc (.cells #[.int .u8 (tv (tk kk)), .string ow] 57)).heap[kb]? = some (.cells #[.func (.func f1) #[] #[], .func (.func f2) #[] #[], .func (.func f3) #[] #[], .func (.func f4) #[] #[]] 90 (0, 0)) ∧ (wv15.alloc (.cells #[.int .u8 (tv (tk kk)), .string ow] 57)).heap[ob]? = some (.cells #[.int .u8 (tv o.t), .string o.d] 57 (0, 0)) := ⟨(hb.block _ ((Array.getElem?_eq_some_iff.1 hS.1).1)).trans hS.1, (hb.block _ ((Array.getElem?_eq_some_iff.1 hS.2.1).1)).trans hS.2.1, (hb.block _ ((Array.getElem?_eq_some_iff.1 hS.2.2).1)).trans hS.2.2⟩
                          replace h3 := h3.below hb
                          replace hBl := hBl.trans (hb.mono hBl.size)
                          replace hgb := (hb.block _ ((Array.getElem?_eq_some_iff.1 hgb).1)).trans hgb
                          have hga : (wv15.alloc (.cells #[.int .u8 (tv (tk kk)), .string ow] 57)).heap[wv15.heap.size]? = some (.cells #[.int .u8 (tv (tk kk)), .string ow] 57 (0, 0)) := alloc_new _ _ _ rfl
                          refine hK' _ _ ⟨fun _ _ => hT, ?_⟩
                          clear hK' K' hS hb
                          simp only [Act.put, List.setIfInBounds_toArray, List.set_cons_zero, List.set_cons_succ]
                          have hS := hT
                          clear hT
                          generalize wv15.alloc (.cells #[.int .u8 (tv (tk kk)), .string ow] 57) = wv16 at *
                          generalize wv15.heap.size = ga at *
                          refine wpAnyLast_all (rs := [8]) (by kernel_rfl) (by simp) ?_
                          intro i hi'
                          obtain rfl := List.mem_singleton.1 hi'
                          refine wpOp_step rfl (fun K' hK' => ?_)
                          rw [if_pos (by rfl)]
                          refine wp_append_own_at (.tmp 113) (.tmp 119) 32 rfl w.heap.size 57 i0 (.agg #[.int .u8 0, .string ⟨#[]⟩]) 2 24 und32 hi hz0 hz1 hz2 rfl (by decide) n v.n.length (optCells v.n) rfl h3.own2 ⟨ga, 0, none⟩ 1 1 [.int .u8 (tv (tk kk)), .string ow] rfl rfl (two_at hga) (by simp [Value.oneCell']) (by unfold maxLen; omega) (by omega) hBl.size ?_
                          intro n' wv17 hownn hgn hatn
                          have h4 := (h3.rot.push (o := ⟨tk kk, ow⟩) hownn hgn hatn).rot.rot
                          obtain ⟨na, nc, rfl⟩ := own_form hownn
                          have hT : wv17.heap[w.heap.size]? = some (.cells #[r, n, k] 68 (0, 0)) ∧ wv17.heap[kb]? = some (.cells #[.func (.func f1) #[] #[], .func (.func f2) #[] #[], .func (.func f3) #[] #[], .func (.func f4) #[] #[]] 90 (0, 0)) ∧ wv17.heap[ob]? = some (.cells #[.int .u8 (tv o.t), .string o.d] 57 (0, 0)) := ⟨(hgn.block _ ((Array.getElem?_eq_some_iff.1 hS.1).1) (own_ne h3.own2 hS.1 (by decide))).trans hS.1, (hgn.block _ ((Array.getElem?_eq_some_iff.1 hS.2.1).1) (own_ne h3.own2 hS.2.1 (by decide))).trans hS.2.1, (hgn.block _ ((Array.getElem?_eq_some_iff.1 hS.2.2).1) nob.2.1).trans hS.2.2⟩
                          replace hBl := hBl.grown hgn hBl.size (own_base h3.own2)
                          replace hgb := (hgn.block _ ((Array.getElem?_eq_some_iff.1 hgb).1) ngb).trans hgb
                          refine hK' _ _ ⟨fun _ _ => hT, ?_⟩
                          clear hK' K' hS h3 hgn hownn hatn hga
                          simp only [Act.put, List.setIfInBounds_toArray, List.set_cons_zero, List.set_cons_succ]
                          have hS := hT
                          have h3 := h4
                          clear hT h4
                          refine take_ (i := 14) (N := some 126) (v := ?_) (a' := ?_) #[true, true, true, true, true, true, true, true, true, true, true, true, true, false, true, false, false, false] rfl rfl (by kernel_rfl) (fun _ _ _ h => h) (.inl ⟨by rfl, fun w' hS' => ?_⟩) hS ?_ ?_
                          rotate_left
                          · obtain ⟨s1, s2, s3⟩ := hS'
                            have t1 := fun i => blk_cell s1 i
                            have t2 := fun i => blk_cell s2 i
                            have t3 := fun i => blk_cell s3 i
                            go_simp
                            with_reducible rfl
                          rotate_left
                          · simp only [Act.put, List.setIfInBounds_toArray, List.set_cons_zero, List.set_cons_succ]
                            rfl
                          refine wpAnyLast_all (rs := [13]) (by kernel_rfl) (by simp) ?_
                          intro i hi'
                          obtain rfl := List.mem_singleton.1 hi'
                          refine wpOp_step rfl (fun K' hK' => ?_)
                          rw [if_pos (by rfl)]
                          refine wp_append_own_at (.tmp 122) (.tmp 124) 32 rfl w.heap.size 57 i0 (.agg #[.int .u8 0, .string ⟨#[]⟩]) 2 24 und32 hi hz0 hz1 hz2 rfl (by decide) k v.c.length (optCells v.c) rfl h3.own3 ⟨gb, 0, none⟩ 1 1 [.int .u8 (tv o.t), .string o.d] rfl rfl (two_at hgb) (by simp [Value.oneCell']) (by unfold maxLen; omega) (by omega) hBl.size ?_
                          intro k' wv18 hownk hgk hatk
                          have h4 := (h3.rot.rot.push (o := o) hownk hgk hatk).rot
                          obtain ⟨ka, kc, rfl⟩ := own_form hownk
                          have hT : wv18.heap[w.heap.size]? = some (.cells #[r, n, k] 68 (0, 0)) ∧ wv18.heap[kb]? = some (.cells #[.func (.func f1) #[] #[], .func (.func f2) #[] #[], .func (.func f3) #[] #[], .func (.func f4) #[] #[]] 90 (0, 0)) ∧ wv18.heap[ob]? = some (.cells #[.int .u8 (tv o.t), .string o.d] 57 (0, 0)) := ⟨(hgk.block _ ((Array.getElem?_eq_some_iff.1 hS.1).1) (own_ne h3.own3 hS.1 (by decide))).trans hS.1, (hgk.block _ ((Array.getElem?_eq_some_iff.1 hS.2.1).1) (own_ne h3.own3 hS.2.1 (by decide))).trans hS.2.1, (hgk.block _ ((Array.getElem?_eq_some_iff.1 hS.2.2).1) nob.2.2).trans hS.2.2⟩
                          replace hBl := hBl.grown hgk hBl.size (own_base h3.own3)
                          refine hK' _ _ ⟨fun _ _ => hT, ?_⟩
                          clear hK' K' hS h3 hgk hownk hatk
                          simp only [Act.put, List.setIfInBounds_toArray, List.set_cons_zero, List.set_cons_succ]
                          have hS := hT
                          have h3 := h4
                          clear hT h4
                          refine wpAnyLast_all (rs := [15]) (by kernel_rfl) (by simp) ?_
                          intro i hi'
                          obtain rfl := List.mem_singleton.1 hi'
                          refine wpOp_step rfl (fun K' hK' => ?_)
                          have v1 := fun i => blk_cell hS.1 i
                          have v2 := fun i => blk_frozen hS.1 i
                          go_simp
                          refine hK' _ _ ⟨fun h => by simp at h, ?_⟩
                          clear hK' K'
                          simp only [Act.put, List.setIfInBounds_toArray, List.set_cons_zero, List.set_cons_succ]
                          refine wpAnyLast_all (rs := [16]) (by kernel_rfl) (by simp) ?_
                          intro i hi'
                          obtain rfl := List.mem_singleton.1 hi'
                          refine wpOp_step rfl (fun K' hK' => ?_)
                          go_simp
                          refine hK' _ _ ⟨fun _ h => h, ?_⟩
                          clear hK' K'
                          simp only [Act.put, List.setIfInBounds_toArray, List.set_cons_zero, List.set_cons_succ]
                          refine wpAnyLast_all (rs := [17]) (by kernel_rfl) (by simp) ?_
                          intro i hi'
                          obtain rfl := List.mem_singleton.1 hi'
                          refine wpOp_step rfl (fun K' hK' => ?_)
                          have v1 := fun i => blk_cell (blk_set hS.1 1 (.slice na (v.n.length + 1) nc)) i
                          have v2 := fun i => blk_frozen (blk_set hS.1 1 (.slice na (v.n.length + 1) nc)) i
                          go_simp
                          refine hK' _ _ ⟨fun h => by simp at h, ?_⟩
                          clear hK' K'
                          simp only [Act.put, List.setIfInBounds_toArray, List.set_cons_zero, List.set_cons_succ]
                          refine wpAnyLast_done (by kernel_rfl) ?_ _
                          have m1 := blk_set (blk_set hS.1 1 (.slice na (v.n.length + 1) nc)) 2 (.slice ka (v.c.length + 1) kc)
                          have m2 := three_set (three_set h3 hS.1 1 (.slice na (v.n.length + 1) nc)) (blk_set hS.1 1 _) 2 (.slice ka (v.c.length + 1) kc)
                          have m3 := (hBl.setCell (p := ⟨w.heap.size, 1, none⟩) (Nat.le_refl _) (.slice na (v.n.length + 1) nc)).setCell (p := ⟨w.heap.size, 2, none⟩) (Nat.le_refl _) (.slice ka (v.c.length + 1) kc)
                          go_wp2
                          go_roundg (l.length - (j + 1))
                          case measure => have := A.out; omega
                          case rel =>
                            exact ⟨j + 1, _, _, _, ⟨v.r, v.n ++ [⟨tk kk, ow⟩], v.c ++ [o]⟩, by omega, rfl, by go_num, by rw [hl0.out], Lib.hid (hstep.out.trans (by rw [hnew.out])), by simp only; omega, by simp; omega, by simp; omega, m1, m2, m3⟩
                      · obtain rfl := List.mem_singleton.1 hi'
                        refine wpOp_step rfl (fun K' hK' => ?_)
                        have h3old := h3
                        go_simp
                        have hb := (Below.refl wa.heap.size wa).alloc (Nat.le_refl _) (.cells #[.int .u8 (tv o.t), .string o.d] 57)
                        have hT : (wa.alloc (.cells #[.int .u8 (tv o.t), .string o.d] 57)).heap[w.heap.size]? = some (.cells #[r, n, k] 68 (0, 0)) ∧ (wa.alloc (.cells #[.int .u8 (tv o.t), .string o.d] 57)).heap[kb]? = some (.cells #[.func (.func f1) #[] #[], .func (.func f2) #[] #[], .func (.func f3) #[] #[], .func (.func f4) #[] #[]] 90 (0, 0)) ∧ (wa.alloc (.cells #[.int .u8 (tv o.t), .string o.d] 57)).heap[ob]? = some (.cells #[.int .u8 (tv o.t), .string o.d] 57 (0, 0)) := ⟨(hb.block _ ((Array.getElem?_eq_some_iff.1 hS.1).1)).trans hS.1, (hb.block _ ((Array.getElem?_eq_some_iff.1 hS.2.1).1)).trans hS.2.1, (hb.block _ ((Array.getElem?_eq_some_iff.1 hS.2.2).1)).trans hS.2.2⟩
                        replace h3 := h3.below hb
                        replace hBl := hBl.trans (hb.mono hBl.size)
                        have hgb : (wa.alloc (.cells #[.int .u8 (tv o.t), .string o.d] 57)).heap[wa.heap.size]? = some (.cells #[.int .u8 (tv o.t), .string o.d] 57 (0, 0)) := alloc_new _ _ _ rfl
                        have ngb : some wa.heap.size ≠ n.ownBlock := fun e => by have := (h3old.own2.lt _ e.symm).2; omega
                        refine hK' _ _ ⟨fun _ _ => hT, ?_⟩
                        clear hK' K' hS hb
                        simp only [Act.put, List.setIfInBounds_toArray, List.set_cons_zero, List.set_cons_succ]
                        have hS := hT
                        clear hT
                        generalize wa.alloc (.cells #[.int .u8 (tv o.t), .string o.d] 57) = wv19 at *
                        generalize wa.heap.size = gb at *
                        refine wpAnyLast_all (rs := [5]) (by kernel_rfl) (by simp) ?_
                        intro i hi'
                        obtain rfl := List.mem_singleton.1 hi'
                        refine wpOp_step rfl (fun K' hK' => ?_)
                        go_simp
                        with_reducible refine (hmk2 _).mono ?_
                        rintro e wv20 ⟨rfl, hb⟩
                        have hT : wv20.heap[w.heap.size]? = some (.cells #[r, n, k] 68 (0, 0)) ∧ wv20.heap[kb]? = some (.cells #[.func (.func f1) #[] #[], .func (.func f2) #[] #[], .func (.func f3) #[] #[], .func (.func f4) #[] #[]] 90 (0, 0)) ∧ wv20.heap[ob]? = some (.cells #[.int .u8 (tv o.t), .string o.d] 57 (0, 0)) := ⟨(hb.block _ ((Array.getElem?_eq_some_iff.1 hS.1).1)).trans hS.1, (hb.block _ ((Array.getElem?_eq_some_iff.1 hS.2.1).1)).trans hS.2.1, (hb.block _ ((Array.getElem?_eq_some_iff.1 hS.2.2).1)).trans hS.2.2⟩
                        replace h3 := h3.below hb
                        replace hBl := hBl.trans (hb.mono hBl.size)
                        replace hgb := (hb.block _ ((Array.getElem?_eq_some_iff.1 hgb).1)).trans hgb
                        refine hK' _ _ ⟨fun _ _ => hT, ?_⟩
                        clear hK' K' hS hb
                        simp only [Act.put, List.setIfInBounds_toArray, List.set_cons_zero, List.set_cons_succ]
                        have hS := hT
                        clear hT
                        refine wpAnyLast_all (rs := [6]) (by kernel_rfl) (by simp) ?_
                        intro i hi'
                        obtain rfl := List.mem_singleton.1 hi'
                        refine wpOp_step rfl (fun K' hK' => ?_)
                        go_simp
                        go_at_call 45
                        with_reducible refine (hon _ (hK0.below hBl)).mono ?_
                        rintro e wv21 ⟨rfl, hb⟩
                        have hT : wv21.heap[w.heap.size]? = some (.cells #[r, n, k] 68 (0, 0)) ∧ wv21.heap[kb]? = some (.cells #[.func (.func f1) #[] #[], .func (.func f2) #[] #[], .func (.func f3) #[] #[], .func (.func f4) #[] #[]] 90 (0, 0)) ∧ wv21.heap[ob]? = some (.cells #[.int .u8 (tv o.t), .string o.d] 57 (0, 0)) := ⟨(hb.block _ ((Array.getElem?_eq_some_iff.1 hS.1).1)).trans hS.1, (hb.block _ ((Array.getElem?_eq_some_iff.1 hS.2.1).1)).trans hS.2.1, (hb.block _ ((Array.getElem?_eq_some_iff.1 hS.2.2).1)).trans hS.2.2⟩
                        replace h3 := h3.below hb
                        replace hBl := hBl.trans (hb.mono hBl.size)
                        replace hgb := (hb.block _ ((Array.getElem?_eq_some_iff.1 hgb).1)).trans hgb
                        refine hK' _ _ ⟨fun _ _ => hT, ?_⟩
                        clear hK' K' hS hb
                        simp only [Act.put, List.setIfInBounds_toArray, List.set_cons_zero, List.set_cons_succ]
                        have hS := hT
                        clear hT
                        refine wpAnyLast_all (rs := [7]) (by kernel_rfl) (by simp) ?_
                        intro i hi'
                        obtain rfl := List.mem_singleton.1 hi'
                        refine wpOp_step rfl (fun K' hK' => ?_)
                        go_simp
                        have hb := (Below.refl wv21.heap.size wv21).alloc (Nat.le_refl _) (.cells #[.int .u8 (tv (tk kk)), .string ow] 57)
                        have hT : (wv21.alloc (.cells #[.int .u8 (tv (tk kk)), .string ow] 57)).heap[w.heap.size]? = some (.cells #[r, n, k] 68 (0, 0)) ∧ (wv21.alloc (.cells #[.int .u8 (tv (tk kk)), .string ow] 57)).heap[kb]? = some (.cells #[.func (.func f1) #[] #[], .func (.func f2) #[] #[], .func (.func f3) #[] #[], .func (.func f4) #[] #[]] 90 (0, 0)) ∧ (wv21.alloc (.cells #[.int .u8 (tv (tk kk)), .string ow] 57)).heap[ob]? = some (.cells #[.int .u8 (tv o.t), .string o.d] 57 (0, 0)) := ⟨(hb.block _ ((Array.getElem?_eq_some_iff.1 hS.1).1)).trans hS.1, (hb.block _ ((Array.getElem?_eq_some_iff.1 hS.2.1).1)).trans hS.2.1, (hb.block _ ((Array.getElem?_eq_some_iff.1 hS.2.2).1)).trans hS.2.2⟩
                        replace h3 := h3.below hb
                        replace hBl := hBl.trans (hb.mono hBl.size)
                        replace hgb := (hb.block _ ((Array.getElem?_eq_some_iff.1 hgb).1)).trans hgb
                        have hga : (wv21.alloc (.cells #[.int .u8 (tv (tk kk)), .string ow] 57)).heap[wv21.heap.size]? = some (.cells #[.int .u8 (tv (tk kk)), .string ow] 57 (0, 0)) := alloc_new _ _ _ rfl
                        refine hK' _ _ ⟨fun _ _ => hT, ?_⟩
                        clear hK' K' hS hb
                        simp only [Act.put, List.setIfInBounds_toArray, List.set_cons_zero, List.set_cons_succ]
                        have hS := hT
                        clear hT
                        generalize wv21.alloc (.cells #[.int .u8 (tv (tk kk)), .string ow] 57) = wv22 at *
                        generalize wv21.heap.size = ga at *
                        refine wpAnyLast_all (rs := [8]) (by kernel_rfl) (by simp) ?_
                        intro i hi'
                        obtain rfl := List.mem_singleton.1 hi'
                        refine wpOp_step rfl (fun K' hK' => ?_)
                        rw [if_pos (by rfl)]
                        refine wp_append_own_at (.tmp 113) (.tmp 119) 32 rfl w.heap.size 57 i0 (.agg #[.int .u8 0, .string ⟨#[]⟩]) 2 24 und32 hi hz0 hz1 hz2 rfl (by decide) n v.n.length (optCells v.n) rfl h3.own2 ⟨ga, 0, none⟩ 1 1 [.int .u8 (tv (tk kk)), .string ow] rfl rfl (two_at hga) (by simp [Value.oneCell']) (by unfold maxLen; omega) (by omega) hBl.size ?_
                        intro n' wv23 hownn hgn hatn
                        have h4 := (h3.rot.push (o := ⟨tk kk, ow⟩) hownn hgn hatn).rot.rot
                        obtain ⟨na, nc, rfl⟩ := own_form hownn
                        have hT : wv23.heap[w.heap.size]? = some (.cells #[r, n, k] 68 (0, 0)) ∧ wv23.heap[kb]? = some (.cells #[.func (.func f1) #[] #[], .func (.func f2) #[] #[], .func (.func f3) #[] #[], .func (.func f4) #[] #[]] 90 (0, 0)) ∧ wv23.heap[ob]? = some (.cells #[.int .u8 (tv o.t), .string o.d] 57 (0, 0)) := ⟨(hgn.block _ ((Array.getElem?_eq_some_iff.1 hS.1).1) (own_ne h3.own2 hS.1 (by decide))).trans hS.1, (hgn.block _ ((Array.getElem?_eq_some_iff.1 hS.2.1).1) (own_ne h3.own2 hS.2.1 (by decide))).trans hS.2.1, (hgn.block _ ((Array.getElem?_eq_some_iff.1 hS.2.2).1) nob.2.1).trans hS.2.2⟩
                        replace hBl := hBl.grown hgn hBl.size (own_base h3.own2)
                        replace hgb := (hgn.block _ ((Array.getElem?_eq_some_iff.1 hgb).1) ngb).trans hgb
                        refine hK' _ _ ⟨fun _ _ => hT, ?_⟩
                        clear hK' K' hS h3 hgn hownn hatn hga
                        simp only [Act.put, List.setIfInBounds_toArray, List.set_cons_zero, List.set_cons_succ]
                        have hS := hT
                        have h3 := h4
                        clear hT h4
                        refine take_ (i := 14) (N := some 126) (v := ?_) (a' := ?_) #[true, true, true, true, true, true, true, true, true, true, true, true, true, false, true, false, false, false] rfl rfl (by kernel_rfl) (fun _ _ _ h => h) (.inl ⟨by rfl, fun w' hS' => ?_⟩) hS ?_ ?_
                        rotate_left
                        · obtain ⟨s1, s2, s3⟩ := hS'
                          have t1 := fun i => blk_cell s1 i
                          have t2 := fun i => blk_cell s2 i
                          have t3 := fun i => blk_cell s3 i
                          go_simp
                          with_reducible rfl
                        rotate_left
                        · simp only [Act.put, List.setIfInBounds_toArray, List.set_cons_zero, List.set_cons_succ]
                          rfl
                        refine wpAnyLast_all (rs := [13]) (by kernel_rfl) (by simp) ?_
                        intro i hi'
                        obtain rfl := List.mem_singleton.1 hi'
                        refine wpOp_step rfl (fun K' hK' => ?_)
                        rw [if_pos (by rfl)]
                        refine wp_append_own_at (.tmp 122) (.tmp 124) 32 rfl w.heap.size 57 i0 (.agg #[.int .u8 0, .string ⟨#[]⟩]) 2 24 und32 hi hz0 hz1 hz2 rfl (by decide) k v.c.length (optCells v.c) rfl h3.own3 ⟨gb, 0, none⟩ 1 1 [.int .u8 (tv o.t), .string o.d] rfl rfl (two_at hgb) (by simp [Value.oneCell']) (by unfold maxLen; omega) (by omega) hBl.size ?_
                        intro k' wv24 hownk hgk hatk
                        have h4 := (h3.rot.rot.push (o := o) hownk hgk hatk).rot
                        obtain ⟨ka, kc, rfl⟩ := own_form hownk
                        have hT : wv24.heap[w.heap.size]? = some (.cells #[r, n, k] 68 (0, 0)) ∧ wv24.heap[kb]? = some (.cells #[.func (.func f1) #[] #[], .func (.func f2) #[] #[], .func (.func f3) #[] #[], .func (.func f4) #[] #[]] 90 (0, 0)) ∧ wv24.heap[ob]? = some (.cells #[.int .u8 (tv o.t), .string o.d] 57 (0, 0)) := ⟨(hgk.block _ ((Array.getElem?_eq_some_iff.1 hS.1).1) (own_ne h3.own3 hS.1 (by decide))).trans hS.1, (hgk.block _ ((Array.getElem?_eq_some_iff.1 hS.2.1).1) (own_ne h3.own3 hS.2.1 (by decide))).trans hS.2.1, (hgk.block _ ((Array.getElem?_eq_some_iff.1 hS.2.2).1) nob.2.2).trans hS.2.2⟩
                        replace hBl := hBl.grown hgk hBl.size (own_base h3.own3)
                        refine hK' _ _ ⟨fun _ _ => hT, ?_⟩
                        clear hK' K' hS h3 hgk hownk hatk
                        simp only [Act.put, List.setIfInBounds_toArray, List.set_cons_zero, List.set_cons_succ]
                        have hS := hT
                        have h3 := h4
                        clear hT h4
                        refine wpAnyLast_all (rs := [15]) (by kernel_rfl) (by simp) ?_
                        intro i hi'
                        obtain rfl := List.mem_singleton.1 hi'
                        refine wpOp_step rfl (fun K' hK' => ?_)
                        have v1 := fun i => blk_cell hS.1 i
                        have v2 := fun i => blk_frozen hS.1 i
                        go_simp
                        refine hK' _ _ ⟨fun h => by simp at h, ?_⟩
                        clear hK' K'
                        simp only [Act.put, List.setIfInBounds_toArray, List.set_cons_zero, List.set_cons_succ]
                        refine wpAnyLast_all (rs := [16]) (by kernel_rfl) (by simp) ?_
                        intro i hi'
                        obtain rfl := List.mem_singleton.1 hi'
                        refine wpOp_step rfl (fun K' hK' => ?_)
                        go_simp
                        refine hK' _ _ ⟨fun _ h => h, ?_⟩
                        clear hK' K'
                        simp only [Act.put, List.setIfInBounds_toArray, List.set_cons_zero, List.set_cons_succ]
                        refine wpAnyLast_all (rs := [17]) (by kernel_rfl) (by simp) ?_
                        intro i hi'
                        obtain rfl := List.mem_singleton.1 hi'
                        refine wpOp_step rfl (fun K' hK' => ?_)
                        have v1 := fun i => blk_cell (blk_set hS.1 1 (.slice na (v.n.length + 1) nc)) i
                        have v2 := fun i => blk_frozen (blk_set hS.1 1 (.slice na (v.n.length + 1) nc)) i
                        go_simp
                        refine hK' _ _ ⟨fun h => by simp at h, ?_⟩
                        clear hK' K'
                        simp only [Act.put, List.setIfInBounds_toArray, List.set_cons_zero, List.set_cons_succ]
                        refine wpAnyLast_done (by kernel_rfl) ?_ _
                        have m1 := blk_set (blk_set hS.1 1 (.slice na (v.n.length + 1) nc)) 2 (.slice ka (v.c.length + 1) kc)
                        have m2 := three_set (three_set h3 hS.1 1 (.slice na (v.n.length + 1) nc)) (blk_set hS.1 1 _) 2 (.slice ka (v.c.length + 1) kc)
                        have m3 := (hBl.setCell (p := ⟨w.heap.size, 1, none⟩) (Nat.le_refl _) (.slice na (v.n.length + 1) nc)).setCell (p := ⟨w.heap.size, 2, none⟩) (Nat.le_refl _) (.slice ka (v.c.length + 1) kc)
                        go_wp2
                        go_roundg (l.length - (j + 1))
                        case measure => have := A.out; omega
                        case rel =>
                          exact ⟨j + 1, _, _, _, ⟨v.r, v.n ++ [⟨tk kk, ow⟩], v.c ++ [o]⟩, by omega, rfl, by go_num, by rw [hl0.out], Lib.hid (hstep.out.trans (by rw [hnew.out])), by simp only; omega, by simp; omega, by simp; omega, m1, m2, m3⟩
          · obtain ⟨hkv, hgd⟩ := kindV_no hno
            rw [hkv] at mlk1
            clear hkv hno
            have hv1 := Lib.hid (show verd s.c (l.take j) o = 1 from if_pos (.inr hgd))
            clear hgd
            go_upto_region 8 with fail
            have hcx2 := hcx1.alloc (.cells #[.nilFunc, .nilFunc, .nilFunc, .nilFunc] 90)
            generalize wc.alloc (.cells #[.nilFunc, .nilFunc, .nilFunc, .nilFunc] 90) = wD at *
            have d0 := blk_cell hcx2.obk 0
            have d1 := blk_cell hcx2.obk 1
            have d2 := fun i => blk_cell hcx2.blk i
            have d3 := fun ob => fun i => blk_cell (hcx2.alloc ob).blk i
            have d4 := fun ob => fun i => blk_frozen (hcx2.alloc ob).blk i
            go_wp2_with (first
              | (at_builtin; refine wpList_append_own_at _ rfl _ _ 32 rfl w.heap.size 57 i0 (.agg #[.int .u8 0, .string ⟨#[]⟩]) 2 24 und32 hi hz0 hz1 hz2 rfl (by decide) r v.r.length (optCells v.r) rfl (hcx2.alloc (.cells #[.int .u8 (tv o.t), .string o.d] 57)).rows.own1 ⟨wD.heap.size, 0, none⟩ 1 1 [.int .u8 (tv o.t), .string o.d] rfl rfl (cell_two _ _ _ _) (by simp [Value.oneCell']) (by unfold maxLen; omega) (by omega) (hcx2.alloc (.cells #[.int .u8 (tv o.t), .string o.d] 57)).bel.size ?_
                 intro r' w5 hown5 hg5 _ hat5
                 obtain ⟨k1, k2, k3⟩ := hcx2.push_r hown5 hg5 hat5
                 have e5 := (hg5.block w.heap.size ((Array.getElem?_eq_some_iff.1 (hcx2.alloc (.cells #[.int .u8 (tv o.t), .string o.d] 57)).blk).1) (own_ne (hcx2.alloc (.cells #[.int .u8 (tv o.t), .string o.d] 57)).rows.own1 (hcx2.alloc (.cells #[.int .u8 (tv o.t), .string o.d] 57)).blk (by decide))).trans (hcx2.alloc (.cells #[.int .u8 (tv o.t), .string o.d] 57)).blk
                 have e6 := fun i => blk_cell e5 i
                 have e7 := fun i => blk_frozen e5 i
                 obtain ⟨ra, rc, rfl⟩ := own_form hown5
                 clear hown5 hg5 hat5 e5))
            go_roundg (l.length - (j + 1))
            case measure => have := A.out; omega
            case rel =>
              refine ⟨j + 1, _, _, _, _, by omega, rfl, by go_num, by rw [hl0.out], Lib.hid (hstep.out.trans (by rw [step_rej hv1.out])), by simp; omega, by simp only; omega, by simp only; omega, k1, k2, k3⟩
    · obtain rfl : j = l.length := by omega
      have q1 : decide ((l.length : Int) < (l.length : Int)) = false := by simp
      have hfin : Hid (runL s.c l [] ⟨[], [], []⟩ = v) := Lib.hid (by rw [hrun.out, List.drop_length]; rfl)
      have hlk : Hid (lacks s.c l = (b0 && (l.take l.length).all fun o => !decide (o.t = 3))) := Lib.hid (by rw [List.take_length]; unfold lacks; rw [Hb0.out])
      generalize (b0 && (l.take l.length).all fun o => !decide (o.t = 3)) = lb at *
      have g0 := fun i => blk_cell b0' i
      have g1 := fun i => blk_frozen b0' i
      have hpr := hp.below hB
      obtain ⟨ra, rc, rfl⟩ := own_form hthree.own1
      obtain ⟨na, nc, rfl⟩ := own_form hthree.own2
      obtain ⟨ka, kc, rfl⟩ := own_form hthree.own3
      have gb := Lib.hid b0'
      cases lb with
      | false =>
        have hlook : Hid (look s.c l = v) := Lib.hid (by unfold look; rw [hlk.out, if_neg (by decide), hfin.out])
        clear b0'
        go_wp2
        (try simp only [Exit.inBlock, Exit.then])
        have s0 := blk_set gb.out 0 (.slice ra v.r.length rc)
        have s1 := blk_set s0 1 (.slice na v.n.length nc)
        have s2 := blk_set s1 2 (.slice ka v.c.length kc)
        have t2 := three_set (three_set (three_set hthree gb.out 0 (.slice ra v.r.length rc)) s0 1 (.slice na v.n.length nc)) s1 2 (.slice ka v.c.length kc)
        have e2 := ((hB.setCell (p := ⟨w.heap.size, 0, none⟩) (Nat.le_refl _) (.slice ra v.r.length rc)).setCell (p := ⟨w.heap.size, 1, none⟩) (Nat.le_refl _) (.slice na v.n.length nc)).setCell (p := ⟨w.heap.size, 2, none⟩) (Nat.le_refl _) (.slice ka v.c.length kc)
        have c2 := fun i => blk_cell s2 i
        refine bodyPost_ret (v := .agg #[.slice ra v.r.length rc, (.slice na v.n.length nc), .slice ka v.c.length kc]) ?_ rfl ?_
        · exact results_cell1 rfl _ _ _ rfl (by go_simp; try rfl)
        · rw [hlook.out]
          exact ⟨_, _, _, rfl, t2, e2⟩
      | true =>
        have hlook : Hid (look s.c l = ⟨v.r, v.n ++ [⟨3, oct s.c.peer⟩], v.c⟩) := Lib.hid (by unfold look; rw [hlk.out, if_pos rfl, hfin.out])
        have hon : ∀ W, K W → Calls Tryd.prog 45 #[.agg #[.bool true, .int .u32 (nv s.c.peer), .bool false, .int .u32 0, .bool false, .int .u32 0]] W fun e w' => e = .returned (.agg #[.int .u8 3, .string (oct s.c.peer)]) ∧ Below W.heap.size W w' := fun W hw => only_calls (noI.set 0 s.c.peer) ⟨3, oct s.c.peer⟩ [] (put_one 0 (by omega) _) W hw
        clear g0 g1
        go_upto_region 18 with fail
        refine start_ (n := 13) (S := fun W' => W'.heap[w.heap.size]? = some (.cells #[.slice ra v.r.length rc, .slice na v.n.length nc, .slice ka v.c.length kc] 68 (0, 0)) ∧ W'.heap[pb]? = some (.cells s.cells 66 (0, 0))) (ds := [12]) (#[false, false, false, false, false, false, false, false, false, false, false, false, false]) (by kernel_rfl) rfl rfl (⟨b0', hpr⟩) (fun hS => ?_)
        have h3 : Three wr.drew w.heap.size _ _ _ _ _ _ := hthree.below (below_drew (Below.refl _ _))
        have hBl := below_drew hB
        clear hthree hB b0' gb hpr
        generalize wr.drew = wa at *
        refine take_ (i := 0) (N := some 130) (v := ?_) (a' := ?_) #[true, false, false, false, false, false, false, false, false, false, false, false, false] rfl rfl (by kernel_rfl) (fun _ _ _ h => h) (.inl ⟨by rfl, fun w' hS' => ?_⟩) hS ?_ ?_
        rotate_left
        · obtain ⟨s1, s2⟩ := hS'
          have t1 := fun i => blk_cell s1 i
          have t2 := fun i => blk_cell s2 i
          simp only [Pol.cells] at t2
          go_simp
          with_reducible rfl
        rotate_left
        · simp only [Act.put, List.setIfInBounds_toArray, List.set_cons_zero, List.set_cons_succ]
          rfl
        refine take_ (i := 1) (N := some 131) (v := ?_) (a' := ?_) #[true, true, false, false, false, false, false, false, false, false, false, false, false] rfl rfl (by kernel_rfl) (fun _ _ _ h => h) (.inl ⟨by rfl, fun w' hS' => ?_⟩) hS ?_ ?_
        rotate_left
        · obtain ⟨s1, s2⟩ := hS'
          have t1 := fun i => blk_cell s1 i
          have t2 := fun i => blk_cell s2 i
          simp only [Pol.cells] at t2
          go_simp
          with_reducible rfl
        rotate_left
        · simp only [Act.put, List.setIfInBounds_toArray, List.set_cons_zero, List.set_cons_succ]
          rfl
        refine take_ (i := 2) (N := some 132) (v := ?_) (a' := ?_) #[true, true, true, false, false, false, false, false, false, false, false, false, false] rfl rfl (by kernel_rfl) (fun _ _ _ h => h) (.inl ⟨by rfl, fun w' hS' => ?_⟩) hS ?_ ?_
        rotate_left
        · obtain ⟨s1, s2⟩ := hS'
          have t1 := fun i => blk_cell s1 i
          have t2 := fun i => blk_cell s2 i
          simp only [Pol.cells] at t2
          go_simp
          with_reducible rfl
        rotate_left
        · simp only [Act.put, List.setIfInBounds_toArray, List.set_cons_zero, List.set_cons_succ]
          rfl
        refine take_ (i := 3) (N := some 133) (v := ?_) (a' := ?_) #[true, true, true, true, false, false, false, false, false, false, false, false, false] rfl rfl (by kernel_rfl) (fun _ _ _ h => h) (.inl ⟨by rfl, fun w' hS' => ?_⟩) hS ?_ ?_
        rotate_left
        · obtain ⟨s1, s2⟩ := hS'
          have t1 := fun i => blk_cell s1 i
          have t2 := fun i => blk_cell s2 i
          simp only [Pol.cells] at t2
          go_simp
          with_reducible rfl
        rotate_left
        · simp only [Act.put, List.setIfInBounds_toArray, List.set_cons_zero, List.set_cons_succ]
          rfl
        refine take_ (i := 4) (N := some 134) (v := ?_) (a' := ?_) #[true, true, true, true, true, false, false, false, false, false, false, false, false] rfl rfl (by kernel_rfl) (fun _ _ _ h => h) (.inl ⟨by rfl, fun w' hS' => ?_⟩) hS ?_ ?_
        rotate_left
        · obtain ⟨s1, s2⟩ := hS'
          have t1 := fun i => blk_cell s1 i
          have t2 := fun i => blk_cell s2 i
          simp only [Pol.cells] at t2
          go_simp
          with_reducible rfl
        rotate_left
        · simp only [Act.put, List.setIfInBounds_toArray, List.set_cons_zero, List.set_cons_succ]
          rfl
        refine take_ (i := 5) (N := some 135) (v := ?_) (a' := ?_) #[true, true, true, true, true, true, false, false, false, false, false, false, false] rfl rfl (by kernel_rfl) (fun _ _ _ h => h) (.inl ⟨by rfl, fun w' hS' => ?_⟩) hS ?_ ?_
        rotate_left
        · obtain ⟨s1, s2⟩ := hS'
          have t1 := fun i => blk_cell s1 i
          have t2 := fun i => blk_cell s2 i
          simp only [Pol.cells] at t2
          go_simp
          with_reducible rfl
        rotate_left
        · simp only [Act.put, List.setIfInBounds_toArray, List.set_cons_zero, List.set_cons_succ]
          rfl
        refine take_ (i := 6) (N := some 136) (v := ?_) (a' := ?_) #[true, true, true, true, true, true, true, false, false, false, false, false, false] rfl rfl (by kernel_rfl) (fun _ _ _ h => h) (.inl ⟨by rfl, fun w' hS' => ?_⟩) hS ?_ ?_
        rotate_left
        · obtain ⟨s1, s2⟩ := hS'
          have t1 := fun i => blk_cell s1 i
          have t2 := fun i => blk_cell s2 i
          simp only [Pol.cells] at t2
          go_simp
          with_reducible rfl
        rotate_left
        · simp only [Act.put, List.setIfInBounds_toArray, List.set_cons_zero, List.set_cons_succ]
          rfl
        refine take_ (i := 7) (N := some 137) (v := ?_) (a' := ?_) #[true, true, true, true, true, true, true, true, false, false, false, false, false] rfl rfl (by kernel_rfl) (fun _ _ _ h => h) (.inl ⟨by rfl, fun w' hS' => ?_⟩) hS ?_ ?_
        rotate_left
        · obtain ⟨s1, s2⟩ := hS'
          have t1 := fun i => blk_cell s1 i
          have t2 := fun i => blk_cell s2 i
          simp only [Pol.cells] at t2
          go_simp
          with_reducible rfl
        rotate_left
        · simp only [Act.put, List.setIfInBounds_toArray, List.set_cons_zero, List.set_cons_succ]
          rfl
        refine wpAnyLast_all (rs := [8]) (by kernel_rfl) (by simp) ?_
        intro i hi'
        obtain rfl := List.mem_singleton.1 hi'
        refine wpOp_step rfl (fun K' hK' => ?_)
        go_simp
        go_at_call 45
        with_reducible refine (hon _ (hK.below hBl)).mono ?_
        rintro e wv1 ⟨rfl, hb⟩
        have hT : wv1.heap[w.heap.size]? = some (.cells #[.slice ra v.r.length rc, .slice na v.n.length nc, .slice ka v.c.length kc] 68 (0, 0)) ∧ wv1.heap[pb]? = some (.cells s.cells 66 (0, 0)) := ⟨(hb.block _ ((Array.getElem?_eq_some_iff.1 hS.1).1)).trans hS.1, (hb.block _ ((Array.getElem?_eq_some_iff.1 hS.2).1)).trans hS.2⟩
        replace h3 := h3.below hb
        replace hBl := hBl.trans (hb.mono hBl.size)
        refine hK' _ _ ⟨fun _ _ => hT, ?_⟩
        clear hK' K' hS hb
        simp only [Act.put, List.setIfInBounds_toArray, List.set_cons_zero, List.set_cons_succ]
        have hS := hT
        clear hT
        refine wpAnyLast_all (rs := [9]) (by kernel_rfl) (by simp) ?_
        intro i hi'
        obtain rfl := List.mem_singleton.1 hi'
        refine wpOp_step rfl (fun K' hK' => ?_)
        go_simp
        have hb := (Below.refl wv1.heap.size wv1).alloc (Nat.le_refl _) (.cells #[.int .u8 3, .string (oct s.c.peer)] 57)
        have hT : (wv1.alloc (.cells #[.int .u8 3, .string (oct s.c.peer)] 57)).heap[w.heap.size]? = some (.cells #[.slice ra v.r.length rc, .slice na v.n.length nc, .slice ka v.c.length kc] 68 (0, 0)) ∧ (wv1.alloc (.cells #[.int .u8 3, .string (oct s.c.peer)] 57)).heap[pb]? = some (.cells s.cells 66 (0, 0)) := ⟨(hb.block _ ((Array.getElem?_eq_some_iff.1 hS.1).1)).trans hS.1, (hb.block _ ((Array.getElem?_eq_some_iff.1 hS.2).1)).trans hS.2⟩
        replace h3 := h3.below hb
        replace hBl := hBl.trans (hb.mono hBl.size)
        have hga : (wv1.alloc (.cells #[.int .u8 3, .string (oct s.c.peer)] 57)).heap[wv1.heap.size]? = some (.cells #[.int .u8 3, .string (oct s.c.peer)] 57 (0, 0)) := alloc_new _ _ _ rfl
        refine hK' _ _ ⟨fun _ _ => hT, ?_⟩
        clear hK' K' hS hb
        simp only [Act.put, List.setIfInBounds_toArray, List.set_cons_zero, List.set_cons_succ]
        have hS := hT
        clear hT
        generalize wv1.alloc (.cells #[.int .u8 3, .string (oct s.c.peer)] 57) = wv2 at *
        generalize wv1.heap.size = ga at *
        refine wpAnyLast_all (rs := [10]) (by kernel_rfl) (by simp) ?_
        intro i hi'
        obtain rfl := List.mem_singleton.1 hi'
        refine wpOp_step rfl (fun K' hK' => ?_)
        rw [if_pos (by rfl)]
        refine wp_append_own_at (.tmp 131) (.tmp 139) 32 rfl w.heap.size 57 i0 (.agg #[.int .u8 0, .string ⟨#[]⟩]) 2 24 und32 hi hz0 hz1 hz2 rfl (by decide) (.slice na v.n.length nc) v.n.length (optCells v.n) rfl h3.own2 ⟨ga, 0, none⟩ 1 1 [.int .u8 3, .string (oct s.c.peer)] rfl rfl (two_at hga) (by simp [Value.oneCell']) (by unfold maxLen; omega) (by omega) hBl.size ?_
        intro n' wv3 hownn hgn hatn
        have h4 := (h3.rot.push (o := ⟨3, oct s.c.peer⟩) hownn hgn hatn).rot.rot
        obtain ⟨na', nc', rfl⟩ := own_form hownn
        have hT : wv3.heap[w.heap.size]? = some (.cells #[.slice ra v.r.length rc, .slice na v.n.length nc, .slice ka v.c.length kc] 68 (0, 0)) ∧ wv3.heap[pb]? = some (.cells s.cells 66 (0, 0)) := ⟨(hgn.block _ ((Array.getElem?_eq_some_iff.1 hS.1).1) (own_ne h3.own2 hS.1 (by decide))).trans hS.1, (hgn.block _ ((Array.getElem?_eq_some_iff.1 hS.2).1) (own_ne h3.own2 hS.2 (by decide))).trans hS.2⟩
        replace hBl := hBl.grown hgn hBl.size (own_base h3.own2)
        refine hK' _ _ ⟨fun _ _ => hT, ?_⟩
        clear hK' K' hS h3 hgn hownn hatn hga
        simp only [Act.put, List.setIfInBounds_toArray, List.set_cons_zero, List.set_cons_succ]
        have hS := hT
        have h3 := h4
        clear hT h4
        refine take_ (i := 11) (N := some 141) (v := ?_) (a' := ?_) #[true, true, true, true, true, true, true, true, true, true, true, true, false] rfl rfl (by kernel_rfl) (fun _ _ _ h => h) (.inl ⟨by rfl, fun w' hS' => ?_⟩) hS ?_ ?_
        rotate_left
        · obtain ⟨s1, s2⟩ := hS'
          have t1 := fun i => blk_cell s1 i
          have t2 := fun i => blk_cell s2 i
          simp only [Pol.cells] at t2
          go_simp
          with_reducible rfl
        rotate_left
        · simp only [Act.put, List.setIfInBounds_toArray, List.set_cons_zero, List.set_cons_succ]
          rfl
        refine wpAnyLast_all (rs := [12]) (by kernel_rfl) (by simp) ?_
        intro i hi'
        obtain rfl := List.mem_singleton.1 hi'
        refine wpOp_step rfl (fun K' hK' => ?_)
        have v1 := fun i => blk_cell hS.1 i
        have v2 := fun i => blk_frozen hS.1 i
        go_simp
        refine hK' _ _ ⟨fun h => by simp at h, ?_⟩
        clear hK' K'
        simp only [Act.put, List.setIfInBounds_toArray, List.set_cons_zero, List.set_cons_succ]
        refine wpAnyLast_done (by kernel_rfl) ?_ _
        have m1 := blk_set hS.1 1 (.slice na' (v.n.length + 1) nc')
        have m2 := three_set h3 hS.1 1 (.slice na' (v.n.length + 1) nc')
        have m3 := hBl.setCell (p := ⟨w.heap.size, 1, none⟩) (Nat.le_refl _) (.slice na' (v.n.length + 1) nc')
        clear hS h3 hBl
        generalize wv3.setCell ⟨w.heap.size, 1, none⟩ (.slice na' (v.n.length + 1) nc') = wz at *
        have g0 := fun i => blk_cell m1 i
        have g1 := fun i => blk_frozen m1 i
        go_wp2
        (try simp only [Exit.inBlock, Exit.then])
        have s0 := blk_set m1 0 (.slice ra v.r.length rc)
        have s1 := blk_set s0 1 (.slice na' (v.n.length + 1) nc')
        have s2 := blk_set s1 2 (.slice ka v.c.length kc)
        have t2 := three_set (three_set (three_set m2 m1 0 (.slice ra v.r.length rc)) s0 1 (.slice na' (v.n.length + 1) nc')) s1 2 (.slice ka v.c.length kc)
        have e2 := ((m3.setCell (p := ⟨w.heap.size, 0, none⟩) (Nat.le_refl _) (.slice ra v.r.length rc)).setCell (p := ⟨w.heap.size, 1, none⟩) (Nat.le_refl _) (.slice na' (v.n.length + 1) nc')).setCell (p := ⟨w.heap.size, 2, none⟩) (Nat.le_refl _) (.slice ka v.c.length kc)
        have c2 := fun i => blk_cell s2 i
        refine bodyPost_ret (v := .agg #[.slice ra v.r.length rc, (.slice na' (v.n.length + 1) nc'), .slice ka v.c.length kc]) ?_ rfl ?_
        · exact results_cell1 rfl _ _ _ rfl (by go_simp; try rfl)
        · rw [hlook.out]
          exact ⟨_, _, _, rfl, t2, e2⟩
end Go.Proofs.YtlcckkdkcbelhaaDoor
