/-
  Layer 5 (hdlc): HdlcRefuses, walked.
-/
import Derived.Test.YtphoemgnfmlngaaHh
import Derived.Test.YtphoemgnfmlngaaHk
set_option linter.unusedVariables false
set_option linter.unusedSimpArgs false
namespace Go.Proofs.Ytphoemgnfmlngaa
open Go.RowKit Go.Proofs.YtphoemgnfmlngaaW.PrintWords Go.Proofs.YtphoemgnfmlngaaW.PrintLast

theorem heard_neq (r : Rc) (w : World) : (binOp .neq 53 (heardV r) (.agg #[.int .i64 (r.g : Int), .int .i64 (r.ab : Int), .int .i64 (r.lo : Int), .int .i64 (r.sh : Int), .int .i64 (r.su : Int)])).run Try.prog w = .ok (.bool false) w := by
  have h : ∀ n, (Op.equalIn (n + 2) 53 (hv r.g r.ab r.lo r.sh r.su) (hv r.g r.ab r.lo r.sh r.su)).run Try.prog w = .ok ((r.g : Int) == r.g && ((r.ab : Int) == r.ab && ((r.lo : Int) == r.lo && ((r.sh : Int) == r.sh && (r.su : Int) == r.su)))) w := fun n => by
    unfold hv
    refine eqA_of Try.underlying53 (by kernel_rfl) ?_
    refine eqf_cons (by rfl) (by go_simp; rfl) (by go_simp; rfl) (by go_simp) ?_
    refine eqf_cons (by rfl) (by go_simp; rfl) (by go_simp; rfl) (by go_simp) ?_
    refine eqf_cons (by rfl) (by go_simp; rfl) (by go_simp; rfl) (by go_simp) ?_
    refine eqf_cons (by rfl) (by go_simp; rfl) (by go_simp; rfl) (by go_simp) ?_
    exact eqf_last (by rfl) (by go_simp; rfl) (by go_simp; rfl) (by go_simp)
  have h' := h 9998
  rw [heardV_hv]
  unfold hv at h' ⊢
  simp only [binOp]
  simp [Op.equal, Op.maxDepth, h']
def wantCells (q : Rc) : Array Value := #[.int .i64 (q.g : Int), .int .i64 (q.ab : Int), .int .i64 (q.lo : Int), .int .i64 (q.sh : Int), .int .i64 (q.su : Int)]
/-- A receiver, and the variable that holds what is to be heard. -/
structure RS (w : World) (b wb : Nat) (r q : Rc) (v : Value) (W : World) : Prop where
  rc : IsRc W (b + 1) b r v
  want : W.heap[wb]? = some (.cells (wantCells q) 53 (0, 0))
  bel : Below w.heap.size w W
  le : w.heap.size ≤ b
  lew : w.heap.size ≤ wb
theorem RS.push {w W W3 : World} {b wb : Nat} {r r' q : Rc} {v v' ov : Value} {o : List (List UInt8)} (h : RS w b wb r q v W) (hp : PS W v (b + 1) b r' o v' ov W3) : RS w b wb r' q v' W3 := by
  refine ⟨hp.rc, ?_, Frm.below hp.fr h.bel h.le (fun g e => by have := own_base h.rc.own g e; have := h.le; omega), h.le, h.lew⟩
  have hne : wb ≠ b := by
    rintro rfl
    have := h.want.symm.trans h.rc.blk
    simp only [Option.some.injEq, Obj.cells.injEq] at this
    exact absurd this.2.1 (by decide)
  rw [hp.fr.block wb (Array.getElem?_eq_some_iff.1 h.want).1 hne (own_ne h.rc.own h.want (by decide))]
  exact h.want
theorem RS.below {w W W' : World} {b wb : Nat} {r q : Rc} {v : Value} (h : RS w b wb r q v W) (hb : Below W.heap.size W W') : RS w b wb r q v W' :=
  ⟨h.rc.below hb, (hb.block wb (Array.getElem?_eq_some_iff.1 h.want).1).trans h.want, h.bel.trans (hb.mono h.bel.size), h.le, h.lew⟩
theorem RS.set {w W : World} {b wb : Nat} {r q q' : Rc} {v : Value} (h : RS w b wb r q v W) (i : Nat) (u : Value) (hq : (wantCells q).setIfInBounds i u = wantCells q') : RS w b wb r q' v (W.setCell ⟨wb, i, none⟩ u) := by
  have hne : b ≠ wb := by
    rintro rfl
    have := h.want.symm.trans h.rc.blk
    simp only [Option.some.injEq, Obj.cells.injEq] at this
    exact absurd this.2.1 (by decide)
  refine ⟨⟨(Below.heap_setCell W ⟨wb, i, none⟩ u b hne).trans h.rc.blk, own_setCell h.rc.own (own_ne h.rc.own h.want (by decide)) _⟩, ?_, h.bel.setCell h.lew _, h.le, h.lew⟩
  rw [blk_set h.want i u, hq]
set_option maxHeartbeats 16000000 in
set_option maxRecDepth 100000 in
theorem refuses_calls (most c cut : Nat) (s : ByteArray) (hmost : most < 65536) (hc : c < 4294967296) (hcu : cut < 65536) (w : World) :
    Calls Try.prog 12 #[.string s, .int .u32 (c : Int), .int .u16 (most : Int), .int .u16 (cut : Int)] w fun e w' => e = .returned (.bool true) ∧ Below w.heap.size w w' := by
  by_cases hs : s.size ≤ 3000
  · have q0 : decide ((3000 : Int) < (s.size : Int)) = false := by simp; omega
    have q1 : decide (3000 < s.size) = false := by simp; omega
    have hrem : (most : Int).tmod 1507 = ((most % 1507 : Nat) : Int) := rfl
    have hmm : most % 1507 < 1507 := Nat.mod_lt _ (by decide)
    have hlen : s.data.toList.length = s.size := by rw [Array.length_toList]; rfl
    generalize most % 1507 = mm at *
    have hN : ∀ W : World, Calls Try.prog 37 #[.int .i64 (2 + (mm : Int)), .int .u32 (c : Int)] W fun e w' => e = .returned (.tuple #[.pointer (some ⟨W.heap.size, 0, none⟩), .int .i64 0]) ∧ Below W.heap.size W w' ∧ IsRc w' W.heap.size W.heap.size (newR (2 + (mm : Int)) c) (.slice none 0 0) := fun W => new_good _ _ ⟨by omega, by omega⟩ W
    have hOk : (newR (2 + (mm : Int)) c).Ok 0 := newR_ok _ _ ⟨by omega, by omega⟩ hc
    have hp0 : (newR (2 + (mm : Int)) c).p = [] := rfl
    obtain ⟨f1, f2⟩ := Rc.frame (newR (2 + (mm : Int)) c) s.data.toList hp0
    have hF := fun W => frame_calls s (by omega) c hc W
    have hfl : (Hd.frame s.data.toList c).length ≤ 6010 := by
      have := Esc.put_le c (Hd.sealL s.data.toList)
      have h2 := Hd.seal_len s.data.toList
      unfold Hd.frame
      simp only [List.length_cons, List.length_append, List.length_nil]
      omega
    rw [hlen, show (newR (2 + (mm : Int)) c).accm = c from rfl] at f1 f2
    rw [show (newR (2 + (mm : Int)) c).most = 2 + (mm : Int) from rfl] at f1 f2
    obtain ⟨r1, e1⟩ : ∃ x, (newR (2 + (mm : Int)) c).run (Hd.frame s.data.toList c) = x := ⟨_, rfl⟩
    obtain ⟨o1, e2⟩ : ∃ x, (newR (2 + (mm : Int)) c).outs (Hd.frame s.data.toList c) = x := ⟨_, rfl⟩
    rw [e1] at f1
    rw [e2] at f2
    have hOk1 := hOk.run (Hd.frame s.data.toList c)
    rw [e1] at hOk1
    go_enter Try.func12, Try.ntmps12
    go_upto_region 5 with (first
      | (go_at_call 37; with_reducible refine (hN _).mono ?_; rintro e w1 ⟨rfl, hb1, hr1⟩))
    have hlt1 := hr1.lt
    obtain ⟨b, hbe⟩ : ∃ b, w.heap.size = b := ⟨_, rfl⟩
    rw [hbe] at hr1 hlt1 ⊢
    go_upto_region 8 with fail
    have hlw := hb1.size
    have nw := alloc_new w1 _ (.cells #[.int .i64 0, .int .i64 0, .int .i64 0, .int .i64 0, .int .i64 0] 53) rfl
    have hA := (Below.refl w1.heap.size w1).alloc (Nat.le_refl _) (.cells #[.int .i64 0, .int .i64 0, .int .i64 0, .int .i64 0, .int .i64 0] 53)
    have hS0 : RS w b w1.heap.size (newR (2 + (mm : Int)) c) (newR (2 + (mm : Int)) c) (.slice none 0 0) (w1.alloc (.cells #[.int .i64 0, .int .i64 0, .int .i64 0, .int .i64 0, .int .i64 0] 53)) :=
      ⟨⟨(hA.block b hlt1).trans hr1.blk, World.ownsRow_nil _ _ _ _⟩, nw, hb1.trans (hA.mono hb1.size), by omega, by omega⟩
    clear hr1 nw hA hb1
    generalize w1.alloc (.cells #[.int .i64 0, .int .i64 0, .int .i64 0, .int .i64 0, .int .i64 0] 53) = wA at *
    generalize w1.heap.size = wb at *
    have hM : ∀ W, RS w b wb (newR (2 + (mm : Int)) c) (newR (2 + (mm : Int)) c) (.slice none 0 0) W → Calls Try.prog 40 #[.pointer (some ⟨b, 0, none⟩), .string (str (Hd.frame s.data.toList c))] W fun e w' => ∃ v' ov, e = .returned ov ∧ PS W (.slice none 0 0) (b + 1) b r1 o1 v' ov w' := fun W h => by
      have := push_calls (newR (2 + (mm : Int)) c) (b + 1) b (.slice none 0 0) (str (Hd.frame s.data.toList c)) W h.rc (by have := h.rc.lt; omega) 0 hOk (by rw [str_size]; omega)
      rw [str_list, e1, e2] at this
      exact this
    replace e1 := Lib.hid e1
    replace e2 := Lib.hid e2
    replace f1 := Lib.hid f1
    replace f2 := Lib.hid f2
    have hSz : (str (Hd.frame s.data.toList c)).size = (Hd.frame s.data.toList c).length := str_size _
    go_upto_block 0 with (first
      | (go_at_call 39; with_reducible refine (hF _).mono ?_; rintro e w2 ⟨rfl, hb2⟩; have hS1 := hS0.below hb2)
      | (go_at_call 40; with_reducible refine (hM _ hS1).mono ?_; rintro e w3 ⟨v3, o3, rfl, hp3⟩; have hS2 := hS1.push hp3))
    have t1 := fun i => blk_cell hS2.want i
    have t2 := fun i => blk_frozen hS2.want i
    simp only [wantCells, newR, Int.natCast_zero] at t1
    obtain ⟨oa, oc, rfl⟩ := row_form hp3.out
    go_cut [13] from 42 to 67 (fun s13 wx => ∃ (a : Option Addr) (cc : Nat), s13 = .slice a 0 cc ∧ RS w b wb r1 r1 v3 wx)
    case first =>
      by_cases hL : 2 + (mm : Int) < (s.size : Int)
      · have hso : Rc.sort (2 + (mm : Int)) s.size = 2 := by unfold Rc.sort; rw [if_pos hL]
        have hd : decide (2 + (mm : Int) < (s.size : Int)) = true := decide_eq_true hL
        have hf1 := f1.out
        have hf2 := f2.out
        rw [hso] at hf1 hf2
        have hr : (wantCells (newR (2 + (mm : Int)) c)).setIfInBounds 2 (.int .i64 1) = wantCells r1 := by rw [hf1]; rfl
        rw [if_neg (by decide)] at hf2
        subst hf2
        have hfin := hS2.set 2 (.int .i64 1) hr
        clear hf1 hr
        go_wp2
        go_meet
        exact ⟨oa, oc, rfl, hfin⟩
      · have hd : decide (2 + (mm : Int) < (s.size : Int)) = false := decide_eq_false hL
        by_cases hL2 : s.size < 2
        · have hso : Rc.sort (2 + (mm : Int)) s.size = 3 := by unfold Rc.sort; rw [if_neg hL, if_pos hL2]
          have hd2 : decide ((s.size : Int) < 2) = true := by simp; omega
          have hf1 := f1.out
          have hf2 := f2.out
          rw [hso] at hf1 hf2
          have hr : (wantCells (newR (2 + (mm : Int)) c)).setIfInBounds 3 (.int .i64 1) = wantCells r1 := by rw [hf1]; rfl
          rw [if_neg (by decide)] at hf2
          subst hf2
          have hfin := hS2.set 3 (.int .i64 1) hr
          clear hf1 hr
          go_wp2
          go_meet
          exact ⟨oa, oc, rfl, hfin⟩
        · have hso : Rc.sort (2 + (mm : Int)) s.size = 0 := by unfold Rc.sort; rw [if_neg hL, if_neg hL2]
          have hd2 : decide ((s.size : Int) < 2) = false := by simp; omega
          have hf1 := f1.out
          have hf2 := f2.out
          rw [hso] at hf1 hf2
          have hr : (wantCells (newR (2 + (mm : Int)) c)).setIfInBounds 0 (.int .i64 1) = wantCells r1 := by rw [hf1]; rfl
          rw [if_pos rfl] at hf2
          subst hf2
          have hfin := hS2.set 0 (.int .i64 1) hr
          have hout : (w3.setCell ⟨wb, 0, none⟩ (.int .i64 1)).ownsRow _ 9 1 (.slice oa 1 oc) 1 (strs [s.data.toList]) := own_setCell hp3.out (p := ⟨wb, 0, none⟩) (own_ne hp3.out hS2.want (by decide)) (.int .i64 1)
          have hSm : ∀ (W : World) (B1 B2 : Nat) (v u : Value), W.ownsRow B1 9 1 v 1 (strs [s.data.toList]) → W.ownsRow B2 9 1 u 1 (strs [s.data.toList]) → Calls Try.prog 41 #[v, u] W fun e w' => e = .returned (.bool true) ∧ Below W.heap.size W w' := fun W B1 B2 v u h1 h2 => by
            have := same_calls [s.data.toList] [s.data.toList] B1 B2 v u W h1 h2 (by simp) (by simp)
            rw [decide_eq_true rfl] at this
            exact this
          have hrow1 : ((w3.setCell ⟨wb, 0, none⟩ (.int .i64 1)).alloc (.cells #[.string s] 9)).ownsRow _ 9 1 (.slice (some ⟨(w3.setCell ⟨wb, 0, none⟩ (.int .i64 1)).heap.size, 0, none⟩) 1 1) 1 (strs [s.data.toList]) := one_row (w3.setCell ⟨wb, 0, none⟩ (.int .i64 1)) s
          rw [show (⟨(w3.setCell ⟨wb, 0, none⟩ (.int .i64 1)).heap.size, 0, none⟩ : Addr) = ⟨w3.heap.size, 0, none⟩ by simp [World.setCell]] at hrow1
          have hbz := (Below.refl (w3.setCell ⟨wb, 0, none⟩ (.int .i64 1)).heap.size (w3.setCell ⟨wb, 0, none⟩ (.int .i64 1))).alloc (Nat.le_refl _) (.cells #[.string s] 9)
          have hfinz := hfin.below hbz
          clear hf1 hr
          go_wp2_with (first
            | (go_at_call 41; with_reducible refine (hSm _ _ _ _ _ (hout.alloc _) hrow1).mono ?_; rintro e w4 ⟨rfl, hb4⟩; have hfin2 := hfinz.below hb4))
          go_meet
          exact ⟨none, 0, rfl, hfin2⟩
    case rest =>
      obtain ⟨a13, c13, rfl, hR⟩ := hcut
      clear hS2 hp3 hS1 hb2 hS0 t1 t2
      have hRd := hR.below (below_drew (Below.refl wc.heap.size wc))
      have u1 := fun i => blk_cell hR.want i
      simp only [wantCells] at u1
      have hgd := fun x y ys W => neg53 x y r1 ys W
      have hnq := fun W => heard_neq r1 W
      go_upto_region 17 with fail
      go_cut [76] from 68 to 76 (fun s76 wx => s76 = .bool false ∧ RS w b wb r1 r1 v3 wx)
      case first =>
        go_region_with (first
          | (go_at_call 42; with_reducible refine (heard_calls _ _ _ _ _ hR.rc).mono ?_; rintro e w5 ⟨rfl, hb5⟩; have hR5 := hR.below hb5; have u2 := fun i => blk_cell hR5.want i; simp only [wantCells] at u2)
          | (go_at_call 42; with_reducible refine (heard_calls _ _ _ _ _ hRd.rc).mono ?_; rintro e w5 ⟨rfl, hb5⟩; have hR5 := hRd.below hb5; have u2 := fun i => blk_cell hR5.want i; simp only [wantCells] at u2))
        all_goals (go_wp2; go_meet; exact ⟨rfl, hR5⟩)
      case rest =>
        obtain ⟨rfl, hR6⟩ := hcut
        clear hR hRd u1 hgd hnq
        have hfl3 : 3 ≤ (Hd.frame s.data.toList c).length := by
          have := Hd.put_ne c (Hd.sealL s.data.toList) (by simp [Hd.sealL, Hd.two])
          have := List.length_pos_iff.2 this
          unfold Hd.frame
          simp only [List.length_cons, List.length_append, List.length_nil]
          omega
        obtain ⟨L, hLe⟩ : ∃ L, (Hd.frame s.data.toList c).length = L := ⟨_, rfl⟩
        rw [hLe] at hSz hfl hfl3
        have hd3 : decide ((L : Int) < 3) = false := by simp; omega
        have hd4 : decide (L < 3) = false := by simp; omega
        have hre : (cut : Int).tmod ((L : Int) - 1) = ((cut % (L - 1) : Nat) : Int) := by
          rw [show (L : Int) - 1 = ((L - 1 : Nat) : Int) by omega]
          rfl
        have hrl : cut % (L - 1) < L - 1 := Nat.mod_lt _ (by omega)
        generalize cut % (L - 1) = kk at *
        go_upto_region 23 with (first
          | (go_at_call 39; with_reducible refine (hF _).mono ?_; rintro e w7 ⟨rfl, hb7⟩; have hR7 := hR6.below hb7))
        have hr1p : r1.p = [] ∧ r1.accm = c ∧ r1.most = 2 + (mm : Int) := by
          rw [f1.out]
          exact ⟨rfl, (Rc.add_most _ _).2.1, (Rc.add_most _ _).1⟩
        obtain ⟨hp1, ha1, hm1⟩ := hr1p
        clear hN hM hb7 hR6 f1 f2 e1 e2 q0 q1
        have hk1 : decide ((L : Int) - 1 < 1 + (kk : Int)) = false := by simp; omega
        have hk2 : ¬ ((L : Int) - 1 < 1 + (kk : Int)) := by omega
        have hk3 : (1 : Int) + (kk : Int) - 1 = (kk : Int) := by omega
        obtain ⟨F, hFe⟩ : ∃ F, str (Hd.frame s.data.toList c) = F := ⟨_, rfl⟩
        rw [hFe] at hSz ⊢
        by_cases hb : F[kk]'(by omega) = 125
        · have hbn : ((F[kk]'(by omega)).toNat : Int) = 125 := by rw [hb]; rfl
          have hbm : (F[kk]'(by omega)).toNat = 125 := by rw [hb]; rfl
          go_wp2_with (first
            | (go_at_call 36; with_reducible refine (alive_calls _).mono ?_; rintro e w9 ⟨rfl, hb9⟩))
          go_ret
          exact ⟨rfl, hR7.bel.trans (hb9.mono hR7.bel.size)⟩
        · have hbm : (F[kk]'(by omega)).toNat ≠ 125 := fun h => hb (UInt8.toNat_inj.1 h)
          have hbn : ((F[kk]'(by omega)).toNat : Int) ≠ 125 := fun h => hbm (by omega)
          go_upto_region 25 with fail
          obtain ⟨g1, g2⟩ := Rc.abort r1 s.data.toList (1 + kk) (by omega) (by rw [ha1, hLe]; omega) hp1
          rw [ha1] at g1 g2
          have hAl : ((Hd.frame s.data.toList c).take (1 + kk)).length = 1 + kk := by rw [List.length_take]; omega
          have hsl : ∀ W, (Instr.slice 9 (.string F) none (some (.int .i64 (1 + (kk : Int)))) none).run Try.prog W = .ok (.string (str ((Hd.frame s.data.toList c).take (1 + kk)))) W := fun W => by
            rw [run_slice_string_to_if (P := Try.prog) W 9 F .i64 (1 + (kk : Int)) Try.underlying9, if_pos (by omega)]
            have hx : F.extract 0 (1 + (kk : Int)).toNat = str ((Hd.frame s.data.toList c).take (1 + kk)) := by
              rw [← str_of (F.extract _ _), ext_list, ← hFe, str_list, List.drop_zero, Nat.sub_zero, show (1 + (kk : Int)).toNat = 1 + kk by omega]
            rw [hx]
          obtain ⟨A, hAe⟩ : ∃ A, (Hd.frame s.data.toList c).take (1 + kk) = A := ⟨_, rfl⟩
          rw [hAe] at g1 g2 hAl hsl
          obtain ⟨B, hBe⟩ : ∃ B, Hd.frame [111, 107] c = B := ⟨_, rfl⟩
          have hBl : B.length ≤ 10 := by
            have := Esc.put_le c (Hd.sealL [111, 107])
            have h2 := Hd.seal_len [111, 107]
            rw [← hBe]
            unfold Hd.frame
            simp only [List.length_cons, List.length_append, List.length_nil] at h2 ⊢
            omega
          have hF2 := fun W => frame_calls ⟨#[111, 107]⟩ (by decide) c hc W
          rw [show (⟨#[111, 107]⟩ : ByteArray).data.toList = [111, 107] from rfl, hBe] at hF2
          obtain ⟨r2, hr2⟩ : ∃ x, ({ r1.add 1 with inn := true, p := [] } : Rc) = x := ⟨_, rfl⟩
          rw [hr2] at g1
          obtain ⟨h1, h2⟩ := Rc.frame r2 [111, 107] (by rw [← hr2])
          rw [show r2.accm = c by rw [← hr2]; exact (Rc.add_most _ _).2.1.trans ha1, show r2.most = 2 + (mm : Int) by rw [← hr2]; exact (Rc.add_most _ _).1.trans hm1, hBe] at h1 h2
          have hso : Rc.sort (2 + (mm : Int)) [(111 : UInt8), 107].length = 0 := by unfold Rc.sort; rw [if_neg (by simp; omega), if_neg (by decide)]
          rw [hso] at h1 h2
          rw [if_pos rfl] at h2
          obtain ⟨r3, hr3⟩ : ∃ x, ({ r2.add 0 with inn := true, p := [] } : Rc) = x := ⟨_, rfl⟩
          rw [hr3] at h1
          have hcat : str A ++ (⟨#[125, 126]⟩ : ByteArray) ++ str B = str (A ++ [125, 126] ++ B) := by rw [← str_append (A ++ [125, 126]), ← str_append A]; rfl
          have hM2 : ∀ W, RS w b wb r1 r1 v3 W → Calls Try.prog 40 #[.pointer (some ⟨b, 0, none⟩), .string (str A ++ (⟨#[125, 126]⟩ : ByteArray) ++ str B)] W fun e w' => ∃ v' ov, e = .returned ov ∧ PS W v3 (b + 1) b r3 [[111, 107]] v' ov w' := fun W h => by
            have := push_calls r1 (b + 1) b v3 (str (A ++ [125, 126] ++ B)) W h.rc (by have := h.rc.lt; omega) (0 + (Hd.frame s.data.toList c).length) hOk1 (by rw [str_size, List.length_append, List.length_append]; simp; omega)
            rw [str_list, Rc.run_append, Rc.outs_append, g1, g2, h1, h2] at this
            rw [hcat]
            exact this
          have hq1 : (wantCells r1).setIfInBounds 1 (.int .i64 ((r1.ab : Int) + 1)) = wantCells (r1.add 1) := by
            unfold Rc.add wantCells; rfl
          have hq2 : (wantCells (r1.add 1)).setIfInBounds 0 (.int .i64 ((r1.g : Int) + 1)) = wantCells r3 := by
            rw [← hr3, ← hr2]; unfold Rc.add wantCells; rfl
          have hg1 : ((r1.add 1).g : Int) = (r1.g : Int) := rfl
          have hsA : (str A).size = 1 + kk := by rw [str_size, hAl]
          have hsB : (str B).size ≤ 10 := by rw [str_size]; exact hBl
          have hs2 : (⟨#[125, 126]⟩ : ByteArray).size = 2 := rfl
          have hnab : r1.ab ≤ 6010 := by have := hOk1.ab; omega
          have hng : r1.g ≤ 6010 := by have := hOk1.g; omega
          clear hcat h1 h2 g1 g2 hr2 hr3 hso hBl hOk hOk1
          generalize str A = sA at *
          generalize str B = sB at *
          go_cut [13] from 100 to 111 (fun s13 wx => ∃ v4 W0, RS w b wb r3 r1 v4 wx ∧ PS W0 v3 (b + 1) b r3 [[111, 107]] v4 s13 wx)
          case first =>
            have hRd := hR7.below (below_drew (Below.refl w7.heap.size w7))
            go_region_with (first
              | (go_at_call 39; with_reducible refine (hF2 _).mono ?_; rintro e w8 ⟨rfl, hb8⟩; have hR8 := hRd.below hb8)
              | (go_at_call 39; with_reducible refine (hF2 _).mono ?_; rintro e w8 ⟨rfl, hb8⟩; have hR8 := hR7.below hb8)
              | (go_at_call 40; with_reducible refine (hM2 _ hR8).mono ?_; rintro e w9 ⟨v4, o4, rfl, hp4⟩; have hR9 := hR8.push hp4; obtain ⟨oa4, oc4, rfl⟩ := row_form hp4.out))
            all_goals go_wp2
            all_goals (go_meet; exact ⟨v4, _, hR9, hp4⟩)
          case rest =>
            obtain ⟨v4, W0, hR9, hp4⟩ := hcut
            clear hR7 hM2 hF2
            have u1 := fun i => blk_cell hR9.want i
            have u2 := fun i => blk_frozen hR9.want i
            simp only [wantCells] at u1
            have hRa := hR9.set 1 (.int .i64 ((r1.ab : Int) + 1)) hq1
            have u3 := fun i => blk_cell hRa.want i
            have u4 := fun i => blk_frozen hRa.want i
            simp only [wantCells, hg1] at u3
            have hRb := hRa.set 0 (.int .i64 ((r1.g : Int) + 1)) hq2
            have hout := own_setCell (own_setCell hp4.out (p := ⟨wb, 1, none⟩) (own_ne hp4.out hR9.want (by decide)) (.int .i64 ((r1.ab : Int) + 1))) (p := ⟨wb, 0, none⟩) (own_ne hp4.out hR9.want (by decide)) (.int .i64 ((r1.g : Int) + 1))
            obtain ⟨oa4, oc4, rfl⟩ := row_form hout
            go_upto_region 28 with fail
            clear u1 u2 u3 u4 hq1 hq2 hR9 hp4 hRa
            have hSm : ∀ (W : World) (B1 B2 : Nat) (v u : Value), W.ownsRow B1 9 1 v 1 (strs [[111, 107]]) → W.ownsRow B2 9 1 u 1 (strs [[111, 107]]) → Calls Try.prog 41 #[v, u] W fun e w' => e = .returned (.bool true) ∧ Below W.heap.size W w' := fun W B1 B2 v u h1 h2 => by
              have := same_calls [[111, 107]] [[111, 107]] B1 B2 v u W h1 h2 (by decide) (by decide)
              rw [decide_eq_true rfl] at this
              exact this
            have hgd := fun x y ys W => eqg53 x y r3 ys W
            have hse := fun W => heard_eq r3 r3.g r3.ab r3.lo r3.sh r3.su W
            rw [decide_eq_true (show r3.heard = (r3.g, r3.ab, r3.lo, r3.sh, r3.su) from rfl)] at hse
            generalize (wc.setCell ⟨wb, 1, none⟩ (.int .i64 ((r1.ab : Int) + 1))).setCell ⟨wb, 0, none⟩ (.int .i64 ((r1.g : Int) + 1)) = wz at *
            have hS41 : Calls Try.prog 41 #[.slice oa4 1 oc4, .slice (some ⟨wz.heap.size, 0, none⟩) 1 1] (wz.alloc (.cells #[.string ⟨#[111, 107]⟩] 9)).drew (fun e w' => e = .returned (.bool true) ∧ Below (wz.alloc (.cells #[.string ⟨#[111, 107]⟩] 9)).drew.heap.size (wz.alloc (.cells #[.string ⟨#[111, 107]⟩] 9)).drew w') := hSm _ _ _ _ _ (hout.alloc (.cells #[.string ⟨#[111, 107]⟩] 9)).drew (one_row wz ⟨#[111, 107]⟩).drew
            have hR41 : RS w b wb r3 r3 v4 (wz.alloc (.cells #[.string ⟨#[111, 107]⟩] 9)).drew := hRb.below (below_drew ((Below.refl wz.heap.size wz).alloc (Nat.le_refl _) (.cells #[.string ⟨#[111, 107]⟩] 9)))
            go_region_with (first
              | (go_at_call 41; with_reducible refine hS41.mono ?_; rintro e w5 ⟨rfl, hb5⟩; have hR5 := hR41.below hb5; have u1 := fun i => blk_cell hR5.want i; simp only [wantCells] at u1)
              | (go_at_call 42; with_reducible refine (heard_calls _ _ _ _ _ hR5.rc).mono ?_; rintro e w6 ⟨rfl, hb6⟩; have hR6 := hR5.below hb6; have u2 := fun i => blk_cell hR6.want i; simp only [wantCells] at u2)
              | (go_at_call 36; with_reducible refine (alive_calls _).mono ?_; rintro e w9 ⟨rfl, hb9⟩))
            all_goals (go_wp2; go_ret; exact ⟨rfl, hR6.bel.trans (hb9.mono hR6.bel.size)⟩)
  · have q0 : decide ((3000 : Int) < (s.size : Int)) = true := by simp; omega
    have q1 : 3000 < s.size := by omega
    go_enter Try.func12, Try.ntmps12
    go_wp2_with (first
      | (go_at_call 36; with_reducible refine (alive_calls _).mono ?_; rintro e w9 ⟨rfl, hb9⟩))
    go_ret
    exact ⟨rfl, hb9⟩
end Go.Proofs.Ytphoemgnfmlngaa
