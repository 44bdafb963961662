/-
  Layer 4 (hdlc): what is heard, compared; alive, walked.
-/
import Derived.Test.YtphoemgnfmlngaaHf
set_option linter.unusedVariables false
set_option linter.unusedSimpArgs false
namespace Go.Proofs.Ytphoemgnfmlngaa
open Go.RowKit Go.Proofs.YtphoemgnfmlngaaW.PrintWords Go.Proofs.YtphoemgnfmlngaaW.PrintLast

/-- A value of what is heard. -/
def hv (g ab lo sh su : Int) : Value := .agg #[.int .i64 g, .int .i64 ab, .int .i64 lo, .int .i64 sh, .int .i64 su]
theorem eql53 (w : World) (a b c d e a' b' c' d' e' : Int) :
    (binOp .eql 53 (hv a b c d e) (hv a' b' c' d' e')).run Try.prog w = .ok (.bool (a == a' && (b == b' && (c == c' && (d == d' && e == e'))))) w := by
  have h : ∀ n, (Op.equalIn (n + 2) 53 (hv a b c d e) (hv a' b' c' d' e')).run Try.prog w = .ok (a == a' && (b == b' && (c == c' && (d == d' && e == e')))) w := fun n => by
    unfold hv
    refine eqA_of Try.underlying53 (by kernel_rfl) ?_
    refine eqf_cons (by rfl) (by go_simp; rfl) (by go_simp; rfl) (by go_simp) ?_
    refine eqf_cons (by rfl) (by go_simp; rfl) (by go_simp; rfl) (by go_simp) ?_
    refine eqf_cons (by rfl) (by go_simp; rfl) (by go_simp; rfl) (by go_simp) ?_
    refine eqf_cons (by rfl) (by go_simp; rfl) (by go_simp; rfl) (by go_simp) ?_
    exact eqf_last (by rfl) (by go_simp; rfl) (by go_simp; rfl) (by go_simp)
  have h' := h 9998
  unfold hv at h' ⊢
  simp only [binOp]
  simp [Op.equal, Op.maxDepth, h']
theorem guard53 : Try.prog.eqGuardType Try.prog.depth 53 = false := by kernel_rfl
theorem eqg53 (x y : Operand) (r : Rc) (ys : Array Value) (w : World) : (eqGuard .eql 53 x y (heardV r) (.agg ys)).run Try.prog w = .ok () w := by
  unfold heardV
  simp [eqGuard, guard53]
theorem neg53 (x y : Operand) (r : Rc) (ys : Array Value) (w : World) : (eqGuard .neq 53 x y (heardV r) (.agg ys)).run Try.prog w = .ok () w := by
  unfold heardV
  simp [eqGuard, guard53]
/-- The same of what is heard. -/
def Rc.heard (r : Rc) : Nat × Nat × Nat × Nat × Nat := (r.g, r.ab, r.lo, r.sh, r.su)
theorem heardV_hv (r : Rc) : heardV r = hv r.g r.ab r.lo r.sh r.su := rfl
theorem heard_eq (r : Rc) (g ab lo sh su : Nat) (w : World) : (binOp .eql 53 (heardV r) (.agg #[.int .i64 (g : Int), .int .i64 (ab : Int), .int .i64 (lo : Int), .int .i64 (sh : Int), .int .i64 (su : Int)])).run Try.prog w = .ok (.bool (decide (r.heard = (g, ab, lo, sh, su)))) w := by
  have := eql53 w r.g r.ab r.lo r.sh r.su g ab lo sh su
  rw [heardV_hv]
  unfold hv at this ⊢
  rw [this]
  congr 2
  rw [Bool.eq_iff_iff]
  simp only [Bool.and_eq_true, beq_iff_eq, decide_eq_true_eq, Rc.heard, Prod.mk.injEq]
  constructor <;> (rintro ⟨h1, h2, h3, h4, h5⟩; refine ⟨by omega, by omega, by omega, by omega, by omega⟩)
def Hd.alR : Rc := (newR 2 0).run ([126, 120, 125, 126, 120, 126, 126, 126] ++ Hd.frame [97, 98] 0)
theorem alR_outs : (newR 2 0).outs ([126, 120, 125, 126, 120, 126, 126, 126] ++ Hd.frame [97, 98] 0) = [[97, 98]] := by decide +kernel
theorem alR_heard : Hd.alR.heard = (1, 1, 0, 1, 0) := by decide +kernel
theorem alR_p : Hd.alR.p = [] := by decide +kernel
theorem newR_ok (m : Int) (c : Nat) (hm : 2 ≤ m ∧ m ≤ 1508) (hc : c < 4294967296) : (newR m c).Ok 0 := ⟨Nat.le_refl _, Nat.le_refl _, Nat.le_refl _, Nat.le_refl _, Nat.le_refl _, Nat.le_refl _, hm, hc⟩
theorem al_frame_len : (Hd.frame [97, 98] 0).length < 100 := by decide +kernel
theorem Frm.below {b : Nat} {w0 w w' : World} {v : Value} (hf : Frm b v.ownBlock w w') (hb : Below w0.heap.size w0 w) (h0 : w0.heap.size ≤ b) (hv : ∀ g, v.ownBlock = some g → w0.heap.size ≤ g) : Below w0.heap.size w0 w' :=
  hb.trans ⟨hf.os, hf.tape, hf.output, hf.size, fun k hk => hf.block k (Nat.lt_of_lt_of_le hk hb.size) (by omega) (fun e => by have := hv k e.symm; omega)⟩
theorem one_row (W : World) (s : ByteArray) : (W.alloc (.cells #[.string s] 9)).ownsRow W.heap.size 9 1 (.slice (some ⟨W.heap.size, 0, none⟩) 1 1) [s.data.toList].length (strs [s.data.toList]) := by
  refine ⟨by simp [strs], .inr ⟨W.heap.size, 1, _, rfl, Nat.le_refl _, alloc_new W _ _ rfl, by simp, by unfold maxLen; omega, by simp, ?_⟩⟩
  simp [strs, str_of]
set_option maxHeartbeats 16000000 in
set_option maxRecDepth 100000 in
theorem alive_calls (w : World) : Calls Try.prog 36 #[] w fun e w' => e = .returned (.bool true) ∧ Below w.heap.size w w' := by
  have hF : ∀ W : World, Calls Try.prog 39 #[.string ⟨#[97, 98]⟩, .int .u32 0] W fun e w' => e = .returned (.string (str (Hd.frame [97, 98] 0))) ∧ Below W.heap.size W w' := fun W => frame_calls ⟨#[97, 98]⟩ (by decide) 0 (by decide) W
  have hN1 : ∀ W : World, Calls Try.prog 37 #[.int .i64 2, .int .u32 0] W fun e w' => e = .returned (.tuple #[.pointer (some ⟨W.heap.size, 0, none⟩), .int .i64 0]) ∧ Below W.heap.size W w' ∧ IsRc w' W.heap.size W.heap.size (newR 2 0) (.slice none 0 0) := fun W => new_good 2 0 (by decide) W
  have hN2 : ∀ W : World, Calls Try.prog 37 #[.int .i64 1, .int .u32 0] W fun e w' => e = .returned (.tuple #[.pointer none, .int .i64 2]) ∧ Below W.heap.size W w' := fun W => new_bad 1 0 (by decide) W
  have hfl := al_frame_len
  have houts := alR_outs
  have hcat : (⟨#[126, 120, 125, 126, 120, 126, 126, 126]⟩ : ByteArray) ++ str (Hd.frame [97, 98] 0) = str ([126, 120, 125, 126, 120, 126, 126, 126] ++ Hd.frame [97, 98] 0) := str_append [126, 120, 125, 126, 120, 126, 126, 126] _
  have hsz8 : (⟨#[126, 120, 125, 126, 120, 126, 126, 126]⟩ : ByteArray).size = 8 := rfl
  have hfs : (str (Hd.frame [97, 98] 0)).size < 100 := by rw [str_size]; exact hfl
  have hP : ∀ W B b v, IsRc W B b (newR 2 0) v → B ≤ W.heap.size → Calls Try.prog 40 #[.pointer (some ⟨b, 0, none⟩), .string ((⟨#[126, 120, 125, 126, 120, 126, 126, 126]⟩ : ByteArray) ++ str (Hd.frame [97, 98] 0))] W fun e w' => ∃ v' ov, e = .returned ov ∧ PS W v B b Hd.alR [[97, 98]] v' ov w' := fun W B b v h hB => by
    have := push_calls (newR 2 0) B b v (str ([126, 120, 125, 126, 120, 126, 126, 126] ++ Hd.frame [97, 98] 0)) W h hB 0 (newR_ok _ _ (by decide) (by decide)) (by rw [str_size, List.length_append]; simp; omega)
    rw [str_list, houts] at this
    rw [hcat]
    exact this
  have hin : decide (0 < Hd.alR.p.length) = false := by rw [alR_p]; rfl
  have hhe : ∀ W : World, (binOp .eql 53 (heardV Hd.alR) (.agg #[.int .i64 1, .int .i64 1, .int .i64 0, .int .i64 1, .int .i64 0])).run Try.prog W = .ok (.bool true) W := fun W => by
    have := heard_eq Hd.alR 1 1 0 1 0 W
    rw [decide_eq_true alR_heard] at this
    exact this
  have hSm : ∀ (W : World) (B1 B2 : Nat) (v u : Value), W.ownsRow B1 9 1 v [[(97 : UInt8), 98]].length (strs [[97, 98]]) → W.ownsRow B2 9 1 u [[(97 : UInt8), 98]].length (strs [[97, 98]]) → Calls Try.prog 41 #[v, u] W fun e w' => e = .returned (.bool true) ∧ Below W.heap.size W w' := fun W B1 B2 v u h1 h2 => by
    have := same_calls [[97, 98]] [[97, 98]] B1 B2 v u W h1 h2 (by decide) (by decide)
    rw [decide_eq_true rfl] at this
    exact this
  have hgd := fun x y ys W => eqg53 x y Hd.alR ys W
  clear hcat houts hfl
  generalize Hd.alR = r at *
  generalize str (Hd.frame [97, 98] 0) = F at *
  go_enter Try.func36, Try.ntmps36
  go_upto_region 2 with (first
    | (go_at_call 37; with_reducible refine (hN1 _).mono ?_; rintro e w1 ⟨rfl, hb1, hr1⟩))
  obtain ⟨b, hbe⟩ : ∃ b, w.heap.size = b := ⟨_, rfl⟩
  rw [hbe] at hr1 ⊢
  go_wp2_with (first
    | (go_at_call 37; with_reducible refine (hN2 _).mono ?_; rintro e w2 ⟨rfl, hb2⟩; have hr2 := hr1.below hb2)
    | (go_at_call 39; with_reducible refine (hF _).mono ?_; rintro e w3 ⟨rfl, hb3⟩; have hr3 := hr2.below hb3)
    | (go_at_call 40; with_reducible refine (hP _ _ _ _ hr3 (by have := hr3.lt; omega)).mono ?_; rintro e w4 ⟨v4, o4, rfl, hp4⟩)
    | (go_at_call 41; with_reducible refine (hSm _ _ _ _ _ (hp4.out.alloc _) (one_row w4 _)).mono ?_; rintro e w5 ⟨rfl, hb5⟩; have hbz := ((Below.refl w4.heap.size w4).alloc (Nat.le_refl _) (.cells #[.string ⟨#[97, 98]⟩] 9)); have hr5 := (hp4.rc.below hbz).below hb5)
    | (go_at_call 42; with_reducible refine (heard_calls _ _ _ _ _ hr5).mono ?_; rintro e w6 ⟨rfl, hb6⟩; have hr6 := hr5.below hb6)
    | (go_at_call 43; with_reducible refine (inside_calls _ _ _ _ _ hr6).mono ?_; rintro e w7 ⟨rfl, hw⟩; obtain rfl := hw.symm; rw [hin]))
  go_ret
  have B1 := hb1.trans (hb2.mono hb1.size)
  have B2 := B1.trans (hb3.mono B1.size)
  have B3 := Frm.below hp4.fr B2 (by omega) (by intro g e; cases e)
  have B4 := B3.trans (hbz.mono B3.size)
  have B5 := B4.trans (hb5.mono B4.size)
  exact ⟨rfl, B5.trans (hb6.mono B5.size)⟩
end Go.Proofs.Ytphoemgnfmlngaa
