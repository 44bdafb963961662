/-
  Layer 15 (ipcppol): the law IpcppolOnly, walked.
-/
import Derived.Test.YtlcckkdkcbelhaaDoorPureOnly
import Derived.Test.YtlcckkdkcbelhaaDoorAlive
import Derived.Test.YtlcckkdkcbelhaaDoorLng
set_option linter.unusedVariables false
set_option linter.unusedSimpArgs false
namespace Go.Proofs.YtlcckkdkcbelhaaDoor
open Go.RowKit Go.Proofs.YtlcckkdkcbelhaaDoorW.PrintWords Go.Proofs.YtlcckkdkcbelhaaDoorW.PrintLast

/-- The rows of a row of rows. -/
structure Rows2 (w : World) (ra : Option Addr) (rc len : Nat) (f : Nat → List Opt) : Prop where
  cap : len ≤ rc
  at_ : ∀ i, i < len → ∃ x a c, ra = some x ∧ w.cell? (x.add i) = some (.slice a (f i).length c) ∧ Row w a c (f i) ∧ (a = none → c = 0 ∧ f i = [])
  small : ∀ i, i < len → ∀ o ∈ f i, o.d.size ≤ 140737488355328
theorem Rows2.below {w W : World} {ra : Option Addr} {rc len : Nat} {f : Nat → List Opt} (h : Rows2 w ra rc len f) (hb : Below w.heap.size w W) : Rows2 W ra rc len f := by
  refine ⟨h.cap, fun i hi => ?_, h.small⟩
  obtain ⟨x, a, c, e, h1, h2, h3⟩ := h.at_ i hi
  exact ⟨x, a, c, e, (hb.cell (cell_lt h1)).trans h1, h2.below hb, h3⟩
theorem run_len (c : Conf) : ∀ (l pre : List Opt) (V : V3), (runL c l pre V).r.length ≤ V.r.length + l.length ∧ (runL c l pre V).n.length ≤ V.n.length + l.length ∧ (runL c l pre V).c.length ≤ V.c.length + l.length
  | [], pre, V => by simp [runL]
  | o :: l, pre, V => by
    obtain ⟨h1, h2, h3⟩ := run_len c l (pre ++ [o]) (step3 c pre o V)
    simp only [runL, List.length_cons]
    rcases verd_cases c pre o with hv | hv | hv
    · rw [step_no hv] at h1 h2 h3 ⊢
      omega
    · rw [step_rej hv] at h1 h2 h3 ⊢
      simp only [List.length_append, List.length_cons, List.length_nil] at h1 h2 h3
      omega
    · rw [step_nak hv] at h1 h2 h3 ⊢
      simp only [List.length_append, List.length_cons, List.length_nil] at h1 h2 h3
      omega
theorem look_len (c : Conf) (l : List Opt) : (look c l).r.length ≤ l.length + 1 ∧ (look c l).n.length ≤ l.length + 1 ∧ (look c l).c.length ≤ l.length + 1 := by
  obtain ⟨h1, h2, h3⟩ := run_len c l [] ⟨[], [], []⟩
  simp only [List.length_nil] at h1 h2 h3
  unfold look
  split
  · simp only [List.length_append, List.length_cons, List.length_nil]
    omega
  · omega
theorem judge_len (s : Pol) (l : List Opt) : (judge s l).2.1.length ≤ l.length + 1 ∧ ((judge s l).1 = 2 ∨ (judge s l).1 = 3 ∨ (judge s l).1 = 4) := by
  obtain ⟨h1, h2, h3⟩ := look_len s.c l
  unfold judge
  split
  · exact ⟨h1, .inr (.inr rfl)⟩
  · split
    · exact ⟨h2, .inr (.inl rfl)⟩
    · split
      · exact ⟨h3, .inr (.inr rfl)⟩
      · exact ⟨by simp only; omega, .inl rfl⟩
theorem get_told {m odd : List Opt} {y : Icp} {g : Int} (hg : getI m = (y, odd, g)) (hm : m.length < 1000000) (a : Option Addr) (c : Nat) (w : World) (h : Row w a c m) (hK : K w) :
    Calls Tryd.prog 11 #[.slice a m.length c] w fun e w' => ∃ x k, e = .returned (.tuple #[.agg #[.bool y.ha, .int .u32 (nv y.a), .bool y.h1, .int .u32 (nv y.d1), .bool y.h2, .int .u32 (nv y.d2)], .slice x odd.length k, .int .i64 g]) ∧ Row w' x k odd ∧ Below w.heap.size w w' := by
  have := geti_calls m a c w h hm hK
  rw [hg] at this
  refine this.mono ?_
  rintro e w' ⟨v, rfl, ⟨x, k, rfl, hr⟩, hb⟩
  exact ⟨x, k, rfl, hr, hb⟩
theorem nv_ne {a b : UInt32} (h : a ≠ b) : (nv a == nv b) = false ∧ (nv a != nv b) = true := by
  have : (nv a == nv b) = false := by rw [ni_bool, decide_eq_false h]
  exact ⟨this, by rw [bne, this]; rfl⟩
theorem nv_ne0 {a : UInt32} (h : a ≠ 0) : (nv a == 0) = false ∧ (nv a != 0) = true := nv_ne (b := 0) h
theorem only_short (c : Conf) (f : Nat → List Opt) (ra : Option Addr) (rc len : Nat) (w : World) (hc : len ≤ rc) (h : 40 < len) (hK : K w) :
    Calls Tryd.prog 3 #[.agg c.cells, .slice ra len rc] w fun e w' => e = .returned (.bool true) ∧ Below w.heap.size w w' := by
  obtain ⟨a, b, d, e, g, z⟩ := c
  rw [show (Conf.mk a b d e g z).cells = #[.int .u32 (nv a), .int .u32 (nv b), .int .u32 (nv d), .int .u32 (nv e), .bool g, .int .i64 z] from rfl]
  have q1 : decide ((40 : Int) < (len : Int)) = true := by simp; omega
  have q2 : decide (40 < len) = true := by simp; omega
  have hB := (Below.refl w.heap.size w).alloc (Nat.le_refl _) (.cells #[.int .u32 (nv a), .int .u32 (nv b), .int .u32 (nv d), .int .u32 (nv e), .bool g, .int .i64 z] 24)
  have hK1 := hK.below hB
  go_enter Tryd.func3, Tryd.ntmps3
  go_wp2_with (first
    | (go_at_call 7; with_reducible refine (alive_calls _ hK1).mono ?_; rintro e w1 ⟨rfl, hb1⟩))
  go_ret
  exact ⟨rfl, hB.trans (hb1.mono hB.size)⟩
theorem only_bad (c : Conf) (f : Nat → List Opt) (ra : Option Addr) (rc len : Nat) (w : World) (hc : len ≤ rc) (h : len ≤ 40) (hm : ¬ (1 ≤ c.max ∧ c.max ≤ 10)) (hK : K w) :
    Calls Tryd.prog 3 #[.agg c.cells, .slice ra len rc] w fun e w' => e = .returned (.bool true) ∧ Below w.heap.size w w' := by
  have hN := fun W => new_bad c hm W
  obtain ⟨a, b, d, e, g, z⟩ := c
  have hcc : (Conf.mk a b d e g z).cells = #[.int .u32 (nv a), .int .u32 (nv b), .int .u32 (nv d), .int .u32 (nv e), .bool g, .int .i64 z] := rfl
  rw [hcc]
  simp only [hcc] at hN
  have q1 : decide ((40 : Int) < (len : Int)) = false := by simp; omega
  have q2 : decide (40 < len) = false := by simp; omega
  have hB := (Below.refl w.heap.size w).alloc (Nat.le_refl _) (.cells #[.int .u32 (nv a), .int .u32 (nv b), .int .u32 (nv d), .int .u32 (nv e), .bool g, .int .i64 z] 24)
  have cl : ∀ i, (w.alloc (.cells #[.int .u32 (nv a), .int .u32 (nv b), .int .u32 (nv d), .int .u32 (nv e), .bool g, .int .i64 z] 24)).cell? ⟨w.heap.size, i, none⟩ = _ := fun i => blk_cell (alloc_new w _ _ rfl) i
  have hz := hB.size
  go_enter Tryd.func3, Tryd.ntmps3
  go_wp2_with (first
    | (go_at_call 8; with_reducible refine (hN _).mono ?_; rintro e w1 ⟨rfl, hb1⟩
       have B1 := hB.trans (hb1.mono hz)
       have hK1 := hK.below B1)
    | (go_at_call 7; with_reducible refine (alive_calls _ hK1).mono ?_; rintro e w2 ⟨rfl, hb2⟩))
  go_ret
  exact ⟨rfl, B1.trans (hb2.mono B1.size)⟩
attribute [local go_sem high] eqA36
set_option maxRecDepth 100000 in
set_option maxHeartbeats 16000000 in
theorem only_good (c : Conf) (f : Nat → List Opt) (ra : Option Addr) (rc len : Nat) (w : World) (hr : Rows2 w ra rc len f) (h : len ≤ 40) (hm : 1 ≤ c.max ∧ c.max ≤ 10) (hK : K w) :
    Calls Tryd.prog 3 #[.agg c.cells, .slice ra len rc] w fun e w' => e = .returned (.bool true) ∧ Below w.heap.size w w' := by
  have hN := fun W => new_good c hm.1 hm.2 W
  have hC := Lib.hid hr.cap
  have hcc : c.cells = #[.int .u32 (nv c.addr), .int .u32 (nv c.peer), .int .u32 (nv c.dns1), .int .u32 (nv c.dns2), .bool c.want, .int .i64 c.max] := rfl
  have hu36 := Tryd.underlying36
  rw [hcc]
  simp only [hcc] at hN
  have q1 : decide ((40 : Int) < (len : Int)) = false := by simp; omega
  have q2 : decide (40 < len) = false := by simp; omega
  have hB := (Below.refl w.heap.size w).alloc (Nat.le_refl _) (.cells #[.int .u32 (nv c.addr), .int .u32 (nv c.peer), .int .u32 (nv c.dns1), .int .u32 (nv c.dns2), .bool c.want, .int .i64 c.max] 24)
  have hcb := alloc_new w _ (.cells #[.int .u32 (nv c.addr), .int .u32 (nv c.peer), .int .u32 (nv c.dns1), .int .u32 (nv c.dns2), .bool c.want, .int .i64 c.max] 24) rfl
  have cl := fun i => blk_cell hcb i
  have hz := hB.size
  have hlt : w.heap.size < (w.alloc (.cells #[.int .u32 (nv c.addr), .int .u32 (nv c.peer), .int .u32 (nv c.dns1), .int .u32 (nv c.dns2), .bool c.want, .int .i64 c.max] 24)).heap.size := by simp
  go_enter Tryd.func3, Tryd.ntmps3
  go_wp2_with (first
    | (go_at_call 8; with_reducible refine (hN _).mono ?_; rintro e w1 ⟨rfl, hb1, hp1⟩
       have B1 := hB.trans (hb1.mono hz)
       have hc1 := (hb1.block _ hlt).trans hcb))
  simp only [World.size_alloc] at hp1
  have hpb : w.heap.size + 1 ≤ w.heap.size + 1 + 1 := by omega
  clear cl hN hcb hlt hb1 hz hB
  generalize w.heap.size + 1 + 1 = pb at *
  have hcx : w.heap.size ≠ pb := by omega
  have hcy : w.heap.size ≤ pb := by omega
  have hcw : w.heap.size ≤ w.heap.size := Nat.le_refl _
  have hS0 : ∃ s, s = resetP c := ⟨_, rfl⟩
  go_loopg [7] len (fun q i wr => ∃ (j : Nat) (s : Pol), j ≤ len ∧ q = len - j ∧ i = .int .i64 (j : Int) ∧ IsPol wr pb s ∧ s.c = c ∧ 0 ≤ s.naks ∧ s.naks ≤ 10 ∧ Below w.heap.size w wr ∧ wr.heap[w.heap.size]? = some (.cells #[.int .u32 (nv c.addr), .int .u32 (nv c.peer), .int .u32 (nv c.dns1), .int .u32 (nv c.dns2), .bool c.want, .int .i64 c.max] 24 (0, 0)))
  case atStart => exact ⟨0, resetP c, by omega, rfl, rfl, hp1, rfl, by simp [resetP], by simp [resetP], B1, hc1⟩
  case round =>
    obtain ⟨j, s, hj, hq, rfl, hp, hsc, hn0, hn1, hB, hcb⟩ := hrel
    have A := Lib.hid hq; clear hq
    clear hp1 B1 hc1
    by_cases hlt : j < len
    · have q3 : decide ((j : Int) < (len : Int)) = true := by simp; omega
      have hr1 := hr.below hB
      obtain ⟨x, a1, c1, rfl, x00, hl0, _⟩ := hr.at_ j hlt
      have x0 := (hB.cell (cell_lt x00)).trans x00
      have hl1 := hl0.below hB
      have zl := hr.small j hlt
      generalize f j = l at *
      cases hlong : longB l with
      | true =>
        go_wp2_with (first
          | (go_at_call 9; with_reducible refine (long_det l _ _ _ hl1 zl).mono ?_; rintro e w2 ⟨rfl, hw⟩; obtain rfl := hw.symm; rw [hlong])
          | (go_at_call 7; with_reducible refine (alive_calls _ (hK.below hB)).mono ?_; rintro e w3 ⟨rfl, hb3⟩))
        go_ret
        exact ⟨rfl, hB.trans (hb3.mono hB.size)⟩
      | false =>
        obtain ⟨l70, _⟩ := longB_spec hlong
        obtain ⟨z, m, s', hj⟩ : ∃ z m s', judge s l = (z, m, s') := ⟨_, _, _, rfl⟩
        obtain ⟨kc, kw, km, k0, k1⟩ := judge_keeps s l ⟨hn0, hn1⟩ (by rw [hsc]; exact hm.2)
        obtain ⟨jl, jz⟩ := judge_len s l
        have nf := nak_fine s l
        have af := ack_fine s l
        rw [hj] at kc k0 k1 jl jz nf af
        simp only at kc k0 k1 jl jz nf af
        obtain ⟨y, odd, g, hg⟩ : ∃ y odd g, getI m = (y, odd, g) := ⟨_, _, _, rfl⟩
        have hJ := fun W h1 h2 h3 => judge_told hj (by omega) ⟨hn0, by omega⟩ pb a1 c1 l.length rfl W h1 h2 h3
        have hG := fun a k W h1 h2 => get_told hg (by omega) a k W h1 h2
        have NF := Lib.hid nf
        have AF := Lib.hid af
        have HG := Lib.hid hg
        have HJ := Lib.hid hj
        have KC := Lib.hid (kc.trans hsc)
        have K01 := Lib.hid (And.intro k0 k1)
        have JZ := Lib.hid jz
        clear nf af hg hj kc kw km k0 k1 jz hn0 hn1
        have hcl := (Array.getElem?_eq_some_iff.1 hcb).1
        go_upto_region 13 with (first
          | (go_at_call 9; go_loud ((with_reducible refine (long_det l _ _ _ hl1 zl).mono ?_); rintro e w2 ⟨rfl, hw⟩; obtain rfl := hw.symm; rw [hlong]))
          | (go_at_call 10; go_loud ((with_reducible refine (hJ _ hl1 (hK.below hB) hp).mono ?_); rintro e w2 ⟨xm, km, rfl, hm2, hbt, hp2⟩; have B2 := But.below hB hbt hcy hB.size; have hc2 := (hbt.block _ hcl hcx).trans hcb))
          | (go_at_call 11; with_reducible refine (hG _ _ _ hm2 (hK.below B2)).mono ?_; rintro e w3 ⟨xo, ko, rfl, ho3, hb3⟩
             have B3 := B2.trans (hb3.mono B2.size)
             have hp3 := hp2.below hb3
             have hm3 := hm2.below hb3
             have hc3 := (hb3.block _ (Nat.lt_of_lt_of_le hcl hbt.size)).trans hc2))
        have ha := (Below.refl w3.heap.size w3).alloc (Nat.le_refl _) (.cells #[.bool y.ha, .int .u32 (nv y.a), .bool y.h1, .int .u32 (nv y.d1), .bool y.h2, .int .u32 (nv y.d2)] 36)
        have B4 := B3.alloc B3.size (.cells #[.bool y.ha, .int .u32 (nv y.a), .bool y.h1, .int .u32 (nv y.d1), .bool y.h2, .int .u32 (nv y.d2)] 36)
        have hp4 := hp3.below ha
        have hm4 := hm3.below ha
        have ho4 := ho3.below ha
        have hc4 := (ha.block _ (Nat.lt_of_lt_of_le (Nat.lt_of_lt_of_le hcl hbt.size) hb3.size)).trans hc3
        have hy4 := alloc_new w3 _ (.cells #[.bool y.ha, .int .u32 (nv y.a), .bool y.h1, .int .u32 (nv y.d1), .bool y.h2, .int .u32 (nv y.d2)] 36) rfl
        clear ha hp3 hm3 ho3 hc3 B3 hp2 hm2 hc2 B2 hb3 hbt hcl hJ hG hcb hB hp hl1 x0 hr1
        generalize w3.alloc (.cells #[.bool y.ha, .int .u32 (nv y.a), .bool y.h1, .int .u32 (nv y.d1), .bool y.h2, .int .u32 (nv y.d2)] 36) = w4 at *
        generalize w3.heap.size = yb at *
        have t1 := fun i => blk_cell hy4 i
        have t2 := fun i => blk_cell hc4 i
        obtain ⟨b1, v1, b2, v2, b3, v3⟩ := y
        simp only at hy4 t1
        rcases JZ.out with rfl | rfl | rfl
        · obtain ⟨rfl, y', hy', hsp, _, _, hF⟩ := AF.out rfl
          have hE := HG.out.symm.trans hy'
          simp only [Prod.mk.injEq] at hE
          obtain ⟨rfl, rfl, rfl⟩ := hE
          have x4 := (B4.cell (cell_lt x00)).trans x00
          have hl4 := hl0.below B4
          have hSm : ∀ W, Row W xm km m → Row W a1 c1 m → Calls Tryd.prog 12 #[.slice xm m.length km, .slice a1 m.length c1] W fun e w' => e = .returned (.bool true) ∧ Below W.heap.size W w' := fun W r1 r2 => by
            have := same_calls m m xm a1 km c1 W r1 r2 (by omega)
            rw [decide_eq_true rfl] at this
            exact this
          have hPe : ∀ W, IsPol W pb s' → Calls Tryd.prog 13 #[.pointer (some ⟨pb, 0, none⟩)] W fun e w' => e = .returned (.agg #[.bool b1, .int .u32 (nv v1), .bool b2, .int .u32 (nv v2), .bool b3, .int .u32 (nv v3)]) ∧ Below W.heap.size W w' := fun W hW => by
            have := peer_calls s' pb W hW
            rw [hsp] at this
            exact this
          rw [hsc] at hF
          have F1 := Lib.hid (hF 0 (by decide))
          have F2 : Hid (b2 = true → v2 = c.dns1) := Lib.hid (fun h => by
            obtain ⟨g1, g2⟩ := hF 1 (by decide) h
            by_cases e : c.given 1 = 0
            · exact absurd (g2 e).1 (by decide)
            · exact g1 e)
          have F3 : Hid (b3 = true → v3 = c.dns2) := Lib.hid (fun h => by
            obtain ⟨g1, g2⟩ := hF 2 (by decide) h
            by_cases e : c.given 2 = 0
            · exact absurd (g2 e).1 (by decide)
            · exact g1 e)
          clear NF AF HG HJ hF hy' x00 hl0
          go_upto_region 16 with fail
          refine start_ (n := 22) (S := fun W' => Below w4.heap.size w4 W') (ds := []) (#[false, false, false, false, false, false, false, false, false, false, false, false, false, false, false, false, false, false, false, false, false, false]) (by kernel_rfl) rfl rfl (below_drew (Below.refl _ _)) (fun hS => ?_)
          generalize w4.drew = wa at *
          refine take_ (i := 0) (N := some 85) (v := ?_) (a' := ?_) #[true, false, false, false, false, false, false, false, false, false, false, false, false, false, false, false, false, false, false, false, false, false] rfl rfl (by kernel_rfl) (fun _ _ _ h => h) (.inl ⟨by rfl, fun w' hS' => ?_⟩) hS ?_ ?_
          rotate_left
          · go_simp
            with_reducible rfl
          rotate_left
          · simp only [Act.put, List.setIfInBounds_toArray, List.set_cons_zero, List.set_cons_succ]
            rfl
          refine take_ (i := 1) (N := some 86) (v := ?_) (a' := ?_) #[true, true, false, false, false, false, false, false, false, false, false, false, false, false, false, false, false, false, false, false, false, false] rfl rfl (by kernel_rfl) (fun _ _ _ h => h) (.inl ⟨by rfl, fun w' hS' => ?_⟩) hS ?_ ?_
          rotate_left
          · go_simp
            with_reducible rfl
          rotate_left
          · simp only [Act.put, List.setIfInBounds_toArray, List.set_cons_zero, List.set_cons_succ]
            rfl
          refine take_ (i := 2) (N := some 87) (v := ?_) (a' := ?_) #[true, true, true, false, false, false, false, false, false, false, false, false, false, false, false, false, false, false, false, false, false, false] rfl rfl (by kernel_rfl) (fun _ _ _ h => h) (.inl ⟨by rfl, fun w' hS' => ?_⟩) hS ?_ ?_
          rotate_left
          · go_simp
            with_reducible rfl
          rotate_left
          · simp only [Act.put, List.setIfInBounds_toArray, List.set_cons_zero, List.set_cons_succ]
            rfl
          refine take_ (i := 3) (N := some 88) (v := ?_) (a' := ?_) #[true, true, true, true, false, false, false, false, false, false, false, false, false, false, false, false, false, false, false, false, false, false] rfl rfl (by kernel_rfl) (fun _ _ _ h => h) (.inl ⟨by rfl, fun w' hS' => ?_⟩) hS ?_ ?_
          rotate_left
          · go_simp
            with_reducible rfl
          rotate_left
          · simp only [Act.put, List.setIfInBounds_toArray, List.set_cons_zero, List.set_cons_succ]
            rfl
          refine take_ (i := 4) (N := some 89) (v := ?_) (a' := ?_) #[true, true, true, true, true, false, false, false, false, false, false, false, false, false, false, false, false, false, false, false, false, false] rfl rfl (by kernel_rfl) (fun _ _ _ h => h) (.inl ⟨by rfl, fun w' hS' => ?_⟩) hS ?_ ?_
          rotate_left
          · have x5 := (hS'.cell (cell_lt x4)).trans x4
            go_simp
            with_reducible rfl
          rotate_left
          · simp only [Act.put, List.setIfInBounds_toArray, List.set_cons_zero, List.set_cons_succ]
            rfl
          refine wpAnyLast_all (rs := [5]) (by kernel_rfl) (by simp) ?_
          intro i hi'
          obtain rfl := List.mem_singleton.1 hi'
          refine wpOp_step rfl (fun K' hK' => ?_)
          go_simp
          go_at_call 12
          with_reducible refine (hSm _ (hm4.below hS) (hl4.below hS)).mono ?_
          rintro e w5 ⟨rfl, hb5⟩
          have hT := hS.trans (hb5.mono hS.size)
          refine hK' _ _ ⟨fun _ _ => hT, ?_⟩
          clear hK' K' hS
          simp only [Act.put, List.setIfInBounds_toArray, List.set_cons_zero, List.set_cons_succ]
          have hS := hT
          clear hT
          refine take_ (i := 6) (N := some 91) (v := ?_) (a' := ?_) #[true, true, true, true, true, true, true, false, false, false, false, false, false, false, false, false, false, false, false, false, false, false] rfl rfl (by kernel_rfl) (fun _ _ _ h => h) (.inl ⟨by rfl, fun w' hS' => ?_⟩) hS ?_ ?_
          rotate_left
          · go_simp
            with_reducible rfl
          rotate_left
          · simp only [Act.put, List.setIfInBounds_toArray, List.set_cons_zero, List.set_cons_succ]
            rfl
          refine take_ (i := 7) (N := some 92) (v := ?_) (a' := ?_) #[true, true, true, true, true, true, true, true, false, false, false, false, false, false, false, false, false, false, false, false, false, false] rfl rfl (by kernel_rfl) (fun _ _ _ h => h) (.inl ⟨by rfl, fun w' hS' => ?_⟩) hS ?_ ?_
          rotate_left
          · go_simp
            with_reducible rfl
          rotate_left
          · simp only [Act.put, List.setIfInBounds_toArray, List.set_cons_zero, List.set_cons_succ]
            rfl
          refine take_ (i := 8) (N := some 93) (v := ?_) (a' := ?_) #[true, true, true, true, true, true, true, true, true, false, false, false, false, false, false, false, false, false, false, false, false, false] rfl rfl (by kernel_rfl) (fun _ _ _ h => h) (.inl ⟨by rfl, fun w' hS' => ?_⟩) hS ?_ ?_
          rotate_left
          · go_simp
            with_reducible rfl
          rotate_left
          · simp only [Act.put, List.setIfInBounds_toArray, List.set_cons_zero, List.set_cons_succ]
            rfl
          refine take_ (i := 9) (N := some 94) (v := ?_) (a' := ?_) #[true, true, true, true, true, true, true, true, true, true, false, false, false, false, false, false, false, false, false, false, false, false] rfl rfl (by kernel_rfl) (fun _ _ _ h => h) (.inl ⟨by rfl, fun w' hS' => ?_⟩) hS ?_ ?_
          rotate_left
          · go_simp
            with_reducible rfl
          rotate_left
          · simp only [Act.put, List.setIfInBounds_toArray, List.set_cons_zero, List.set_cons_succ]
            rfl
          refine take_ (i := 10) (N := some 95) (v := ?_) (a' := ?_) #[true, true, true, true, true, true, true, true, true, true, true, false, false, false, false, false, false, false, false, false, false, false] rfl rfl (by kernel_rfl) (fun _ _ _ h => h) (.inl ⟨by rfl, fun w' hS' => ?_⟩) hS ?_ ?_
          rotate_left
          · go_simp
            with_reducible rfl
          rotate_left
          · simp only [Act.put, List.setIfInBounds_toArray, List.set_cons_zero, List.set_cons_succ]
            rfl
          refine take_ (i := 11) (N := some 96) (v := ?_) (a' := ?_) #[true, true, true, true, true, true, true, true, true, true, true, true, false, false, false, false, false, false, false, false, false, false] rfl rfl (by kernel_rfl) (fun _ _ _ h => h) (.inl ⟨by rfl, fun w' hS' => ?_⟩) hS ?_ ?_
          rotate_left
          · go_simp
            with_reducible rfl
          rotate_left
          · simp only [Act.put, List.setIfInBounds_toArray, List.set_cons_zero, List.set_cons_succ]
            rfl
          refine take_ (i := 12) (N := some 97) (v := ?_) (a' := ?_) #[true, true, true, true, true, true, true, true, true, true, true, true, true, false, false, false, false, false, false, false, false, false] rfl rfl (by kernel_rfl) (fun _ _ _ h => h) (.inl ⟨by rfl, fun w' hS' => ?_⟩) hS ?_ ?_
          rotate_left
          · go_simp
            with_reducible rfl
          rotate_left
          · simp only [Act.put, List.setIfInBounds_toArray, List.set_cons_zero, List.set_cons_succ]
            rfl
          refine take_ (i := 13) (N := some 98) (v := ?_) (a' := ?_) #[true, true, true, true, true, true, true, true, true, true, true, true, true, true, false, false, false, false, false, false, false, false] rfl rfl (by kernel_rfl) (fun _ _ _ h => h) (.inl ⟨by rfl, fun w' hS' => ?_⟩) hS ?_ ?_
          rotate_left
          · go_simp
            with_reducible rfl
          rotate_left
          · simp only [Act.put, List.setIfInBounds_toArray, List.set_cons_zero, List.set_cons_succ]
            rfl
          refine take_ (i := 14) (N := some 99) (v := ?_) (a' := ?_) #[true, true, true, true, true, true, true, true, true, true, true, true, true, true, true, false, false, false, false, false, false, false] rfl rfl (by kernel_rfl) (fun _ _ _ h => h) (.inl ⟨by rfl, fun w' hS' => ?_⟩) hS ?_ ?_
          rotate_left
          · go_simp
            with_reducible rfl
          rotate_left
          · simp only [Act.put, List.setIfInBounds_toArray, List.set_cons_zero, List.set_cons_succ]
            rfl
          refine take_ (i := 15) (N := some 100) (v := ?_) (a' := ?_) #[true, true, true, true, true, true, true, true, true, true, true, true, true, true, true, true, false, false, false, false, false, false] rfl rfl (by kernel_rfl) (fun _ _ _ h => h) (.inl ⟨by rfl, fun w' hS' => ?_⟩) hS ?_ ?_
          rotate_left
          · go_simp
            with_reducible rfl
          rotate_left
          · simp only [Act.put, List.setIfInBounds_toArray, List.set_cons_zero, List.set_cons_succ]
            rfl
          refine take_ (i := 16) (N := some 101) (v := ?_) (a' := ?_) #[true, true, true, true, true, true, true, true, true, true, true, true, true, true, true, true, true, false, false, false, false, false] rfl rfl (by kernel_rfl) (fun _ _ _ h => h) (.inl ⟨by rfl, fun w' hS' => ?_⟩) hS ?_ ?_
          rotate_left
          · go_simp
            with_reducible rfl
          rotate_left
          · simp only [Act.put, List.setIfInBounds_toArray, List.set_cons_zero, List.set_cons_succ]
            rfl
          refine take_ (i := 17) (N := some 102) (v := ?_) (a' := ?_) #[true, true, true, true, true, true, true, true, true, true, true, true, true, true, true, true, true, true, false, false, false, false] rfl rfl (by kernel_rfl) (fun _ _ _ h => h) (.inl ⟨by rfl, fun w' hS' => ?_⟩) hS ?_ ?_
          rotate_left
          · go_simp
            with_reducible rfl
          rotate_left
          · simp only [Act.put, List.setIfInBounds_toArray, List.set_cons_zero, List.set_cons_succ]
            rfl
          refine take_ (i := 19) (N := some 104) (v := ?_) (a' := ?_) #[true, true, true, true, true, true, true, true, true, true, true, true, true, true, true, true, true, true, false, true, false, false] rfl rfl (by kernel_rfl) (fun _ _ _ h => h) (.inl ⟨by rfl, fun w' hS' => ?_⟩) hS ?_ ?_
          rotate_left
          · have t5 := fun i => blk_cell ((hS'.block _ (Array.getElem?_eq_some_iff.1 hy4).1).trans hy4) i
            go_simp
            with_reducible rfl
          rotate_left
          · simp only [Act.put, List.setIfInBounds_toArray, List.set_cons_zero, List.set_cons_succ]
            rfl
          refine wpAnyLast_all (rs := [18]) (by kernel_rfl) (by simp) ?_
          intro i hi'
          obtain rfl := List.mem_singleton.1 hi'
          refine wpOp_step rfl (fun K' hK' => ?_)
          go_simp
          go_at_call 13
          with_reducible refine (hPe _ (hp4.below hS)).mono ?_
          rintro e w6 ⟨rfl, hb6⟩
          have hT := hS.trans (hb6.mono hS.size)
          refine hK' _ _ ⟨fun _ _ => hT, ?_⟩
          clear hK' K' hS
          simp only [Act.put, List.setIfInBounds_toArray, List.set_cons_zero, List.set_cons_succ]
          have hS := hT
          clear hT
          refine take_ (i := 20) (N := some 105) (v := ?_) (a' := ?_) #[true, true, true, true, true, true, true, true, true, true, true, true, true, true, true, true, true, true, true, true, true, false] rfl rfl (by kernel_rfl) (fun _ _ _ h => h) (.inl ⟨by rfl, fun w' hS' => ?_⟩) hS ?_ ?_
          rotate_left
          · go_simp
            with_reducible rfl
          rotate_left
          · simp only [Act.put, List.setIfInBounds_toArray, List.set_cons_zero, List.set_cons_succ]
            rfl
          refine take_ (i := 21) (N := some 106) (v := ?_) (a' := ?_) #[true, true, true, true, true, true, true, true, true, true, true, true, true, true, true, true, true, true, true, true, true, true] rfl rfl (by kernel_rfl) (fun _ _ _ h => h) (.inl ⟨by rfl, fun w' hS' => ?_⟩) hS ?_ ?_
          rotate_left
          · go_simp
            with_reducible rfl
          rotate_left
          · simp only [Act.put, List.setIfInBounds_toArray, List.set_cons_zero, List.set_cons_succ]
            rfl
          refine wpAnyLast_done (by kernel_rfl) ?_ _
          have B6 := B4.trans (hS.mono B4.size)
          have hp6 := hp4.below hS
          have hc6 := (hS.block _ (Array.getElem?_eq_some_iff.1 hc4).1).trans hc4
          have hy6 := (hS.block _ (Array.getElem?_eq_some_iff.1 hy4).1).trans hy4
          clear t1 t2 hSm hPe hS hp4 hc4 hy4 hm4 ho4 hl4 x4 B4
          have t1 := fun i => blk_cell hy6 i
          have t2 := fun i => blk_cell hc6 i
          cases b1 with
          | false =>
            cases b2 with
            | false =>
              cases b3 with
              | false =>
                clear F1 F2 F3
                go_wp2
                go_roundg (len - (j + 1))
                case measure => have := A.out; omega
                case rel => exact ⟨j + 1, s', by omega, rfl, by go_num, hp6, KC.out, K01.out.1, K01.out.2, B6, hc6⟩
              | true =>
                obtain rfl := F3.out rfl
                clear F1 F2 F3
                go_wp2
                go_roundg (len - (j + 1))
                case measure => have := A.out; omega
                case rel => exact ⟨j + 1, s', by omega, rfl, by go_num, hp6, KC.out, K01.out.1, K01.out.2, B6, hc6⟩
            | true =>
              obtain rfl := F2.out rfl
              cases b3 with
              | false =>
                clear F1 F2 F3
                go_wp2
                go_roundg (len - (j + 1))
                case measure => have := A.out; omega
                case rel => exact ⟨j + 1, s', by omega, rfl, by go_num, hp6, KC.out, K01.out.1, K01.out.2, B6, hc6⟩
              | true =>
                obtain rfl := F3.out rfl
                clear F1 F2 F3
                go_wp2
                go_roundg (len - (j + 1))
                case measure => have := A.out; omega
                case rel => exact ⟨j + 1, s', by omega, rfl, by go_num, hp6, KC.out, K01.out.1, K01.out.2, B6, hc6⟩
          | true =>
            obtain ⟨G1, G2⟩ := F1.out rfl
            by_cases e : c.peer = 0
            · obtain ⟨_, e2⟩ := G2 e
              obtain ⟨n1, n2⟩ := nv_ne0 (show v1 ≠ 0 from e2)
              have n3 : (nv c.peer == 0) = true := by rw [e]; rfl
              have n4 : (nv c.peer != 0) = false := by rw [e]; rfl
              clear G1 G2 e e2
              cases b2 with
              | false =>
                cases b3 with
                | false =>
                  clear F1 F2 F3
                  go_wp2
                  go_roundg (len - (j + 1))
                  case measure => have := A.out; omega
                  case rel => exact ⟨j + 1, s', by omega, rfl, by go_num, hp6, KC.out, K01.out.1, K01.out.2, B6, hc6⟩
                | true =>
                  obtain rfl := F3.out rfl
                  clear F1 F2 F3
                  go_wp2
                  go_roundg (len - (j + 1))
                  case measure => have := A.out; omega
                  case rel => exact ⟨j + 1, s', by omega, rfl, by go_num, hp6, KC.out, K01.out.1, K01.out.2, B6, hc6⟩
              | true =>
                obtain rfl := F2.out rfl
                cases b3 with
                | false =>
                  clear F1 F2 F3
                  go_wp2
                  go_roundg (len - (j + 1))
                  case measure => have := A.out; omega
                  case rel => exact ⟨j + 1, s', by omega, rfl, by go_num, hp6, KC.out, K01.out.1, K01.out.2, B6, hc6⟩
                | true =>
                  obtain rfl := F3.out rfl
                  clear F1 F2 F3
                  go_wp2
                  go_roundg (len - (j + 1))
                  case measure => have := A.out; omega
                  case rel => exact ⟨j + 1, s', by omega, rfl, by go_num, hp6, KC.out, K01.out.1, K01.out.2, B6, hc6⟩
            · obtain rfl : v1 = c.peer := G1 e
              obtain ⟨n1, n2⟩ := nv_ne0 e
              clear G1 G2
              cases b2 with
              | false =>
                cases b3 with
                | false =>
                  clear F1 F2 F3
                  go_wp2
                  go_roundg (len - (j + 1))
                  case measure => have := A.out; omega
                  case rel => exact ⟨j + 1, s', by omega, rfl, by go_num, hp6, KC.out, K01.out.1, K01.out.2, B6, hc6⟩
                | true =>
                  obtain rfl := F3.out rfl
                  clear F1 F2 F3
                  go_wp2
                  go_roundg (len - (j + 1))
                  case measure => have := A.out; omega
                  case rel => exact ⟨j + 1, s', by omega, rfl, by go_num, hp6, KC.out, K01.out.1, K01.out.2, B6, hc6⟩
              | true =>
                obtain rfl := F2.out rfl
                cases b3 with
                | false =>
                  clear F1 F2 F3
                  go_wp2
                  go_roundg (len - (j + 1))
                  case measure => have := A.out; omega
                  case rel => exact ⟨j + 1, s', by omega, rfl, by go_num, hp6, KC.out, K01.out.1, K01.out.2, B6, hc6⟩
                | true =>
                  obtain rfl := F3.out rfl
                  clear F1 F2 F3
                  go_wp2
                  go_roundg (len - (j + 1))
                  case measure => have := A.out; omega
                  case rel => exact ⟨j + 1, s', by omega, rfl, by go_num, hp6, KC.out, K01.out.1, K01.out.2, B6, hc6⟩
        · obtain ⟨hm0, y', hy', hya⟩ := NF.out rfl
          have hE := HG.out.symm.trans hy'
          simp only [Prod.mk.injEq] at hE
          obtain ⟨rfl, rfl, rfl⟩ := hE
          simp only [hsc] at hya
          have e1 : ((m.length : Int) == 0) = false := by
            cases m with
            | nil => exact absurd rfl hm0
            | cons o m => simp; omega
          have e2 : (m.length == 0) = false := by
            cases m with
            | nil => exact absurd rfl hm0
            | cons o m => rfl
          clear NF AF HG HJ hm0 hy'
          cases b1 with
          | false =>
            clear hya
            go_wp2
            go_roundg (len - (j + 1))
            case measure => have := A.out; omega
            case rel => exact ⟨j + 1, s', by omega, rfl, by go_num, hp4, KC.out, K01.out.1, K01.out.2, B4, hc4⟩
          | true =>
            obtain rfl := hya rfl
            clear hya
            go_wp2
            go_roundg (len - (j + 1))
            case measure => have := A.out; omega
            case rel => exact ⟨j + 1, s', by omega, rfl, by go_num, hp4, KC.out, K01.out.1, K01.out.2, B4, hc4⟩
        · clear NF AF HG HJ
          go_wp2
          go_roundg (len - (j + 1))
          case measure => have := A.out; omega
          case rel => exact ⟨j + 1, s', by omega, rfl, by go_num, hp4, KC.out, K01.out.1, K01.out.2, B4, hc4⟩
    · obtain rfl : j = len := by omega
      have q3 : decide ((j : Int) < (j : Int)) = false := by simp
      go_wp2_with (first
        | (go_at_call 7; with_reducible refine (alive_calls _ (hK.below hB)).mono ?_; rintro e w3 ⟨rfl, hb3⟩))
      go_ret
      exact ⟨rfl, hB.trans (hb3.mono hB.size)⟩
theorem only_walk (c : Conf) (f : Nat → List Opt) (ra : Option Addr) (rc len : Nat) (w : World) (hr : Rows2 w ra rc len f) (hK : K w) :
    Calls Tryd.prog 3 #[.agg c.cells, .slice ra len rc] w fun e w' => e = .returned (.bool true) ∧ Below w.heap.size w w' := by
  by_cases h : 40 < len
  · exact only_short c f ra rc len w hr.cap h hK
  · by_cases hm : 1 ≤ c.max ∧ c.max ≤ 10
    · exact only_good c f ra rc len w hr (by omega) hm hK
    · exact only_bad c f ra rc len w hr.cap (by omega) hm hK
end Go.Proofs.YtlcckkdkcbelhaaDoor
