/-
  Layer 15 (ipcppol): the law IpcppolBoth, walked where no name servers are asked for.
-/
import Derived.Test.YtlcckkdkcbelhaaDoorBothK
set_option linter.unusedVariables false
set_option linter.unusedSimpArgs false
namespace Go.Proofs.YtlcckkdkcbelhaaDoor
open Go.RowKit Go.Proofs.YtlcckkdkcbelhaaDoorW.PrintWords Go.Proofs.YtlcckkdkcbelhaaDoorW.PrintLast

attribute [local go_sem high] eqA36 field36_1
set_option maxRecDepth 100000 in
set_option maxHeartbeats 16000000 in
theorem both_A (own give dns1 dns2 : UInt32) (want : Bool) (w : World) (hK : K w) (ho : own ≠ 0) (hg : give ≠ 0) (hc0 : want = false) (hc1 : g1 dns1 want = false) (hc2 : g1 dns2 want = false) :
    Calls Tryd.prog 5 #[.int .u32 (nv own), .int .u32 (nv give), .int .u32 (nv dns1), .int .u32 (nv dns2), .bool want] w fun e w' => e = .returned (.bool true) ∧ Below w.heap.size w w' := by
  have hN1 : ∀ W : World, Calls Tryd.prog 8 #[.agg #[.int .u32 (nv own), .int .u32 (nv give), .int .u32 (nv dns1), .int .u32 (nv dns2), .bool false, .int .i64 5]] W fun e w' => e = .returned (.tuple #[.pointer (some ⟨W.heap.size + 1, 0, none⟩), .int .i64 0]) ∧ Below W.heap.size W w' ∧ IsPol w' (W.heap.size + 1) (resetP (AC own give dns1 dns2)) := fun W => new_good (AC own give dns1 dns2) (show (1 : Int) ≤ 5 by decide) (show (5 : Int) ≤ 10 by decide) W
  have hN2 : ∀ W : World, Calls Tryd.prog 8 #[.agg #[.int .u32 0, .int .u32 0, .int .u32 0, .int .u32 0, .bool want, .int .i64 5]] W fun e w' => e = .returned (.tuple #[.pointer (some ⟨W.heap.size + 1, 0, none⟩), .int .i64 0]) ∧ Below W.heap.size W w' ∧ IsPol w' (W.heap.size + 1) (resetP (BC want)) := fun W => new_good (BC want) (show (1 : Int) ≤ 5 by decide) (show (5 : Int) ≤ 10 by decide) W
  have hs0 := Lib.hid (st_start own give dns1 dns2 want)
  obtain ⟨p1, p2⟩ := nv_ne0' ho
  obtain ⟨p3, p4⟩ := nv_ne0' hg
  have HO := Lib.hid ho
  have HG := Lib.hid hg
  clear ho hg
  replace hc0 := Lib.hid hc0
  replace hc1 := Lib.hid hc1
  replace hc2 := Lib.hid hc2
  have hu36 := Tryd.underlying36
  generalize resetP (AC own give dns1 dns2) = ra at *
  generalize resetP (BC want) = rb at *
  go_enter Tryd.func5, Tryd.ntmps5
  go_wp2_with (first
    | (go_at_call 8; with_reducible refine (hN1 _).mono ?_; rintro e w1 ⟨rfl, B1, i1⟩)
    | (go_at_call 8; with_reducible refine (hN2 _).mono ?_; rintro e w2 ⟨rfl, hb2, j2⟩
       have B2 := B1.trans (hb2.mono B1.size)
       have i2 := i1.below hb2))
  have ha : w.heap.size ≤ w.heap.size + 1 := by omega
  have hb : w.heap.size ≤ w1.heap.size + 1 := by have := B1.size; omega
  have hab : w.heap.size + 1 ≠ w1.heap.size + 1 := by have := i1.lt; omega
  clear hN1 hN2 B1 i1 hb2 p1 p2 p3 p4
  generalize w.heap.size + 1 = pa at *
  generalize w1.heap.size + 1 = pb at *
  clear w1
  go_loopg [15] 2 (fun q i wr => ∃ (k : Nat) (sa sb : Pol), k ≤ 2 ∧ q = 2 - k ∧ i = .int .i64 (k : Int) ∧ Hid (St own give dns1 dns2 want k sa sb) ∧ IsPol wr pa sa ∧ IsPol wr pb sb ∧ Below w.heap.size w wr)
  case atStart => exact ⟨0, _, _, by omega, rfl, rfl, hs0, i2, j2, B2⟩
  case round =>
    obtain ⟨k, sa, sb, hk, hq, rfl, hst, ia, ib, hB⟩ := hrel
    have A := Lib.hid hq; clear hq
    clear B2 i2 j2 hs0
    have q3 : decide ((k : Int) < 4) = true := by simp; omega
    rcases hst.out with ⟨rfl, rfl, hd, rfl, rfl⟩ | ⟨hk1, rfl, rfl⟩ | ⟨hk2, rfl, rfl⟩
    · clear hst q3
      obtain ⟨x, hj, hx, hr⟩ := judge0 (own := own) HG.out hd
      have hS : Hid (St own give dns1 dns2 true 1 (sa0 own give dns1 dns2 0) (sb0 true (W1 dns1 dns2 true))) := Lib.hid (.inr (.inl ⟨by omega, rfl, rfl⟩))
      have hR : CReq pb (sb0 true (W0 true)) (putI (W0 true)).1 := fun W h1 h2 => req_told rfl pb W h1 h2
      have hJ : CJud pa (sa0 own give dns1 dns2 0) (putI (W0 true)).1 4 x (sa0 own give dns1 dns2 0) := fun a c W h1 h2 h3 => judge_told hj (by have := puti_len (W0 true); omega) ⟨show (0 : Int) ≤ 0 by decide, show (0 : Int) ≤ 1000 by decide⟩ pa a c _ rfl W h1 h2 h3
      have hX : CTake 18 pb (sb0 true (W0 true)) x (sb0 true (W1 dns1 dns2 true)) := fun a c W h1 h2 h3 => rej_told hr hx pb a c W h1 h2 h3
      clear hj hx hr hd
      generalize (putI (W0 true)).1 = q at *
      generalize sb0 true (W0 true) = sb at *
      generalize sb0 true (W1 dns1 dns2 true) = sb' at *
      generalize sa0 own give dns1 dns2 0 = sa at *
      go_wp2_with (first
        | (go_at_call 15; with_reducible refine (hR _ (hK.below hB) ib).mono ?_; rintro e w1 ⟨xa, xc, rfl, r1, hb1⟩
           have B1 := hB.trans (hb1.mono hB.size)
           have ia1 := ia.below hb1
           have ib1 := ib.below hb1)
        | (go_at_call 10; with_reducible refine (hJ _ _ _ r1 (hK.below B1) ia1).mono ?_; rintro e w2 ⟨ya, yc, rfl, r2, hb2, ia2⟩
           have B2 := But.below B1 hb2 ha B1.size
           have ib2 := ib1.but hb2 (Ne.symm hab))
        | (go_at_call 18; with_reducible refine (hX _ _ _ r2 (hK.below B2) ib2).mono ?_; rintro e w3 ⟨rfl, hb3, ib3⟩
           have B3 := But.below B2 hb3 hb B2.size
           have ia3 := ia2.but hb3 hab))
      go_roundg 1
      case measure => have := A.out; omega
      case rel => exact ⟨1, _, _, by omega, rfl, by go_num, hS, ia3, ib3, B3⟩
    · clear hst
      obtain ⟨x, hj, hx, hr⟩ := judge1 (own := own) (dns1 := dns1) (dns2 := dns2) (want := want) HG.out
      have hS : Hid (St own give dns1 dns2 want (k + 1) (sa0 own give dns1 dns2 1) (sb0 want (W2 give dns1 dns2 want))) := Lib.hid (.inr (.inr ⟨by omega, rfl, rfl⟩))
      have hR : CReq pb (sb0 want (W1 dns1 dns2 want)) (putI (W1 dns1 dns2 want)).1 := fun W h1 h2 => req_told rfl pb W h1 h2
      have hJ : CJud pa (sa0 own give dns1 dns2 0) (putI (W1 dns1 dns2 want)).1 3 x (sa0 own give dns1 dns2 1) := fun a c W h1 h2 h3 => judge_told hj (by have := puti_len (W1 dns1 dns2 want); omega) ⟨show (0 : Int) ≤ 0 by decide, show (0 : Int) ≤ 1000 by decide⟩ pa a c _ rfl W h1 h2 h3
      have hX : CTake 17 pb (sb0 want (W1 dns1 dns2 want)) x (sb0 want (W2 give dns1 dns2 want)) := fun a c W h1 h2 h3 => nak_told hr hx pb a c W h1 h2 h3
      have q5 : ((k : Int) == 3) = false := by simp; omega
      clear hj hx hr
      generalize (putI (W1 dns1 dns2 want)).1 = q at *
      generalize sb0 want (W1 dns1 dns2 want) = sb at *
      generalize sb0 want (W2 give dns1 dns2 want) = sb' at *
      generalize sa0 own give dns1 dns2 0 = sa at *
      generalize sa0 own give dns1 dns2 1 = sa' at *
      go_wp2_with (first
        | (go_at_call 15; with_reducible refine (hR _ (hK.below hB) ib).mono ?_; rintro e w1 ⟨xa, xc, rfl, r1, hb1⟩
           have B1 := hB.trans (hb1.mono hB.size)
           have ia1 := ia.below hb1
           have ib1 := ib.below hb1)
        | (go_at_call 10; with_reducible refine (hJ _ _ _ r1 (hK.below B1) ia1).mono ?_; rintro e w2 ⟨ya, yc, rfl, r2, hb2, ia2⟩
           have B2 := But.below B1 hb2 ha B1.size
           have ib2 := ib1.but hb2 (Ne.symm hab))
        | (go_at_call 17; with_reducible refine (hX _ _ _ r2 (hK.below B2) ib2).mono ?_; rintro e w3 ⟨rfl, hb3, ib3⟩
           have B3 := But.below B2 hb3 hb B2.size
           have ia3 := ia2.but hb3 hab))
      go_roundg (2 - (k + 1))
      case measure => have := A.out; omega
      case rel => exact ⟨k + 1, _, _, by omega, rfl, by go_num, hS, ia3, ib3, B3⟩
    · have hj := judge2 (own := own) (dns1 := dns1) (dns2 := dns2) (want := want) HG.out
      have hj3 := judge3 (give := give) (dns1 := dns1) (dns2 := dns2) (want := want) HO.out
      have htold := told_g dns1 dns2 want
      obtain ⟨sb1, e1⟩ : ∃ s, s = sb0 want (W2 give dns1 dns2 want) := ⟨_, rfl⟩
      obtain ⟨sb2, e2⟩ : ∃ s, s = ({ sb0 want (W2 give dns1 dns2 want) with mine := W2 give dns1 dns2 want } : Pol) := ⟨_, rfl⟩
      obtain ⟨sb3, e3⟩ : ∃ s, s = ({ sb0 want (W2 give dns1 dns2 want) with mine := W2 give dns1 dns2 want, peer := (sa0 own give dns1 dns2 0).w } : Pol) := ⟨_, rfl⟩
      obtain ⟨sa1, e4⟩ : ∃ s, s = sa0 own give dns1 dns2 1 := ⟨_, rfl⟩
      obtain ⟨sa2, e5⟩ : ∃ s, s = ({ sa0 own give dns1 dns2 0 with peer := W2 give dns1 dns2 want } : Pol) := ⟨_, rfl⟩
      obtain ⟨sa3, e6⟩ : ∃ s, s = ({ sa0 own give dns1 dns2 0 with peer := W2 give dns1 dns2 want, mine := (sa0 own give dns1 dns2 0).w } : Pol) := ⟨_, rfl⟩
      obtain ⟨q, e7⟩ : ∃ q, q = (putI (W2 give dns1 dns2 want)).1 := ⟨_, rfl⟩
      obtain ⟨q3, e8⟩ : ∃ q, q = (putI (sa0 own give dns1 dns2 0).w).1 := ⟨_, rfl⟩
      rw [← e4, ← e5, ← e7] at hj
      rw [← e2, ← e3, ← e8] at hj3
      have hR : CReq pb sb1 q := fun W h1 h2 => req_told (by rw [e1, e7]; rfl) pb W h1 h2
      have hJ : CJud pa sa1 q 2 q sa2 := fun a c W h1 h2 h3 => judge_told hj (by have := puti_len (W2 give dns1 dns2 want); rw [e7]; omega) (by rw [e4]; exact ⟨show (0 : Int) ≤ 1 by decide, show (1 : Int) ≤ 1000 by decide⟩) pa a c _ rfl W h1 h2 h3
      have hX : CTake 16 pb sb1 q sb2 := by
        subst e1 e2 e7
        exact fun a c W h1 h2 h3 => ack_told rfl pb a c W h1 h2 h3
      have hR3 : CReq pa sa2 q3 := fun W h1 h2 => req_told (by rw [e5, e8]) pa W h1 h2
      have hJ3 : CJud pb sb2 q3 2 q3 sb3 := fun a c W h1 h2 h3 => judge_told hj3 (by have := puti_len (sa0 own give dns1 dns2 0).w; rw [e8]; omega) (by rw [e2]; exact ⟨show (0 : Int) ≤ 0 by decide, show (0 : Int) ≤ 1000 by decide⟩) pb a c _ rfl W h1 h2 h3
      have hX3 : CTake 16 pa sa2 q3 sa3 := by
        subst e5 e6 e8
        exact fun a c W h1 h2 h3 => ack_told (s := { sa0 own give dns1 dns2 0 with peer := W2 give dns1 dns2 want }) rfl pa a c W h1 h2 h3
      have hM : CGet 19 pb sb2 true (nv give) (g1 dns1 want) (nv (dd1 dns1 want)) (g1 dns2 want) (nv (dd1 dns2 want)) := by subst e2; exact fun W h => mine_calls _ pb W h
      have hP : CGet 13 pa sa2 true (nv give) (g1 dns1 want) (nv (dd1 dns1 want)) (g1 dns2 want) (nv (dd1 dns2 want)) := by subst e5; exact fun W h => peer_calls _ pa W h
      have hM3 : CGet 19 pa sa3 true (nv own) false 0 false 0 := by subst e6; exact fun W h => mine_calls _ pa W h
      have hP3 : CGet 13 pb sb3 true (nv own) false 0 false 0 := by subst e3; exact fun W h => peer_calls _ pb W h
      rw [← e4] at ia
      rw [← e1] at ib
      clear e1 e2 e3 e4 e5 e6 e7 e8
      clear hj hj3
      rw [hc1.out, hc2.out] at htold hM hP
      clear hst hc1 hc2
      generalize nv (dd1 dns1 want) = D1 at *
      generalize nv (dd1 dns2 want) = D2 at *
      go_upto_region 24 with (first
        | (go_at_call 15; with_reducible refine (hR _ (hK.below hB) ib).mono ?_; rintro e w1 ⟨xa, xc, rfl, r1, hb1⟩
           have B1 := hB.trans (hb1.mono hB.size)
           have ia1 := ia.below hb1
           have ib1 := ib.below hb1)
        | (go_at_call 10; with_reducible refine (hJ _ _ _ r1 (hK.below B1) ia1).mono ?_; rintro e w2 ⟨ya, yc, rfl, r2, hb2, ia2⟩
           have B2 := But.below B1 hb2 ha B1.size
           have ib2 := ib1.but hb2 (Ne.symm hab))
        | (go_at_call 16; with_reducible refine (hX _ _ _ r2 (hK.below B2) ib2).mono ?_; rintro e w3 ⟨rfl, hb3, ib3⟩
           have B3 := But.below B2 hb3 hb B2.size
           have ia3 := ia2.but hb3 hab)
        | (go_at_call 19; with_reducible refine (hM _ ib3).mono ?_; rintro e w4 ⟨rfl, hb4⟩
           have B4 := B3.trans (hb4.mono B3.size)
           have ia4 := ia3.below hb4
           have ib4 := ib3.below hb4))
      have ha5 := (Below.refl w4.heap.size w4).alloc (Nat.le_refl _) (.cells #[.bool true, .int .u32 (nv give), .bool false, .int .u32 D1, .bool false, .int .u32 D2] 36)
      have nm := alloc_new w4 _ (.cells #[.bool true, .int .u32 (nv give), .bool false, .int .u32 D1, .bool false, .int .u32 D2] 36) rfl
      have nl : w4.heap.size < (w4.alloc (.cells #[.bool true, .int .u32 (nv give), .bool false, .int .u32 D1, .bool false, .int .u32 D2] 36)).heap.size := by simp
      have B5 := B4.trans (ha5.mono B4.size)
      have ia5 := ia4.below ha5
      have ib5 := ib4.below ha5
      clear ha5 B4 ia4 ib4 hb4 ia3 ib3 hB ia ib B1 ia1 ib1 r1 hb1 B2 ia2 ib2 r2 hb2 B3 hb3 hM hR hJ hX
      generalize w4.alloc (.cells #[.bool true, .int .u32 (nv give), .bool false, .int .u32 D1, .bool false, .int .u32 D2] 36) = w5 at *
      generalize w4.heap.size = mb at *
      obtain ⟨u1, u2, u3, u4, u5⟩ := htold
      obtain rfl := hc0.out
      clear u2 u3
      rw [if_neg (by simp)] at u4
      rw [if_neg (by simp)] at u5
      subst u4 u5
      clear u1 hc0
      refine start_ (n := 55) (S := fun W' => Below w5.heap.size w5 W') (ds := []) (#[false, false, false, false, false, false, false, false, false, false, false, false, false, false, false, false, false, false, false, false, false, false, false, false, false, false, false, false, false, false, false, false, false, false, false, false, false, false, false, false, false, false, false, false, false, false, false, false, false, false, false, false, false, false, false]) (by kernel_rfl) rfl rfl (below_drew (Below.refl _ _)) (fun hS => ?_)
      generalize w5.drew = wB at *
      refine take_ (i := 0) (N := some 93) (v := ?_) (a' := ?_) #[true, false, false, false, false, false, false, false, false, false, false, false, false, false, false, false, false, false, false, false, false, false, false, false, false, false, false, false, false, false, false, false, false, false, false, false, false, false, false, false, false, false, false, false, false, false, false, false, false, false, false, false, false, false, false] rfl rfl (by kernel_rfl) (fun _ _ _ h => h) (.inl ⟨by rfl, fun w' hS' => ?_⟩) hS ?_ ?_
      rotate_left
      · have t2 := fun i => blk_cell ((hS'.block _ nl).trans nm) i
        go_simp
        with_reducible rfl
      rotate_left
      · simp only [Act.put, List.setIfInBounds_toArray, List.set_cons_zero, List.set_cons_succ]
        rfl
      refine take_ (i := 1) (N := some 94) (v := ?_) (a' := ?_) #[true, true, false, false, false, false, false, false, false, false, false, false, false, false, false, false, false, false, false, false, false, false, false, false, false, false, false, false, false, false, false, false, false, false, false, false, false, false, false, false, false, false, false, false, false, false, false, false, false, false, false, false, false, false, false] rfl rfl (by kernel_rfl) (fun _ _ _ h => h) (.inl ⟨by rfl, fun w' hS' => ?_⟩) hS ?_ ?_
      rotate_left
      · go_simp
        with_reducible rfl
      rotate_left
      · simp only [Act.put, List.setIfInBounds_toArray, List.set_cons_zero, List.set_cons_succ]
        rfl
      refine wpAnyLast_all (rs := [2]) (by kernel_rfl) (by simp) ?_
      intro i hi'
      obtain rfl := List.mem_singleton.1 hi'
      refine wpOp_step rfl (fun K' hK' => ?_)
      go_simp
      go_at_call 13
      with_reducible refine (hP _ (ia5.below hS)).mono ?_
      rintro e w6 ⟨rfl, hb6⟩
      have hT := hS.trans (hb6.mono hS.size)
      refine hK' _ _ ⟨fun _ _ => hT, ?_⟩
      clear hK' K' hS
      simp only [Act.put, List.setIfInBounds_toArray, List.set_cons_zero, List.set_cons_succ]
      have hS := hT
      clear hT
      refine take_ (i := 3) (N := some 96) (v := ?_) (a' := ?_) #[true, true, true, true, false, false, false, false, false, false, false, false, false, false, false, false, false, false, false, false, false, false, false, false, false, false, false, false, false, false, false, false, false, false, false, false, false, false, false, false, false, false, false, false, false, false, false, false, false, false, false, false, false, false, false] rfl rfl (by kernel_rfl) (fun _ _ _ h => h) (.inl ⟨by rfl, fun w' hS' => ?_⟩) hS ?_ ?_
      rotate_left
      · go_simp
        with_reducible rfl
      rotate_left
      · simp only [Act.put, List.setIfInBounds_toArray, List.set_cons_zero, List.set_cons_succ]
        rfl
      refine take_ (i := 4) (N := some 97) (v := ?_) (a' := ?_) #[true, true, true, true, true, false, false, false, false, false, false, false, false, false, false, false, false, false, false, false, false, false, false, false, false, false, false, false, false, false, false, false, false, false, false, false, false, false, false, false, false, false, false, false, false, false, false, false, false, false, false, false, false, false, false] rfl rfl (by kernel_rfl) (fun _ _ _ h => h) (.inl ⟨by rfl, fun w' hS' => ?_⟩) hS ?_ ?_
      rotate_left
      · go_simp
        with_reducible rfl
      rotate_left
      · simp only [Act.put, List.setIfInBounds_toArray, List.set_cons_zero, List.set_cons_succ]
        rfl
      refine take_ (i := 5) (N := some 98) (v := ?_) (a' := ?_) #[true, true, true, true, true, true, false, false, false, false, false, false, false, false, false, false, false, false, false, false, false, false, false, false, false, false, false, false, false, false, false, false, false, false, false, false, false, false, false, false, false, false, false, false, false, false, false, false, false, false, false, false, false, false, false] rfl rfl (by kernel_rfl) (fun _ _ _ h => h) (.inl ⟨by rfl, fun w' hS' => ?_⟩) hS ?_ ?_
      rotate_left
      · go_simp
        with_reducible rfl
      rotate_left
      · simp only [Act.put, List.setIfInBounds_toArray, List.set_cons_zero, List.set_cons_succ]
        rfl
      refine take_ (i := 6) (N := some 99) (v := ?_) (a' := ?_) #[true, true, true, true, true, true, true, false, false, false, false, false, false, false, false, false, false, false, false, false, false, false, false, false, false, false, false, false, false, false, false, false, false, false, false, false, false, false, false, false, false, false, false, false, false, false, false, false, false, false, false, false, false, false, false] rfl rfl (by kernel_rfl) (fun _ _ _ h => h) (.inl ⟨by rfl, fun w' hS' => ?_⟩) hS ?_ ?_
      rotate_left
      · have t2 := fun i => blk_cell ((hS'.block _ nl).trans nm) i
        go_simp
        with_reducible rfl
      rotate_left
      · simp only [Act.put, List.setIfInBounds_toArray, List.set_cons_zero, List.set_cons_succ]
        rfl
      refine take_ (i := 7) (N := some 100) (v := ?_) (a' := ?_) #[true, true, true, true, true, true, true, true, false, false, false, false, false, false, false, false, false, false, false, false, false, false, false, false, false, false, false, false, false, false, false, false, false, false, false, false, false, false, false, false, false, false, false, false, false, false, false, false, false, false, false, false, false, false, false] rfl rfl (by kernel_rfl) (fun _ _ _ h => h) (.inl ⟨by rfl, fun w' hS' => ?_⟩) hS ?_ ?_
      rotate_left
      · go_simp
        with_reducible rfl
      rotate_left
      · simp only [Act.put, List.setIfInBounds_toArray, List.set_cons_zero, List.set_cons_succ]
        rfl
      refine take_ (i := 8) (N := some 101) (v := ?_) (a' := ?_) #[true, true, true, true, true, true, true, true, true, false, false, false, false, false, false, false, false, false, false, false, false, false, false, false, false, false, false, false, false, false, false, false, false, false, false, false, false, false, false, false, false, false, false, false, false, false, false, false, false, false, false, false, false, false, false] rfl rfl (by kernel_rfl) (fun _ _ _ h => h) (.inl ⟨by rfl, fun w' hS' => ?_⟩) hS ?_ ?_
      rotate_left
      · go_simp
        with_reducible rfl
      rotate_left
      · simp only [Act.put, List.setIfInBounds_toArray, List.set_cons_zero, List.set_cons_succ]
        rfl
      refine take_ (i := 9) (N := some 102) (v := ?_) (a' := ?_) #[true, true, true, true, true, true, true, true, true, true, false, false, false, false, false, false, false, false, false, false, false, false, false, false, false, false, false, false, false, false, false, false, false, false, false, false, false, false, false, false, false, false, false, false, false, false, false, false, false, false, false, false, false, false, false] rfl rfl (by kernel_rfl) (fun _ _ _ h => h) (.inl ⟨by rfl, fun w' hS' => ?_⟩) hS ?_ ?_
      rotate_left
      · go_simp
        with_reducible rfl
      rotate_left
      · simp only [Act.put, List.setIfInBounds_toArray, List.set_cons_zero, List.set_cons_succ]
        rfl
      refine take_ (i := 10) (N := some 103) (v := ?_) (a' := ?_) #[true, true, true, true, true, true, true, true, true, true, true, false, false, false, false, false, false, false, false, false, false, false, false, false, false, false, false, false, false, false, false, false, false, false, false, false, false, false, false, false, false, false, false, false, false, false, false, false, false, false, false, false, false, false, false] rfl rfl (by kernel_rfl) (fun _ _ _ h => h) (.inl ⟨by rfl, fun w' hS' => ?_⟩) hS ?_ ?_
      rotate_left
      · go_simp
        with_reducible rfl
      rotate_left
      · simp only [Act.put, List.setIfInBounds_toArray, List.set_cons_zero, List.set_cons_succ]
        rfl
      refine take_ (i := 11) (N := some 104) (v := ?_) (a' := ?_) #[true, true, true, true, true, true, true, true, true, true, true, true, false, false, false, false, false, false, false, false, false, false, false, false, false, false, false, false, false, false, false, false, false, false, false, false, false, false, false, false, false, false, false, false, false, false, false, false, false, false, false, false, false, false, false] rfl rfl (by kernel_rfl) (fun _ _ _ h => h) (.inl ⟨by rfl, fun w' hS' => ?_⟩) hS ?_ ?_
      rotate_left
      · have t2 := fun i => blk_cell ((hS'.block _ nl).trans nm) i
        go_simp
        with_reducible rfl
      rotate_left
      · simp only [Act.put, List.setIfInBounds_toArray, List.set_cons_zero, List.set_cons_succ]
        rfl
      refine take_ (i := 12) (N := some 105) (v := ?_) (a' := ?_) #[true, true, true, true, true, true, true, true, true, true, true, true, true, false, false, false, false, false, false, false, false, false, false, false, false, false, false, false, false, false, false, false, false, false, false, false, false, false, false, false, false, false, false, false, false, false, false, false, false, false, false, false, false, false, false] rfl rfl (by kernel_rfl) (fun _ _ _ h => h) (.inl ⟨by rfl, fun w' hS' => ?_⟩) hS ?_ ?_
      rotate_left
      · go_simp
        with_reducible rfl
      rotate_left
      · simp only [Act.put, List.setIfInBounds_toArray, List.set_cons_zero, List.set_cons_succ]
        rfl
      refine take_ (i := 13) (N := some 106) (v := ?_) (a' := ?_) #[true, true, true, true, true, true, true, true, true, true, true, true, true, true, false, false, false, false, false, false, false, false, false, false, false, false, false, false, false, false, false, false, false, false, false, false, false, false, false, false, false, false, false, false, false, false, false, false, false, false, false, false, false, false, false] rfl rfl (by kernel_rfl) (fun _ _ _ h => h) (.inl ⟨by rfl, fun w' hS' => ?_⟩) hS ?_ ?_
      rotate_left
      · go_simp
        with_reducible rfl
      rotate_left
      · simp only [Act.put, List.setIfInBounds_toArray, List.set_cons_zero, List.set_cons_succ]
        rfl
      refine take_ (i := 14) (N := some 107) (v := ?_) (a' := ?_) #[true, true, true, true, true, true, true, true, true, true, true, true, true, true, true, false, false, false, false, false, false, false, false, false, false, false, false, false, false, false, false, false, false, false, false, false, false, false, false, false, false, false, false, false, false, false, false, false, false, false, false, false, false, false, false] rfl rfl (by kernel_rfl) (fun _ _ _ h => h) (.inl ⟨by rfl, fun w' hS' => ?_⟩) hS ?_ ?_
      rotate_left
      · go_simp
        with_reducible rfl
      rotate_left
      · simp only [Act.put, List.setIfInBounds_toArray, List.set_cons_zero, List.set_cons_succ]
        rfl
      refine take_ (i := 15) (N := some 108) (v := ?_) (a' := ?_) #[true, true, true, true, true, true, true, true, true, true, true, true, true, true, true, true, false, false, false, false, false, false, false, false, false, false, false, false, false, false, false, false, false, false, false, false, false, false, false, false, false, false, false, false, false, false, false, false, false, false, false, false, false, false, false] rfl rfl (by kernel_rfl) (fun _ _ _ h => h) (.inl ⟨by rfl, fun w' hS' => ?_⟩) hS ?_ ?_
      rotate_left
      · go_simp
        with_reducible rfl
      rotate_left
      · simp only [Act.put, List.setIfInBounds_toArray, List.set_cons_zero, List.set_cons_succ]
        rfl
      refine take_ (i := 16) (N := some 109) (v := ?_) (a' := ?_) #[true, true, true, true, true, true, true, true, true, true, true, true, true, true, true, true, true, false, false, false, false, false, false, false, false, false, false, false, false, false, false, false, false, false, false, false, false, false, false, false, false, false, false, false, false, false, false, false, false, false, false, false, false, false, false] rfl rfl (by kernel_rfl) (fun _ _ _ h => h) (.inl ⟨by rfl, fun w' hS' => ?_⟩) hS ?_ ?_
      rotate_left
      · go_simp
        with_reducible rfl
      rotate_left
      · simp only [Act.put, List.setIfInBounds_toArray, List.set_cons_zero, List.set_cons_succ]
        rfl
      refine take_ (i := 17) (N := some 110) (v := ?_) (a' := ?_) #[true, true, true, true, true, true, true, true, true, true, true, true, true, true, true, true, true, true, false, false, false, false, false, false, false, false, false, false, false, false, false, false, false, false, false, false, false, false, false, false, false, false, false, false, false, false, false, false, false, false, false, false, false, false, false] rfl rfl (by kernel_rfl) (fun _ _ _ h => h) (.inl ⟨by rfl, fun w' hS' => ?_⟩) hS ?_ ?_
      rotate_left
      · have t2 := fun i => blk_cell ((hS'.block _ nl).trans nm) i
        go_simp
        with_reducible rfl
      rotate_left
      · simp only [Act.put, List.setIfInBounds_toArray, List.set_cons_zero, List.set_cons_succ]
        rfl
      refine take_ (i := 18) (N := some 111) (v := ?_) (a' := ?_) #[true, true, true, true, true, true, true, true, true, true, true, true, true, true, true, true, true, true, true, false, false, false, false, false, false, false, false, false, false, false, false, false, false, false, false, false, false, false, false, false, false, false, false, false, false, false, false, false, false, false, false, false, false, false, false] rfl rfl (by kernel_rfl) (fun _ _ _ h => h) (.inl ⟨by rfl, fun w' hS' => ?_⟩) hS ?_ ?_
      rotate_left
      · go_simp
        with_reducible rfl
      rotate_left
      · simp only [Act.put, List.setIfInBounds_toArray, List.set_cons_zero, List.set_cons_succ]
        rfl
      refine take_ (i := 19) (N := some 112) (v := ?_) (a' := ?_) #[true, true, true, true, true, true, true, true, true, true, true, true, true, true, true, true, true, true, true, true, false, false, false, false, false, false, false, false, false, false, false, false, false, false, false, false, false, false, false, false, false, false, false, false, false, false, false, false, false, false, false, false, false, false, false] rfl rfl (by kernel_rfl) (fun _ _ _ h => h) (.inl ⟨by rfl, fun w' hS' => ?_⟩) hS ?_ ?_
      rotate_left
      · go_simp
        with_reducible rfl
      rotate_left
      · simp only [Act.put, List.setIfInBounds_toArray, List.set_cons_zero, List.set_cons_succ]
        rfl
      refine take_ (i := 20) (N := some 113) (v := undef) (a' := ?_) #[true, true, true, true, true, true, true, true, true, true, true, true, true, true, true, true, true, true, true, true, true, false, false, false, false, false, false, false, false, false, false, false, false, false, false, false, false, false, false, false, false, false, false, false, false, false, false, false, false, false, false, false, false, false, false] rfl rfl (by kernel_rfl) (fun _ _ _ h => h) (.inr ⟨by rfl, rfl⟩) hS ?_ ?_
      rotate_left
      · simp only [Act.put, List.setIfInBounds_toArray, List.set_cons_zero, List.set_cons_succ]
        rfl
      refine take_ (i := 21) (N := some 114) (v := undef) (a' := ?_) #[true, true, true, true, true, true, true, true, true, true, true, true, true, true, true, true, true, true, true, true, true, true, false, false, false, false, false, false, false, false, false, false, false, false, false, false, false, false, false, false, false, false, false, false, false, false, false, false, false, false, false, false, false, false, false] rfl rfl (by kernel_rfl) (fun _ _ _ h => h) (.inr ⟨by rfl, rfl⟩) hS ?_ ?_
      rotate_left
      · simp only [Act.put, List.setIfInBounds_toArray, List.set_cons_zero, List.set_cons_succ]
        rfl
      refine take_ (i := 22) (N := some 115) (v := ?_) (a' := ?_) #[true, true, true, true, true, true, true, true, true, true, true, true, true, true, true, true, true, true, true, true, true, true, true, false, false, false, false, false, false, false, false, false, false, false, false, false, false, false, false, false, false, false, false, false, false, false, false, false, false, false, false, false, false, false, false] rfl rfl (by kernel_rfl) (fun _ _ _ h => h) (.inl ⟨by rfl, fun w' hS' => ?_⟩) hS ?_ ?_
      rotate_left
      · go_simp
        with_reducible rfl
      rotate_left
      · simp only [Act.put, List.setIfInBounds_toArray, List.set_cons_zero, List.set_cons_succ]
        rfl
      refine take_ (i := 23) (N := some 116) (v := ?_) (a' := ?_) #[true, true, true, true, true, true, true, true, true, true, true, true, true, true, true, true, true, true, true, true, true, true, true, true, false, false, false, false, false, false, false, false, false, false, false, false, false, false, false, false, false, false, false, false, false, false, false, false, false, false, false, false, false, false, false] rfl rfl (by kernel_rfl) (fun _ _ _ h => h) (.inl ⟨by rfl, fun w' hS' => ?_⟩) hS ?_ ?_
      rotate_left
      · go_simp
        with_reducible rfl
      rotate_left
      · simp only [Act.put, List.setIfInBounds_toArray, List.set_cons_zero, List.set_cons_succ]
        rfl
      refine take_ (i := 24) (N := some 117) (v := ?_) (a' := ?_) #[true, true, true, true, true, true, true, true, true, true, true, true, true, true, true, true, true, true, true, true, true, true, true, true, true, false, false, false, false, false, false, false, false, false, false, false, false, false, false, false, false, false, false, false, false, false, false, false, false, false, false, false, false, false, false] rfl rfl (by kernel_rfl) (fun _ _ _ h => h) (.inl ⟨by rfl, fun w' hS' => ?_⟩) hS ?_ ?_
      rotate_left
      · go_simp
        with_reducible rfl
      rotate_left
      · simp only [Act.put, List.setIfInBounds_toArray, List.set_cons_zero, List.set_cons_succ]
        rfl
      refine take_ (i := 25) (N := some 118) (v := ?_) (a' := ?_) #[true, true, true, true, true, true, true, true, true, true, true, true, true, true, true, true, true, true, true, true, true, true, true, true, true, true, false, false, false, false, false, false, false, false, false, false, false, false, false, false, false, false, false, false, false, false, false, false, false, false, false, false, false, false, false] rfl rfl (by kernel_rfl) (fun _ _ _ h => h) (.inl ⟨by rfl, fun w' hS' => ?_⟩) hS ?_ ?_
      rotate_left
      · go_simp
        with_reducible rfl
      rotate_left
      · simp only [Act.put, List.setIfInBounds_toArray, List.set_cons_zero, List.set_cons_succ]
        rfl
      refine take_ (i := 26) (N := some 119) (v := ?_) (a' := ?_) #[true, true, true, true, true, true, true, true, true, true, true, true, true, true, true, true, true, true, true, true, true, true, true, true, true, true, true, false, false, false, false, false, false, false, false, false, false, false, false, false, false, false, false, false, false, false, false, false, false, false, false, false, false, false, false] rfl rfl (by kernel_rfl) (fun _ _ _ h => h) (.inl ⟨by rfl, fun w' hS' => ?_⟩) hS ?_ ?_
      rotate_left
      · go_simp
        with_reducible rfl
      rotate_left
      · simp only [Act.put, List.setIfInBounds_toArray, List.set_cons_zero, List.set_cons_succ]
        rfl
      refine take_ (i := 27) (N := some 120) (v := ?_) (a' := ?_) #[true, true, true, true, true, true, true, true, true, true, true, true, true, true, true, true, true, true, true, true, true, true, true, true, true, true, true, true, false, false, false, false, false, false, false, false, false, false, false, false, false, false, false, false, false, false, false, false, false, false, false, false, false, false, false] rfl rfl (by kernel_rfl) (fun _ _ _ h => h) (.inl ⟨by rfl, fun w' hS' => ?_⟩) hS ?_ ?_
      rotate_left
      · have t2 := fun i => blk_cell ((hS'.block _ nl).trans nm) i
        go_simp
        with_reducible rfl
      rotate_left
      · simp only [Act.put, List.setIfInBounds_toArray, List.set_cons_zero, List.set_cons_succ]
        rfl
      refine take_ (i := 28) (N := some 121) (v := ?_) (a' := ?_) #[true, true, true, true, true, true, true, true, true, true, true, true, true, true, true, true, true, true, true, true, true, true, true, true, true, true, true, true, true, false, false, false, false, false, false, false, false, false, false, false, false, false, false, false, false, false, false, false, false, false, false, false, false, false, false] rfl rfl (by kernel_rfl) (fun _ _ _ h => h) (.inl ⟨by rfl, fun w' hS' => ?_⟩) hS ?_ ?_
      rotate_left
      · go_simp
        with_reducible rfl
      rotate_left
      · simp only [Act.put, List.setIfInBounds_toArray, List.set_cons_zero, List.set_cons_succ]
        rfl
      refine take_ (i := 29) (N := some 122) (v := undef) (a' := ?_) #[true, true, true, true, true, true, true, true, true, true, true, true, true, true, true, true, true, true, true, true, true, true, true, true, true, true, true, true, true, true, false, false, false, false, false, false, false, false, false, false, false, false, false, false, false, false, false, false, false, false, false, false, false, false, false] rfl rfl (by kernel_rfl) (fun _ _ _ h => h) (.inr ⟨by rfl, rfl⟩) hS ?_ ?_
      rotate_left
      · simp only [Act.put, List.setIfInBounds_toArray, List.set_cons_zero, List.set_cons_succ]
        rfl
      refine take_ (i := 30) (N := some 123) (v := undef) (a' := ?_) #[true, true, true, true, true, true, true, true, true, true, true, true, true, true, true, true, true, true, true, true, true, true, true, true, true, true, true, true, true, true, true, false, false, false, false, false, false, false, false, false, false, false, false, false, false, false, false, false, false, false, false, false, false, false, false] rfl rfl (by kernel_rfl) (fun _ _ _ h => h) (.inr ⟨by rfl, rfl⟩) hS ?_ ?_
      rotate_left
      · simp only [Act.put, List.setIfInBounds_toArray, List.set_cons_zero, List.set_cons_succ]
        rfl
      refine take_ (i := 31) (N := some 124) (v := undef) (a' := ?_) #[true, true, true, true, true, true, true, true, true, true, true, true, true, true, true, true, true, true, true, true, true, true, true, true, true, true, true, true, true, true, true, true, false, false, false, false, false, false, false, false, false, false, false, false, false, false, false, false, false, false, false, false, false, false, false] rfl rfl (by kernel_rfl) (fun _ _ _ h => h) (.inr ⟨by rfl, rfl⟩) hS ?_ ?_
      rotate_left
      · simp only [Act.put, List.setIfInBounds_toArray, List.set_cons_zero, List.set_cons_succ]
        rfl
      refine take_ (i := 32) (N := some 125) (v := undef) (a' := ?_) #[true, true, true, true, true, true, true, true, true, true, true, true, true, true, true, true, true, true, true, true, true, true, true, true, true, true, true, true, true, true, true, true, true, false, false, false, false, false, false, false, false, false, false, false, false, false, false, false, false, false, false, false, false, false, false] rfl rfl (by kernel_rfl) (fun _ _ _ h => h) (.inr ⟨by rfl, rfl⟩) hS ?_ ?_
      rotate_left
      · simp only [Act.put, List.setIfInBounds_toArray, List.set_cons_zero, List.set_cons_succ]
        rfl
      refine take_ (i := 33) (N := some 126) (v := ?_) (a' := ?_) #[true, true, true, true, true, true, true, true, true, true, true, true, true, true, true, true, true, true, true, true, true, true, true, true, true, true, true, true, true, true, true, true, true, true, false, false, false, false, false, false, false, false, false, false, false, false, false, false, false, false, false, false, false, false, false] rfl rfl (by kernel_rfl) (fun _ _ _ h => h) (.inl ⟨by rfl, fun w' hS' => ?_⟩) hS ?_ ?_
      rotate_left
      · go_simp
        with_reducible rfl
      rotate_left
      · simp only [Act.put, List.setIfInBounds_toArray, List.set_cons_zero, List.set_cons_succ]
        rfl
      refine take_ (i := 34) (N := some 127) (v := ?_) (a' := ?_) #[true, true, true, true, true, true, true, true, true, true, true, true, true, true, true, true, true, true, true, true, true, true, true, true, true, true, true, true, true, true, true, true, true, true, true, false, false, false, false, false, false, false, false, false, false, false, false, false, false, false, false, false, false, false, false] rfl rfl (by kernel_rfl) (fun _ _ _ h => h) (.inl ⟨by rfl, fun w' hS' => ?_⟩) hS ?_ ?_
      rotate_left
      · go_simp
        with_reducible rfl
      rotate_left
      · simp only [Act.put, List.setIfInBounds_toArray, List.set_cons_zero, List.set_cons_succ]
        rfl
      refine take_ (i := 35) (N := some 128) (v := ?_) (a' := ?_) #[true, true, true, true, true, true, true, true, true, true, true, true, true, true, true, true, true, true, true, true, true, true, true, true, true, true, true, true, true, true, true, true, true, true, true, true, false, false, false, false, false, false, false, false, false, false, false, false, false, false, false, false, false, false, false] rfl rfl (by kernel_rfl) (fun _ _ _ h => h) (.inl ⟨by rfl, fun w' hS' => ?_⟩) hS ?_ ?_
      rotate_left
      · go_simp
        with_reducible rfl
      rotate_left
      · simp only [Act.put, List.setIfInBounds_toArray, List.set_cons_zero, List.set_cons_succ]
        rfl
      refine take_ (i := 36) (N := some 129) (v := ?_) (a' := ?_) #[true, true, true, true, true, true, true, true, true, true, true, true, true, true, true, true, true, true, true, true, true, true, true, true, true, true, true, true, true, true, true, true, true, true, true, true, true, false, false, false, false, false, false, false, false, false, false, false, false, false, false, false, false, false, false] rfl rfl (by kernel_rfl) (fun _ _ _ h => h) (.inl ⟨by rfl, fun w' hS' => ?_⟩) hS ?_ ?_
      rotate_left
      · go_simp
        with_reducible rfl
      rotate_left
      · simp only [Act.put, List.setIfInBounds_toArray, List.set_cons_zero, List.set_cons_succ]
        rfl
      refine take_ (i := 37) (N := some 130) (v := ?_) (a' := ?_) #[true, true, true, true, true, true, true, true, true, true, true, true, true, true, true, true, true, true, true, true, true, true, true, true, true, true, true, true, true, true, true, true, true, true, true, true, true, true, false, false, false, false, false, false, false, false, false, false, false, false, false, false, false, false, false] rfl rfl (by kernel_rfl) (fun _ _ _ h => h) (.inl ⟨by rfl, fun w' hS' => ?_⟩) hS ?_ ?_
      rotate_left
      · have t2 := fun i => blk_cell ((hS'.block _ nl).trans nm) i
        go_simp
        with_reducible rfl
      rotate_left
      · simp only [Act.put, List.setIfInBounds_toArray, List.set_cons_zero, List.set_cons_succ]
        rfl
      refine take_ (i := 38) (N := some 131) (v := ?_) (a' := ?_) #[true, true, true, true, true, true, true, true, true, true, true, true, true, true, true, true, true, true, true, true, true, true, true, true, true, true, true, true, true, true, true, true, true, true, true, true, true, true, true, false, false, false, false, false, false, false, false, false, false, false, false, false, false, false, false] rfl rfl (by kernel_rfl) (fun _ _ _ h => h) (.inl ⟨by rfl, fun w' hS' => ?_⟩) hS ?_ ?_
      rotate_left
      · go_simp
        with_reducible rfl
      rotate_left
      · simp only [Act.put, List.setIfInBounds_toArray, List.set_cons_zero, List.set_cons_succ]
        rfl
      refine take_ (i := 39) (N := some 132) (v := ?_) (a' := ?_) #[true, true, true, true, true, true, true, true, true, true, true, true, true, true, true, true, true, true, true, true, true, true, true, true, true, true, true, true, true, true, true, true, true, true, true, true, true, true, true, true, false, false, false, false, false, false, false, false, false, false, false, false, false, false, false] rfl rfl (by kernel_rfl) (fun _ _ _ h => h) (.inl ⟨by rfl, fun w' hS' => ?_⟩) hS ?_ ?_
      rotate_left
      · go_simp
        with_reducible rfl
      rotate_left
      · simp only [Act.put, List.setIfInBounds_toArray, List.set_cons_zero, List.set_cons_succ]
        rfl
      refine take_ (i := 40) (N := some 133) (v := undef) (a' := ?_) #[true, true, true, true, true, true, true, true, true, true, true, true, true, true, true, true, true, true, true, true, true, true, true, true, true, true, true, true, true, true, true, true, true, true, true, true, true, true, true, true, true, false, false, false, false, false, false, false, false, false, false, false, false, false, false] rfl rfl (by kernel_rfl) (fun _ _ _ h => h) (.inr ⟨by rfl, rfl⟩) hS ?_ ?_
      rotate_left
      · simp only [Act.put, List.setIfInBounds_toArray, List.set_cons_zero, List.set_cons_succ]
        rfl
      refine take_ (i := 41) (N := some 134) (v := undef) (a' := ?_) #[true, true, true, true, true, true, true, true, true, true, true, true, true, true, true, true, true, true, true, true, true, true, true, true, true, true, true, true, true, true, true, true, true, true, true, true, true, true, true, true, true, true, false, false, false, false, false, false, false, false, false, false, false, false, false] rfl rfl (by kernel_rfl) (fun _ _ _ h => h) (.inr ⟨by rfl, rfl⟩) hS ?_ ?_
      rotate_left
      · simp only [Act.put, List.setIfInBounds_toArray, List.set_cons_zero, List.set_cons_succ]
        rfl
      refine take_ (i := 42) (N := some 135) (v := ?_) (a' := ?_) #[true, true, true, true, true, true, true, true, true, true, true, true, true, true, true, true, true, true, true, true, true, true, true, true, true, true, true, true, true, true, true, true, true, true, true, true, true, true, true, true, true, true, true, false, false, false, false, false, false, false, false, false, false, false, false] rfl rfl (by kernel_rfl) (fun _ _ _ h => h) (.inl ⟨by rfl, fun w' hS' => ?_⟩) hS ?_ ?_
      rotate_left
      · go_simp
        with_reducible rfl
      rotate_left
      · simp only [Act.put, List.setIfInBounds_toArray, List.set_cons_zero, List.set_cons_succ]
        rfl
      refine take_ (i := 43) (N := some 136) (v := ?_) (a' := ?_) #[true, true, true, true, true, true, true, true, true, true, true, true, true, true, true, true, true, true, true, true, true, true, true, true, true, true, true, true, true, true, true, true, true, true, true, true, true, true, true, true, true, true, true, true, false, false, false, false, false, false, false, false, false, false, false] rfl rfl (by kernel_rfl) (fun _ _ _ h => h) (.inl ⟨by rfl, fun w' hS' => ?_⟩) hS ?_ ?_
      rotate_left
      · go_simp
        with_reducible rfl
      rotate_left
      · simp only [Act.put, List.setIfInBounds_toArray, List.set_cons_zero, List.set_cons_succ]
        rfl
      refine take_ (i := 44) (N := some 137) (v := ?_) (a' := ?_) #[true, true, true, true, true, true, true, true, true, true, true, true, true, true, true, true, true, true, true, true, true, true, true, true, true, true, true, true, true, true, true, true, true, true, true, true, true, true, true, true, true, true, true, true, true, false, false, false, false, false, false, false, false, false, false] rfl rfl (by kernel_rfl) (fun _ _ _ h => h) (.inl ⟨by rfl, fun w' hS' => ?_⟩) hS ?_ ?_
      rotate_left
      · go_simp
        with_reducible rfl
      rotate_left
      · simp only [Act.put, List.setIfInBounds_toArray, List.set_cons_zero, List.set_cons_succ]
        rfl
      refine take_ (i := 45) (N := some 138) (v := ?_) (a' := ?_) #[true, true, true, true, true, true, true, true, true, true, true, true, true, true, true, true, true, true, true, true, true, true, true, true, true, true, true, true, true, true, true, true, true, true, true, true, true, true, true, true, true, true, true, true, true, true, false, false, false, false, false, false, false, false, false] rfl rfl (by kernel_rfl) (fun _ _ _ h => h) (.inl ⟨by rfl, fun w' hS' => ?_⟩) hS ?_ ?_
      rotate_left
      · go_simp
        with_reducible rfl
      rotate_left
      · simp only [Act.put, List.setIfInBounds_toArray, List.set_cons_zero, List.set_cons_succ]
        rfl
      refine take_ (i := 46) (N := some 139) (v := ?_) (a' := ?_) #[true, true, true, true, true, true, true, true, true, true, true, true, true, true, true, true, true, true, true, true, true, true, true, true, true, true, true, true, true, true, true, true, true, true, true, true, true, true, true, true, true, true, true, true, true, true, true, false, false, false, false, false, false, false, false] rfl rfl (by kernel_rfl) (fun _ _ _ h => h) (.inl ⟨by rfl, fun w' hS' => ?_⟩) hS ?_ ?_
      rotate_left
      · go_simp
        with_reducible rfl
      rotate_left
      · simp only [Act.put, List.setIfInBounds_toArray, List.set_cons_zero, List.set_cons_succ]
        rfl
      refine take_ (i := 47) (N := some 140) (v := ?_) (a' := ?_) #[true, true, true, true, true, true, true, true, true, true, true, true, true, true, true, true, true, true, true, true, true, true, true, true, true, true, true, true, true, true, true, true, true, true, true, true, true, true, true, true, true, true, true, true, true, true, true, true, false, false, false, false, false, false, false] rfl rfl (by kernel_rfl) (fun _ _ _ h => h) (.inl ⟨by rfl, fun w' hS' => ?_⟩) hS ?_ ?_
      rotate_left
      · have t2 := fun i => blk_cell ((hS'.block _ nl).trans nm) i
        go_simp
        with_reducible rfl
      rotate_left
      · simp only [Act.put, List.setIfInBounds_toArray, List.set_cons_zero, List.set_cons_succ]
        rfl
      refine take_ (i := 48) (N := some 141) (v := ?_) (a' := ?_) #[true, true, true, true, true, true, true, true, true, true, true, true, true, true, true, true, true, true, true, true, true, true, true, true, true, true, true, true, true, true, true, true, true, true, true, true, true, true, true, true, true, true, true, true, true, true, true, true, true, false, false, false, false, false, false] rfl rfl (by kernel_rfl) (fun _ _ _ h => h) (.inl ⟨by rfl, fun w' hS' => ?_⟩) hS ?_ ?_
      rotate_left
      · go_simp
        with_reducible rfl
      rotate_left
      · simp only [Act.put, List.setIfInBounds_toArray, List.set_cons_zero, List.set_cons_succ]
        rfl
      refine take_ (i := 49) (N := some 142) (v := undef) (a' := ?_) #[true, true, true, true, true, true, true, true, true, true, true, true, true, true, true, true, true, true, true, true, true, true, true, true, true, true, true, true, true, true, true, true, true, true, true, true, true, true, true, true, true, true, true, true, true, true, true, true, true, true, false, false, false, false, false] rfl rfl (by kernel_rfl) (fun _ _ _ h => h) (.inr ⟨by rfl, rfl⟩) hS ?_ ?_
      rotate_left
      · simp only [Act.put, List.setIfInBounds_toArray, List.set_cons_zero, List.set_cons_succ]
        rfl
      refine take_ (i := 50) (N := some 143) (v := undef) (a' := ?_) #[true, true, true, true, true, true, true, true, true, true, true, true, true, true, true, true, true, true, true, true, true, true, true, true, true, true, true, true, true, true, true, true, true, true, true, true, true, true, true, true, true, true, true, true, true, true, true, true, true, true, true, false, false, false, false] rfl rfl (by kernel_rfl) (fun _ _ _ h => h) (.inr ⟨by rfl, rfl⟩) hS ?_ ?_
      rotate_left
      · simp only [Act.put, List.setIfInBounds_toArray, List.set_cons_zero, List.set_cons_succ]
        rfl
      refine take_ (i := 51) (N := some 144) (v := undef) (a' := ?_) #[true, true, true, true, true, true, true, true, true, true, true, true, true, true, true, true, true, true, true, true, true, true, true, true, true, true, true, true, true, true, true, true, true, true, true, true, true, true, true, true, true, true, true, true, true, true, true, true, true, true, true, true, false, false, false] rfl rfl (by kernel_rfl) (fun _ _ _ h => h) (.inr ⟨by rfl, rfl⟩) hS ?_ ?_
      rotate_left
      · simp only [Act.put, List.setIfInBounds_toArray, List.set_cons_zero, List.set_cons_succ]
        rfl
      refine take_ (i := 52) (N := some 145) (v := undef) (a' := ?_) #[true, true, true, true, true, true, true, true, true, true, true, true, true, true, true, true, true, true, true, true, true, true, true, true, true, true, true, true, true, true, true, true, true, true, true, true, true, true, true, true, true, true, true, true, true, true, true, true, true, true, true, true, true, false, false] rfl rfl (by kernel_rfl) (fun _ _ _ h => h) (.inr ⟨by rfl, rfl⟩) hS ?_ ?_
      rotate_left
      · simp only [Act.put, List.setIfInBounds_toArray, List.set_cons_zero, List.set_cons_succ]
        rfl
      refine take_ (i := 53) (N := some 146) (v := ?_) (a' := ?_) #[true, true, true, true, true, true, true, true, true, true, true, true, true, true, true, true, true, true, true, true, true, true, true, true, true, true, true, true, true, true, true, true, true, true, true, true, true, true, true, true, true, true, true, true, true, true, true, true, true, true, true, true, true, true, false] rfl rfl (by kernel_rfl) (fun _ _ _ h => h) (.inl ⟨by rfl, fun w' hS' => ?_⟩) hS ?_ ?_
      rotate_left
      · go_simp
        with_reducible rfl
      rotate_left
      · simp only [Act.put, List.setIfInBounds_toArray, List.set_cons_zero, List.set_cons_succ]
        rfl
      refine wpAnyLast_all (rs := [54]) (by kernel_rfl) (by simp) ?_
      intro i hi'
      obtain rfl := List.mem_singleton.1 hi'
      refine wpOp_step rfl (fun K' hK' => ?_)
      go_simp
      refine hK' _ _ ⟨fun _ h => h, ?_⟩
      clear hK' K'
      simp only [Act.put, List.setIfInBounds_toArray, List.set_cons_zero, List.set_cons_succ]
      refine wpAnyLast_done (by kernel_rfl) ?_ _
      have B6 := B5.trans (hS.mono B5.size)
      have ia6 := ia5.below hS
      have ib6 := ib5.below hS
      clear B5 ia5 ib5 nm nl
      go_wp2_with (first
        | (go_at_call 15; with_reducible refine (hR3 _ (hK.below B6) ia6).mono ?_; rintro e w7 ⟨xa, xc, rfl, r7, hb7⟩
           have B7 := B6.trans (hb7.mono B6.size)
           have ia7 := ia6.below hb7
           have ib7 := ib6.below hb7)
        | (go_at_call 10; with_reducible refine (hJ3 _ _ _ r7 (hK.below B7) ib7).mono ?_; rintro e w8 ⟨ya, yc, rfl, r8, hb8, ib8⟩
           have B8 := But.below B7 hb8 hb B7.size
           have ia8 := ia7.but hb8 hab)
        | (go_at_call 16; with_reducible refine (hX3 _ _ _ r8 (hK.below B8) ia8).mono ?_; rintro e w9 ⟨rfl, hb9, ia9⟩
           have B9 := But.below B8 hb9 ha B8.size
           have ib9 := ib8.but hb9 (Ne.symm hab))
        | (go_at_call 19; with_reducible refine (hM3 _ ia9).mono ?_; rintro e w10 ⟨rfl, hb10⟩
           have B10 := B9.trans (hb10.mono B9.size)
           have ia10 := ia9.below hb10
           have ib10 := ib9.below hb10
           clear ia9)
        | (go_at_call 13; with_reducible refine (hP3 _ ib10).mono ?_; rintro e w11 ⟨rfl, hb11⟩
           have B11 := B10.trans (hb11.mono B10.size)
           have ia11 := ia10.below hb11)
        | (go_at_call 19; with_reducible refine (hM3 _ ia11).mono ?_; rintro e w12 ⟨rfl, hb12⟩
           have B12 := B11.trans (hb12.mono B11.size))
        | (go_at_call 7; with_reducible refine (alive_calls _ (hK.below B12)).mono ?_; rintro e w13 ⟨rfl, hb13⟩
           have B13 := B12.trans (hb13.mono B12.size)))
      go_ret
      exact ⟨rfl, B13⟩
end Go.Proofs.YtlcckkdkcbelhaaDoor
