/-
  Layer 17 (echo): the law EchoPlays, walked.
-/
import Derived.Test.YthenjbonncbniaaPlaysP
import Derived.BigQuiet
import Derived.Deep.CutRange
import Derived.Deep.CutBlock
set_option linter.unusedVariables false
set_option linter.unusedSimpArgs false
namespace Go.Proofs.Ythenjbonncbniaa
open Go.RowKit Go.Proofs.YthenjbonncbniaaW.PrintWords Go.Proofs.YthenjbonncbniaaW.PrintLast

theorem newE_ok {every most now : Int} {magic : Nat} (h : May every most now) (hm : magic < 4294967296) : (newE every most magic now).Ok 0 := by
  obtain ⟨h1, h2, h3⟩ := h
  exact ⟨by simp [newE], by simp only [newE]; omega, by simp only [newE]; omega, by simp only [newE]; omega, by simp only [newE]; omega, hm, by simp [newE]⟩
theorem below_drewN {B : Nat} {a w : World} (h : Below B a w) (n : Nat) : Below B a (w.drewN n) := h.trans ⟨rfl, rfl, rfl, Nat.le_refl _, fun _ _ => rfl⟩
theorem ne_ech {W : World} {g B : Nat} {cs : Array Value} {s : Ech} (h : W.heap[g]? = some (.cells cs 72 (0, 0))) (k : IsEch W B s) : g ≠ B := by
  intro e
  subst e
  unfold IsEch at k
  rw [h] at k
  injection k with k
  injection k with _ k
  cases k
set_option maxHeartbeats 16000000 in
set_option maxRecDepth 100000 in
theorem plays_walk (every most : Int) (magic : Nat) (hm : magic < 4294967296) (now : Int) (a3 : Option Addr) (len cap : Nat) (f : Nat → Stp) (w : World) (hS : IsSt w a3 len cap f) :
    Calls Try.prog 7 #[.agg #[.int .i64 every, .int .i64 most], .int .u32 (magic : Int), .int .i64 now, .slice a3 len cap] w fun e w' => e = .returned (.bool true) ∧ Below w.heap.size w w' := by
  have hz : w.heap.size ≤ w.heap.size := Nat.le_refl _
  have hB0 : Below w.heap.size w (w.alloc (.cells #[.int .i64 every, .int .i64 most] 40)) := (Below.refl _ _).alloc (Nat.le_refl _) _
  have hS0 : IsSt (w.alloc (.cells #[.int .i64 every, .int .i64 most] 40)) a3 len cap f := hS.below hB0
  have hC0 := heap_alloc_new w (.cells #[.int .i64 every, .int .i64 most] 40)
  go_enter Try.func7, Try.ntmps7
  go_upto_if 33 with (first
    | (go_at_call 26; with_reducible refine (longE_calls a3 len cap f _ hS0).mono ?_; rintro e w1 ⟨b, rfl, hw1, hb⟩; rw [← hw1] at hB0 hC0; clear hw1 hS0))
  cases b with
  | true =>
    go_wp2_with (first
      | (go_at_call 16; with_reducible refine (alive17_calls _).mono ?_; rintro e w2 ⟨rfl, hb2⟩))
    go_ret
    exact ⟨rfl, hB0.trans (hb2.mono hB0.size)⟩
  | false =>
    obtain ⟨hl, hds⟩ := hb rfl
    clear hb
    by_cases hmay : May every most now
    · have hN := newE_good every most magic now hmay
      have hM := may_good every most now hmay
      go_wp2_with (first
        | (go_at_call 18; with_reducible refine (ntick_calls _ _).mono ?_; rintro e w2 ⟨rfl, rfl⟩)
        | (go_at_call 21; with_reducible refine (npkt_calls _ _ _ _).mono ?_; rintro e w3 ⟨rfl, hb3⟩)
        | (go_at_call 20; with_reducible refine (nnext_calls _).mono ?_; rintro e w4 ⟨rfl, rfl⟩)
        | (go_at_call 19; with_reducible refine (ndead_calls _).mono ?_; rintro e w4 ⟨rfl, rfl⟩)
        | (go_at_call 22; with_reducible refine (nmissed_calls _).mono ?_; rintro e w4 ⟨rfl, rfl⟩)
        | (go_at_call 27; with_reducible refine (ncopy_calls _).mono ?_; rintro e w4 ⟨rfl, rfl⟩
           have hC3 := (hb3.block _ (blk_lt hC0)).trans hC0
           have x0 := blk_cell hC3 0
           have x1 := blk_cell hC3 1)
        | (go_at_call 17; with_reducible refine (hN _).mono ?_; rintro e w5 ⟨rfl, hb5, ht5⟩
           have hC5 := (hb5.block _ (blk_lt hC3)).trans hC3
           have x0 := blk_cell hC5 0
           have x1 := blk_cell hC5 1)
        | (go_at_call 28; with_reducible refine (hM _).mono ?_; rintro e w6 ⟨rfl, hb6⟩
           have hC6 := (hb6.block _ (blk_lt hC5)).trans hC5
           have x0 := blk_cell hC6 0
           have x1 := blk_cell hC6 1))
      have k3 := hB0.trans (hb3.mono hB0.size)
      have k5 := k3.trans (hb5.mono k3.size)
      have k6 := k5.trans (hb6.mono k5.size)
      have hE6 := ht5.below hb6
      have hE := hE6.alloc (.cells (newE every most magic now).rcells.toArray 70)
      have hR : IsRef (w6.alloc (.cells (newE every most magic now).rcells.toArray 70)) w6.heap.size (newE every most magic now) := heap_alloc_new _ _
      have hne : w4.heap.size + 1 ≠ w6.heap.size := by have := hE6.lt; omega
      have hzE : w.heap.size ≤ w4.heap.size + 1 := by have := k3.size; omega
      have hzR : w.heap.size ≤ w6.heap.size := k6.size
      have kA := k6.alloc k6.size (.cells (newE every most magic now).rcells.toArray 70)
      have hok := newE_ok hmay hm
      generalize w6.heap.size = R at *
      clear hE6 ht5 hb6 hb5 hb3 hC0 hC3 hC5 hC6 x0 x1 k3 k5 k6 hN hM
      go_loopg [2, 16, 19, 20, 21, 22, 23, 24, 25, 26, 27, 28, 29, 30, 31] len (fun q a2 a16 a19 a20 a21 a22 a23 a24 a25 a26 a27 a28 a29 a30 a31 wr => ∃ (j : Nat) (s : Ech) (Be : Nat), j ≤ len ∧ q = len - j ∧ a2 = .int .i64 s.now ∧ a16 = .pointer (some ⟨Be, 0, none⟩) ∧ a19 = .int .i64 (j : Int) ∧ s.Ok j ∧ IsEch wr Be s ∧ IsRef wr R s ∧ Be ≠ R ∧ w.heap.size ≤ Be ∧ Below w.heap.size w wr)
      case atStart => exact ⟨0, newE every most magic now, w4.heap.size + 1, by omega, rfl, rfl, rfl, rfl, hok, hE, hR, hne, hzE, kA⟩
      case round =>
        clear hE hR hne hzE kA hok
        obtain ⟨j, s, Be, hj, hq, rfl, rfl, rfl, ho, hE, hR, hne, hzE, hB⟩ := hrel
        have A := Lib.hid hq; clear hq
        by_cases hlt : j < len
        · have h1 : decide ((j : Int) < (len : Int)) = true := by simp; omega
          obtain ⟨x, rfl, c0, c1, c2, c3, c4, c5⟩ := hS.at_ hB j hlt
          have hdz := hds j hlt
          have hmz := (f j).hm
          generalize (f j).what = d at *
          generalize (f j).after = af at *
          generalize (f j).code = code at *
          generalize (f j).id = id at *
          generalize (f j).data = dat at *
          generalize (f j).magic = mg at *
          go_upto_block 2 with fail
          have hEA := hE.alloc (.cells #[.int .i64 d, .int .i64 af, .int .u8 code, .int .u8 id, .string dat, .int .u32 (mg : Int)] 72)
          have hRA := hR.alloc (.cells #[.int .i64 d, .int .i64 af, .int .u8 code, .int .u8 id, .string dat, .int .u32 (mg : Int)] 72)
          have hBA := hB.alloc hB.size (.cells #[.int .i64 d, .int .i64 af, .int .u8 code, .int .u8 id, .string dat, .int .u32 (mg : Int)] 72)
          have hnew := heap_alloc_new wr (.cells #[.int .i64 d, .int .i64 af, .int .u8 code, .int .u8 id, .string dat, .int .u32 (mg : Int)] 72)
          have hmag := ho.magic
          have hd6 : dat.size ≤ 1000000 := by omega
          clear c0 c1 c2 c3 c4 c5 hE hR hB
          generalize wr.alloc (.cells #[.int .i64 d, .int .i64 af, .int .u8 code, .int .u8 id, .string dat, .int .u32 (mg : Int)] 72) = W at *
          generalize wr.heap.size = gs at *
          have e0 := blk_cell hnew 0
          have e1 := blk_cell hnew 1
          have e2 := blk_cell hnew 2
          have e3 := blk_cell hnew 3
          have e4 := blk_cell hnew 4
          have e5 := blk_cell hnew 5
          go_cut [2, 16, 21, 22, 23, 24, 25, 26, 27] from 106 to 237 (fun s2 s16 s21 s22 s23 s24 s25 s26 s27 wx => ∃ (s' : Ech) (Be' : Nat) (r : Int), s2 = .int .i64 s'.now ∧ s16 = .pointer (some ⟨Be', 0, none⟩) ∧ s23 = .int .i64 r ∧ s24 = .int .i64 r ∧ Same2 wx s21 s22 ∧ s'.Ok (j + 1) ∧ IsEch wx Be' s' ∧ IsRef wx R s' ∧ Be' ≠ R ∧ w.heap.size ≤ Be' ∧ Below w.heap.size w wx)
          case first =>
            by_cases d0 : d = 0
            · subst d0
              go_wp2_with (first
                | (go_at_call 18; with_reducible refine (tick_all s j (by omega) ho Be _ _ hEA).mono ?_; rintro e w2 ⟨v, r, rfl, p1⟩
                   have hb1 := tick_but p1
                   have hR2 := hRA.but hb1 hne.symm
                   have k2 := hb1.below hBA hzE hBA.size)
                | (go_at_call 29; with_reducible refine (rtick_all s j (by omega) ho R _ _ hR2).mono ?_; rintro e w3 ⟨v2, r2, rfl, p2⟩
                   have hb2 := tick_but p2
                   have k3 := hb2.below k2 hzR k2.size
                   obtain ⟨rfl, hr02, hnow, hsm, hS2, hE3, hR3⟩ := both_tick hne hRA p1 p2
                   clear p1 p2))
              all_goals go_meet
              all_goals refine ⟨s.tickS _, Be, r2, ?_, rfl, rfl, rfl, hS2, ho.tick _, hE3, hR3, hne, hzE, k3⟩
              all_goals rcases hr02 with hr | hr
              all_goals first
                | (have hq : (r2 == 0) = false := by assumption
                   rw [hr] at hq
                   cases hq
                   done)
                | (have hq : (r2 == 0) = true := by assumption
                   rw [hr] at hq
                   cases hq
                   done)
                | rw [hnow hr, if_pos (show (if (1099511627776 : Int) < af then 1099511627776 else af) < -1099511627776 by assumption)]
                | rw [hnow hr, if_neg (Int.not_lt.2 (show -1099511627776 ≤ (if (1099511627776 : Int) < af then 1099511627776 else af) by assumption)), if_pos (show (1099511627776 : Int) < af by assumption)]
                | rw [hnow hr, if_neg (Int.not_lt.2 (show -1099511627776 ≤ (if (1099511627776 : Int) < af then 1099511627776 else af) by assumption)), if_neg (Int.not_lt.2 (show af ≤ (1099511627776 : Int) by assumption))]
                | rw [hsm (by rw [hr]; decide)]
            · have f0 : (d == 0) = false := by simpa using d0
              by_cases d1 : d = 1
              · subst d1
                go_wp2_with (first
                  | (go_at_call 21; with_reducible refine (pkt_calls s hmag Be code id dat hd6 _ hEA).mono ?_; rintro e w2 ⟨v, r, rfl, p1⟩
                     have hb1 := pkt_but p1
                     have hR2 := hRA.but hb1 hne.symm
                     have k2 := hb1.below hBA hzE hBA.size
                     have hgs := ne_ech hnew hEA
                     have hnew2 := (hb1.block gs (blk_lt hnew) hgs).trans hnew
                     have e2 := blk_cell hnew2 2
                     have e3 := blk_cell hnew2 3
                     have e4 := blk_cell hnew2 4)
                  | (go_at_call 30; with_reducible refine (rpkt_calls s hmag ho.sent.1 R code id dat hd6 _ hR2).mono ?_; rintro e w3 ⟨v2, r2, rfl, p2⟩
                     have hb2 := rpkt_but p2
                     have k3 := hb2.below k2 hzR k2.size
                     obtain ⟨rfl, hS2, hE3, hR3⟩ := both_pkt hne hRA p1 p2
                     clear p1 p2))
                go_meet
                exact ⟨s.pktS code id dat, Be, _, by rw [pktS_now], rfl, rfl, rfl, hS2, ho.pkt _ _ _, hE3, hR3, hne, hzE, k3⟩
              · have f1 : (d == 1) = false := by simpa using d1
                by_cases d2 : d = 2
                · subst d2
                  have hw64 : IntKind.u64.wrap (mg : Int) = (mg : Int) := by simp [IntKind.wrap, IntKind.bits, IntKind.signed]; omega
                  have hs0 := ho.sent.1
                  have hid8 : IntKind.u8.wrap (s.sent.tmod 256) = s.sent % 256 := by rw [show IntKind.u8.wrap (s.sent.tmod 256) = s.sent.tmod 256 % 256 from rfl, Int.tmod_eq_emod_of_nonneg hs0]; omega
                  have q5 := hRA.reads.sent
                  have hgE := ne_ech hnew hEA
                  go_wp2
                  have hEd : IsEch W.drew Be s := hEA
                  have hRd : IsRef W.drew R s := hRA
                  have hBd : Below w.heap.size w W.drew := below_drew hBA
                  have hgd : W.drew.heap[gs]? = some (.cells #[.int .i64 2, .int .i64 af, .int .u8 code, .int .u8 id, .string dat, .int .u32 (mg : Int)] 72 (0, 0)) := hnew
                  clear hEA hRA hBA e0 e1 e2 e3 e4 hnew
                  refine start_ (n := 13) (S := fun W' => IsEch W' Be s ∧ IsRef W' R s ∧ W'.cell? ⟨R, 5, none⟩ = some (.int .i64 s.sent) ∧ W'.cell? ⟨gs, 5, none⟩ = some (.int .u32 (mg : Int)) ∧ Below w.heap.size w W') (ds := [12]) (#[false, false, false, false, false, false, false, false, false, false, false, false, false]) (by kernel_rfl) rfl rfl (⟨hEd, hRd, q5, e5, hBd⟩) (fun hS => ?_)
                  refine take_ (i := 0) (N := some 159) (v := ?_) (a' := ?_) #[true, false, false, false, false, false, false, false, false, false, false, false, false] rfl rfl (by kernel_rfl) (fun _ _ _ h => h) (.inl ⟨by rfl, fun w' hS' => ?_⟩) hS ?_ ?_
                  rotate_left
                  · obtain ⟨hI1, hI2, hI3, hI4, hI5⟩ := hS'
                    go_simp
                    with_reducible rfl
                  rotate_left
                  · simp only [Act.put, List.setIfInBounds_toArray, List.set_cons_zero, List.set_cons_succ]
                    rfl
                  refine take_ (i := 1) (N := some 160) (v := ?_) (a' := ?_) #[true, true, false, false, false, false, false, false, false, false, false, false, false] rfl rfl (by kernel_rfl) (fun _ _ _ h => h) (.inl ⟨by rfl, fun w' hS' => ?_⟩) hS ?_ ?_
                  rotate_left
                  · obtain ⟨hI1, hI2, hI3, hI4, hI5⟩ := hS'
                    go_simp
                    with_reducible rfl
                  rotate_left
                  · simp only [Act.put, List.setIfInBounds_toArray, List.set_cons_zero, List.set_cons_succ]
                    rfl
                  refine take_ (i := 2) (N := some 161) (v := ?_) (a' := ?_) #[true, true, true, false, false, false, false, false, false, false, false, false, false] rfl rfl (by kernel_rfl) (fun _ _ _ h => h) (.inl ⟨by rfl, fun w' hS' => ?_⟩) hS ?_ ?_
                  rotate_left
                  · obtain ⟨hI1, hI2, hI3, hI4, hI5⟩ := hS'
                    go_simp
                    with_reducible rfl
                  rotate_left
                  · simp only [Act.put, List.setIfInBounds_toArray, List.set_cons_zero, List.set_cons_succ]
                    rfl
                  refine take_ (i := 3) (N := some 162) (v := ?_) (a' := ?_) #[true, true, true, true, false, false, false, false, false, false, false, false, false] rfl rfl (by kernel_rfl) (fun _ _ _ h => h) (.inl ⟨by rfl, fun w' hS' => ?_⟩) hS ?_ ?_
                  rotate_left
                  · obtain ⟨hI1, hI2, hI3, hI4, hI5⟩ := hS'
                    go_simp
                    with_reducible rfl
                  rotate_left
                  · simp only [Act.put, List.setIfInBounds_toArray, List.set_cons_zero, List.set_cons_succ]
                    rfl
                  refine take_ (i := 4) (N := some 163) (v := ?_) (a' := ?_) #[true, true, true, true, true, false, false, false, false, false, false, false, false] rfl rfl (by kernel_rfl) (fun _ _ _ h => h) (.inl ⟨by rfl, fun w' hS' => ?_⟩) hS ?_ ?_
                  rotate_left
                  · obtain ⟨hI1, hI2, hI3, hI4, hI5⟩ := hS'
                    go_simp
                    with_reducible rfl
                  rotate_left
                  · simp only [Act.put, List.setIfInBounds_toArray, List.set_cons_zero, List.set_cons_succ]
                    rfl
                  refine take_ (i := 5) (N := some 164) (v := ?_) (a' := ?_) #[true, true, true, true, true, true, false, false, false, false, false, false, false] rfl rfl (by kernel_rfl) (fun _ _ _ h => h) (.inl ⟨by rfl, fun w' hS' => ?_⟩) hS ?_ ?_
                  rotate_left
                  · obtain ⟨hI1, hI2, hI3, hI4, hI5⟩ := hS'
                    go_simp
                    with_reducible rfl
                  rotate_left
                  · simp only [Act.put, List.setIfInBounds_toArray, List.set_cons_zero, List.set_cons_succ]
                    rfl
                  refine take_ (i := 6) (N := some 165) (v := ?_) (a' := ?_) #[true, true, true, true, true, true, true, false, false, false, false, false, false] rfl rfl (by kernel_rfl) (fun _ _ _ h => h) (.inl ⟨by rfl, fun w' hS' => ?_⟩) hS ?_ ?_
                  rotate_left
                  · obtain ⟨hI1, hI2, hI3, hI4, hI5⟩ := hS'
                    go_simp
                    with_reducible rfl
                  rotate_left
                  · simp only [Act.put, List.setIfInBounds_toArray, List.set_cons_zero, List.set_cons_succ]
                    rfl
                  refine take_ (i := 7) (N := some 166) (v := ?_) (a' := ?_) #[true, true, true, true, true, true, true, true, false, false, false, false, false] rfl rfl (by kernel_rfl) (fun _ _ _ h => h) (.inl ⟨by rfl, fun w' hS' => ?_⟩) hS ?_ ?_
                  rotate_left
                  · obtain ⟨hI1, hI2, hI3, hI4, hI5⟩ := hS'
                    go_simp
                    with_reducible rfl
                  rotate_left
                  · simp only [Act.put, List.setIfInBounds_toArray, List.set_cons_zero, List.set_cons_succ]
                    rfl
                  refine take_ (i := 8) (N := some 167) (v := ?_) (a' := ?_) #[true, true, true, true, true, true, true, true, true, false, false, false, false] rfl rfl (by kernel_rfl) (fun _ _ _ h => h) (.inl ⟨by rfl, fun w' hS' => ?_⟩) hS ?_ ?_
                  rotate_left
                  · obtain ⟨hI1, hI2, hI3, hI4, hI5⟩ := hS'
                    go_simp
                    with_reducible rfl
                  rotate_left
                  · simp only [Act.put, List.setIfInBounds_toArray, List.set_cons_zero, List.set_cons_succ]
                    rfl
                  refine wpAnyLast_all (rs := [9, 11]) (by kernel_rfl) (by simp) ?_
                  intro i hi'
                  rcases List.mem_cons.1 hi' with rfl | hi'
                  · refine wpOp_step rfl (fun K' hK => ?_)
                    go_simp
                    go_at_call 31
                    with_reducible refine (num_calls _ hmz _).mono ?_
                    rintro e w4 ⟨rfl, hb4⟩
                    refine hK _ _ ⟨fun _ h => ⟨h.1.below hb4, h.2.1.below hb4, (h.2.1.below hb4).reads.sent, (hb4.cell (cell_lt h.2.2.2.1)).trans h.2.2.2.1, h.2.2.2.2.trans (hb4.mono h.2.2.2.2.size)⟩, ?_⟩
                    clear hK K'
                    simp only [Act.put, List.setIfInBounds_toArray, List.set_cons_zero, List.set_cons_succ]
                    have hE4 := IsEch.below hEd hb4
                    have hR4 := IsRef.below hRd hb4
                    have hB4 := hBd.trans (hb4.mono hBd.size)
                    have hS4 := hS
                    clear hS
                    have hS : IsEch w4 Be s ∧ IsRef w4 R s ∧ w4.cell? ⟨R, 5, none⟩ = some (.int .i64 s.sent) ∧ w4.cell? ⟨gs, 5, none⟩ = some (.int .u32 (mg : Int)) ∧ Below w.heap.size w w4 := ⟨hE4, hR4, hR4.reads.sent, (hb4.cell (cell_lt hS4.2.2.2.1)).trans hS4.2.2.2.1, hB4⟩
                    refine take_ (i := 10) (N := some 169) (v := ?_) (a' := ?_) #[true, true, true, true, true, true, true, true, true, true, true, false, false] rfl rfl (by kernel_rfl) (fun _ _ _ h => h) (.inl ⟨by rfl, fun w' hS' => ?_⟩) hS ?_ ?_
                    rotate_left
                    · obtain ⟨hI1, hI2, hI3, hI4, hI5⟩ := hS'
                      go_simp
                      with_reducible rfl
                    rotate_left
                    · simp only [Act.put, List.setIfInBounds_toArray, List.set_cons_zero, List.set_cons_succ]
                      rfl
                    refine wpAnyLast_all (rs := [11]) (by kernel_rfl) (by simp) ?_
                    intro i hi'
                    obtain rfl := List.mem_singleton.1 hi'
                    refine wpOp_step rfl (fun K' hK => ?_)
                    go_simp
                    refine hK _ _ ⟨fun _ h => ⟨h.1.alloc _, h.2.1.alloc _, (h.2.1.alloc _).reads.sent, (((Below.refl _ _).alloc (Nat.le_refl _) _).cell (cell_lt h.2.2.2.1)).trans h.2.2.2.1, h.2.2.2.2.alloc h.2.2.2.2.size _⟩, ?_⟩
                    clear hK K'
                    simp only [Act.put, List.setIfInBounds_toArray, List.set_cons_zero, List.set_cons_succ]
                    have hEx := hE4.alloc (.cells #[.int .u8 0, .int .u8 0, .string ⟨#[]⟩] 48)
                    have hRx := hR4.alloc (.cells #[.int .u8 0, .int .u8 0, .string ⟨#[]⟩] 48)
                    have hBx := hB4.alloc hB4.size (.cells #[.int .u8 0, .int .u8 0, .string ⟨#[]⟩] 48)
                    have hG := heap_alloc_new w4 (.cells #[.int .u8 0, .int .u8 0, .string ⟨#[]⟩] 48)
                    have hGE : w4.heap.size ≠ Be := by have := hE4.lt; omega
                    have hGR : w4.heap.size ≠ R := by have := hR4.lt; omega
                    have hGz : w.heap.size ≤ w4.heap.size := hB4.size
                    clear hE4 hR4 hB4 hEd hRd hBd hgd hb4 hS4 hS q5 e5
                    generalize w4.alloc (.cells #[.int .u8 0, .int .u8 0, .string ⟨#[]⟩] 48) = w5 at *
                    generalize w4.heap.size = G at *
                    have z0 := blk_cell hG 0
                    have z1 := blk_cell hG 1
                    have z2 := blk_cell hG 2
                    have zf := blk_frozen hG
                    have hPf : IsPkt (((w5.setCell ⟨G, 0, none⟩ (.int .u8 10)).setCell ⟨G, 1, none⟩ (.int .u8 (s.sent % 256))).setCell ⟨G, 2, none⟩ (.string (oct mg))) G 10 (s.sent % 256) (oct mg) := by unfold IsPkt; rw [blk_set (blk_set (blk_set hG 0 _) 1 _) 2 _]; rfl
                    have hEf : IsEch (((w5.setCell ⟨G, 0, none⟩ (.int .u8 10)).setCell ⟨G, 1, none⟩ (.int .u8 (s.sent % 256))).setCell ⟨G, 2, none⟩ (.string (oct mg))) Be s := blk_far (blk_far (blk_far hEx (fun e => hGE e.symm) _) (fun e => hGE e.symm) _) (fun e => hGE e.symm) _
                    have hRf : IsRef (((w5.setCell ⟨G, 0, none⟩ (.int .u8 10)).setCell ⟨G, 1, none⟩ (.int .u8 (s.sent % 256))).setCell ⟨G, 2, none⟩ (.string (oct mg))) R s := blk_far (blk_far (blk_far hRx (fun e => hGR e.symm) _) (fun e => hGR e.symm) _) (fun e => hGR e.symm) _
                    have hBf : Below w.heap.size w (((w5.setCell ⟨G, 0, none⟩ (.int .u8 10)).setCell ⟨G, 1, none⟩ (.int .u8 (s.sent % 256))).setCell ⟨G, 2, none⟩ (.string (oct mg))) := ((hBx.setCell hGz _).setCell hGz _).setCell hGz _
                    refine wpAnyLast_all (rs := [12]) (by kernel_rfl) (by simp) ?_
                    intro i hi'
                    obtain rfl := List.mem_singleton.1 hi'
                    refine wpOp_step rfl (fun K' hK => ?_)
                    go_simp
                    refine hK _ _ ⟨fun h => by simp at h, ?_⟩
                    clear hK K'
                    simp only [Act.put, List.setIfInBounds_toArray, List.set_cons_zero, List.set_cons_succ]
                    refine wpAnyLast_done (by kernel_rfl) ?_ _
                    clear hEx hRx hBx hG z0 z1 z2 zf
                    generalize (((w5.setCell ⟨G, 0, none⟩ (.int .u8 10)).setCell ⟨G, 1, none⟩ (.int .u8 (s.sent % 256))).setCell ⟨G, 2, none⟩ (.string (oct mg))) = wf at *
                    have c0 := hPf.c0
                    have c1 := hPf.c1
                    have c2 := hPf.c2
                    have ho4 : (oct mg).size ≤ 1000000 := by rw [show (oct mg).size = 4 from rfl]; omega
                    go_wp2_with (first
                      | (go_at_call 21; with_reducible refine (pkt_calls s hmag Be 10 (s.sent % 256) (oct mg) ho4 _ hEf).mono ?_; rintro e w7 ⟨v, r, rfl, p1⟩
                         have hb1 := pkt_but p1
                         have hR7 := hRf.but hb1 hne.symm
                         have k7 := hb1.below hBf hzE hBf.size
                         have hP7 := hPf.but hb1 hGE
                         have c0 := hP7.c0
                         have c1 := hP7.c1
                         have c2 := hP7.c2)
                      | (go_at_call 30; with_reducible refine (rpkt_calls s hmag ho.sent.1 R 10 (s.sent % 256) (oct mg) ho4 _ hR7).mono ?_; rintro e w8 ⟨v2, r2, rfl, p2⟩
                         have hb2 := rpkt_but p2
                         have k8 := hb2.below k7 hzR k7.size
                         obtain ⟨rfl, hS2, hE8, hR8⟩ := both_pkt hne hRf p1 p2
                         clear p1 p2))
                    go_meet
                    exact ⟨s.pktS 10 (s.sent % 256) (oct mg), Be, _, by rw [pktS_now], rfl, rfl, rfl, hS2, ho.pkt _ _ _, hE8, hR8, hne, hzE, k8⟩
                  · obtain rfl := List.mem_singleton.1 hi'
                    refine wpOp_step rfl (fun K' hK => ?_)
                    go_simp
                    refine hK _ _ ⟨fun _ h => ⟨h.1.alloc _, h.2.1.alloc _, (h.2.1.alloc _).reads.sent, (((Below.refl _ _).alloc (Nat.le_refl _) _).cell (cell_lt h.2.2.2.1)).trans h.2.2.2.1, h.2.2.2.2.alloc h.2.2.2.2.size _⟩, ?_⟩
                    clear hK K'
                    simp only [Act.put, List.setIfInBounds_toArray, List.set_cons_zero, List.set_cons_succ]
                    have hE6 : IsEch (W.alloc (.cells #[.int .u8 0, .int .u8 0, .string ⟨#[]⟩] 48)).drew Be s := hEd.alloc (.cells #[.int .u8 0, .int .u8 0, .string ⟨#[]⟩] 48)
                    have hR6 : IsRef (W.alloc (.cells #[.int .u8 0, .int .u8 0, .string ⟨#[]⟩] 48)).drew R s := hRd.alloc (.cells #[.int .u8 0, .int .u8 0, .string ⟨#[]⟩] 48)
                    have hB6 : Below w.heap.size w (W.alloc (.cells #[.int .u8 0, .int .u8 0, .string ⟨#[]⟩] 48)).drew := hBd.alloc hBd.size (.cells #[.int .u8 0, .int .u8 0, .string ⟨#[]⟩] 48)
                    have hG6 : (W.alloc (.cells #[.int .u8 0, .int .u8 0, .string ⟨#[]⟩] 48)).drew.heap[W.heap.size]? = some (.cells #[.int .u8 0, .int .u8 0, .string ⟨#[]⟩] 48 (0, 0)) := heap_alloc_new W.drew (.cells #[.int .u8 0, .int .u8 0, .string ⟨#[]⟩] 48)
                    have z5 : (W.alloc (.cells #[.int .u8 0, .int .u8 0, .string ⟨#[]⟩] 48)).drew.cell? ⟨gs, 5, none⟩ = some (.int .u32 (mg : Int)) := (((Below.refl W.drew.heap.size W.drew).alloc (Nat.le_refl _) (.cells #[.int .u8 0, .int .u8 0, .string ⟨#[]⟩] 48)).cell (p := ⟨gs, 5, none⟩) (blk_lt hgd)).trans e5
                    have hGE : W.heap.size ≠ Be := by have := hEd.lt; have e0 : W.drew.heap.size = W.heap.size := rfl; omega
                    have hGR : W.heap.size ≠ R := by have := hRd.lt; have e0 : W.drew.heap.size = W.heap.size := rfl; omega
                    have hGz : w.heap.size ≤ W.heap.size := hBd.size
                    clear hEd hRd hBd hgd hS q5 e5
                    generalize (W.alloc (.cells #[.int .u8 0, .int .u8 0, .string ⟨#[]⟩] 48)).drew = w6x at *
                    generalize W.heap.size = G at *
                    refine wpAnyLast_all (rs := [9]) (by kernel_rfl) (by simp) ?_
                    intro i hi'
                    obtain rfl := List.mem_singleton.1 hi'
                    refine wpOp_step rfl (fun K' hK => ?_)
                    go_simp
                    go_at_call 31
                    with_reducible refine (num_calls _ hmz _).mono ?_
                    rintro e w4 ⟨rfl, hb4⟩
                    refine hK _ _ ⟨fun _ h => ⟨h.1.below hb4, h.2.1.below hb4, (h.2.1.below hb4).reads.sent, (hb4.cell (cell_lt h.2.2.2.1)).trans h.2.2.2.1, h.2.2.2.2.trans (hb4.mono h.2.2.2.2.size)⟩, ?_⟩
                    clear hK K'
                    simp only [Act.put, List.setIfInBounds_toArray, List.set_cons_zero, List.set_cons_succ]
                    refine wpAnyLast_all (rs := [10]) (by kernel_rfl) (by simp) ?_
                    intro i hi'
                    obtain rfl := List.mem_singleton.1 hi'
                    refine wpOp_step rfl (fun K' hK => ?_)
                    go_simp
                    refine hK _ _ ⟨fun _ h => h, ?_⟩
                    clear hK K'
                    simp only [Act.put, List.setIfInBounds_toArray, List.set_cons_zero, List.set_cons_succ]
                    have hEx := hE6.below hb4
                    have hRx := hR6.below hb4
                    have hBx := hB6.trans (hb4.mono hB6.size)
                    have hG := (hb4.block G (blk_lt hG6)).trans hG6
                    clear hE6 hR6 hB6 hG6 z5 hb4
                    generalize w4 = w5 at *
                    have z0 := blk_cell hG 0
                    have z1 := blk_cell hG 1
                    have z2 := blk_cell hG 2
                    have zf := blk_frozen hG
                    have hPf : IsPkt (((w5.setCell ⟨G, 0, none⟩ (.int .u8 10)).setCell ⟨G, 1, none⟩ (.int .u8 (s.sent % 256))).setCell ⟨G, 2, none⟩ (.string (oct mg))) G 10 (s.sent % 256) (oct mg) := by unfold IsPkt; rw [blk_set (blk_set (blk_set hG 0 _) 1 _) 2 _]; rfl
                    have hEf : IsEch (((w5.setCell ⟨G, 0, none⟩ (.int .u8 10)).setCell ⟨G, 1, none⟩ (.int .u8 (s.sent % 256))).setCell ⟨G, 2, none⟩ (.string (oct mg))) Be s := blk_far (blk_far (blk_far hEx (fun e => hGE e.symm) _) (fun e => hGE e.symm) _) (fun e => hGE e.symm) _
                    have hRf : IsRef (((w5.setCell ⟨G, 0, none⟩ (.int .u8 10)).setCell ⟨G, 1, none⟩ (.int .u8 (s.sent % 256))).setCell ⟨G, 2, none⟩ (.string (oct mg))) R s := blk_far (blk_far (blk_far hRx (fun e => hGR e.symm) _) (fun e => hGR e.symm) _) (fun e => hGR e.symm) _
                    have hBf : Below w.heap.size w (((w5.setCell ⟨G, 0, none⟩ (.int .u8 10)).setCell ⟨G, 1, none⟩ (.int .u8 (s.sent % 256))).setCell ⟨G, 2, none⟩ (.string (oct mg))) := ((hBx.setCell hGz _).setCell hGz _).setCell hGz _
                    refine wpAnyLast_all (rs := [12]) (by kernel_rfl) (by simp) ?_
                    intro i hi'
                    obtain rfl := List.mem_singleton.1 hi'
                    refine wpOp_step rfl (fun K' hK => ?_)
                    go_simp
                    refine hK _ _ ⟨fun h => by simp at h, ?_⟩
                    clear hK K'
                    simp only [Act.put, List.setIfInBounds_toArray, List.set_cons_zero, List.set_cons_succ]
                    refine wpAnyLast_done (by kernel_rfl) ?_ _
                    clear hEx hRx hBx hG z0 z1 z2 zf
                    generalize (((w5.setCell ⟨G, 0, none⟩ (.int .u8 10)).setCell ⟨G, 1, none⟩ (.int .u8 (s.sent % 256))).setCell ⟨G, 2, none⟩ (.string (oct mg))) = wf at *
                    have c0 := hPf.c0
                    have c1 := hPf.c1
                    have c2 := hPf.c2
                    have ho4 : (oct mg).size ≤ 1000000 := by rw [show (oct mg).size = 4 from rfl]; omega
                    go_wp2_with (first
                      | (go_at_call 21; with_reducible refine (pkt_calls s hmag Be 10 (s.sent % 256) (oct mg) ho4 _ hEf).mono ?_; rintro e w7 ⟨v, r, rfl, p1⟩
                         have hb1 := pkt_but p1
                         have hR7 := hRf.but hb1 hne.symm
                         have k7 := hb1.below hBf hzE hBf.size
                         have hP7 := hPf.but hb1 hGE
                         have c0 := hP7.c0
                         have c1 := hP7.c1
                         have c2 := hP7.c2)
                      | (go_at_call 30; with_reducible refine (rpkt_calls s hmag ho.sent.1 R 10 (s.sent % 256) (oct mg) ho4 _ hR7).mono ?_; rintro e w8 ⟨v2, r2, rfl, p2⟩
                         have hb2 := rpkt_but p2
                         have k8 := hb2.below k7 hzR k7.size
                         obtain ⟨rfl, hS2, hE8, hR8⟩ := both_pkt hne hRf p1 p2
                         clear p1 p2))
                    go_meet
                    exact ⟨s.pktS 10 (s.sent % 256) (oct mg), Be, _, by rw [pktS_now], rfl, rfl, rfl, hS2, ho.pkt _ _ _, hE8, hR8, hne, hzE, k8⟩
                · have f2 : (d == 2) = false := by simpa using d2
                  by_cases d3 : d = 3
                  · subst d3
                    go_wp2_with (first
                      | (go_at_call 27; with_reducible refine (copy_calls s Be _ hEA).mono ?_; rintro e w2 ⟨rfl, hb1, hN2⟩
                         have hE2 := hEA.below hb1
                         have hR2 := hRA.below hb1
                         have hneE : W.heap.size ≠ Be := by have := hEA.lt; omega
                         have hneR : W.heap.size ≠ R := by have := hRA.lt; omega
                         have hzN : w.heap.size ≤ W.heap.size := hBA.size
                         have k2 := hBA.trans (hb1.mono hBA.size)
                         generalize W.heap.size = Bn at *)
                      | (go_at_call 18; with_reducible refine (tick_all s j (by omega) ho Be _ _ hE2).mono ?_; rintro e w3 ⟨v, r, rfl, p1⟩
                         have hb2 := tick_but p1
                         have k3 := hb2.below k2 hzE k2.size
                         have hN3 := hN2.but hb2 hneE
                         have hR3 := hR2.but hb2 hne.symm
                         clear p1))
                    go_meet
                    exact ⟨s, Bn, 0, rfl, rfl, rfl, rfl, .inl ⟨rfl, rfl⟩, ho.up, hN3, hR3, hneR, hzN, k3⟩
                  · have f3 : (d == 3) = false := by simpa using d3
                    go_wp2
                    go_meet
                    exact ⟨s, Be, 0, rfl, rfl, rfl, rfl, .inl ⟨rfl, rfl⟩, ho.up, hEA, hRA, hne, hzE, hBA⟩
          case rest =>
            clear hEA hRA hBA e0 e1 e2 e3 e4 e5 hnew hmag hne hzE ho hd6 hdz hmz
            obtain ⟨s', Be', r, rfl, rfl, rfl, rfl, hS2, ho, hE, hR, hne, hzE, hB⟩ := hcut
            obtain ⟨tm, b, hnx⟩ : ∃ (tm : Int) (b : Bool), s'.next = .tuple #[.int .i64 tm, .bool b] := by
              unfold Ech.next; split; exact ⟨_, _, rfl⟩; exact ⟨_, _, rfl⟩
            have n1 := next_calls s' (j + 1) ho Be' wc hE
            rw [hnx] at n1
            have n2 := fun w' h => rnext_calls s' (j + 1) ho R w' h
            rw [hnx] at n2
            clear hnx
            have b1 : (r != r) = false := by simp
            have b2 : (tm != tm) = false := by simp
            have b3 : (b != b) = false := by simp
            have b4 : (s'.dead != s'.dead) = false := by simp
            have b5 : (s'.missed != s'.missed) = false := by simp
            rcases hS2 with ⟨rfl, rfl⟩ | ⟨g1, g2, pc, pi, pd, rfl, rfl, hP1, hP2⟩
            · go_wp2_with (first
                | (go_at_call 20; with_reducible refine n1.mono ?_; rintro e w2 ⟨rfl, m1, hw2⟩
                   have hE2 : IsEch w2 Be' s' := by rw [hw2]; exact hE.drewN _
                   have hR2 : IsRef w2 R s' := by rw [hw2]; exact hR.drewN _
                   have hB2 : Below w.heap.size w w2 := by rw [hw2]; exact below_drewN hB _
                   clear hw2)
                | (go_at_call 32; with_reducible refine (n2 _ hR2).mono ?_; rintro e w3 ⟨rfl, m2, hw3⟩
                   have hE3 : IsEch w3 Be' s' := by rw [hw3]; exact hE2.drewN _
                   have hR3 : IsRef w3 R s' := by rw [hw3]; exact hR2.drewN _
                   have hB3 : Below w.heap.size w w3 := by rw [hw3]; exact below_drewN hB2 _
                   clear hw3))
              have q6 := hR3.reads.missed
              have q7 := hR3.reads.dead
              go_quiet (first
                | (go_at_call 33; exact Calls.quiet_of_same (same_nil _))
                | (go_at_call 19; exact Calls.quiet_of_same (dead_calls s' Be' _ (hE3.drewN _)))
                | (go_at_call 22; exact Calls.quiet_of_same (missed_calls s' Be' _ (hE3.drewN _))))
              go_wp2
              go_roundg (len - (j + 1))
              case measure => have := A.out; omega
              case rel => exact ⟨j + 1, s', Be', by omega, rfl, rfl, rfl, by go_num, ho, hE3.drewN _, hR3.drewN _, hne, hzE, below_drewN hB3 _⟩
            · go_wp2_with (first
                | (go_at_call 20; with_reducible refine n1.mono ?_; rintro e w2 ⟨rfl, m1, hw2⟩
                   have hE2 : IsEch w2 Be' s' := by rw [hw2]; exact hE.drewN _
                   have hR2 : IsRef w2 R s' := by rw [hw2]; exact hR.drewN _
                   have hB2 : Below w.heap.size w w2 := by rw [hw2]; exact below_drewN hB _
                   have hQ1 : IsPkt w2 g1 pc pi pd := by rw [hw2]; exact hP1.drewN _
                   have hQ2 : IsPkt w2 g2 pc pi pd := by rw [hw2]; exact hP2.drewN _
                   clear hw2)
                | (go_at_call 32; with_reducible refine (n2 _ hR2).mono ?_; rintro e w3 ⟨rfl, m2, hw3⟩
                   have hE3 : IsEch w3 Be' s' := by rw [hw3]; exact hE2.drewN _
                   have hR3 : IsRef w3 R s' := by rw [hw3]; exact hR2.drewN _
                   have hB3 : Below w.heap.size w w3 := by rw [hw3]; exact below_drewN hB2 _
                   have hO1 : IsPkt w3 g1 pc pi pd := by rw [hw3]; exact hQ1.drewN _
                   have hO2 : IsPkt w3 g2 pc pi pd := by rw [hw3]; exact hQ2.drewN _
                   clear hw3))
              have q6 := hR3.reads.missed
              have q7 := hR3.reads.dead
              go_quiet (first
                | (go_at_call 33; exact Calls.quiet_of (same_one g1 g2 pc pi pd _ (hO1.drewN _) (hO2.drewN _)))
                | (go_at_call 19; exact Calls.quiet_of_same (dead_calls s' Be' _ (hE3.drewN _)))
                | (go_at_call 22; exact Calls.quiet_of_same (missed_calls s' Be' _ (hE3.drewN _))))
              go_wp2
              go_roundg (len - (j + 1))
              case measure => have := A.out; omega
              case rel => exact ⟨j + 1, s', Be', by omega, rfl, rfl, rfl, by go_num, ho, hE3.drewN _, hR3.drewN _, hne, hzE, below_drewN hB3 _⟩
        · have h1 : decide ((j : Int) < (len : Int)) = false := by simp; omega
          go_wp2_with (first
            | (go_at_call 16; with_reducible refine (alive17_calls _).mono ?_; rintro e w2 ⟨rfl, hb2⟩))
          go_ret
          exact ⟨rfl, hB.trans (hb2.mono hB.size)⟩
    · have hN := newE_bad every most magic now hmay
      have hM := may_bad every most now hmay
      go_wp2_with (first
        | (go_at_call 18; with_reducible refine (ntick_calls _ _).mono ?_; rintro e w2 ⟨rfl, rfl⟩)
        | (go_at_call 21; with_reducible refine (npkt_calls _ _ _ _).mono ?_; rintro e w3 ⟨rfl, hb3⟩)
        | (go_at_call 20; with_reducible refine (nnext_calls _).mono ?_; rintro e w4 ⟨rfl, rfl⟩)
        | (go_at_call 19; with_reducible refine (ndead_calls _).mono ?_; rintro e w4 ⟨rfl, rfl⟩)
        | (go_at_call 22; with_reducible refine (nmissed_calls _).mono ?_; rintro e w4 ⟨rfl, rfl⟩)
        | (go_at_call 27; with_reducible refine (ncopy_calls _).mono ?_; rintro e w4 ⟨rfl, rfl⟩
           have hC3 := (hb3.block _ (blk_lt hC0)).trans hC0
           have x0 := blk_cell hC3 0
           have x1 := blk_cell hC3 1)
        | (go_at_call 17; with_reducible refine (hN _).mono ?_; rintro e w5 ⟨rfl, hb5⟩
           have hC5 := (hb5.block _ (blk_lt hC3)).trans hC3
           have x0 := blk_cell hC5 0
           have x1 := blk_cell hC5 1)
        | (go_at_call 28; with_reducible refine (hM _).mono ?_; rintro e w6 ⟨rfl, hb6⟩)
        | (go_at_call 16; with_reducible refine (alive17_calls _).mono ?_; rintro e w7 ⟨rfl, hb7⟩))
      have k3 := hB0.trans (hb3.mono hB0.size)
      have k5 := k3.trans (hb5.mono k3.size)
      have k6 := k5.trans (hb6.mono k5.size)
      go_ret
      exact ⟨rfl, k6.trans (hb7.mono k6.size)⟩
end Go.Proofs.Ythenjbonncbniaa
