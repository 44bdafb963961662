/-
  Layer 25 (table): the law TablePlays, walked.
-/
import Derived.Test.YthenjbonncbniaaRTNew
import Derived.Test.YthenjbonncbniaaRTList
set_option linter.unusedVariables false
set_option linter.unusedSimpArgs false
namespace Go.Proofs.Ythenjbonncbniaa
open Go.RowKit Go.Proofs.YthenjbonncbniaaW.PrintWords Go.Proofs.YthenjbonncbniaaW.PrintLast

theorem ne_tab {W : World} {g B : Nat} {cs : Array Value} {s : Tab} (h : W.heap[g]? = some (.cells cs 56 (0, 0))) (k : IsTab W B s) : g ≠ B := by
  intro e
  subst e
  unfold IsTab at k
  rw [h] at k
  injection k with k
  injection k with _ k
  cases k
theorem ne_rt {W : World} {g R : Nat} {cs : Array Value} {s : Tab} (h : W.heap[g]? = some (.cells cs 56 (0, 0))) (k : IsRT W R s) : g ≠ R := by
  intro e
  subst e
  obtain ⟨_, _, _, _, k⟩ := k
  have k := k.head
  rw [h] at k
  injection k with k
  injection k with _ k
  cases k
theorem IsTab.butR {W w : World} {B R : Nat} {s z : Tab} (h : IsTab W B s) (hr : IsRT W R z) (hb : But R W w) : IsTab w B s := by
  refine (hb.block B h.lt ?_).trans h
  intro e
  subst e
  obtain ⟨_, _, _, _, k⟩ := hr
  have k := k.head
  unfold IsTab at h
  rw [h] at k
  injection k with k
  injection k with _ k
  cases k
theorem IsTab.but {W w : World} {A B : Nat} {s : Tab} (h : IsTab W A s) (hb : But B W w) (hne : A ≠ B) : IsTab w A s := (hb.block A h.lt hne).trans h
theorem IsRT.drewN {W : World} {R : Nat} {s : Tab} (h : IsRT W R s) (n : Nat) : IsRT (W.drewN n) R s := by
  obtain ⟨a, b, c, d, h⟩ := h
  exact ⟨a, b, c, d, h.keep (fun _ _ _ => rfl)⟩
set_option maxHeartbeats 16000000 in
set_option maxRecDepth 100000 in
theorem tplays_walk (n : Int) (a1 : Option Addr) (len cap : Nat) (f : Nat → Int × Int × ByteArray) (kq : Int) (nm : ByteArray) (w : World) (hS : IsSteps w a1 len cap f) :
    Calls Try.prog 8 #[.int .i64 n, .slice a1 len cap, .int .i64 kq, .string nm] w fun e w' => e = .returned (.bool true) ∧ Below w.heap.size w w' := by
  have hz : w.heap.size ≤ w.heap.size := Nat.le_refl _
  go_enter Try.func8, Try.ntmps8
  by_cases hnm : 1024 < nm.size
  · have hn1 : decide ((1024 : Int) < (nm.size : Int)) = true := decide_eq_true (by omega)
    have hn2 : decide (1024 < nm.size) = true := decide_eq_true hnm
    go_upto_if 41 with (first
      | (go_at_call 23; with_reducible refine (long_calls a1 len cap f _ hS).mono ?_; rintro e w1 ⟨b, rfl, hw1, hb⟩; rw [hw1]; clear hw1 hb; cases b))
    all_goals go_wp2_with (first
      | (go_at_call 10; with_reducible refine (alive_calls _).mono ?_; rintro e w2 ⟨rfl, hb2⟩))
    all_goals go_ret
    all_goals exact ⟨rfl, hb2⟩
  · have hn1 : decide ((1024 : Int) < (nm.size : Int)) = false := decide_eq_false (by omega)
    have hn2 : decide (1024 < nm.size) = false := decide_eq_false hnm
    go_upto_if 41 with (first
      | (go_at_call 23; with_reducible refine (long_calls a1 len cap f _ hS).mono ?_; rintro e w1 ⟨b, rfl, hw1, hb⟩; rw [hw1]; clear hw1; cases b))
    · have hl := hb (by first | rfl | trivial)
      clear hb
      by_cases hn : 1 ≤ n ∧ n ≤ 64
      · obtain ⟨m, rfl⟩ := Int.eq_ofNat_of_zero_le (show 0 ≤ n by omega)
        have hm1 : 1 ≤ m ∧ m ≤ 64 := by omega
        have hN := new_good m hm1.1 hm1.2
        have hRN := fun w => rnew_calls m hm1.1 hm1.2 w
        have d1 : decide ((m : Int) < 1) = false := decide_eq_false (by omega)
        have d2 : decide ((64 : Int) < (m : Int)) = false := decide_eq_false (by omega)
        have d1' : decide (m < 1) = false := decide_eq_false (by omega)
        have d2' : decide (64 < m) = false := decide_eq_false (by omega)
        go_wp2_with (first
        | (go_at_call 24; with_reducible refine (nname_calls _ _).mono ?_; rintro e w2 ⟨rfl, hw2⟩; obtain rfl := hw2.symm)
        | (go_at_call 14; with_reducible refine (nof_calls _ _).mono ?_; rintro e w2 ⟨rfl, hw2⟩; obtain rfl := hw2.symm)
        | (go_at_call 11; with_reducible refine (nfree_calls _).mono ?_; rintro e w2 ⟨rfl, hw2⟩; obtain rfl := hw2.symm)
        | (go_at_call 12; with_reducible refine (nbind_calls _ _ _).mono ?_; rintro e w2 ⟨rfl, hw2⟩; obtain rfl := hw2.symm)
        | (go_at_call 13; with_reducible refine (nunbind_calls _ _).mono ?_; rintro e w2 ⟨rfl, hw2⟩; obtain rfl := hw2.symm)
        | (go_at_call 25; with_reducible refine (nturn_calls _ _).mono ?_; rintro e w2 ⟨rfl, hw2⟩; obtain rfl := hw2.symm)
        | (go_at_call 15; with_reducible refine (nlist_calls _).mono ?_; rintro e w2 ⟨rfl, hw2⟩; obtain rfl := hw2.symm)
        | (go_at_call 34; with_reducible refine (ntcopy_calls _).mono ?_; rintro e w2 ⟨rfl, hw2⟩; obtain rfl := hw2.symm)
        | (go_at_call 9; with_reducible refine (hN _).mono ?_; rintro e w3 ⟨rfl, hb3, ht3⟩)
        | (go_at_call 35; with_reducible refine (hRN _).mono ?_; rintro e w4 ⟨R, rfl, hR0, hb4, hrt4⟩))
        have ht4 := ht3.below hb4
        have hzR : w.heap.size ≤ R := Nat.le_trans hb3.size hR0
        have k4 := hb3.trans (hb4.mono hb3.size)
        clear hN hRN ht3 hb3 hb4 hR0 hn
        go_loopg [16, 19, 20, 21, 22, 23, 24, 25, 26, 27, 28, 29, 30, 31, 32, 33, 34] len (fun q a16 a19 a20 a21 a22 a23 a24 a25 a26 a27 a28 a29 a30 a31 a32 a33 a34 wr => ∃ (j : Nat) (s : Tab) (B : Nat), j ≤ len ∧ q = len - j ∧ a16 = .pointer (some ⟨B, 0, none⟩) ∧ a19 = .int .i64 (j : Int) ∧ s.Ok j ∧ s.n = m ∧ IsTab wr B s ∧ IsRT wr R s ∧ w.heap.size ≤ B ∧ Below w.heap.size w wr)
        case atStart => exact ⟨0, newT m, w.heap.size, by omega, rfl, rfl, rfl, newT_ok m hm1.1 hm1.2, rfl, ht4, hrt4, Nat.le_refl _, k4⟩
        case round =>
          clear ht4 hrt4 k4
          obtain ⟨j, s, B, hj, hq, rfl, rfl, ho, hsn, hT, hR, hzB, hB⟩ := hrel
          have A := Lib.hid hq; clear hq
          by_cases hlt : j < len
          · have h1 : decide ((j : Int) < (len : Int)) = true := decide_eq_true (by omega)
            obtain ⟨x, rfl, c0, c1, c2⟩ := hS.at_ hB j hlt
            generalize (f j).1 = d at *
            generalize (f j).2.1 = k at *
            generalize (f j).2.2 = y at *
            go_upto_block 2 with fail
            have hTA := hT.alloc (.cells #[.int .i64 d, .int .i64 k, .string y] 56)
            have hRA := hR.below ((Below.refl _ _).alloc (Nat.le_refl _) (.cells #[.int .i64 d, .int .i64 k, .string y] 56))
            have hBA := hB.alloc hB.size (.cells #[.int .i64 d, .int .i64 k, .string y] 56)
            have hnew := heap_alloc_new wr (.cells #[.int .i64 d, .int .i64 k, .string y] 56)
            clear c0 c1 c2 hT hR hB
            generalize wr.alloc (.cells #[.int .i64 d, .int .i64 k, .string y] 56) = W at *
            generalize wr.heap.size = gs at *
            have e0 := blk_cell hnew 0
            have e1 := blk_cell hnew 1
            have e2 := blk_cell hnew 2
            go_cut [16, 21, 22] from 122 to 257 (fun s16 s21 s22 wx => ∃ (s' : Tab) (B' : Nat), s16 = .pointer (some ⟨B', 0, none⟩) ∧ s21 = .bool true ∧ s'.Ok (j + 1) ∧ s'.n = m ∧ IsTab wx B' s' ∧ IsRT wx R s' ∧ w.heap.size ≤ B' ∧ Below w.heap.size w wx)
            case first =>
              by_cases d0 : d = 0
              · subst d0
                go_wp2
                have hTd : IsTab W.drew B s := hTA
                have hRd : IsRT W.drew R s := hRA.below (below_drew (Below.refl _ _))
                have hBd : Below w.heap.size w W.drew := below_drew hBA
                have hgd : W.drew.heap[gs]? = some (.cells #[.int .i64 0, .int .i64 k, .string y] 56 (0, 0)) := hnew
                have m1 := bind_all s (ho.wf (by omega)) B k y W.drew hTd
                have m2 := rbind_calls s (ho.wf (by omega)) R k y W.drew hRd
                have n1 := fun w' h => bind_all s (ho.wf (by omega)) B k y w' h
                have n2 := fun w' h => rbind_calls s (ho.wf (by omega)) R k y w' h
                have hok := ok_bindR ho k y
                have hnn := Tab.bindR_n s k y
                generalize s.bindR k y = p at *
                obtain ⟨r, s'⟩ := p
                simp only at m1 m2 n1 n2 hok hnn
                clear hTA hRA hBA hnew
                refine start_ (n := 14) (S := fun W' => W'.heap[gs]? = some (.cells #[.int .i64 0, .int .i64 k, .string y] 56 (0, 0)) ∧ W'.cell? ⟨gs, 1, none⟩ = some (.int .i64 k) ∧ W'.cell? ⟨gs, 2, none⟩ = some (.string y)) (ds := []) (#[false, false, false, false, false, false, false, false, false, false, false, false, false, false]) (by kernel_rfl) rfl rfl (⟨hgd, e1, e2⟩) (fun hS => ?_)
                refine take_ (i := 0) (N := some 136) (v := ?_) (a' := ?_) #[true, false, false, false, false, false, false, false, false, false, false, false, false, false] rfl rfl (by kernel_rfl) (fun _ _ _ h => h) (.inl ⟨by rfl, fun w' hS' => ?_⟩) hS ?_ ?_
                rotate_left
                · obtain ⟨hI1, hI2, hI3⟩ := hS'
                  go_simp
                  with_reducible rfl
                rotate_left
                · simp only [Act.put, List.setIfInBounds_toArray, List.set_cons_zero, List.set_cons_succ]
                  rfl
                refine take_ (i := 1) (N := some 137) (v := ?_) (a' := ?_) #[true, true, false, false, false, false, false, false, false, false, false, false, false, false] rfl rfl (by kernel_rfl) (fun _ _ _ h => h) (.inl ⟨by rfl, fun w' hS' => ?_⟩) hS ?_ ?_
                rotate_left
                · obtain ⟨hI1, hI2, hI3⟩ := hS'
                  go_simp
                  with_reducible rfl
                rotate_left
                · simp only [Act.put, List.setIfInBounds_toArray, List.set_cons_zero, List.set_cons_succ]
                  rfl
                refine take_ (i := 2) (N := some 138) (v := ?_) (a' := ?_) #[true, true, true, false, false, false, false, false, false, false, false, false, false, false] rfl rfl (by kernel_rfl) (fun _ _ _ h => h) (.inl ⟨by rfl, fun w' hS' => ?_⟩) hS ?_ ?_
                rotate_left
                · obtain ⟨hI1, hI2, hI3⟩ := hS'
                  go_simp
                  with_reducible rfl
                rotate_left
                · simp only [Act.put, List.setIfInBounds_toArray, List.set_cons_zero, List.set_cons_succ]
                  rfl
                refine take_ (i := 3) (N := some 139) (v := ?_) (a' := ?_) #[true, true, true, true, false, false, false, false, false, false, false, false, false, false] rfl rfl (by kernel_rfl) (fun _ _ _ h => h) (.inl ⟨by rfl, fun w' hS' => ?_⟩) hS ?_ ?_
                rotate_left
                · obtain ⟨hI1, hI2, hI3⟩ := hS'
                  go_simp
                  with_reducible rfl
                rotate_left
                · simp only [Act.put, List.setIfInBounds_toArray, List.set_cons_zero, List.set_cons_succ]
                  rfl
                refine take_ (i := 4) (N := some 140) (v := ?_) (a' := ?_) #[true, true, true, true, true, false, false, false, false, false, false, false, false, false] rfl rfl (by kernel_rfl) (fun _ _ _ h => h) (.inl ⟨by rfl, fun w' hS' => ?_⟩) hS ?_ ?_
                rotate_left
                · obtain ⟨hI1, hI2, hI3⟩ := hS'
                  go_simp
                  with_reducible rfl
                rotate_left
                · simp only [Act.put, List.setIfInBounds_toArray, List.set_cons_zero, List.set_cons_succ]
                  rfl
                refine take_ (i := 6) (N := some 142) (v := ?_) (a' := ?_) #[true, true, true, true, true, false, true, false, false, false, false, false, false, false] rfl rfl (by kernel_rfl) (fun _ _ _ h => h) (.inl ⟨by rfl, fun w' hS' => ?_⟩) hS ?_ ?_
                rotate_left
                · obtain ⟨hI1, hI2, hI3⟩ := hS'
                  go_simp
                  with_reducible rfl
                rotate_left
                · simp only [Act.put, List.setIfInBounds_toArray, List.set_cons_zero, List.set_cons_succ]
                  rfl
                refine take_ (i := 7) (N := some 143) (v := ?_) (a' := ?_) #[true, true, true, true, true, false, true, true, false, false, false, false, false, false] rfl rfl (by kernel_rfl) (fun _ _ _ h => h) (.inl ⟨by rfl, fun w' hS' => ?_⟩) hS ?_ ?_
                rotate_left
                · obtain ⟨hI1, hI2, hI3⟩ := hS'
                  go_simp
                  with_reducible rfl
                rotate_left
                · simp only [Act.put, List.setIfInBounds_toArray, List.set_cons_zero, List.set_cons_succ]
                  rfl
                refine take_ (i := 8) (N := some 144) (v := ?_) (a' := ?_) #[true, true, true, true, true, false, true, true, true, false, false, false, false, false] rfl rfl (by kernel_rfl) (fun _ _ _ h => h) (.inl ⟨by rfl, fun w' hS' => ?_⟩) hS ?_ ?_
                rotate_left
                · obtain ⟨hI1, hI2, hI3⟩ := hS'
                  go_simp
                  with_reducible rfl
                rotate_left
                · simp only [Act.put, List.setIfInBounds_toArray, List.set_cons_zero, List.set_cons_succ]
                  rfl
                refine take_ (i := 9) (N := some 145) (v := ?_) (a' := ?_) #[true, true, true, true, true, false, true, true, true, true, false, false, false, false] rfl rfl (by kernel_rfl) (fun _ _ _ h => h) (.inl ⟨by rfl, fun w' hS' => ?_⟩) hS ?_ ?_
                rotate_left
                · obtain ⟨hI1, hI2, hI3⟩ := hS'
                  go_simp
                  with_reducible rfl
                rotate_left
                · simp only [Act.put, List.setIfInBounds_toArray, List.set_cons_zero, List.set_cons_succ]
                  rfl
                refine take_ (i := 10) (N := some 146) (v := ?_) (a' := ?_) #[true, true, true, true, true, false, true, true, true, true, true, false, false, false] rfl rfl (by kernel_rfl) (fun _ _ _ h => h) (.inl ⟨by rfl, fun w' hS' => ?_⟩) hS ?_ ?_
                rotate_left
                · obtain ⟨hI1, hI2, hI3⟩ := hS'
                  go_simp
                  with_reducible rfl
                rotate_left
                · simp only [Act.put, List.setIfInBounds_toArray, List.set_cons_zero, List.set_cons_succ]
                  rfl
                refine wpAnyLast_all (rs := [5]) (by kernel_rfl) (by simp) ?_
                intro i hi'
                obtain rfl := List.mem_singleton.1 hi'
                refine wpOp_step rfl (fun K' hK => ?_)
                go_simp
                go_at_call 12
                with_reducible refine m1.mono ?_
                rintro e w4 ⟨rfl, hb4, hT4⟩
                have hR4 := hRd.but hTd hb4
                have k4 := hb4.below hBd hzB hBd.size
                refine hK _ _ ⟨fun _ h => ⟨(hb4.block gs (blk_lt h.1) (ne_tab h.1 hTd)).trans h.1, blk_cell ((hb4.block gs (blk_lt h.1) (ne_tab h.1 hTd)).trans h.1) 1, blk_cell ((hb4.block gs (blk_lt h.1) (ne_tab h.1 hTd)).trans h.1) 2⟩, ?_⟩
                clear hK K'
                simp only [Act.put, List.setIfInBounds_toArray, List.set_cons_zero, List.set_cons_succ]
                refine wpAnyLast_all (rs := [11]) (by kernel_rfl) (by simp) ?_
                intro i hi'
                obtain rfl := List.mem_singleton.1 hi'
                refine wpOp_step rfl (fun K' hK => ?_)
                go_simp
                go_at_call 36
                with_reducible refine (n2 _ hR4).mono ?_
                rintro e w5 ⟨rfl, hb5, hR5⟩
                have hT5 := hT4.butR hR4 hb5
                have k5 := hb5.below k4 hzR k4.size
                refine hK _ _ ⟨fun _ h => ⟨(hb5.block gs (blk_lt h.1) (ne_rt h.1 hR4)).trans h.1, blk_cell ((hb5.block gs (blk_lt h.1) (ne_rt h.1 hR4)).trans h.1) 1, blk_cell ((hb5.block gs (blk_lt h.1) (ne_rt h.1 hR4)).trans h.1) 2⟩, ?_⟩
                clear hK K'
                simp only [Act.put, List.setIfInBounds_toArray, List.set_cons_zero, List.set_cons_succ]
                refine wpAnyLast_all (rs := [12]) (by kernel_rfl) (by simp) ?_
                intro i hi'
                obtain rfl := List.mem_singleton.1 hi'
                refine wpOp_step rfl (fun K' hK => ?_)
                go_simp
                refine hK _ _ ⟨fun _ h => h, ?_⟩
                clear hK K'
                simp only [Act.put, List.setIfInBounds_toArray, List.set_cons_zero, List.set_cons_succ]
                refine wpAnyLast_all (rs := [13]) (by kernel_rfl) (by simp) ?_
                intro i hi'
                obtain rfl := List.mem_singleton.1 hi'
                refine wpOp_step rfl (fun K' hK => ?_)
                go_simp
                refine hK _ _ ⟨fun _ h => h, ?_⟩
                clear hK K'
                simp only [Act.put, List.setIfInBounds_toArray, List.set_cons_zero, List.set_cons_succ]
                refine wpAnyLast_done (by kernel_rfl) ?_ _
                go_wp2
                go_meet
                exact ⟨s', B, rfl, rfl, hok, hnn.trans hsn, hT5, hR5, hzB, k5⟩
              · have f0 : (d == 0) = false := by simpa using d0
                by_cases d1 : d = 1
                · subst d1
                  go_wp2
                  have hTd : IsTab W.drew B s := hTA
                  have hRd : IsRT W.drew R s := hRA.below (below_drew (Below.refl _ _))
                  have hBd : Below w.heap.size w W.drew := below_drew hBA
                  have hgd : W.drew.heap[gs]? = some (.cells #[.int .i64 1, .int .i64 k, .string y] 56 (0, 0)) := hnew
                  have m1 := unbind_all s (ho.wf (by omega)) B k W.drew hTd
                  have m2 := runbind_calls s (ho.wf (by omega)) R k W.drew hRd
                  have n1 := fun w' h => unbind_all s (ho.wf (by omega)) B k w' h
                  have n2 := fun w' h => runbind_calls s (ho.wf (by omega)) R k w' h
                  have hok := ok_unbindR ho k
                  have hnn := Tab.unbindR_n s k
                  generalize s.unbindR k = p at *
                  obtain ⟨r, s'⟩ := p
                  simp only at m1 m2 n1 n2 hok hnn
                  clear hTA hRA hBA hnew
                  refine start_ (n := 10) (S := fun W' => W'.heap[gs]? = some (.cells #[.int .i64 1, .int .i64 k, .string y] 56 (0, 0)) ∧ W'.cell? ⟨gs, 1, none⟩ = some (.int .i64 k) ∧ W'.cell? ⟨gs, 2, none⟩ = some (.string y)) (ds := []) (#[false, false, false, false, false, false, false, false, false, false]) (by kernel_rfl) rfl rfl (⟨hgd, e1, e2⟩) (fun hS => ?_)
                  refine take_ (i := 0) (N := some 151) (v := ?_) (a' := ?_) #[true, false, false, false, false, false, false, false, false, false] rfl rfl (by kernel_rfl) (fun _ _ _ h => h) (.inl ⟨by rfl, fun w' hS' => ?_⟩) hS ?_ ?_
                  rotate_left
                  · obtain ⟨hI1, hI2, hI3⟩ := hS'
                    go_simp
                    with_reducible rfl
                  rotate_left
                  · simp only [Act.put, List.setIfInBounds_toArray, List.set_cons_zero, List.set_cons_succ]
                    rfl
                  refine take_ (i := 1) (N := some 152) (v := ?_) (a' := ?_) #[true, true, false, false, false, false, false, false, false, false] rfl rfl (by kernel_rfl) (fun _ _ _ h => h) (.inl ⟨by rfl, fun w' hS' => ?_⟩) hS ?_ ?_
                  rotate_left
                  · obtain ⟨hI1, hI2, hI3⟩ := hS'
                    go_simp
                    with_reducible rfl
                  rotate_left
                  · simp only [Act.put, List.setIfInBounds_toArray, List.set_cons_zero, List.set_cons_succ]
                    rfl
                  refine take_ (i := 2) (N := some 153) (v := ?_) (a' := ?_) #[true, true, true, false, false, false, false, false, false, false] rfl rfl (by kernel_rfl) (fun _ _ _ h => h) (.inl ⟨by rfl, fun w' hS' => ?_⟩) hS ?_ ?_
                  rotate_left
                  · obtain ⟨hI1, hI2, hI3⟩ := hS'
                    go_simp
                    with_reducible rfl
                  rotate_left
                  · simp only [Act.put, List.setIfInBounds_toArray, List.set_cons_zero, List.set_cons_succ]
                    rfl
                  refine take_ (i := 4) (N := some 155) (v := ?_) (a' := ?_) #[true, true, true, false, true, false, false, false, false, false] rfl rfl (by kernel_rfl) (fun _ _ _ h => h) (.inl ⟨by rfl, fun w' hS' => ?_⟩) hS ?_ ?_
                  rotate_left
                  · obtain ⟨hI1, hI2, hI3⟩ := hS'
                    go_simp
                    with_reducible rfl
                  rotate_left
                  · simp only [Act.put, List.setIfInBounds_toArray, List.set_cons_zero, List.set_cons_succ]
                    rfl
                  refine take_ (i := 5) (N := some 156) (v := ?_) (a' := ?_) #[true, true, true, false, true, true, false, false, false, false] rfl rfl (by kernel_rfl) (fun _ _ _ h => h) (.inl ⟨by rfl, fun w' hS' => ?_⟩) hS ?_ ?_
                  rotate_left
                  · obtain ⟨hI1, hI2, hI3⟩ := hS'
                    go_simp
                    with_reducible rfl
                  rotate_left
                  · simp only [Act.put, List.setIfInBounds_toArray, List.set_cons_zero, List.set_cons_succ]
                    rfl
                  refine take_ (i := 6) (N := some 157) (v := ?_) (a' := ?_) #[true, true, true, false, true, true, true, false, false, false] rfl rfl (by kernel_rfl) (fun _ _ _ h => h) (.inl ⟨by rfl, fun w' hS' => ?_⟩) hS ?_ ?_
                  rotate_left
                  · obtain ⟨hI1, hI2, hI3⟩ := hS'
                    go_simp
                    with_reducible rfl
                  rotate_left
                  · simp only [Act.put, List.setIfInBounds_toArray, List.set_cons_zero, List.set_cons_succ]
                    rfl
                  refine wpAnyLast_all (rs := [3]) (by kernel_rfl) (by simp) ?_
                  intro i hi'
                  obtain rfl := List.mem_singleton.1 hi'
                  refine wpOp_step rfl (fun K' hK => ?_)
                  go_simp
                  go_at_call 13
                  with_reducible refine m1.mono ?_
                  rintro e w4 ⟨rfl, hb4, hT4⟩
                  have hR4 := hRd.but hTd hb4
                  have k4 := hb4.below hBd hzB hBd.size
                  refine hK _ _ ⟨fun _ h => ⟨(hb4.block gs (blk_lt h.1) (ne_tab h.1 hTd)).trans h.1, blk_cell ((hb4.block gs (blk_lt h.1) (ne_tab h.1 hTd)).trans h.1) 1, blk_cell ((hb4.block gs (blk_lt h.1) (ne_tab h.1 hTd)).trans h.1) 2⟩, ?_⟩
                  clear hK K'
                  simp only [Act.put, List.setIfInBounds_toArray, List.set_cons_zero, List.set_cons_succ]
                  refine wpAnyLast_all (rs := [7]) (by kernel_rfl) (by simp) ?_
                  intro i hi'
                  obtain rfl := List.mem_singleton.1 hi'
                  refine wpOp_step rfl (fun K' hK => ?_)
                  go_simp
                  go_at_call 37
                  with_reducible refine (n2 _ hR4).mono ?_
                  rintro e w5 ⟨rfl, hb5, hR5⟩
                  have hT5 := hT4.butR hR4 hb5
                  have k5 := hb5.below k4 hzR k4.size
                  refine hK _ _ ⟨fun _ h => ⟨(hb5.block gs (blk_lt h.1) (ne_rt h.1 hR4)).trans h.1, blk_cell ((hb5.block gs (blk_lt h.1) (ne_rt h.1 hR4)).trans h.1) 1, blk_cell ((hb5.block gs (blk_lt h.1) (ne_rt h.1 hR4)).trans h.1) 2⟩, ?_⟩
                  clear hK K'
                  simp only [Act.put, List.setIfInBounds_toArray, List.set_cons_zero, List.set_cons_succ]
                  refine wpAnyLast_all (rs := [8]) (by kernel_rfl) (by simp) ?_
                  intro i hi'
                  obtain rfl := List.mem_singleton.1 hi'
                  refine wpOp_step rfl (fun K' hK => ?_)
                  go_simp
                  refine hK _ _ ⟨fun _ h => h, ?_⟩
                  clear hK K'
                  simp only [Act.put, List.setIfInBounds_toArray, List.set_cons_zero, List.set_cons_succ]
                  refine wpAnyLast_all (rs := [9]) (by kernel_rfl) (by simp) ?_
                  intro i hi'
                  obtain rfl := List.mem_singleton.1 hi'
                  refine wpOp_step rfl (fun K' hK => ?_)
                  go_simp
                  refine hK _ _ ⟨fun _ h => h, ?_⟩
                  clear hK K'
                  simp only [Act.put, List.setIfInBounds_toArray, List.set_cons_zero, List.set_cons_succ]
                  refine wpAnyLast_done (by kernel_rfl) ?_ _
                  go_wp2
                  go_meet
                  exact ⟨s', B, rfl, rfl, hok, hnn.trans hsn, hT5, hR5, hzB, k5⟩
                · have f1 : (d == 1) = false := by simpa using d1
                  by_cases d2 : d = 2
                  · subst d2
                    have hok1 := ok_unbindR ho k
                    have hn1' := Tab.unbindR_n s k
                    have u1 := fun w' h => unbind_all s (ho.wf (by omega)) B k w' h
                    generalize s.unbindR k = p at *
                    obtain ⟨r, s1⟩ := p
                    simp only at hok1 hn1' u1
                    go_wp2_with (first
                      | (go_at_call 34; with_reducible refine (tcopy_calls s (ho.wf (by omega)) B _ hTA).mono ?_; rintro e w2 ⟨rfl, hb2, hN2⟩
                         have hT2 := hTA.below hb2
                         have hR2 := hRA.below hb2
                         have hneB : W.heap.size ≠ B := by have := hTA.lt; omega
                         have hzN : w.heap.size ≤ W.heap.size := hBA.size
                         have k2 := hBA.trans (hb2.mono hBA.size)
                         have hg2 := (hb2.block gs (blk_lt hnew)).trans hnew
                         have hgB := ne_tab hnew hTA
                         have e1 := blk_cell hg2 1
                         have e2 := blk_cell hg2 2
                         generalize W.heap.size = Bn at *)
                      | (go_at_call 13; with_reducible refine (u1 _ hT2).mono ?_; rintro e w3 ⟨rfl, hb3, hT3⟩
                         have hR3 := hR2.but hT2 hb3
                         have hN3 := hN2.but hb3 hneB
                         have k3 := hb3.below k2 hzB k2.size
                         have hg3 := (hb3.block gs (blk_lt hg2) hgB).trans hg2
                         have e1 := blk_cell hg3 1
                         have e2 := blk_cell hg3 2)
                      | (go_at_call 12; with_reducible refine (bind_all s1 (hok1.wf (by omega)) B k _ _ hT3).mono ?_; rintro e w4 ⟨rfl, hb4, hT4⟩
                         have hR4 := hR3.but hT3 hb4
                         have hN4 := hN3.but hb4 hneB
                         have k4 := hb4.below k3 hzB k3.size))
                    go_meet
                    exact ⟨s, Bn, rfl, rfl, ho.up (by omega), hsn, hN4, hR4, hzN, k4⟩
                  · have f2 : (d == 2) = false := by simpa using d2
                    go_wp2
                    go_meet
                    exact ⟨s, B, rfl, rfl, ho.up (by omega), hsn, hTA, hRA, hzB, hBA⟩
            case rest =>
              clear hTA hRA hBA hnew e0 e1 e2 ho hsn hzB
              obtain ⟨s', B', rfl, rfl, ho, hsn, hT, hR, hzB, hB⟩ := hcut
              have hw := ho.wf (by omega)
              have c24 := fun w' h => name_all s' hw B' kq w' h
              have c38 := fun w' h => rname_calls s' hw R kq w' h
              have c14 := fun w' h => of_calls s' hw B' nm w' h
              have c39 := fun w' h => rof_calls s' hw R nm w' h
              have c11 := fun w' h => free_calls s' hw B' w' h
              have c40 := fun w' h => rfree_calls s' hw R w' h
              have c25 := fun w' h => turn_all s' hw B' kq w' h
              have c41 := fun w' h => rturn_calls s' hw R kq w' h
              have c15 := fun w' h => list_ents s' hw B' w' h
              have c43 := fun w' h => rlist_calls s' hw R w' h
              have hc64 : s'.cnt ≤ 64 := by have := cnt_le (s'.ns.take s'.n); rw [List.length_take] at this; have := ho.n64; unfold Tab.cnt; omega
              have hll : (ent (s'.ns.take s'.n) 0).length = s'.cnt := ent_len _ _
              have c42 := fun a b c d hc hd w' h1 h2 => rsame_calls (ent (s'.ns.take s'.n) 0) (by rw [hll]; exact hc64) a b c d hc hd w' h1 h2
              rw [hll] at c42
              clear hll
              obtain ⟨z, b, hof⟩ : ∃ (z : Int) (b : Bool), (if nm = ⟨#[]⟩ then (.tuple #[.int .i64 0, .bool false] : Value) else .tuple #[.int .i64 (max (fnd nm (s'.ns.take s'.n) 0) 0), .bool (decide (0 ≤ fnd nm (s'.ns.take s'.n) 0))]) = .tuple #[.int .i64 z, .bool b] := by
                split
                · exact ⟨_, _, rfl⟩
                · exact ⟨_, _, rfl⟩
              rw [hof] at c14 c39
              clear hof
              generalize s'.nameR kq = nq at *
              generalize (!decide (nq = ⟨#[]⟩)) = bq at *
              generalize s'.turnR kq = tq at *
              generalize max (fnd ⟨#[]⟩ (s'.ns.take s'.n) 0) 0 = z3 at *
              generalize decide (0 ≤ fnd ⟨#[]⟩ (s'.ns.take s'.n) 0) = b3 at *
              generalize ent (s'.ns.take s'.n) 0 = L at *
              generalize s'.cnt = cc at *
              have f1 : (nq.toList != nq.toList) = false := by simp
              have f2 : (bq != bq) = false := by simp
              have f3 : (z != z) = false := by simp
              have f4 : (b != b) = false := by simp
              have f5 : (z3 != z3) = false := by simp
              have f6 : (b3 != b3) = false := by simp
              have f7 : ((tq : Int) != (tq : Int)) = false := by simp
              go_wp2_with (first
                | (go_at_call 24; with_reducible refine (c24 _ hT).mono ?_; rintro e w1 ⟨rfl, hb1⟩
                   have hT1 := hT.below hb1
                   have hR1 := hR.below hb1
                   have k1 := hB.trans (hb1.mono hB.size))
                | (go_at_call 38; with_reducible refine (c38 _ hR1).mono ?_; rintro e w2 ⟨rfl, n2, hw2⟩
                   have hT2 : IsTab w2 B' s' := by rw [hw2]; exact hT1
                   have hR2 : IsRT w2 R s' := by rw [hw2]; exact hR1.drewN _
                   have k2 : Below w.heap.size w w2 := by rw [hw2]; exact below_drewN k1 _
                   clear hw2)
                | (go_at_call 14; with_reducible refine (c14 _ hT2).mono ?_; rintro e w3 ⟨rfl, hb3⟩
                   have hT3 := hT2.below hb3
                   have hR3 := hR2.below hb3
                   have k3 := k2.trans (hb3.mono k2.size))
                | (go_at_call 39; with_reducible refine (c39 _ hR3).mono ?_; rintro e w4 ⟨rfl, hw4⟩; obtain rfl := hw4.symm)
                | (go_at_call 11; with_reducible refine (c11 _ hT3).mono ?_; rintro e w5 ⟨rfl, hb5⟩
                   have hT5 := hT3.below hb5
                   have hR5 := hR3.below hb5
                   have k5 := k3.trans (hb5.mono k3.size))
                | (go_at_call 40; with_reducible refine (c40 _ hR5).mono ?_; rintro e w6 ⟨rfl, hw6⟩; obtain rfl := hw6.symm)
                | (go_at_call 25; with_reducible refine (c25 _ hT5).mono ?_; rintro e w7 ⟨rfl, hb7⟩
                   have hT7 := hT5.below hb7
                   have hR7 := hR5.below hb7
                   have k7 := k5.trans (hb7.mono k5.size))
                | (go_at_call 41; with_reducible refine (c41 _ hR7).mono ?_; rintro e w8 ⟨rfl, hw8⟩; obtain rfl := hw8.symm)
                | (go_at_call 15; with_reducible refine (c15 _ hT7).mono ?_; rintro e w9 ⟨⟨la, lc, rfl, hlc, hli⟩, hb9⟩
                   have hT9 := hT7.below hb9
                   have hR9 := hR7.below hb9
                   have k9 := k7.trans (hb9.mono k7.size))
                | (go_at_call 43; with_reducible refine (c43 _ hR9).mono ?_; rintro e w10 ⟨⟨lb, ld, rfl, hld, hli2⟩, hb10⟩
                   have hT10 := hT9.below hb10
                   have hR10 := hR9.below hb10
                   have hli3 := hli.below hb10
                   have k10 := k9.trans (hb10.mono k9.size))
                | (go_at_call 42; with_reducible refine (c42 _ _ _ _ hlc hld _ hli3 hli2).mono ?_; rintro e w11 ⟨rfl, n11, hw11⟩
                   have hT11 : IsTab w11 B' s' := by rw [hw11]; exact hT10
                   have hR11 : IsRT w11 R s' := by rw [hw11]; exact hR10.drewN _
                   have k11 : Below w.heap.size w w11 := by rw [hw11]; exact below_drewN k10 _
                   clear hw11))
              go_roundg (len - (j + 1))
              case measure => have := A.out; omega
              case rel => exact ⟨j + 1, s', B', by omega, rfl, rfl, by go_num, ho, hsn, hT11, hR11, hzB, k11⟩
          · have h1 : decide ((j : Int) < (len : Int)) = false := decide_eq_false (by omega)
            go_wp2_with (first
              | (go_at_call 10; with_reducible refine (alive_calls _).mono ?_; rintro e w2 ⟨rfl, hb2⟩))
            go_ret
            exact ⟨rfl, hB.trans (hb2.mono hB.size)⟩
      · have hN := fun w => new_bad n hn w
        by_cases hn0 : n < 1
        · have d1 : decide (n < 1) = true := by simpa using hn0
          clear hn
          go_wp2_with (first
        | (go_at_call 24; with_reducible refine (nname_calls _ _).mono ?_; rintro e w2 ⟨rfl, hw2⟩; obtain rfl := hw2.symm)
        | (go_at_call 14; with_reducible refine (nof_calls _ _).mono ?_; rintro e w2 ⟨rfl, hw2⟩; obtain rfl := hw2.symm)
        | (go_at_call 11; with_reducible refine (nfree_calls _).mono ?_; rintro e w2 ⟨rfl, hw2⟩; obtain rfl := hw2.symm)
        | (go_at_call 12; with_reducible refine (nbind_calls _ _ _).mono ?_; rintro e w2 ⟨rfl, hw2⟩; obtain rfl := hw2.symm)
        | (go_at_call 13; with_reducible refine (nunbind_calls _ _).mono ?_; rintro e w2 ⟨rfl, hw2⟩; obtain rfl := hw2.symm)
        | (go_at_call 25; with_reducible refine (nturn_calls _ _).mono ?_; rintro e w2 ⟨rfl, hw2⟩; obtain rfl := hw2.symm)
        | (go_at_call 15; with_reducible refine (nlist_calls _).mono ?_; rintro e w2 ⟨rfl, hw2⟩; obtain rfl := hw2.symm)
        | (go_at_call 34; with_reducible refine (ntcopy_calls _).mono ?_; rintro e w2 ⟨rfl, hw2⟩; obtain rfl := hw2.symm)
          | (go_at_call 9; with_reducible refine (hN _).mono ?_; rintro e w3 ⟨rfl, hw3⟩; obtain rfl := hw3.symm)
          | (go_at_call 10; with_reducible refine (alive_calls _).mono ?_; rintro e w4 ⟨rfl, hb4⟩))
          go_ret
          exact ⟨rfl, hb4⟩
        · have d1 : decide (n < 1) = false := by simpa using hn0
          have d2 : decide (64 < n) = true := decide_eq_true (by omega)
          clear hn
          go_wp2_with (first
        | (go_at_call 24; with_reducible refine (nname_calls _ _).mono ?_; rintro e w2 ⟨rfl, hw2⟩; obtain rfl := hw2.symm)
        | (go_at_call 14; with_reducible refine (nof_calls _ _).mono ?_; rintro e w2 ⟨rfl, hw2⟩; obtain rfl := hw2.symm)
        | (go_at_call 11; with_reducible refine (nfree_calls _).mono ?_; rintro e w2 ⟨rfl, hw2⟩; obtain rfl := hw2.symm)
        | (go_at_call 12; with_reducible refine (nbind_calls _ _ _).mono ?_; rintro e w2 ⟨rfl, hw2⟩; obtain rfl := hw2.symm)
        | (go_at_call 13; with_reducible refine (nunbind_calls _ _).mono ?_; rintro e w2 ⟨rfl, hw2⟩; obtain rfl := hw2.symm)
        | (go_at_call 25; with_reducible refine (nturn_calls _ _).mono ?_; rintro e w2 ⟨rfl, hw2⟩; obtain rfl := hw2.symm)
        | (go_at_call 15; with_reducible refine (nlist_calls _).mono ?_; rintro e w2 ⟨rfl, hw2⟩; obtain rfl := hw2.symm)
        | (go_at_call 34; with_reducible refine (ntcopy_calls _).mono ?_; rintro e w2 ⟨rfl, hw2⟩; obtain rfl := hw2.symm)
          | (go_at_call 9; with_reducible refine (hN _).mono ?_; rintro e w3 ⟨rfl, hw3⟩; obtain rfl := hw3.symm)
          | (go_at_call 10; with_reducible refine (alive_calls _).mono ?_; rintro e w4 ⟨rfl, hb4⟩))
          go_ret
          exact ⟨rfl, hb4⟩
    · go_wp2_with (first
        | (go_at_call 10; with_reducible refine (alive_calls _).mono ?_; rintro e w2 ⟨rfl, hb2⟩))
      go_ret
      exact ⟨rfl, hb2⟩
end Go.Proofs.Ythenjbonncbniaa
