/-
  Layer 15 (ipcppol): the law IpcppolMeets, walked.
-/
import Derived.Test.YtlcckkdkcbelhaaDoorMn
set_option linter.unusedVariables false
set_option linter.unusedSimpArgs false
namespace Go.Proofs.YtlcckkdkcbelhaaDoor
open Go.RowKit Go.Proofs.YtlcckkdkcbelhaaDoorW.PrintWords Go.Proofs.YtlcckkdkcbelhaaDoorW.PrintLast

theorem field36_2 (W : World) (a1 a2 a4 a5 a6 : Value) (b : Bool) : (Instr.field 36 (.agg #[a1, a2, .bool b, a4, a5, a6]) 2).run Tryd.prog W = .ok (.bool b) W := by kernel_rfl
theorem field36_3 (W : World) (a1 a2 a3 a5 a6 : Value) (b : Int) : (Instr.field 36 (.agg #[a1, a2, a3, .int .u32 b, a5, a6]) 3).run Tryd.prog W = .ok (.int .u32 b) W := by kernel_rfl
theorem field36_4 (W : World) (a1 a2 a3 a4 a6 : Value) (b : Bool) : (Instr.field 36 (.agg #[a1, a2, a3, a4, .bool b, a6]) 4).run Tryd.prog W = .ok (.bool b) W := by kernel_rfl
theorem field36_5 (W : World) (a1 a2 a3 a4 a5 : Value) (b : Int) : (Instr.field 36 (.agg #[a1, a2, a3, a4, a5, .int .u32 b]) 5).run Tryd.prog W = .ok (.int .u32 b) W := by kernel_rfl
theorem meets_short (c : Conf) (l : List Opt) (a : Option Addr) (ca : Nat) (w : World) (hl : Row w a ca l) (zl : ∀ o ∈ l, o.d.size ≤ 140737488355328) (h : longB l = true) (hK : K w) :
    Calls Tryd.prog 4 #[.agg c.cells, .slice a l.length ca] w fun e w' => e = .returned (.bool true) ∧ Below w.heap.size w w' := by
  rw [show c.cells = #[.int .u32 (nv c.addr), .int .u32 (nv c.peer), .int .u32 (nv c.dns1), .int .u32 (nv c.dns2), .bool c.want, .int .i64 c.max] from rfl]
  have hB := (Below.refl w.heap.size w).alloc (Nat.le_refl _) (.cells #[.int .u32 (nv c.addr), .int .u32 (nv c.peer), .int .u32 (nv c.dns1), .int .u32 (nv c.dns2), .bool c.want, .int .i64 c.max] 24)
  have hK1 := hK.below hB
  have hl1 := hl.below hB
  go_enter Tryd.func4, Tryd.ntmps4
  go_wp2_with (first
    | (go_at_call 9; with_reducible refine (long_det l _ _ _ hl1 zl).mono ?_; rintro e w2 ⟨rfl, hw⟩; obtain rfl := hw.symm; rw [h])
    | (go_at_call 7; with_reducible refine (alive_calls _ hK1).mono ?_; rintro e w1 ⟨rfl, hb1⟩))
  go_ret
  exact ⟨rfl, hB.trans (hb1.mono hB.size)⟩
theorem meets_bad (c : Conf) (l : List Opt) (a : Option Addr) (ca : Nat) (w : World) (hl : Row w a ca l) (zl : ∀ o ∈ l, o.d.size ≤ 140737488355328) (h : longB l = false) (hm : ¬ (1 ≤ c.max ∧ c.max ≤ 10)) (hK : K w) :
    Calls Tryd.prog 4 #[.agg c.cells, .slice a l.length ca] w fun e w' => e = .returned (.bool true) ∧ Below w.heap.size w w' := by
  have hN := fun W => new_bad c hm W
  have hcc : c.cells = #[.int .u32 (nv c.addr), .int .u32 (nv c.peer), .int .u32 (nv c.dns1), .int .u32 (nv c.dns2), .bool c.want, .int .i64 c.max] := rfl
  rw [hcc]
  simp only [hcc] at hN
  have hB := (Below.refl w.heap.size w).alloc (Nat.le_refl _) (.cells #[.int .u32 (nv c.addr), .int .u32 (nv c.peer), .int .u32 (nv c.dns1), .int .u32 (nv c.dns2), .bool c.want, .int .i64 c.max] 24)
  have hl1 := hl.below hB
  have cl := fun i => blk_cell (alloc_new w _ (.cells #[.int .u32 (nv c.addr), .int .u32 (nv c.peer), .int .u32 (nv c.dns1), .int .u32 (nv c.dns2), .bool c.want, .int .i64 c.max] 24) rfl) i
  have hz := hB.size
  go_enter Tryd.func4, Tryd.ntmps4
  go_wp2_with (first
    | (go_at_call 9; with_reducible refine (long_det l _ _ _ hl1 zl).mono ?_; rintro e w2 ⟨rfl, hw⟩; obtain rfl := hw.symm; rw [h])
    | (go_at_call 8; with_reducible refine (hN _).mono ?_; rintro e w1 ⟨rfl, hb1⟩
       have B1 := hB.trans (hb1.mono hz)
       have hK1 := hK.below B1)
    | (go_at_call 7; with_reducible refine (alive_calls _ hK1).mono ?_; rintro e w2 ⟨rfl, hb2⟩))
  go_ret
  exact ⟨rfl, B1.trans (hb2.mono B1.size)⟩
attribute [local go_sem high] eqA36 field36_2 field36_3 field36_4 field36_5
set_option maxRecDepth 100000 in
set_option maxHeartbeats 16000000 in
theorem meets_good (c : Conf) (l : List Opt) (a : Option Addr) (ca : Nat) (w : World) (hl : Row w a ca l) (hnl : a = none → ca = 0 ∧ l = []) (zl : ∀ o ∈ l, o.d.size ≤ 140737488355328) (h : longB l = false) (hm : 1 ≤ c.max ∧ c.max ≤ 10) (hK : K w) :
    Calls Tryd.prog 4 #[.agg c.cells, .slice a l.length ca] w fun e w' => e = .returned (.bool true) ∧ Below w.heap.size w w' := by
  obtain ⟨l70, _⟩ := longB_spec h
  have hN := fun W => new_good c hm.1 hm.2 W
  have hcc : c.cells = #[.int .u32 (nv c.addr), .int .u32 (nv c.peer), .int .u32 (nv c.dns1), .int .u32 (nv c.dns2), .bool c.want, .int .i64 c.max] := rfl
  have hu36 := Tryd.underlying36
  rw [hcc]
  simp only [hcc] at hN
  have hB := (Below.refl w.heap.size w).alloc (Nat.le_refl _) (.cells #[.int .u32 (nv c.addr), .int .u32 (nv c.peer), .int .u32 (nv c.dns1), .int .u32 (nv c.dns2), .bool c.want, .int .i64 c.max] 24)
  have hcb := alloc_new w _ (.cells #[.int .u32 (nv c.addr), .int .u32 (nv c.peer), .int .u32 (nv c.dns1), .int .u32 (nv c.dns2), .bool c.want, .int .i64 c.max] 24) rfl
  have cl := fun i => blk_cell hcb i
  have hz := hB.size
  have hl0 := hl.below hB
  have hlt : w.heap.size < (w.alloc (.cells #[.int .u32 (nv c.addr), .int .u32 (nv c.peer), .int .u32 (nv c.dns1), .int .u32 (nv c.dns2), .bool c.want, .int .i64 c.max] 24)).heap.size := by simp
  go_enter Tryd.func4, Tryd.ntmps4
  go_wp2_with (first
    | (go_at_call 9; with_reducible refine (long_det l _ _ _ hl0 zl).mono ?_; rintro e w2 ⟨rfl, hw⟩; obtain rfl := hw.symm; rw [h])
    | (go_at_call 8; with_reducible refine (hN _).mono ?_; rintro e w1 ⟨rfl, hb1, hp1⟩
       have B1 := hB.trans (hb1.mono hz)
       have hl1 := hl.below B1
       have hc1 := (hb1.block _ hlt).trans hcb)
    | (at_builtin; refine wpList_append_row rfl _ _ rfl w1.heap.size _ [] l 0 rfl rfl (World.ownsRow_nil _ _ _ _) a ca rfl hl1 hnl (by simp) (by omega) (Nat.le_refl _) ?_
       intro v4 w4 hown4 hg4
       rw [List.nil_append] at hown4
       have hb4 := (Below.refl w1.heap.size w1).grown hg4 (Nat.le_refl _) (fun k hk => by cases hk)
       obtain ⟨ra, rc, rfl, r4⟩ := row_own hown4
       have B4 := B1.trans (hb4.mono B1.size)
       have hp4 := hp1.below hb4
       have hc4 := (hb4.block _ (Nat.lt_of_lt_of_le hlt hb1.size)).trans hc1))
  simp only [World.size_alloc] at hp4
  clear cl hN hcb hlt hb1 hz hB hl0 hp1 hl1 hc1 B1 hown4 hg4 hb4
  have hcx : w.heap.size ≠ w.heap.size + 1 + 1 := by omega
  have hcy : w.heap.size ≤ w.heap.size + 1 + 1 := by omega
  generalize w.heap.size + 1 + 1 = pb at *
  go_loopg [7, 8] 2 (fun q v i wr => ∃ (k : Nat) (s : Pol) (m : List Opt) (xa : Option Addr) (xc : Nat), k ≤ 2 ∧ q = 2 - k ∧ i = .int .i64 (k : Int) ∧ v = .slice xa m.length xc ∧ Row wr xa xc m ∧ (k = 0 → m.length ≤ 70) ∧ (k = 1 → m.length ≤ 141) ∧ m.length ≤ 283 ∧ Ph c k s m ∧ IsPol wr pb s ∧ 0 ≤ s.naks ∧ s.naks ≤ 10 ∧ Below w.heap.size w wr ∧ wr.heap[w.heap.size]? = some (.cells #[.int .u32 (nv c.addr), .int .u32 (nv c.peer), .int .u32 (nv c.dns1), .int .u32 (nv c.dns2), .bool c.want, .int .i64 c.max] 24 (0, 0)))
  case atStart => exact ⟨0, resetP c, l, ra, rc, by omega, rfl, rfl, rfl, r4, fun _ => l70, (by omega), by omega, ⟨rfl, .inl ⟨rfl, rfl⟩⟩, hp4, by simp [resetP], by simp [resetP], B4, hc4⟩
  case round =>
    obtain ⟨k, s, m, xa, xc, hk, hq, rfl, rfl, hr, hs0, hs1, hs2, hph, hp, hn0, hn1, hB, hcb⟩ := hrel
    have A := Lib.hid hq; clear hq
    clear hp4 B4 hc4 r4
    have hsc : s.c = c := hph.1
    have q3 : decide ((k : Int) < 3) = true := by simp; omega
    obtain ⟨z, x, s', hj⟩ : ∃ z x s', judge s m = (z, x, s') := ⟨_, _, _, rfl⟩
    obtain ⟨kc, kw, km, k0, k1⟩ := judge_keeps s m ⟨hn0, hn1⟩ (by rw [hsc]; exact hm.2)
    obtain ⟨jl, _⟩ := judge_len s m
    have hst := ph_step hm.1 (show k < 3 by omega) hph hj
    have hdp := fun (hd : Done c m) (h2 : judge s m = (2, x, s')) => done_peer hsc hd h2
    rw [hj] at kc k0 k1 jl
    simp only at kc k0 k1 jl
    have hJ := fun W h1 h2 h3 => judge_told hj (by omega) ⟨hn0, by omega⟩ pb xa xc m.length rfl W h1 h2 h3
    have HJ := Lib.hid hj
    have KC := Lib.hid (kc.trans hsc)
    have K01 := Lib.hid (And.intro k0 k1)
    have hcl := (Array.getElem?_eq_some_iff.1 hcb).1
    replace hst := Lib.hid hst
    replace hdp := Lib.hid hdp
    replace hs0 := Lib.hid hs0
    replace hs1 := Lib.hid hs1
    clear hj kc kw km k0 k1 hph hn0 hn1
    go_upto_region 11 with (first
      | (go_at_call 10; go_loud ((with_reducible refine (hJ _ hr (hK.below hB) hp).mono ?_); rintro e w2 ⟨xm, kn, rfl, hm2, hbt, hp2⟩; have B2 := But.below hB hbt hcy hB.size; have hc2 := (hbt.block _ hcl hcx).trans hcb; have hr2 := hr.but hbt hp)))
    clear hJ hcb hB hp hr hbt hcl
    have hcl := (Array.getElem?_eq_some_iff.1 hc2).1
    have hK2 := hK.below B2
    rcases hst.out with ⟨rfl, hd⟩ | ⟨hz, hk2, hph2⟩
    · have hdq := hdp.out hd HJ.out
      obtain ⟨⟨b1, v1, b2, v2, b3, v3⟩, hsp⟩ : ∃ y, s'.peer = y := ⟨_, rfl⟩
      rw [hsp] at hdq
      simp only at hdq
      have hPe : ∀ W, IsPol W pb s' → Calls Tryd.prog 13 #[.pointer (some ⟨pb, 0, none⟩)] W fun e w' => e = .returned (.agg #[.bool b1, .int .u32 (nv v1), .bool b2, .int .u32 (nv v2), .bool b3, .int .u32 (nv v3)]) ∧ Below W.heap.size W w' := fun W hW => by
        have := peer_calls s' pb W hW
        rw [hsp] at this
        exact this
      go_upto_region 12 with fail
      rcases hdq with hpe | ⟨rfl, rfl⟩
      · have p1 : nv c.peer = 0 := by rw [hpe]; rfl
        clear hpe
        refine start_ (n := 27) (S := fun W' => Below w2.heap.size w2 W') (ds := []) (#[false, false, false, false, false, false, false, false, false, false, false, false, false, false, false, false, false, false, false, false, false, false, false, false, false, false, false]) (by kernel_rfl) rfl rfl (below_drew (Below.refl _ _)) (fun hS => ?_)
        generalize w2.drew = wa at *
        refine take_ (i := 0) (N := some 40) (v := ?_) (a' := ?_) #[true, false, false, false, false, false, false, false, false, false, false, false, false, false, false, false, false, false, false, false, false, false, false, false, false, false, false] rfl rfl (by kernel_rfl) (fun _ _ _ h => h) (.inl ⟨by rfl, fun w' hS' => ?_⟩) hS ?_ ?_
        rotate_left
        · go_simp
          with_reducible rfl
        rotate_left
        · simp only [Act.put, List.setIfInBounds_toArray, List.set_cons_zero, List.set_cons_succ]
          rfl
        refine take_ (i := 1) (N := some 41) (v := ?_) (a' := ?_) #[true, true, false, false, false, false, false, false, false, false, false, false, false, false, false, false, false, false, false, false, false, false, false, false, false, false, false] rfl rfl (by kernel_rfl) (fun _ _ _ h => h) (.inl ⟨by rfl, fun w' hS' => ?_⟩) hS ?_ ?_
        rotate_left
        · have t5 := fun i => blk_cell ((hS'.block _ hcl).trans hc2) i
          go_simp
          with_reducible rfl
        rotate_left
        · simp only [Act.put, List.setIfInBounds_toArray, List.set_cons_zero, List.set_cons_succ]
          rfl
        refine take_ (i := 2) (N := some 42) (v := ?_) (a' := ?_) #[true, true, true, false, false, false, false, false, false, false, false, false, false, false, false, false, false, false, false, false, false, false, false, false, false, false, false] rfl rfl (by kernel_rfl) (fun _ _ _ h => h) (.inl ⟨by rfl, fun w' hS' => ?_⟩) hS ?_ ?_
        rotate_left
        · go_simp
          with_reducible rfl
        rotate_left
        · simp only [Act.put, List.setIfInBounds_toArray, List.set_cons_zero, List.set_cons_succ]
          rfl
        refine take_ (i := 3) (N := some 43) (v := ?_) (a' := ?_) #[true, true, true, true, false, false, false, false, false, false, false, false, false, false, false, false, false, false, false, false, false, false, false, false, false, false, false] rfl rfl (by kernel_rfl) (fun _ _ _ h => h) (.inl ⟨by rfl, fun w' hS' => ?_⟩) hS ?_ ?_
        rotate_left
        · go_simp
          with_reducible rfl
        rotate_left
        · simp only [Act.put, List.setIfInBounds_toArray, List.set_cons_zero, List.set_cons_succ]
          rfl
        refine take_ (i := 4) (N := some 44) (v := undef) (a' := ?_) #[true, true, true, true, true, false, false, false, false, false, false, false, false, false, false, false, false, false, false, false, false, false, false, false, false, false, false] rfl rfl (by kernel_rfl) (fun _ _ _ h => h) (.inr ⟨by rfl, rfl⟩) hS ?_ ?_
        rotate_left
        · simp only [Act.put, List.setIfInBounds_toArray, List.set_cons_zero, List.set_cons_succ]
          rfl
        refine take_ (i := 5) (N := some 45) (v := undef) (a' := ?_) #[true, true, true, true, true, true, false, false, false, false, false, false, false, false, false, false, false, false, false, false, false, false, false, false, false, false, false] rfl rfl (by kernel_rfl) (fun _ _ _ h => h) (.inr ⟨by rfl, rfl⟩) hS ?_ ?_
        rotate_left
        · simp only [Act.put, List.setIfInBounds_toArray, List.set_cons_zero, List.set_cons_succ]
          rfl
        refine take_ (i := 6) (N := some 46) (v := undef) (a' := ?_) #[true, true, true, true, true, true, true, false, false, false, false, false, false, false, false, false, false, false, false, false, false, false, false, false, false, false, false] rfl rfl (by kernel_rfl) (fun _ _ _ h => h) (.inr ⟨by rfl, rfl⟩) hS ?_ ?_
        rotate_left
        · simp only [Act.put, List.setIfInBounds_toArray, List.set_cons_zero, List.set_cons_succ]
          rfl
        refine take_ (i := 7) (N := some 47) (v := undef) (a' := ?_) #[true, true, true, true, true, true, true, true, false, false, false, false, false, false, false, false, false, false, false, false, false, false, false, false, false, false, false] rfl rfl (by kernel_rfl) (fun _ _ _ h => h) (.inr ⟨by rfl, rfl⟩) hS ?_ ?_
        rotate_left
        · simp only [Act.put, List.setIfInBounds_toArray, List.set_cons_zero, List.set_cons_succ]
          rfl
        refine take_ (i := 8) (N := some 48) (v := undef) (a' := ?_) #[true, true, true, true, true, true, true, true, true, false, false, false, false, false, false, false, false, false, false, false, false, false, false, false, false, false, false] rfl rfl (by kernel_rfl) (fun _ _ _ h => h) (.inr ⟨by rfl, rfl⟩) hS ?_ ?_
        rotate_left
        · simp only [Act.put, List.setIfInBounds_toArray, List.set_cons_zero, List.set_cons_succ]
          rfl
        refine take_ (i := 9) (N := some 49) (v := undef) (a' := ?_) #[true, true, true, true, true, true, true, true, true, true, false, false, false, false, false, false, false, false, false, false, false, false, false, false, false, false, false] rfl rfl (by kernel_rfl) (fun _ _ _ h => h) (.inr ⟨by rfl, rfl⟩) hS ?_ ?_
        rotate_left
        · simp only [Act.put, List.setIfInBounds_toArray, List.set_cons_zero, List.set_cons_succ]
          rfl
        refine take_ (i := 10) (N := some 50) (v := undef) (a' := ?_) #[true, true, true, true, true, true, true, true, true, true, true, false, false, false, false, false, false, false, false, false, false, false, false, false, false, false, false] rfl rfl (by kernel_rfl) (fun _ _ _ h => h) (.inr ⟨by rfl, rfl⟩) hS ?_ ?_
        rotate_left
        · simp only [Act.put, List.setIfInBounds_toArray, List.set_cons_zero, List.set_cons_succ]
          rfl
        refine take_ (i := 11) (N := some 51) (v := undef) (a' := ?_) #[true, true, true, true, true, true, true, true, true, true, true, true, false, false, false, false, false, false, false, false, false, false, false, false, false, false, false] rfl rfl (by kernel_rfl) (fun _ _ _ h => h) (.inr ⟨by rfl, rfl⟩) hS ?_ ?_
        rotate_left
        · simp only [Act.put, List.setIfInBounds_toArray, List.set_cons_zero, List.set_cons_succ]
          rfl
        refine take_ (i := 12) (N := some 52) (v := undef) (a' := ?_) #[true, true, true, true, true, true, true, true, true, true, true, true, true, false, false, false, false, false, false, false, false, false, false, false, false, false, false] rfl rfl (by kernel_rfl) (fun _ _ _ h => h) (.inr ⟨by rfl, rfl⟩) hS ?_ ?_
        rotate_left
        · simp only [Act.put, List.setIfInBounds_toArray, List.set_cons_zero, List.set_cons_succ]
          rfl
        refine take_ (i := 13) (N := some 53) (v := undef) (a' := ?_) #[true, true, true, true, true, true, true, true, true, true, true, true, true, true, false, false, false, false, false, false, false, false, false, false, false, false, false] rfl rfl (by kernel_rfl) (fun _ _ _ h => h) (.inr ⟨by rfl, rfl⟩) hS ?_ ?_
        rotate_left
        · simp only [Act.put, List.setIfInBounds_toArray, List.set_cons_zero, List.set_cons_succ]
          rfl
        refine take_ (i := 14) (N := some 54) (v := undef) (a' := ?_) #[true, true, true, true, true, true, true, true, true, true, true, true, true, true, true, false, false, false, false, false, false, false, false, false, false, false, false] rfl rfl (by kernel_rfl) (fun _ _ _ h => h) (.inr ⟨by rfl, rfl⟩) hS ?_ ?_
        rotate_left
        · simp only [Act.put, List.setIfInBounds_toArray, List.set_cons_zero, List.set_cons_succ]
          rfl
        refine take_ (i := 15) (N := some 55) (v := undef) (a' := ?_) #[true, true, true, true, true, true, true, true, true, true, true, true, true, true, true, true, false, false, false, false, false, false, false, false, false, false, false] rfl rfl (by kernel_rfl) (fun _ _ _ h => h) (.inr ⟨by rfl, rfl⟩) hS ?_ ?_
        rotate_left
        · simp only [Act.put, List.setIfInBounds_toArray, List.set_cons_zero, List.set_cons_succ]
          rfl
        refine take_ (i := 16) (N := some 56) (v := undef) (a' := ?_) #[true, true, true, true, true, true, true, true, true, true, true, true, true, true, true, true, true, false, false, false, false, false, false, false, false, false, false] rfl rfl (by kernel_rfl) (fun _ _ _ h => h) (.inr ⟨by rfl, rfl⟩) hS ?_ ?_
        rotate_left
        · simp only [Act.put, List.setIfInBounds_toArray, List.set_cons_zero, List.set_cons_succ]
          rfl
        refine take_ (i := 17) (N := some 57) (v := undef) (a' := ?_) #[true, true, true, true, true, true, true, true, true, true, true, true, true, true, true, true, true, true, false, false, false, false, false, false, false, false, false] rfl rfl (by kernel_rfl) (fun _ _ _ h => h) (.inr ⟨by rfl, rfl⟩) hS ?_ ?_
        rotate_left
        · simp only [Act.put, List.setIfInBounds_toArray, List.set_cons_zero, List.set_cons_succ]
          rfl
        refine take_ (i := 18) (N := some 58) (v := undef) (a' := ?_) #[true, true, true, true, true, true, true, true, true, true, true, true, true, true, true, true, true, true, true, false, false, false, false, false, false, false, false] rfl rfl (by kernel_rfl) (fun _ _ _ h => h) (.inr ⟨by rfl, rfl⟩) hS ?_ ?_
        rotate_left
        · simp only [Act.put, List.setIfInBounds_toArray, List.set_cons_zero, List.set_cons_succ]
          rfl
        refine take_ (i := 19) (N := some 59) (v := undef) (a' := ?_) #[true, true, true, true, true, true, true, true, true, true, true, true, true, true, true, true, true, true, true, true, false, false, false, false, false, false, false] rfl rfl (by kernel_rfl) (fun _ _ _ h => h) (.inr ⟨by rfl, rfl⟩) hS ?_ ?_
        rotate_left
        · simp only [Act.put, List.setIfInBounds_toArray, List.set_cons_zero, List.set_cons_succ]
          rfl
        refine take_ (i := 20) (N := some 60) (v := undef) (a' := ?_) #[true, true, true, true, true, true, true, true, true, true, true, true, true, true, true, true, true, true, true, true, true, false, false, false, false, false, false] rfl rfl (by kernel_rfl) (fun _ _ _ h => h) (.inr ⟨by rfl, rfl⟩) hS ?_ ?_
        rotate_left
        · simp only [Act.put, List.setIfInBounds_toArray, List.set_cons_zero, List.set_cons_succ]
          rfl
        refine take_ (i := 21) (N := some 61) (v := undef) (a' := ?_) #[true, true, true, true, true, true, true, true, true, true, true, true, true, true, true, true, true, true, true, true, true, true, false, false, false, false, false] rfl rfl (by kernel_rfl) (fun _ _ _ h => h) (.inr ⟨by rfl, rfl⟩) hS ?_ ?_
        rotate_left
        · simp only [Act.put, List.setIfInBounds_toArray, List.set_cons_zero, List.set_cons_succ]
          rfl
        refine take_ (i := 22) (N := some 62) (v := ?_) (a' := ?_) #[true, true, true, true, true, true, true, true, true, true, true, true, true, true, true, true, true, true, true, true, true, true, true, false, false, false, false] rfl rfl (by kernel_rfl) (fun _ _ _ h => h) (.inl ⟨by rfl, fun w' hS' => ?_⟩) hS ?_ ?_
        rotate_left
        · go_simp
          with_reducible rfl
        rotate_left
        · simp only [Act.put, List.setIfInBounds_toArray, List.set_cons_zero, List.set_cons_succ]
          rfl
        refine take_ (i := 23) (N := some 63) (v := ?_) (a' := ?_) #[true, true, true, true, true, true, true, true, true, true, true, true, true, true, true, true, true, true, true, true, true, true, true, true, false, false, false] rfl rfl (by kernel_rfl) (fun _ _ _ h => h) (.inl ⟨by rfl, fun w' hS' => ?_⟩) hS ?_ ?_
        rotate_left
        · go_simp
          with_reducible rfl
        rotate_left
        · simp only [Act.put, List.setIfInBounds_toArray, List.set_cons_zero, List.set_cons_succ]
          rfl
        refine wpAnyLast_all (rs := [24]) (by kernel_rfl) (by simp) ?_
        intro i hi'
        obtain rfl := List.mem_singleton.1 hi'
        refine wpOp_step rfl (fun K' hK' => ?_)
        go_simp
        go_at_call 7
        with_reducible refine (alive_calls _ (hK2.below hS)).mono ?_
        rintro e w9 ⟨rfl, hb9⟩
        have hT := hS.trans (hb9.mono hS.size)
        refine hK' _ _ ⟨fun _ _ => hT, ?_⟩
        clear hK' K' hS
        simp only [Act.put, List.setIfInBounds_toArray, List.set_cons_zero, List.set_cons_succ]
        have hS := hT
        clear hT
        refine take_ (i := 25) (N := some 65) (v := ?_) (a' := ?_) #[true, true, true, true, true, true, true, true, true, true, true, true, true, true, true, true, true, true, true, true, true, true, true, true, true, true, false] rfl rfl (by kernel_rfl) (fun _ _ _ h => h) (.inl ⟨by rfl, fun w' hS' => ?_⟩) hS ?_ ?_
        rotate_left
        · go_simp
          with_reducible rfl
        rotate_left
        · simp only [Act.put, List.setIfInBounds_toArray, List.set_cons_zero, List.set_cons_succ]
          rfl
        refine wpAnyLast_all (rs := [26]) (by kernel_rfl) (by simp) ?_
        intro i hi'
        obtain rfl := List.mem_singleton.1 hi'
        refine wpOp_step rfl (fun K' hK' => ?_)
        go_simp
        refine hK' _ _ ⟨fun _ h => h, ?_⟩
        clear hK' K'
        simp only [Act.put, List.setIfInBounds_toArray, List.set_cons_zero, List.set_cons_succ]
        refine wpAnyLast_done (by kernel_rfl) ?_ _
        go_wp2
        go_ret
        exact ⟨rfl, B2.trans (hS.mono B2.size)⟩
      · by_cases hpe : c.peer = 0
        · have p1 : nv c.peer = 0 := by rw [hpe]; rfl
          clear hpe
          refine start_ (n := 27) (S := fun W' => Below w2.heap.size w2 W') (ds := []) (#[false, false, false, false, false, false, false, false, false, false, false, false, false, false, false, false, false, false, false, false, false, false, false, false, false, false, false]) (by kernel_rfl) rfl rfl (below_drew (Below.refl _ _)) (fun hS => ?_)
          generalize w2.drew = wa at *
          refine take_ (i := 0) (N := some 40) (v := ?_) (a' := ?_) #[true, false, false, false, false, false, false, false, false, false, false, false, false, false, false, false, false, false, false, false, false, false, false, false, false, false, false] rfl rfl (by kernel_rfl) (fun _ _ _ h => h) (.inl ⟨by rfl, fun w' hS' => ?_⟩) hS ?_ ?_
          rotate_left
          · go_simp
            with_reducible rfl
          rotate_left
          · simp only [Act.put, List.setIfInBounds_toArray, List.set_cons_zero, List.set_cons_succ]
            rfl
          refine take_ (i := 1) (N := some 41) (v := ?_) (a' := ?_) #[true, true, false, false, false, false, false, false, false, false, false, false, false, false, false, false, false, false, false, false, false, false, false, false, false, false, false] rfl rfl (by kernel_rfl) (fun _ _ _ h => h) (.inl ⟨by rfl, fun w' hS' => ?_⟩) hS ?_ ?_
          rotate_left
          · have t5 := fun i => blk_cell ((hS'.block _ hcl).trans hc2) i
            go_simp
            with_reducible rfl
          rotate_left
          · simp only [Act.put, List.setIfInBounds_toArray, List.set_cons_zero, List.set_cons_succ]
            rfl
          refine take_ (i := 2) (N := some 42) (v := ?_) (a' := ?_) #[true, true, true, false, false, false, false, false, false, false, false, false, false, false, false, false, false, false, false, false, false, false, false, false, false, false, false] rfl rfl (by kernel_rfl) (fun _ _ _ h => h) (.inl ⟨by rfl, fun w' hS' => ?_⟩) hS ?_ ?_
          rotate_left
          · go_simp
            with_reducible rfl
          rotate_left
          · simp only [Act.put, List.setIfInBounds_toArray, List.set_cons_zero, List.set_cons_succ]
            rfl
          refine take_ (i := 3) (N := some 43) (v := ?_) (a' := ?_) #[true, true, true, true, false, false, false, false, false, false, false, false, false, false, false, false, false, false, false, false, false, false, false, false, false, false, false] rfl rfl (by kernel_rfl) (fun _ _ _ h => h) (.inl ⟨by rfl, fun w' hS' => ?_⟩) hS ?_ ?_
          rotate_left
          · go_simp
            with_reducible rfl
          rotate_left
          · simp only [Act.put, List.setIfInBounds_toArray, List.set_cons_zero, List.set_cons_succ]
            rfl
          refine take_ (i := 4) (N := some 44) (v := undef) (a' := ?_) #[true, true, true, true, true, false, false, false, false, false, false, false, false, false, false, false, false, false, false, false, false, false, false, false, false, false, false] rfl rfl (by kernel_rfl) (fun _ _ _ h => h) (.inr ⟨by rfl, rfl⟩) hS ?_ ?_
          rotate_left
          · simp only [Act.put, List.setIfInBounds_toArray, List.set_cons_zero, List.set_cons_succ]
            rfl
          refine take_ (i := 5) (N := some 45) (v := undef) (a' := ?_) #[true, true, true, true, true, true, false, false, false, false, false, false, false, false, false, false, false, false, false, false, false, false, false, false, false, false, false] rfl rfl (by kernel_rfl) (fun _ _ _ h => h) (.inr ⟨by rfl, rfl⟩) hS ?_ ?_
          rotate_left
          · simp only [Act.put, List.setIfInBounds_toArray, List.set_cons_zero, List.set_cons_succ]
            rfl
          refine take_ (i := 6) (N := some 46) (v := undef) (a' := ?_) #[true, true, true, true, true, true, true, false, false, false, false, false, false, false, false, false, false, false, false, false, false, false, false, false, false, false, false] rfl rfl (by kernel_rfl) (fun _ _ _ h => h) (.inr ⟨by rfl, rfl⟩) hS ?_ ?_
          rotate_left
          · simp only [Act.put, List.setIfInBounds_toArray, List.set_cons_zero, List.set_cons_succ]
            rfl
          refine take_ (i := 7) (N := some 47) (v := undef) (a' := ?_) #[true, true, true, true, true, true, true, true, false, false, false, false, false, false, false, false, false, false, false, false, false, false, false, false, false, false, false] rfl rfl (by kernel_rfl) (fun _ _ _ h => h) (.inr ⟨by rfl, rfl⟩) hS ?_ ?_
          rotate_left
          · simp only [Act.put, List.setIfInBounds_toArray, List.set_cons_zero, List.set_cons_succ]
            rfl
          refine take_ (i := 8) (N := some 48) (v := undef) (a' := ?_) #[true, true, true, true, true, true, true, true, true, false, false, false, false, false, false, false, false, false, false, false, false, false, false, false, false, false, false] rfl rfl (by kernel_rfl) (fun _ _ _ h => h) (.inr ⟨by rfl, rfl⟩) hS ?_ ?_
          rotate_left
          · simp only [Act.put, List.setIfInBounds_toArray, List.set_cons_zero, List.set_cons_succ]
            rfl
          refine take_ (i := 9) (N := some 49) (v := undef) (a' := ?_) #[true, true, true, true, true, true, true, true, true, true, false, false, false, false, false, false, false, false, false, false, false, false, false, false, false, false, false] rfl rfl (by kernel_rfl) (fun _ _ _ h => h) (.inr ⟨by rfl, rfl⟩) hS ?_ ?_
          rotate_left
          · simp only [Act.put, List.setIfInBounds_toArray, List.set_cons_zero, List.set_cons_succ]
            rfl
          refine take_ (i := 10) (N := some 50) (v := undef) (a' := ?_) #[true, true, true, true, true, true, true, true, true, true, true, false, false, false, false, false, false, false, false, false, false, false, false, false, false, false, false] rfl rfl (by kernel_rfl) (fun _ _ _ h => h) (.inr ⟨by rfl, rfl⟩) hS ?_ ?_
          rotate_left
          · simp only [Act.put, List.setIfInBounds_toArray, List.set_cons_zero, List.set_cons_succ]
            rfl
          refine take_ (i := 11) (N := some 51) (v := undef) (a' := ?_) #[true, true, true, true, true, true, true, true, true, true, true, true, false, false, false, false, false, false, false, false, false, false, false, false, false, false, false] rfl rfl (by kernel_rfl) (fun _ _ _ h => h) (.inr ⟨by rfl, rfl⟩) hS ?_ ?_
          rotate_left
          · simp only [Act.put, List.setIfInBounds_toArray, List.set_cons_zero, List.set_cons_succ]
            rfl
          refine take_ (i := 12) (N := some 52) (v := undef) (a' := ?_) #[true, true, true, true, true, true, true, true, true, true, true, true, true, false, false, false, false, false, false, false, false, false, false, false, false, false, false] rfl rfl (by kernel_rfl) (fun _ _ _ h => h) (.inr ⟨by rfl, rfl⟩) hS ?_ ?_
          rotate_left
          · simp only [Act.put, List.setIfInBounds_toArray, List.set_cons_zero, List.set_cons_succ]
            rfl
          refine take_ (i := 13) (N := some 53) (v := undef) (a' := ?_) #[true, true, true, true, true, true, true, true, true, true, true, true, true, true, false, false, false, false, false, false, false, false, false, false, false, false, false] rfl rfl (by kernel_rfl) (fun _ _ _ h => h) (.inr ⟨by rfl, rfl⟩) hS ?_ ?_
          rotate_left
          · simp only [Act.put, List.setIfInBounds_toArray, List.set_cons_zero, List.set_cons_succ]
            rfl
          refine take_ (i := 14) (N := some 54) (v := undef) (a' := ?_) #[true, true, true, true, true, true, true, true, true, true, true, true, true, true, true, false, false, false, false, false, false, false, false, false, false, false, false] rfl rfl (by kernel_rfl) (fun _ _ _ h => h) (.inr ⟨by rfl, rfl⟩) hS ?_ ?_
          rotate_left
          · simp only [Act.put, List.setIfInBounds_toArray, List.set_cons_zero, List.set_cons_succ]
            rfl
          refine take_ (i := 15) (N := some 55) (v := undef) (a' := ?_) #[true, true, true, true, true, true, true, true, true, true, true, true, true, true, true, true, false, false, false, false, false, false, false, false, false, false, false] rfl rfl (by kernel_rfl) (fun _ _ _ h => h) (.inr ⟨by rfl, rfl⟩) hS ?_ ?_
          rotate_left
          · simp only [Act.put, List.setIfInBounds_toArray, List.set_cons_zero, List.set_cons_succ]
            rfl
          refine take_ (i := 16) (N := some 56) (v := undef) (a' := ?_) #[true, true, true, true, true, true, true, true, true, true, true, true, true, true, true, true, true, false, false, false, false, false, false, false, false, false, false] rfl rfl (by kernel_rfl) (fun _ _ _ h => h) (.inr ⟨by rfl, rfl⟩) hS ?_ ?_
          rotate_left
          · simp only [Act.put, List.setIfInBounds_toArray, List.set_cons_zero, List.set_cons_succ]
            rfl
          refine take_ (i := 17) (N := some 57) (v := undef) (a' := ?_) #[true, true, true, true, true, true, true, true, true, true, true, true, true, true, true, true, true, true, false, false, false, false, false, false, false, false, false] rfl rfl (by kernel_rfl) (fun _ _ _ h => h) (.inr ⟨by rfl, rfl⟩) hS ?_ ?_
          rotate_left
          · simp only [Act.put, List.setIfInBounds_toArray, List.set_cons_zero, List.set_cons_succ]
            rfl
          refine take_ (i := 18) (N := some 58) (v := undef) (a' := ?_) #[true, true, true, true, true, true, true, true, true, true, true, true, true, true, true, true, true, true, true, false, false, false, false, false, false, false, false] rfl rfl (by kernel_rfl) (fun _ _ _ h => h) (.inr ⟨by rfl, rfl⟩) hS ?_ ?_
          rotate_left
          · simp only [Act.put, List.setIfInBounds_toArray, List.set_cons_zero, List.set_cons_succ]
            rfl
          refine take_ (i := 19) (N := some 59) (v := undef) (a' := ?_) #[true, true, true, true, true, true, true, true, true, true, true, true, true, true, true, true, true, true, true, true, false, false, false, false, false, false, false] rfl rfl (by kernel_rfl) (fun _ _ _ h => h) (.inr ⟨by rfl, rfl⟩) hS ?_ ?_
          rotate_left
          · simp only [Act.put, List.setIfInBounds_toArray, List.set_cons_zero, List.set_cons_succ]
            rfl
          refine take_ (i := 20) (N := some 60) (v := undef) (a' := ?_) #[true, true, true, true, true, true, true, true, true, true, true, true, true, true, true, true, true, true, true, true, true, false, false, false, false, false, false] rfl rfl (by kernel_rfl) (fun _ _ _ h => h) (.inr ⟨by rfl, rfl⟩) hS ?_ ?_
          rotate_left
          · simp only [Act.put, List.setIfInBounds_toArray, List.set_cons_zero, List.set_cons_succ]
            rfl
          refine take_ (i := 21) (N := some 61) (v := undef) (a' := ?_) #[true, true, true, true, true, true, true, true, true, true, true, true, true, true, true, true, true, true, true, true, true, true, false, false, false, false, false] rfl rfl (by kernel_rfl) (fun _ _ _ h => h) (.inr ⟨by rfl, rfl⟩) hS ?_ ?_
          rotate_left
          · simp only [Act.put, List.setIfInBounds_toArray, List.set_cons_zero, List.set_cons_succ]
            rfl
          refine take_ (i := 22) (N := some 62) (v := ?_) (a' := ?_) #[true, true, true, true, true, true, true, true, true, true, true, true, true, true, true, true, true, true, true, true, true, true, true, false, false, false, false] rfl rfl (by kernel_rfl) (fun _ _ _ h => h) (.inl ⟨by rfl, fun w' hS' => ?_⟩) hS ?_ ?_
          rotate_left
          · go_simp
            with_reducible rfl
          rotate_left
          · simp only [Act.put, List.setIfInBounds_toArray, List.set_cons_zero, List.set_cons_succ]
            rfl
          refine take_ (i := 23) (N := some 63) (v := ?_) (a' := ?_) #[true, true, true, true, true, true, true, true, true, true, true, true, true, true, true, true, true, true, true, true, true, true, true, true, false, false, false] rfl rfl (by kernel_rfl) (fun _ _ _ h => h) (.inl ⟨by rfl, fun w' hS' => ?_⟩) hS ?_ ?_
          rotate_left
          · go_simp
            with_reducible rfl
          rotate_left
          · simp only [Act.put, List.setIfInBounds_toArray, List.set_cons_zero, List.set_cons_succ]
            rfl
          refine wpAnyLast_all (rs := [24]) (by kernel_rfl) (by simp) ?_
          intro i hi'
          obtain rfl := List.mem_singleton.1 hi'
          refine wpOp_step rfl (fun K' hK' => ?_)
          go_simp
          go_at_call 7
          with_reducible refine (alive_calls _ (hK2.below hS)).mono ?_
          rintro e w9 ⟨rfl, hb9⟩
          have hT := hS.trans (hb9.mono hS.size)
          refine hK' _ _ ⟨fun _ _ => hT, ?_⟩
          clear hK' K' hS
          simp only [Act.put, List.setIfInBounds_toArray, List.set_cons_zero, List.set_cons_succ]
          have hS := hT
          clear hT
          refine take_ (i := 25) (N := some 65) (v := ?_) (a' := ?_) #[true, true, true, true, true, true, true, true, true, true, true, true, true, true, true, true, true, true, true, true, true, true, true, true, true, true, false] rfl rfl (by kernel_rfl) (fun _ _ _ h => h) (.inl ⟨by rfl, fun w' hS' => ?_⟩) hS ?_ ?_
          rotate_left
          · go_simp
            with_reducible rfl
          rotate_left
          · simp only [Act.put, List.setIfInBounds_toArray, List.set_cons_zero, List.set_cons_succ]
            rfl
          refine wpAnyLast_all (rs := [26]) (by kernel_rfl) (by simp) ?_
          intro i hi'
          obtain rfl := List.mem_singleton.1 hi'
          refine wpOp_step rfl (fun K' hK' => ?_)
          go_simp
          refine hK' _ _ ⟨fun _ h => h, ?_⟩
          clear hK' K'
          simp only [Act.put, List.setIfInBounds_toArray, List.set_cons_zero, List.set_cons_succ]
          refine wpAnyLast_done (by kernel_rfl) ?_ _
          go_wp2
          go_ret
          exact ⟨rfl, B2.trans (hS.mono B2.size)⟩
        · obtain ⟨p1, p2⟩ := nv_ne0 hpe
          refine start_ (n := 27) (S := fun W' => Below w2.heap.size w2 W') (ds := []) (#[false, false, false, false, false, false, false, false, false, false, false, false, false, false, false, false, false, false, false, false, false, false, false, false, false, false, false]) (by kernel_rfl) rfl rfl (below_drew (Below.refl _ _)) (fun hS => ?_)
          generalize w2.drew = wa at *
          refine take_ (i := 0) (N := some 40) (v := ?_) (a' := ?_) #[true, false, false, false, false, false, false, false, false, false, false, false, false, false, false, false, false, false, false, false, false, false, false, false, false, false, false] rfl rfl (by kernel_rfl) (fun _ _ _ h => h) (.inl ⟨by rfl, fun w' hS' => ?_⟩) hS ?_ ?_
          rotate_left
          · go_simp
            with_reducible rfl
          rotate_left
          · simp only [Act.put, List.setIfInBounds_toArray, List.set_cons_zero, List.set_cons_succ]
            rfl
          refine take_ (i := 1) (N := some 41) (v := ?_) (a' := ?_) #[true, true, false, false, false, false, false, false, false, false, false, false, false, false, false, false, false, false, false, false, false, false, false, false, false, false, false] rfl rfl (by kernel_rfl) (fun _ _ _ h => h) (.inl ⟨by rfl, fun w' hS' => ?_⟩) hS ?_ ?_
          rotate_left
          · have t5 := fun i => blk_cell ((hS'.block _ hcl).trans hc2) i
            go_simp
            with_reducible rfl
          rotate_left
          · simp only [Act.put, List.setIfInBounds_toArray, List.set_cons_zero, List.set_cons_succ]
            rfl
          refine take_ (i := 2) (N := some 42) (v := ?_) (a' := ?_) #[true, true, true, false, false, false, false, false, false, false, false, false, false, false, false, false, false, false, false, false, false, false, false, false, false, false, false] rfl rfl (by kernel_rfl) (fun _ _ _ h => h) (.inl ⟨by rfl, fun w' hS' => ?_⟩) hS ?_ ?_
          rotate_left
          · go_simp
            with_reducible rfl
          rotate_left
          · simp only [Act.put, List.setIfInBounds_toArray, List.set_cons_zero, List.set_cons_succ]
            rfl
          refine take_ (i := 3) (N := some 43) (v := ?_) (a' := ?_) #[true, true, true, true, false, false, false, false, false, false, false, false, false, false, false, false, false, false, false, false, false, false, false, false, false, false, false] rfl rfl (by kernel_rfl) (fun _ _ _ h => h) (.inl ⟨by rfl, fun w' hS' => ?_⟩) hS ?_ ?_
          rotate_left
          · go_simp
            with_reducible rfl
          rotate_left
          · simp only [Act.put, List.setIfInBounds_toArray, List.set_cons_zero, List.set_cons_succ]
            rfl
          refine take_ (i := 4) (N := some 44) (v := ?_) (a' := ?_) #[true, true, true, true, true, false, false, false, false, false, false, false, false, false, false, false, false, false, false, false, false, false, false, false, false, false, false] rfl rfl (by kernel_rfl) (fun _ _ _ h => h) (.inl ⟨by rfl, fun w' hS' => ?_⟩) hS ?_ ?_
          rotate_left
          · go_simp
            with_reducible rfl
          rotate_left
          · simp only [Act.put, List.setIfInBounds_toArray, List.set_cons_zero, List.set_cons_succ]
            rfl
          refine take_ (i := 6) (N := some 46) (v := ?_) (a' := ?_) #[true, true, true, true, true, false, true, false, false, false, false, false, false, false, false, false, false, false, false, false, false, false, false, false, false, false, false] rfl rfl (by kernel_rfl) (fun _ _ _ h => h) (.inl ⟨by rfl, fun w' hS' => ?_⟩) hS ?_ ?_
          rotate_left
          · go_simp
            with_reducible rfl
          rotate_left
          · simp only [Act.put, List.setIfInBounds_toArray, List.set_cons_zero, List.set_cons_succ]
            rfl
          refine take_ (i := 7) (N := some 47) (v := ?_) (a' := ?_) #[true, true, true, true, true, false, true, true, false, false, false, false, false, false, false, false, false, false, false, false, false, false, false, false, false, false, false] rfl rfl (by kernel_rfl) (fun _ _ _ h => h) (.inl ⟨by rfl, fun w' hS' => ?_⟩) hS ?_ ?_
          rotate_left
          · have t5 := fun i => blk_cell ((hS'.block _ hcl).trans hc2) i
            go_simp
            with_reducible rfl
          rotate_left
          · simp only [Act.put, List.setIfInBounds_toArray, List.set_cons_zero, List.set_cons_succ]
            rfl
          refine take_ (i := 8) (N := some 48) (v := ?_) (a' := ?_) #[true, true, true, true, true, false, true, true, true, false, false, false, false, false, false, false, false, false, false, false, false, false, false, false, false, false, false] rfl rfl (by kernel_rfl) (fun _ _ _ h => h) (.inl ⟨by rfl, fun w' hS' => ?_⟩) hS ?_ ?_
          rotate_left
          · go_simp
            with_reducible rfl
          rotate_left
          · simp only [Act.put, List.setIfInBounds_toArray, List.set_cons_zero, List.set_cons_succ]
            rfl
          refine take_ (i := 11) (N := some 51) (v := ?_) (a' := ?_) #[true, true, true, true, true, false, true, true, true, false, false, true, false, false, false, false, false, false, false, false, false, false, false, false, false, false, false] rfl rfl (by kernel_rfl) (fun _ _ _ h => h) (.inl ⟨by rfl, fun w' hS' => ?_⟩) hS ?_ ?_
          rotate_left
          · go_simp
            with_reducible rfl
          rotate_left
          · simp only [Act.put, List.setIfInBounds_toArray, List.set_cons_zero, List.set_cons_succ]
            rfl
          refine take_ (i := 14) (N := some 54) (v := ?_) (a' := ?_) #[true, true, true, true, true, false, true, true, true, false, false, true, false, false, true, false, false, false, false, false, false, false, false, false, false, false, false] rfl rfl (by kernel_rfl) (fun _ _ _ h => h) (.inl ⟨by rfl, fun w' hS' => ?_⟩) hS ?_ ?_
          rotate_left
          · go_simp
            with_reducible rfl
          rotate_left
          · simp only [Act.put, List.setIfInBounds_toArray, List.set_cons_zero, List.set_cons_succ]
            rfl
          refine take_ (i := 17) (N := some 57) (v := ?_) (a' := ?_) #[true, true, true, true, true, false, true, true, true, false, false, true, false, false, true, false, false, true, false, false, false, false, false, false, false, false, false] rfl rfl (by kernel_rfl) (fun _ _ _ h => h) (.inl ⟨by rfl, fun w' hS' => ?_⟩) hS ?_ ?_
          rotate_left
          · go_simp
            with_reducible rfl
          rotate_left
          · simp only [Act.put, List.setIfInBounds_toArray, List.set_cons_zero, List.set_cons_succ]
            rfl
          refine wpAnyLast_all (rs := [5]) (by kernel_rfl) (by simp) ?_
          intro i hi'
          obtain rfl := List.mem_singleton.1 hi'
          refine wpOp_step rfl (fun K' hK' => ?_)
          go_simp
          go_at_call 13
          with_reducible refine (hPe _ (hp2.below hS)).mono ?_
          rintro e w6 ⟨rfl, hb6⟩
          have hT := hS.trans (hb6.mono hS.size)
          refine hK' _ _ ⟨fun _ _ => hT, ?_⟩
          clear hK' K' hS
          simp only [Act.put, List.setIfInBounds_toArray, List.set_cons_zero, List.set_cons_succ]
          have hS := hT
          clear hT
          refine wpAnyLast_all (rs := [9]) (by kernel_rfl) (by simp) ?_
          intro i hi'
          obtain rfl := List.mem_singleton.1 hi'
          refine wpOp_step rfl (fun K' hK' => ?_)
          go_simp
          go_at_call 13
          with_reducible refine (hPe _ (hp2.below hS)).mono ?_
          rintro e w6 ⟨rfl, hb6⟩
          have hT := hS.trans (hb6.mono hS.size)
          refine hK' _ _ ⟨fun _ _ => hT, ?_⟩
          clear hK' K' hS
          simp only [Act.put, List.setIfInBounds_toArray, List.set_cons_zero, List.set_cons_succ]
          have hS := hT
          clear hT
          refine take_ (i := 10) (N := some 50) (v := ?_) (a' := ?_) #[true, true, true, true, true, true, true, true, true, true, true, true, false, false, true, false, false, true, false, false, false, false, false, false, false, false, false] rfl rfl (by kernel_rfl) (fun _ _ _ h => h) (.inl ⟨by rfl, fun w' hS' => ?_⟩) hS ?_ ?_
          rotate_left
          · go_simp
            with_reducible rfl
          rotate_left
          · simp only [Act.put, List.setIfInBounds_toArray, List.set_cons_zero, List.set_cons_succ]
            rfl
          refine wpAnyLast_all (rs := [12]) (by kernel_rfl) (by simp) ?_
          intro i hi'
          obtain rfl := List.mem_singleton.1 hi'
          refine wpOp_step rfl (fun K' hK' => ?_)
          go_simp
          go_at_call 13
          with_reducible refine (hPe _ (hp2.below hS)).mono ?_
          rintro e w6 ⟨rfl, hb6⟩
          have hT := hS.trans (hb6.mono hS.size)
          refine hK' _ _ ⟨fun _ _ => hT, ?_⟩
          clear hK' K' hS
          simp only [Act.put, List.setIfInBounds_toArray, List.set_cons_zero, List.set_cons_succ]
          have hS := hT
          clear hT
          refine take_ (i := 13) (N := some 53) (v := ?_) (a' := ?_) #[true, true, true, true, true, true, true, true, true, true, true, true, true, true, true, false, false, true, false, false, false, false, false, false, false, false, false] rfl rfl (by kernel_rfl) (fun _ _ _ h => h) (.inl ⟨by rfl, fun w' hS' => ?_⟩) hS ?_ ?_
          rotate_left
          · go_simp
            with_reducible rfl
          rotate_left
          · simp only [Act.put, List.setIfInBounds_toArray, List.set_cons_zero, List.set_cons_succ]
            rfl
          refine wpAnyLast_all (rs := [15]) (by kernel_rfl) (by simp) ?_
          intro i hi'
          obtain rfl := List.mem_singleton.1 hi'
          refine wpOp_step rfl (fun K' hK' => ?_)
          go_simp
          go_at_call 13
          with_reducible refine (hPe _ (hp2.below hS)).mono ?_
          rintro e w6 ⟨rfl, hb6⟩
          have hT := hS.trans (hb6.mono hS.size)
          refine hK' _ _ ⟨fun _ _ => hT, ?_⟩
          clear hK' K' hS
          simp only [Act.put, List.setIfInBounds_toArray, List.set_cons_zero, List.set_cons_succ]
          have hS := hT
          clear hT
          refine take_ (i := 16) (N := some 56) (v := ?_) (a' := ?_) #[true, true, true, true, true, true, true, true, true, true, true, true, true, true, true, true, true, true, false, false, false, false, false, false, false, false, false] rfl rfl (by kernel_rfl) (fun _ _ _ h => h) (.inl ⟨by rfl, fun w' hS' => ?_⟩) hS ?_ ?_
          rotate_left
          · go_simp
            with_reducible rfl
          rotate_left
          · simp only [Act.put, List.setIfInBounds_toArray, List.set_cons_zero, List.set_cons_succ]
            rfl
          refine wpAnyLast_all (rs := [18]) (by kernel_rfl) (by simp) ?_
          intro i hi'
          obtain rfl := List.mem_singleton.1 hi'
          refine wpOp_step rfl (fun K' hK' => ?_)
          go_simp
          go_at_call 13
          with_reducible refine (hPe _ (hp2.below hS)).mono ?_
          rintro e w6 ⟨rfl, hb6⟩
          have hT := hS.trans (hb6.mono hS.size)
          refine hK' _ _ ⟨fun _ _ => hT, ?_⟩
          clear hK' K' hS
          simp only [Act.put, List.setIfInBounds_toArray, List.set_cons_zero, List.set_cons_succ]
          have hS := hT
          clear hT
          refine take_ (i := 19) (N := some 59) (v := ?_) (a' := ?_) #[true, true, true, true, true, true, true, true, true, true, true, true, true, true, true, true, true, true, true, true, false, false, false, false, false, false, false] rfl rfl (by kernel_rfl) (fun _ _ _ h => h) (.inl ⟨by rfl, fun w' hS' => ?_⟩) hS ?_ ?_
          rotate_left
          · go_simp
            with_reducible rfl
          rotate_left
          · simp only [Act.put, List.setIfInBounds_toArray, List.set_cons_zero, List.set_cons_succ]
            rfl
          refine take_ (i := 20) (N := some 60) (v := ?_) (a' := ?_) #[true, true, true, true, true, true, true, true, true, true, true, true, true, true, true, true, true, true, true, true, true, false, false, false, false, false, false] rfl rfl (by kernel_rfl) (fun _ _ _ h => h) (.inl ⟨by rfl, fun w' hS' => ?_⟩) hS ?_ ?_
          rotate_left
          · go_simp
            with_reducible rfl
          rotate_left
          · simp only [Act.put, List.setIfInBounds_toArray, List.set_cons_zero, List.set_cons_succ]
            rfl
          refine take_ (i := 21) (N := some 61) (v := ?_) (a' := ?_) #[true, true, true, true, true, true, true, true, true, true, true, true, true, true, true, true, true, true, true, true, true, true, false, false, false, false, false] rfl rfl (by kernel_rfl) (fun _ _ _ h => h) (.inl ⟨by rfl, fun w' hS' => ?_⟩) hS ?_ ?_
          rotate_left
          · go_simp
            with_reducible rfl
          rotate_left
          · simp only [Act.put, List.setIfInBounds_toArray, List.set_cons_zero, List.set_cons_succ]
            rfl
          refine take_ (i := 22) (N := some 62) (v := ?_) (a' := ?_) #[true, true, true, true, true, true, true, true, true, true, true, true, true, true, true, true, true, true, true, true, true, true, true, false, false, false, false] rfl rfl (by kernel_rfl) (fun _ _ _ h => h) (.inl ⟨by rfl, fun w' hS' => ?_⟩) hS ?_ ?_
          rotate_left
          · go_simp
            with_reducible rfl
          rotate_left
          · simp only [Act.put, List.setIfInBounds_toArray, List.set_cons_zero, List.set_cons_succ]
            rfl
          refine take_ (i := 23) (N := some 63) (v := ?_) (a' := ?_) #[true, true, true, true, true, true, true, true, true, true, true, true, true, true, true, true, true, true, true, true, true, true, true, true, false, false, false] rfl rfl (by kernel_rfl) (fun _ _ _ h => h) (.inl ⟨by rfl, fun w' hS' => ?_⟩) hS ?_ ?_
          rotate_left
          · go_simp
            with_reducible rfl
          rotate_left
          · simp only [Act.put, List.setIfInBounds_toArray, List.set_cons_zero, List.set_cons_succ]
            rfl
          refine wpAnyLast_all (rs := [24]) (by kernel_rfl) (by simp) ?_
          intro i hi'
          obtain rfl := List.mem_singleton.1 hi'
          refine wpOp_step rfl (fun K' hK' => ?_)
          go_simp
          go_at_call 7
          with_reducible refine (alive_calls _ (hK2.below hS)).mono ?_
          rintro e w9 ⟨rfl, hb9⟩
          have hT := hS.trans (hb9.mono hS.size)
          refine hK' _ _ ⟨fun _ _ => hT, ?_⟩
          clear hK' K' hS
          simp only [Act.put, List.setIfInBounds_toArray, List.set_cons_zero, List.set_cons_succ]
          have hS := hT
          clear hT
          refine take_ (i := 25) (N := some 65) (v := ?_) (a' := ?_) #[true, true, true, true, true, true, true, true, true, true, true, true, true, true, true, true, true, true, true, true, true, true, true, true, true, true, false] rfl rfl (by kernel_rfl) (fun _ _ _ h => h) (.inl ⟨by rfl, fun w' hS' => ?_⟩) hS ?_ ?_
          rotate_left
          · go_simp
            with_reducible rfl
          rotate_left
          · simp only [Act.put, List.setIfInBounds_toArray, List.set_cons_zero, List.set_cons_succ]
            rfl
          refine wpAnyLast_all (rs := [26]) (by kernel_rfl) (by simp) ?_
          intro i hi'
          obtain rfl := List.mem_singleton.1 hi'
          refine wpOp_step rfl (fun K' hK' => ?_)
          go_simp
          refine hK' _ _ ⟨fun _ h => h, ?_⟩
          clear hK' K'
          simp only [Act.put, List.setIfInBounds_toArray, List.set_cons_zero, List.set_cons_succ]
          refine wpAnyLast_done (by kernel_rfl) ?_ _
          go_wp2
          go_ret
          exact ⟨rfl, B2.trans (hS.mono B2.size)⟩
    · have q5 : ((k : Int) == 2) = false := by simp; omega
      rcases hz with rfl | rfl
      · have hM := fun W h1 h2 => mended3 m x xa xm xc kn W h1 h2 (by omega) (by omega)
        have hml := mend_len 3 m x
        generalize mendL 3 m x = m' at *
        go_wp2_with (first
          | (go_at_call 14; go_loud ((with_reducible refine (hM _ hr2 hm2).mono ?_); rintro e w3 ⟨v3, rfl, ⟨ya, yc, rfl, hr3⟩, hb3⟩; have B3 := B2.trans (hb3.mono B2.size); have hp3 := hp2.below hb3; have hc3 := (hb3.block _ hcl).trans hc2)))
        go_roundg (2 - (k + 1))
        case measure => have := A.out; omega
        case rel =>
          have g0 := hs0.out
          have g1 := hs1.out
          exact ⟨k + 1, s', m', ya, yc, by omega, rfl, by go_num, rfl, hr3, by omega, by omega, by omega, hph2, hp3, K01.out.1, K01.out.2, B3, hc3⟩
      · have hM := fun W h1 h2 => mended4 m x xa xm xc kn W h1 h2 (by omega) (by omega)
        have hml := mend_len 4 m x
        generalize mendL 4 m x = m' at *
        go_wp2_with (first
          | (go_at_call 14; go_loud ((with_reducible refine (hM _ hr2 hm2).mono ?_); rintro e w3 ⟨v3, rfl, ⟨ya, yc, rfl, hr3⟩, hb3⟩; have B3 := B2.trans (hb3.mono B2.size); have hp3 := hp2.below hb3; have hc3 := (hb3.block _ hcl).trans hc2)))
        go_roundg (2 - (k + 1))
        case measure => have := A.out; omega
        case rel =>
          have g0 := hs0.out
          have g1 := hs1.out
          exact ⟨k + 1, s', m', ya, yc, by omega, rfl, by go_num, rfl, hr3, by omega, by omega, by omega, hph2, hp3, K01.out.1, K01.out.2, B3, hc3⟩
theorem meets_walk (c : Conf) (l : List Opt) (a : Option Addr) (ca : Nat) (w : World) (hl : Row w a ca l) (hnl : a = none → ca = 0 ∧ l = []) (zl : ∀ o ∈ l, o.d.size ≤ 140737488355328) (hK : K w) :
    Calls Tryd.prog 4 #[.agg c.cells, .slice a l.length ca] w fun e w' => e = .returned (.bool true) ∧ Below w.heap.size w w' := by
  cases h : longB l with
  | true => exact meets_short c l a ca w hl zl h hK
  | false =>
    by_cases hm : 1 ≤ c.max ∧ c.max ≤ 10
    · exact meets_good c l a ca w hl hnl zl h hm hK
    · exact meets_bad c l a ca w hl zl h hm hK
end Go.Proofs.YtlcckkdkcbelhaaDoor
