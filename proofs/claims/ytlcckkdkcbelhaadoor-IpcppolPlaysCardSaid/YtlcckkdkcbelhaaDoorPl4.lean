/-
  Layer 15 (ipcppol): the law IpcppolPlays, walked.
-/
import Derived.Test.YtlcckkdkcbelhaaDoorRf4
import Derived.Test.YtlcckkdkcbelhaaDoorAlive
set_option linter.unusedVariables false
set_option linter.unusedSimpArgs false
namespace Go.Proofs.YtlcckkdkcbelhaaDoor
open Go.RowKit Go.Proofs.YtlcckkdkcbelhaaDoorW.PrintWords Go.Proofs.YtlcckkdkcbelhaaDoorW.PrintLast

section
variable {P : Program} {ops : Array Oper} {Q : Exit → Act → World → Prop} {md : Region.Mode}
/-- From an operation on another predicate is kept: the elder one is asked of none that is to come. -/
theorem sw_go {S1 S2 : World → Prop} {ds1 ds2 : List Nat} : ∀ (fuel : Nat) (l : Array Bool) (a : Act) (w : World), (∀ i, l.getD i true = false → i ∈ ds1) → wpAnyLast P md ops Q S2 ds2 fuel l a w → wpAnyLast P md ops Q S1 ds1 fuel l a w
  | 0, l, a, w, _, h => h
  | fuel + 1, l, a, w, hl, h => ⟨h.1, fun i hi => wpOp_mono (fun a' w' h' => ⟨fun hn => absurd (hl i (mem_ready.1 hi).1) hn, sw_go fuel _ a' w' (fun j hj => by
      by_cases e : i = j
      · subst e; exact hl i (mem_ready.1 hi).1
      · refine hl j ?_
        simpa [Array.getElem?_setIfInBounds_ne e] using hj) h'.2⟩) (h.2 i hi)⟩
theorem sw_ {S1 : World → Prop} (S2 : World → Prop) {ds1 : List Nat} {fuel : Nat} {l : Array Bool} {a : Act} {w : World} (hl : ((List.range l.size).all fun i => l.getD i true || ds1.contains i) = true)
    (h : wpAnyLast P md ops Q S2 [] fuel l a w) : wpAnyLast P md ops Q S1 ds1 fuel l a w := by
  refine sw_go fuel l a w (fun i hi => ?_) h
  have hlt : i < l.size := by
    by_cases hlt : i < l.size
    · exact hlt
    · have e : l.getD i true = true := by simp [Array.getD, hlt]
      rw [e] at hi; cases hi
  have := List.all_eq_true.1 hl i (List.mem_range.2 hlt)
  rw [hi] at this
  simpa using this
end
attribute [local go_sem high] eqA36
theorem plays_alive (W w : World) (hK : K w) (hB : Below w.heap.size w W) : Calls Tryd.prog 7 #[] W fun e w' => e = .returned (.bool true) ∧ Below w.heap.size w w' :=
  (alive_calls W (hK.below hB)).mono fun e w' ⟨he, hb⟩ => ⟨he, hB.trans (hb.mono hB.size)⟩
def A77 : Opt := ⟨3, ⟨#[0, 0, 0, 77]⟩⟩
set_option maxHeartbeats 64000000 in
set_option maxRecDepth 100000 in
theorem plays_walk (c : Conf) (len : Nat) (f : Nat → Stp) (a : Option Addr) (ca : Nat) (w : World) (hst : Steps w a ca len f) (hK : K w) :
    Calls Tryd.prog 6 #[.agg c.cells, .slice a len ca] w fun e w' => e = .returned (.bool true) ∧ Below w.heap.size w w' := by
  have hu36 := Tryd.underlying36
  have c0 := Lib.hid hst.cap
  rw [show c.cells = #[.int .u32 (nv c.addr), .int .u32 (nv c.peer), .int .u32 (nv c.dns1), .int .u32 (nv c.dns2), .bool c.want, .int .i64 c.max] from rfl]
  have hB := (Below.refl w.heap.size w).alloc (Nat.le_refl _) (.cells #[.int .u32 (nv c.addr), .int .u32 (nv c.peer), .int .u32 (nv c.dns1), .int .u32 (nv c.dns2), .bool c.want, .int .i64 c.max] 24)
  have hcb := alloc_new w _ (.cells #[.int .u32 (nv c.addr), .int .u32 (nv c.peer), .int .u32 (nv c.dns1), .int .u32 (nv c.dns2), .bool c.want, .int .i64 c.max] 24) rfl
  have hH := heavy_calls len f a ca _ (hst.below hB)
  have hgt : w.heap.size < (w.alloc (.cells #[.int .u32 (nv c.addr), .int .u32 (nv c.peer), .int .u32 (nv c.dns1), .int .u32 (nv c.dns2), .bool c.want, .int .i64 c.max] 24)).heap.size := by simp
  go_enter Tryd.func6, Tryd.ntmps6
  go_upto_region 1 with fail
  generalize w.alloc (.cells #[.int .u32 (nv c.addr), .int .u32 (nv c.peer), .int .u32 (nv c.dns1), .int .u32 (nv c.dns2), .bool c.want, .int .i64 c.max] 24) = wa at *
  go_upto_if 14 with (first
    | (go_at_call 20; with_reducible refine hH.mono ?_; rintro e w1 ⟨hvb, rfl, hw, hvs⟩; obtain rfl := hw.symm))
  cases hvb with
  | true =>
    go_wp2_with (first
      | (go_at_call 7; with_reducible refine (plays_alive _ w hK hB).mono ?_; rintro e w2 ⟨rfl, hb2⟩))
    go_ret
    exact ⟨rfl, hb2⟩
  | false =>
    obtain ⟨l80, l70⟩ := hvs rfl
    replace l70 := Lib.hid l70
    clear hH hvs
    go_upto_region 7 with (first
      | (go_at_call 10; with_reducible refine (nil_judge _).mono ?_; rintro e w1 ⟨rfl, hb1⟩
         have B1 := hB.trans (hb1.mono hB.size)
         have c1 := (hb1.block _ hgt).trans hcb
         have g1 := Nat.lt_of_lt_of_le hgt hb1.size)
      | (go_at_call 15; with_reducible refine (nil_request _).mono ?_; rintro e w2 ⟨rfl, hb2⟩
         have B2 := B1.trans (hb2.mono B1.size)
         have c2 := (hb2.block _ g1).trans c1
         have g2 := Nat.lt_of_lt_of_le g1 hb2.size)
      | (go_at_call 16; with_reducible refine (nil_acked _).mono ?_; rintro e w3 ⟨rfl, hb3⟩
         have B3 := B2.trans (hb3.mono B2.size)
         have c3 := (hb3.block _ g2).trans c2
         have g3 := Nat.lt_of_lt_of_le g2 hb3.size)
      | (go_at_call 17; with_reducible refine (nil_naked _ (hK.below B3)).mono ?_; rintro e w4 ⟨rfl, hb4⟩
         have B4 := B3.trans (hb4.mono B3.size)
         have c4 := (hb4.block _ g3).trans c3
         have g4 := Nat.lt_of_lt_of_le g3 hb4.size)
      | (go_at_call 18; with_reducible refine (nil_rejected _).mono ?_; rintro e w5 ⟨rfl, hb5⟩
         have B5 := B4.trans (hb5.mono B4.size)
         have c5 := (hb5.block _ g4).trans c4
         have g5 := Nat.lt_of_lt_of_le g4 hb5.size)
      | (go_at_call 21; with_reducible refine (nil_wish _).mono ?_; rintro e w6 ⟨rfl, hb6⟩
         have B6 := B5.trans (hb6.mono B5.size)
         have c6 := (hb6.block _ g5).trans c5
         have g6 := Nat.lt_of_lt_of_le g5 hb6.size)
      | (go_at_call 19; with_reducible refine (nil_mine _).mono ?_; rintro e w7 ⟨rfl, hb7⟩
         have B7 := B6.trans (hb7.mono B6.size)
         have c7 := (hb7.block _ g6).trans c6
         have g7 := Nat.lt_of_lt_of_le g6 hb7.size)
      | (go_at_call 13; with_reducible refine (nil_peer _).mono ?_; rintro e w8 ⟨rfl, hb8⟩
         have B8 := B7.trans (hb8.mono B7.size)
         have c8 := (hb8.block _ g7).trans c7
         have g8 := Nat.lt_of_lt_of_le g7 hb8.size)
      | (go_at_call 22; with_reducible refine (nil_reset _).mono ?_; rintro e w9 ⟨rfl, hb9⟩
         have B9 := B8.trans (hb9.mono B8.size)
         have c9 := (hb9.block _ g8).trans c8
         have g9 := Nat.lt_of_lt_of_le g8 hb9.size)
      | (go_at_call 23; with_reducible refine (nil_copy _).mono ?_; rintro e w10 ⟨rfl, hb10⟩
         have B10 := B9.trans (hb10.mono B9.size)
         have c10 := (hb10.block _ g9).trans c9
         have g10 := Nat.lt_of_lt_of_le g9 hb10.size))
    have x0 := fun i => blk_cell c10 i
    clear hB hcb hgt B1 c1 g1 hb1 B2 c2 g2 hb2 B3 c3 g3 hb3 B4 c4 g4 hb4 B5 c5 g5 hb5 B6 c6 g6 hb6 B7 c7 g7 hb7 B8 c8 g8 hb8 B9 c9 g9 hb9
    by_cases hm : 1 ≤ c.max ∧ c.max ≤ 10
    · have hN : ∀ W : World, Calls Tryd.prog 8 #[.agg #[.int .u32 (nv c.addr), .int .u32 (nv c.peer), .int .u32 (nv c.dns1), .int .u32 (nv c.dns2), .bool c.want, .int .i64 c.max]] W fun e w' => e = .returned (.tuple #[.pointer (some ⟨W.heap.size + 1, 0, none⟩), .int .i64 0]) ∧ Below W.heap.size W w' ∧ IsPol w' (W.heap.size + 1) (resetP c) := fun W => new_good c hm.1 hm.2 W
      have hM : ∀ W : World, Calls Tryd.prog 24 #[.agg #[.int .u32 (nv c.addr), .int .u32 (nv c.peer), .int .u32 (nv c.dns1), .int .u32 (nv c.dns2), .bool c.want, .int .i64 c.max]] W fun e w' => e = .returned (.bool true) ∧ Below W.heap.size W w' := fun W => by
        have := rmay_calls c W
        rw [decide_eq_true hm] at this
        exact this
      have hRN : ∀ W : World, Calls Tryd.prog 25 #[.agg #[.int .u32 (nv c.addr), .int .u32 (nv c.peer), .int .u32 (nv c.dns1), .int .u32 (nv c.dns2), .bool c.want, .int .i64 c.max]] W fun e w' => ∃ b, e = .returned (.pointer (some ⟨b, 0, none⟩)) ∧ W.heap.size ≤ b ∧ IsRef w' b (resetP c) ∧ Below W.heap.size W w' := fun W => rnew_calls c W
      have HM := Lib.hid hm
      clear hm
      go_upto_region 13 with (first
        | (go_at_call 8; with_reducible refine (hN _).mono ?_; rintro e w11 ⟨rfl, hb11, i11⟩
           have B11 := B10.trans (hb11.mono B10.size)
           have hpn : w.heap.size < w10.heap.size + 1 := by have := B10.size; omega
           have c11 := (hb11.block _ g10).trans c10
           have g11 := Nat.lt_of_lt_of_le g10 hb11.size
           have x1 := fun i => blk_cell c11 i)
        | (go_at_call 24; with_reducible refine (hM _).mono ?_; rintro e w12 ⟨rfl, hb12⟩
           have B12 := B11.trans (hb12.mono B11.size)
           have i12 := i11.below hb12
           have c12 := (hb12.block _ g11).trans c11
           have g12 := Nat.lt_of_lt_of_le g11 hb12.size
           have x2 := fun i => blk_cell c12 i)
        | (go_at_call 25; with_reducible refine (hRN _).mono ?_; rintro e w13 ⟨rb, rfl, hrb, r13, hb13⟩
           have B13 := B12.trans (hb13.mono B12.size)
           have i13 := i12.below hb13
           have c13 := (hb13.block _ g12).trans c12
           have hrn : w.heap.size < rb := by omega
           have hne : w10.heap.size + 1 ≠ rb := by have := i12.lt; omega))
      clear B10 c10 g10 x0 hb11 i11 B11 c11 g11 x1 hb12 B12 i12 c12 g12 x2 hb13 hrb hN hM
      generalize w10.heap.size + 1 = pb at *
      have hs0 := Lib.hid (inv_reset c)
      generalize hS0 : resetP c = s0 at *
      have HS0 := Lib.hid hS0; clear hS0
      go_wp2
      go_loopg [8, 10, 11] len (fun q vp vr i wr => ∃ (j pb rb : Nat) (s : Pol), j ≤ len ∧ q = len - j ∧ i = .int .i64 (j : Int) ∧ vp = .pointer (some ⟨pb, 0, none⟩) ∧ vr = .pointer (some ⟨rb, 0, none⟩) ∧ IsPol wr pb s ∧ IsRef wr rb s ∧ Hid (Inv c s) ∧ pb ≠ rb ∧ w.heap.size < pb ∧ w.heap.size < rb ∧
        Below w.heap.size w wr ∧ wr.heap[w.heap.size]? = some (.cells #[.int .u32 (nv c.addr), .int .u32 (nv c.peer), .int .u32 (nv c.dns1), .int .u32 (nv c.dns2), .bool c.want, .int .i64 c.max] 24 (0, 0)))
      case atStart => exact ⟨0, pb, rb, s0, by omega, rfl, rfl, rfl, rfl, i13, r13, hs0, hne, hpn, hrn, B13, c13⟩
      case round =>
        clear i13 r13 hne hpn hrn B13 c13
        obtain ⟨j, pb, rb, s, hj, hq, rfl, rfl, rfl, ip, ir, hI, hne, hp0, hr0, hB, hcb⟩ := hrel
        have A := Lib.hid hq; clear hq
        by_cases hlt : j < len
        · have q1 : decide ((j : Int) < (len : Int)) = true := by simp; omega
          obtain ⟨x, y, d, rfl, y0, y1, y2, y3, yr, yn⟩ := (hst.below hB).at_ j hlt
          have hjc : j ≤ ca := by have := c0.out; omega
          have hsat : ∀ W, Below w.heap.size w W → W.cell? (x.add (j * 4)) = some (.int .i64 (f j).doo) ∧ W.cell? ⟨(x.add (j * 4)).block, (x.add (j * 4)).off + 1, none⟩ = some (.slice y (f j).l.length d) ∧ W.cell? ⟨(x.add (j * 4)).block, (x.add (j * 4)).off + 2, none⟩ = some (.bool (f j).own) ∧ W.cell? ⟨(x.add (j * 4)).block, (x.add (j * 4)).off + 3, none⟩ = some (.int .u8 (tv (f j).n)) ∧ Row W y d (f j).l := fun W hW => by
            obtain ⟨x', y', d', ex, z0, z1, z2, z3, zr, zn⟩ := (hst.below hW).at_ j hlt
            obtain rfl := Option.some.inj ex
            obtain ⟨x9, y9, d9, ex9, w0, w1', w2', w3', wr9, _⟩ := hst.at_ j hlt
            obtain rfl := Option.some.inj ex9
            have e1 := (hW.cell (cell_lt w1')).trans w1'
            have e2 := (hB.cell (cell_lt w1')).trans w1'
            rw [e2] at y1
            rw [e1] at z1
            cases y1
            cases z1
            exact ⟨z0, e1, z2, z3, wr9.below hW⟩
          have hl70 : (f j).l.length ≤ 70 := l70.out j hlt
          generalize f j = X at *
          obtain ⟨doo, xl, own, n⟩ := X
          simp only at y0 y1 y2 y3 yr yn hsat hl70
          go_upto_block 2 with fail
          go_cut [8, 10, 12] from 108 to 125 (fun s8 s10 s12 wx => ∃ (pb rb : Nat) (s : Pol), s8 = .pointer (some ⟨pb, 0, none⟩) ∧ s10 = .pointer (some ⟨rb, 0, none⟩) ∧ IsPol wx pb s ∧ IsRef wx rb s ∧ Hid (Inv c s) ∧ pb ≠ rb ∧ w.heap.size < pb ∧ w.heap.size < rb ∧ Below w.heap.size w wx ∧ wx.heap[w.heap.size]? = some (.cells #[.int .u32 (nv c.addr), .int .u32 (nv c.peer), .int .u32 (nv c.dns1), .int .u32 (nv c.dns2), .bool c.want, .int .i64 c.max] 24 (0, 0)))
          case first =>
            clear y0 y1 y2 y3 yr hsat
            have hgl := (Array.getElem?_eq_some_iff.1 hcb).1
            by_cases d4 : doo = 4
            · have f4 : (doo == 4) = true := by simpa using d4
              clear d4
              have u0 := fun i => blk_cell hcb i
              have hrs := fun W h1 => reset_calls s pb W h1
              rw [hI.out.c, HS0.out] at hrs
              go_wp2_with (first
                | (go_at_call 25; with_reducible refine (hRN _).mono ?_; rintro e w1 ⟨rb', rfl, hrb', r1, hb1⟩
                   have B1 := hB.trans (hb1.mono hB.size)
                   have i1 := ip.below hb1
                   have c1 := (hb1.block _ hgl).trans hcb
                   have hne1 : rb' ≠ pb := by have := ip.lt; omega
                   have hr1 : w.heap.size < rb' := by have := ip.lt; omega)
                | (go_at_call 22; with_reducible refine (hrs _ i1).mono ?_; rintro e w2 ⟨rfl, hb2, i2⟩
                   have B2 := But.below B1 hb2 (Nat.le_of_lt hp0) B1.size
                   have r2 := r1.but hb2 hne1
                   have c2 := (hb2.block _ ((Array.getElem?_eq_some_iff.1 c1).1) (by omega)).trans c1))
              go_meet
              exact ⟨pb, rb', s0, rfl, rfl, i2, r2, hs0, hne1.symm, hp0, hr1, B2, c2⟩
            · have f4 : (doo == 4) = false := by simpa using d4
              clear d4
              by_cases d5 : doo = 5
              · have f5 : (doo == 5) = true := by simpa using d5
                clear d5
                have hI1 := hI.out
                have had : ∀ W : World, Calls Tryd.prog 26 #[.int .u8 77] W fun e w' => e = .returned (.agg #[.int .u8 3, .string ⟨#[0, 0, 0, 77]⟩]) ∧ Below W.heap.size W w' := fun W => addr_calls 77 W
                have r77 : ∀ W : World, Row (W.alloc (.cells #[.int .u8 3, .string ⟨#[0, 0, 0, 77]⟩] 57)) (some ⟨W.heap.size, 0, none⟩) 1 [A77] := fun W => row_new W A77
                have hnk : ∀ (g : Nat) (W : World), Row W (some ⟨g, 0, none⟩) 1 [A77] → K W → IsPol W pb s → Calls Tryd.prog 17 #[.pointer (some ⟨pb, 0, none⟩), .slice (some ⟨g, 0, none⟩) 1 1] W fun e w' => e = .returned (.bool (nakdP s [A77]).1) ∧ But pb W w' ∧ IsPol w' pb (nakdP s [A77]).2 := fun g W h1 h2 h3 => naked_calls s pb [A77] _ 1 W h1 (by decide) h2 h3
                have hnn : (nakdP s [A77]).2.naks = s.naks := by unfold nakdP; split <;> rfl
                have hj0 : ∀ W : World, K W → IsPol W pb (nakdP s [A77]).2 → Calls Tryd.prog 10 #[.pointer (some ⟨pb, 0, none⟩), .slice none 0 0] W fun e w' => ∃ z v, e = .returned (.tuple #[.int .u8 z, v]) ∧ But pb W w' := fun W h2 h3 => by
                  refine (judge_calls (nakdP s [A77]).2 pb [] none 0 W (row_nil _ _ _) (by decide) h2 h3 (by rw [hnn]; exact ⟨hI1.n0, by have := hI1.n1; omega⟩)).mono ?_
                  rintro e w' ⟨v, rfl, _, hb, _⟩
                  exact ⟨_, _, rfl, hb⟩
                generalize (nakdP s [A77]).2 = s9 at *
                generalize (nakdP s [A77]).1 = b9 at *
                clear hI1 hnn
                go_wp2_with (first
                  | (go_at_call 23; with_reducible refine (copy_calls s pb _ ip).mono ?_; rintro e w1 ⟨rfl, hb1, n1⟩
                     have B1 := hB.trans (hb1.mono hB.size)
                     have i1 := ip.below hb1
                     have r1 := ir.below hb1
                     have c1 := (hb1.block _ hgl).trans hcb
                     have hnp : wr.heap.size ≠ pb := by have := ip.lt; omega
                     have hnr : wr.heap.size ≠ rb := by have := ir.lt; omega
                     have hn0 : w.heap.size < wr.heap.size := hgl)
                  | (go_at_call 26; with_reducible refine (had _).mono ?_; rintro e w2 ⟨rfl, hb2⟩
                     have ha2 := hb2.trans (((Below.refl w2.heap.size w2).alloc (Nat.le_refl _) (.cells #[.int .u8 3, .string ⟨#[0, 0, 0, 77]⟩] 57)).mono hb2.size)
                     have B2 := B1.trans (ha2.mono B1.size)
                     have i2 := i1.below ha2
                     have n2 := n1.below ha2
                     have r2 := r1.below ha2
                     have c2 := (ha2.block _ ((Array.getElem?_eq_some_iff.1 c1).1)).trans c1)
                  | (go_at_call 17; with_reducible refine (hnk _ _ (r77 _) (hK.below B2) i2).mono ?_; rintro e w3 ⟨rfl, hb3, i3⟩
                     have B3 := But.below B2 hb3 (Nat.le_of_lt hp0) B2.size
                     have n3 := n2.but hb3 hnp
                     have r3 := r2.but hb3 hne.symm
                     have c3 := (hb3.block _ ((Array.getElem?_eq_some_iff.1 c2).1) (by omega)).trans c2)
                  | (go_at_call 10; with_reducible refine (hj0 _ (hK.below B3) i3).mono ?_; rintro e w4 ⟨z4, v4, rfl, hb4⟩
                     have B4 := But.below B3 hb4 (Nat.le_of_lt hp0) B3.size
                     have n4 := n3.but hb4 hnp
                     have r4 := r3.but hb4 hne.symm
                     have c4 := (hb4.block _ ((Array.getElem?_eq_some_iff.1 c3).1) (by omega)).trans c3))
                go_meet
                exact ⟨_, rb, s, rfl, rfl, n4, r4, hI, hnr, hn0, hr0, B4, c4⟩
              · have f5 : (doo == 5) = false := by simpa using d5
                clear d5
                go_wp2
                go_meet
                exact ⟨pb, rb, s, rfl, rfl, ip, ir, hI, hne, hp0, hr0, hB, hcb⟩
          case rest =>
            clear ip ir hI hne hp0 hr0 hB hcb y0 y1 y2 y3 yr
            obtain ⟨pb, rb, s, rfl, rfl, ip, ir, hI, hne, hp0, hr0, hB, hcb⟩ := hcut
            have hD : ∀ W, K W → IsPol W pb s → IsRef W rb s → Row W y d xl → Calls Tryd.prog 27 #[.pointer (some ⟨pb, 0, none⟩), .pointer (some ⟨rb, 0, none⟩), .agg #[.int .i64 doo, .slice y xl.length d, .bool own, .int .u8 (tv n)]] W fun e w' => e = .returned (.bool true) ∧ But2 pb rb W w' ∧ IsPol w' pb (stepL s doo (rowP s ⟨doo, xl, own, n⟩)) ∧ IsRef w' rb (stepL s doo (rowP s ⟨doo, xl, own, n⟩)) :=
              fun W h1 h2 h3 h4 => does_calls c HM.out.2 s hI.out pb rb hne ⟨doo, xl, own, n⟩ y d W h1 h2 h3 h4 yn hl70
            have hI2 := inv_step HM.out.2 hI.out doo (rowP s ⟨doo, xl, own, n⟩)
            generalize stepL s doo (rowP s ⟨doo, xl, own, n⟩) = s2 at *
            have hQ : ∀ W, K W → IsPol W pb s2 → Calls Tryd.prog 15 #[.pointer (some ⟨pb, 0, none⟩)] W fun e w' => ∃ v, e = .returned v ∧ OwnL w' W.heap.size v (putL s2.w 3) ∧ Below W.heap.size W w' := fun W h1 h2 => by
              have := request_calls s2 pb W h1 h2
              rw [hI2.put] at this
              exact this
            have hQ2 := fun W h => rreq_calls s2 rb W h
            have hq3 := putL_le s2.w 3 (Nat.le_refl _)
            replace hI2 := Lib.hid hI2
            obtain ⟨⟨a1, z1, a2, z2, a3, z3⟩, cf, ⟨m1, o1, m2, o2, m3, o3⟩, ⟨p1, r1, p2, r2, p3, r3⟩, nk⟩ := s2
            simp only at hQ hQ2 hq3
            generalize putL ⟨a1, z1, a2, z2, a3, z3⟩ 3 = q at *
            have hW1 : ∀ W, IsPol W pb ⟨⟨a1, z1, a2, z2, a3, z3⟩, cf, ⟨m1, o1, m2, o2, m3, o3⟩, ⟨p1, r1, p2, r2, p3, r3⟩, nk⟩ → Calls Tryd.prog 21 #[.pointer (some ⟨pb, 0, none⟩)] W fun e w' => e = .returned (.agg #[.bool a1, .int .u32 (nv z1), .bool a2, .int .u32 (nv z2), .bool a3, .int .u32 (nv z3)]) ∧ Below W.heap.size W w' := fun W h => wish_calls _ pb W h
            have hM1 : ∀ W, IsPol W pb ⟨⟨a1, z1, a2, z2, a3, z3⟩, cf, ⟨m1, o1, m2, o2, m3, o3⟩, ⟨p1, r1, p2, r2, p3, r3⟩, nk⟩ → Calls Tryd.prog 19 #[.pointer (some ⟨pb, 0, none⟩)] W fun e w' => e = .returned (.agg #[.bool m1, .int .u32 (nv o1), .bool m2, .int .u32 (nv o2), .bool m3, .int .u32 (nv o3)]) ∧ Below W.heap.size W w' := fun W h => mine_calls _ pb W h
            have hP1 : ∀ W, IsPol W pb ⟨⟨a1, z1, a2, z2, a3, z3⟩, cf, ⟨m1, o1, m2, o2, m3, o3⟩, ⟨p1, r1, p2, r2, p3, r3⟩, nk⟩ → Calls Tryd.prog 13 #[.pointer (some ⟨pb, 0, none⟩)] W fun e w' => e = .returned (.agg #[.bool p1, .int .u32 (nv r1), .bool p2, .int .u32 (nv r2), .bool p3, .int .u32 (nv r3)]) ∧ Below W.heap.size W w' := fun W h => peer_calls _ pb W h
            go_upto_region 26 with fail
            refine start_ (n := 47) (S := fun W' => Below w.heap.size w W') (ds := [9, 10, 11, 12, 13, 14, 15, 16, 17, 18, 19, 20, 21, 22, 23, 24, 25, 26, 27, 28, 29, 30, 31, 32, 33, 34, 35, 36, 37, 38, 39, 40, 41, 42, 43, 44, 45, 46]) (#[false, false, false, false, false, false, false, false, false, false, false, false, false, false, false, false, false, false, false, false, false, false, false, false, false, false, false, false, false, false, false, false, false, false, false, false, false, false, false, false, false, false, false, false, false, false, false]) (by kernel_rfl) rfl rfl (below_drew hB) (fun hS => ?_)
            have ipB := ip.below (below_drew (Below.refl _ _))
            have irB := ir.below (below_drew (Below.refl _ _))
            have hcbB : wc.drew.heap[w.heap.size]? = some (.cells #[.int .u32 (nv c.addr), .int .u32 (nv c.peer), .int .u32 (nv c.dns1), .int .u32 (nv c.dns2), .bool c.want, .int .i64 c.max] 24 (0, 0)) := hcb
            generalize wc.drew = wB at *
            clear ip ir hcb hB
            refine take_ (i := 0) (N := some 126) (v := ?_) (a' := ?_) #[true, false, false, false, false, false, false, false, false, false, false, false, false, false, false, false, false, false, false, false, false, false, false, false, false, false, false, false, false, false, false, false, false, false, false, false, false, false, false, false, false, false, false, false, false, false, false] rfl rfl (by kernel_rfl) (fun _ _ _ h => h) (.inl ⟨by rfl, fun w' hS' => ?_⟩) hS ?_ ?_
            rotate_left
            · go_simp
              with_reducible rfl
            rotate_left
            · simp only [Act.put, List.setIfInBounds_toArray, List.set_cons_zero, List.set_cons_succ]
              rfl
            refine take_ (i := 1) (N := some 127) (v := ?_) (a' := ?_) #[true, true, false, false, false, false, false, false, false, false, false, false, false, false, false, false, false, false, false, false, false, false, false, false, false, false, false, false, false, false, false, false, false, false, false, false, false, false, false, false, false, false, false, false, false, false, false] rfl rfl (by kernel_rfl) (fun _ _ _ h => h) (.inl ⟨by rfl, fun w' hS' => ?_⟩) hS ?_ ?_
            rotate_left
            · go_simp
              with_reducible rfl
            rotate_left
            · simp only [Act.put, List.setIfInBounds_toArray, List.set_cons_zero, List.set_cons_succ]
              rfl
            refine take_ (i := 2) (N := some 128) (v := ?_) (a' := ?_) #[true, true, true, false, false, false, false, false, false, false, false, false, false, false, false, false, false, false, false, false, false, false, false, false, false, false, false, false, false, false, false, false, false, false, false, false, false, false, false, false, false, false, false, false, false, false, false] rfl rfl (by kernel_rfl) (fun _ _ _ h => h) (.inl ⟨by rfl, fun w' hS' => ?_⟩) hS ?_ ?_
            rotate_left
            · go_simp
              with_reducible rfl
            rotate_left
            · simp only [Act.put, List.setIfInBounds_toArray, List.set_cons_zero, List.set_cons_succ]
              rfl
            refine take_ (i := 3) (N := some 129) (v := ?_) (a' := ?_) #[true, true, true, true, false, false, false, false, false, false, false, false, false, false, false, false, false, false, false, false, false, false, false, false, false, false, false, false, false, false, false, false, false, false, false, false, false, false, false, false, false, false, false, false, false, false, false] rfl rfl (by kernel_rfl) (fun _ _ _ h => h) (.inl ⟨by rfl, fun w' hS' => ?_⟩) hS ?_ ?_
            rotate_left
            · go_simp
              with_reducible rfl
            rotate_left
            · simp only [Act.put, List.setIfInBounds_toArray, List.set_cons_zero, List.set_cons_succ]
              rfl
            refine take_ (i := 4) (N := some 130) (v := ?_) (a' := ?_) #[true, true, true, true, true, false, false, false, false, false, false, false, false, false, false, false, false, false, false, false, false, false, false, false, false, false, false, false, false, false, false, false, false, false, false, false, false, false, false, false, false, false, false, false, false, false, false] rfl rfl (by kernel_rfl) (fun _ _ _ h => h) (.inl ⟨by rfl, fun w' hS' => ?_⟩) hS ?_ ?_
            rotate_left
            · go_simp
              with_reducible rfl
            rotate_left
            · simp only [Act.put, List.setIfInBounds_toArray, List.set_cons_zero, List.set_cons_succ]
              rfl
            refine take_ (i := 5) (N := some 131) (v := ?_) (a' := ?_) #[true, true, true, true, true, true, false, false, false, false, false, false, false, false, false, false, false, false, false, false, false, false, false, false, false, false, false, false, false, false, false, false, false, false, false, false, false, false, false, false, false, false, false, false, false, false, false] rfl rfl (by kernel_rfl) (fun _ _ _ h => h) (.inl ⟨by rfl, fun w' hS' => ?_⟩) hS ?_ ?_
            rotate_left
            · go_simp
              with_reducible rfl
            rotate_left
            · simp only [Act.put, List.setIfInBounds_toArray, List.set_cons_zero, List.set_cons_succ]
              rfl
            refine take_ (i := 6) (N := some 132) (v := ?_) (a' := ?_) #[true, true, true, true, true, true, true, false, false, false, false, false, false, false, false, false, false, false, false, false, false, false, false, false, false, false, false, false, false, false, false, false, false, false, false, false, false, false, false, false, false, false, false, false, false, false, false] rfl rfl (by kernel_rfl) (fun _ _ _ h => h) (.inl ⟨by rfl, fun w' hS' => ?_⟩) hS ?_ ?_
            rotate_left
            · go_simp
              with_reducible rfl
            rotate_left
            · simp only [Act.put, List.setIfInBounds_toArray, List.set_cons_zero, List.set_cons_succ]
              rfl
            refine take_ (i := 7) (N := some 133) (v := ?_) (a' := ?_) #[true, true, true, true, true, true, true, true, false, false, false, false, false, false, false, false, false, false, false, false, false, false, false, false, false, false, false, false, false, false, false, false, false, false, false, false, false, false, false, false, false, false, false, false, false, false, false] rfl rfl (by kernel_rfl) (fun _ _ _ h => h) (.inl ⟨by rfl, fun w' hS' => ?_⟩) hS ?_ ?_
            rotate_left
            · go_simp
              with_reducible rfl
            rotate_left
            · simp only [Act.put, List.setIfInBounds_toArray, List.set_cons_zero, List.set_cons_succ]
              rfl
            refine take_ (i := 8) (N := some 134) (v := ?_) (a' := ?_) #[true, true, true, true, true, true, true, true, true, false, false, false, false, false, false, false, false, false, false, false, false, false, false, false, false, false, false, false, false, false, false, false, false, false, false, false, false, false, false, false, false, false, false, false, false, false, false] rfl rfl (by kernel_rfl) (fun _ _ _ h => h) (.inl ⟨by rfl, fun w' hS' => ?_⟩) hS ?_ ?_
            rotate_left
            · obtain ⟨v0, v1, v2, v3, _⟩ := hsat _ hS'
              go_simp
              with_reducible rfl
            rotate_left
            · simp only [Act.put, List.setIfInBounds_toArray, List.set_cons_zero, List.set_cons_succ]
              rfl
            refine wpAnyLast_all (rs := [9]) (by kernel_rfl) (by simp) ?_
            intro i hi'
            obtain rfl := List.mem_singleton.1 hi'
            refine wpOp_step rfl (fun K' hK' => ?_)
            go_simp
            go_at_call 27
            with_reducible refine (hD _ (hK.below hS) ipB irB (hsat _ hS).2.2.2.2).mono ?_
            rintro e w6 ⟨rfl, hb6, i6, r6⟩
            have hT : Below w.heap.size w w6 ∧ IsPol w6 pb ⟨⟨a1, z1, a2, z2, a3, z3⟩, cf, ⟨m1, o1, m2, o2, m3, o3⟩, ⟨p1, r1, p2, r2, p3, r3⟩, nk⟩ ∧ IsRef w6 rb ⟨⟨a1, z1, a2, z2, a3, z3⟩, cf, ⟨m1, o1, m2, o2, m3, o3⟩, ⟨p1, r1, p2, r2, p3, r3⟩, nk⟩ ∧ w6.heap[w.heap.size]? = some (.cells #[.int .u32 (nv c.addr), .int .u32 (nv c.peer), .int .u32 (nv c.dns1), .int .u32 (nv c.dns2), .bool c.want, .int .i64 c.max] 24 (0, 0)) := ⟨hb6.below hS (Nat.le_of_lt hp0) (Nat.le_of_lt hr0) hS.size, i6, r6, (hb6.block _ ((Array.getElem?_eq_some_iff.1 hcbB).1) (by omega) (by omega)).trans hcbB⟩
            refine hK' _ _ ⟨fun h => by simp at h, ?_⟩
            clear hK' K' hS
            simp only [Act.put, List.setIfInBounds_toArray, List.set_cons_zero, List.set_cons_succ]
            have hS := hT
            clear hT ipB irB hcbB hb6 i6 r6
            refine sw_ (fun W' => Below w.heap.size w W' ∧ IsPol W' pb ⟨⟨a1, z1, a2, z2, a3, z3⟩, cf, ⟨m1, o1, m2, o2, m3, o3⟩, ⟨p1, r1, p2, r2, p3, r3⟩, nk⟩ ∧ IsRef W' rb ⟨⟨a1, z1, a2, z2, a3, z3⟩, cf, ⟨m1, o1, m2, o2, m3, o3⟩, ⟨p1, r1, p2, r2, p3, r3⟩, nk⟩ ∧ W'.heap[w.heap.size]? = some (.cells #[.int .u32 (nv c.addr), .int .u32 (nv c.peer), .int .u32 (nv c.dns1), .int .u32 (nv c.dns2), .bool c.want, .int .i64 c.max] 24 (0, 0))) (by kernel_rfl) ?_
            refine take_ (i := 10) (N := some 136) (v := ?_) (a' := ?_) #[true, true, true, true, true, true, true, true, true, true, true, false, false, false, false, false, false, false, false, false, false, false, false, false, false, false, false, false, false, false, false, false, false, false, false, false, false, false, false, false, false, false, false, false, false, false, false] rfl rfl (by kernel_rfl) (fun _ _ _ h => h) (.inl ⟨by rfl, fun w' hS' => ?_⟩) hS ?_ ?_
            rotate_left
            · go_simp
              with_reducible rfl
            rotate_left
            · simp only [Act.put, List.setIfInBounds_toArray, List.set_cons_zero, List.set_cons_succ]
              rfl
            refine take_ (i := 11) (N := some 137) (v := ?_) (a' := ?_) #[true, true, true, true, true, true, true, true, true, true, true, true, false, false, false, false, false, false, false, false, false, false, false, false, false, false, false, false, false, false, false, false, false, false, false, false, false, false, false, false, false, false, false, false, false, false, false] rfl rfl (by kernel_rfl) (fun _ _ _ h => h) (.inl ⟨by rfl, fun w' hS' => ?_⟩) hS ?_ ?_
            rotate_left
            · go_simp
              with_reducible rfl
            rotate_left
            · simp only [Act.put, List.setIfInBounds_toArray, List.set_cons_zero, List.set_cons_succ]
              rfl
            refine take_ (i := 12) (N := some 138) (v := ?_) (a' := ?_) #[true, true, true, true, true, true, true, true, true, true, true, true, true, false, false, false, false, false, false, false, false, false, false, false, false, false, false, false, false, false, false, false, false, false, false, false, false, false, false, false, false, false, false, false, false, false, false] rfl rfl (by kernel_rfl) (fun _ _ _ h => h) (.inl ⟨by rfl, fun w' hS' => ?_⟩) hS ?_ ?_
            rotate_left
            · go_simp
              with_reducible rfl
            rotate_left
            · simp only [Act.put, List.setIfInBounds_toArray, List.set_cons_zero, List.set_cons_succ]
              rfl
            refine take_ (i := 13) (N := some 139) (v := ?_) (a' := ?_) #[true, true, true, true, true, true, true, true, true, true, true, true, true, true, false, false, false, false, false, false, false, false, false, false, false, false, false, false, false, false, false, false, false, false, false, false, false, false, false, false, false, false, false, false, false, false, false] rfl rfl (by kernel_rfl) (fun _ _ _ h => h) (.inl ⟨by rfl, fun w' hS' => ?_⟩) hS ?_ ?_
            rotate_left
            · go_simp
              with_reducible rfl
            rotate_left
            · simp only [Act.put, List.setIfInBounds_toArray, List.set_cons_zero, List.set_cons_succ]
              rfl
            refine take_ (i := 15) (N := some 141) (v := ?_) (a' := ?_) #[true, true, true, true, true, true, true, true, true, true, true, true, true, true, false, true, false, false, false, false, false, false, false, false, false, false, false, false, false, false, false, false, false, false, false, false, false, false, false, false, false, false, false, false, false, false, false] rfl rfl (by kernel_rfl) (fun _ _ _ h => h) (.inl ⟨by rfl, fun w' hS' => ?_⟩) hS ?_ ?_
            rotate_left
            · go_simp
              with_reducible rfl
            rotate_left
            · simp only [Act.put, List.setIfInBounds_toArray, List.set_cons_zero, List.set_cons_succ]
              rfl
            refine wpAnyLast_all (rs := [14]) (by kernel_rfl) (by simp) ?_
            intro i hi'
            obtain rfl := List.mem_singleton.1 hi'
            refine wpOp_step rfl (fun K' hK' => ?_)
            go_simp
            go_at_call 15
            with_reducible refine (hQ _ (hK.below hS.1) hS.2.1).mono ?_
            rintro e w7 ⟨v7, rfl, ho7, hb7⟩
            obtain ⟨xa, xc, rfl, row7⟩ := row_own ho7
            have hT : Below w.heap.size w w7 ∧ IsPol w7 pb ⟨⟨a1, z1, a2, z2, a3, z3⟩, cf, ⟨m1, o1, m2, o2, m3, o3⟩, ⟨p1, r1, p2, r2, p3, r3⟩, nk⟩ ∧ IsRef w7 rb ⟨⟨a1, z1, a2, z2, a3, z3⟩, cf, ⟨m1, o1, m2, o2, m3, o3⟩, ⟨p1, r1, p2, r2, p3, r3⟩, nk⟩ ∧ w7.heap[w.heap.size]? = some (.cells #[.int .u32 (nv c.addr), .int .u32 (nv c.peer), .int .u32 (nv c.dns1), .int .u32 (nv c.dns2), .bool c.want, .int .i64 c.max] 24 (0, 0)) := ⟨hS.1.trans (hb7.mono hS.1.size), hS.2.1.below hb7, hS.2.2.1.below hb7, (hb7.block _ ((Array.getElem?_eq_some_iff.1 hS.2.2.2).1)).trans hS.2.2.2⟩
            refine hK' _ _ ⟨fun _ _ => hT, ?_⟩
            clear hK' K' hS
            simp only [Act.put, List.setIfInBounds_toArray, List.set_cons_zero, List.set_cons_succ]
            have hS := hT
            clear hT
            refine wpAnyLast_all (rs := [16]) (by kernel_rfl) (by simp) ?_
            intro i hi'
            obtain rfl := List.mem_singleton.1 hi'
            refine wpOp_step rfl (fun K' hK' => ?_)
            go_simp
            go_at_call 28
            with_reducible refine (hQ2 _ hS.2.2.1).mono ?_
            rintro e w8 ⟨v8, rfl, ho8, hb8⟩
            obtain ⟨ya, yc, rfl, row8⟩ := row_own ho8
            have row78 := row7.below hb8
            have hT : Below w.heap.size w w8 ∧ IsPol w8 pb ⟨⟨a1, z1, a2, z2, a3, z3⟩, cf, ⟨m1, o1, m2, o2, m3, o3⟩, ⟨p1, r1, p2, r2, p3, r3⟩, nk⟩ ∧ IsRef w8 rb ⟨⟨a1, z1, a2, z2, a3, z3⟩, cf, ⟨m1, o1, m2, o2, m3, o3⟩, ⟨p1, r1, p2, r2, p3, r3⟩, nk⟩ ∧ w8.heap[w.heap.size]? = some (.cells #[.int .u32 (nv c.addr), .int .u32 (nv c.peer), .int .u32 (nv c.dns1), .int .u32 (nv c.dns2), .bool c.want, .int .i64 c.max] 24 (0, 0)) := ⟨hS.1.trans (hb8.mono hS.1.size), hS.2.1.below hb8, hS.2.2.1.below hb8, (hb8.block _ ((Array.getElem?_eq_some_iff.1 hS.2.2.2).1)).trans hS.2.2.2⟩
            refine hK' _ _ ⟨fun _ _ => hT, ?_⟩
            clear hK' K' hS
            simp only [Act.put, List.setIfInBounds_toArray, List.set_cons_zero, List.set_cons_succ]
            have hS := hT
            clear hT
            refine wpAnyLast_all (rs := [17]) (by kernel_rfl) (by simp) ?_
            intro i hi'
            obtain rfl := List.mem_singleton.1 hi'
            refine wpOp_step rfl (fun K' hK' => ?_)
            go_simp
            go_at_call 12
            with_reducible refine (same_self q (by omega) _ _ _ _ _ row78 row8).mono ?_
            rintro e w9 ⟨rfl, hb9⟩
            have hT : Below w.heap.size w w9 ∧ IsPol w9 pb ⟨⟨a1, z1, a2, z2, a3, z3⟩, cf, ⟨m1, o1, m2, o2, m3, o3⟩, ⟨p1, r1, p2, r2, p3, r3⟩, nk⟩ ∧ IsRef w9 rb ⟨⟨a1, z1, a2, z2, a3, z3⟩, cf, ⟨m1, o1, m2, o2, m3, o3⟩, ⟨p1, r1, p2, r2, p3, r3⟩, nk⟩ ∧ w9.heap[w.heap.size]? = some (.cells #[.int .u32 (nv c.addr), .int .u32 (nv c.peer), .int .u32 (nv c.dns1), .int .u32 (nv c.dns2), .bool c.want, .int .i64 c.max] 24 (0, 0)) := ⟨hS.1.trans (hb9.mono hS.1.size), hS.2.1.below hb9, hS.2.2.1.below hb9, (hb9.block _ ((Array.getElem?_eq_some_iff.1 hS.2.2.2).1)).trans hS.2.2.2⟩
            refine hK' _ _ ⟨fun _ _ => hT, ?_⟩
            clear hK' K' hS
            simp only [Act.put, List.setIfInBounds_toArray, List.set_cons_zero, List.set_cons_succ]
            have hS := hT
            clear hT
            refine take_ (i := 18) (N := some 144) (v := ?_) (a' := ?_) #[true, true, true, true, true, true, true, true, true, true, true, true, true, true, true, true, true, true, true, false, false, false, false, false, false, false, false, false, false, false, false, false, false, false, false, false, false, false, false, false, false, false, false, false, false, false, false] rfl rfl (by kernel_rfl) (fun _ _ _ h => h) (.inl ⟨by rfl, fun w' hS' => ?_⟩) hS ?_ ?_
            rotate_left
            · go_simp
              with_reducible rfl
            rotate_left
            · simp only [Act.put, List.setIfInBounds_toArray, List.set_cons_zero, List.set_cons_succ]
              rfl
            refine take_ (i := 19) (N := some 145) (v := ?_) (a' := ?_) #[true, true, true, true, true, true, true, true, true, true, true, true, true, true, true, true, true, true, true, true, false, false, false, false, false, false, false, false, false, false, false, false, false, false, false, false, false, false, false, false, false, false, false, false, false, false, false] rfl rfl (by kernel_rfl) (fun _ _ _ h => h) (.inl ⟨by rfl, fun w' hS' => ?_⟩) hS ?_ ?_
            rotate_left
            · go_simp
              with_reducible rfl
            rotate_left
            · simp only [Act.put, List.setIfInBounds_toArray, List.set_cons_zero, List.set_cons_succ]
              rfl
            refine take_ (i := 20) (N := some 146) (v := ?_) (a' := ?_) #[true, true, true, true, true, true, true, true, true, true, true, true, true, true, true, true, true, true, true, true, true, false, false, false, false, false, false, false, false, false, false, false, false, false, false, false, false, false, false, false, false, false, false, false, false, false, false] rfl rfl (by kernel_rfl) (fun _ _ _ h => h) (.inl ⟨by rfl, fun w' hS' => ?_⟩) hS ?_ ?_
            rotate_left
            · go_simp
              with_reducible rfl
            rotate_left
            · simp only [Act.put, List.setIfInBounds_toArray, List.set_cons_zero, List.set_cons_succ]
              rfl
            refine take_ (i := 21) (N := some 147) (v := ?_) (a' := ?_) #[true, true, true, true, true, true, true, true, true, true, true, true, true, true, true, true, true, true, true, true, true, true, false, false, false, false, false, false, false, false, false, false, false, false, false, false, false, false, false, false, false, false, false, false, false, false, false] rfl rfl (by kernel_rfl) (fun _ _ _ h => h) (.inl ⟨by rfl, fun w' hS' => ?_⟩) hS ?_ ?_
            rotate_left
            · go_simp
              with_reducible rfl
            rotate_left
            · simp only [Act.put, List.setIfInBounds_toArray, List.set_cons_zero, List.set_cons_succ]
              rfl
            refine take_ (i := 23) (N := some 149) (v := ?_) (a' := ?_) #[true, true, true, true, true, true, true, true, true, true, true, true, true, true, true, true, true, true, true, true, true, true, false, true, false, false, false, false, false, false, false, false, false, false, false, false, false, false, false, false, false, false, false, false, false, false, false] rfl rfl (by kernel_rfl) (fun _ _ _ h => h) (.inl ⟨by rfl, fun w' hS' => ?_⟩) hS ?_ ?_
            rotate_left
            · go_simp
              with_reducible rfl
            rotate_left
            · simp only [Act.put, List.setIfInBounds_toArray, List.set_cons_zero, List.set_cons_succ]
              rfl
            refine take_ (i := 24) (N := some 150) (v := ?_) (a' := ?_) #[true, true, true, true, true, true, true, true, true, true, true, true, true, true, true, true, true, true, true, true, true, true, false, true, true, false, false, false, false, false, false, false, false, false, false, false, false, false, false, false, false, false, false, false, false, false, false] rfl rfl (by kernel_rfl) (fun _ _ _ h => h) (.inl ⟨by rfl, fun w' hS' => ?_⟩) hS ?_ ?_
            rotate_left
            · go_simp
              with_reducible rfl
            rotate_left
            · simp only [Act.put, List.setIfInBounds_toArray, List.set_cons_zero, List.set_cons_succ]
              rfl
            refine take_ (i := 25) (N := some 151) (v := ?_) (a' := ?_) #[true, true, true, true, true, true, true, true, true, true, true, true, true, true, true, true, true, true, true, true, true, true, false, true, true, true, false, false, false, false, false, false, false, false, false, false, false, false, false, false, false, false, false, false, false, false, false] rfl rfl (by kernel_rfl) (fun _ _ _ h => h) (.inl ⟨by rfl, fun w' hS' => ?_⟩) hS ?_ ?_
            rotate_left
            · go_simp
              with_reducible rfl
            rotate_left
            · simp only [Act.put, List.setIfInBounds_toArray, List.set_cons_zero, List.set_cons_succ]
              rfl
            refine take_ (i := 26) (N := some 152) (v := ?_) (a' := ?_) #[true, true, true, true, true, true, true, true, true, true, true, true, true, true, true, true, true, true, true, true, true, true, false, true, true, true, true, false, false, false, false, false, false, false, false, false, false, false, false, false, false, false, false, false, false, false, false] rfl rfl (by kernel_rfl) (fun _ _ _ h => h) (.inl ⟨by rfl, fun w' hS' => ?_⟩) hS ?_ ?_
            rotate_left
            · have t1 := fun i => blk_cell hS'.2.2.1 i
              simp only [Pol.rcells] at t1
              go_simp
              with_reducible rfl
            rotate_left
            · simp only [Act.put, List.setIfInBounds_toArray, List.set_cons_zero, List.set_cons_succ]
              rfl
            refine wpAnyLast_all (rs := [22]) (by kernel_rfl) (by simp) ?_
            intro i hi'
            obtain rfl := List.mem_singleton.1 hi'
            refine wpOp_step rfl (fun K' hK' => ?_)
            go_simp
            go_at_call 21
            with_reducible refine (hW1 _ hS.2.1).mono ?_
            rintro e w10' ⟨rfl, hb10'⟩
            have hT : Below w.heap.size w w10' ∧ IsPol w10' pb ⟨⟨a1, z1, a2, z2, a3, z3⟩, cf, ⟨m1, o1, m2, o2, m3, o3⟩, ⟨p1, r1, p2, r2, p3, r3⟩, nk⟩ ∧ IsRef w10' rb ⟨⟨a1, z1, a2, z2, a3, z3⟩, cf, ⟨m1, o1, m2, o2, m3, o3⟩, ⟨p1, r1, p2, r2, p3, r3⟩, nk⟩ ∧ w10'.heap[w.heap.size]? = some (.cells #[.int .u32 (nv c.addr), .int .u32 (nv c.peer), .int .u32 (nv c.dns1), .int .u32 (nv c.dns2), .bool c.want, .int .i64 c.max] 24 (0, 0)) := ⟨hS.1.trans (hb10'.mono hS.1.size), hS.2.1.below hb10', hS.2.2.1.below hb10', (hb10'.block _ ((Array.getElem?_eq_some_iff.1 hS.2.2.2).1)).trans hS.2.2.2⟩
            refine hK' _ _ ⟨fun _ _ => hT, ?_⟩
            clear hK' K' hS
            simp only [Act.put, List.setIfInBounds_toArray, List.set_cons_zero, List.set_cons_succ]
            have hS := hT
            clear hT
            refine take_ (i := 27) (N := some 153) (v := ?_) (a' := ?_) #[true, true, true, true, true, true, true, true, true, true, true, true, true, true, true, true, true, true, true, true, true, true, true, true, true, true, true, true, false, false, false, false, false, false, false, false, false, false, false, false, false, false, false, false, false, false, false] rfl rfl (by kernel_rfl) (fun _ _ _ h => h) (.inl ⟨by rfl, fun w' hS' => ?_⟩) hS ?_ ?_
            rotate_left
            · go_simp
              with_reducible rfl
            rotate_left
            · simp only [Act.put, List.setIfInBounds_toArray, List.set_cons_zero, List.set_cons_succ]
              rfl
            refine take_ (i := 28) (N := some 154) (v := ?_) (a' := ?_) #[true, true, true, true, true, true, true, true, true, true, true, true, true, true, true, true, true, true, true, true, true, true, true, true, true, true, true, true, true, false, false, false, false, false, false, false, false, false, false, false, false, false, false, false, false, false, false] rfl rfl (by kernel_rfl) (fun _ _ _ h => h) (.inl ⟨by rfl, fun w' hS' => ?_⟩) hS ?_ ?_
            rotate_left
            · go_simp
              with_reducible rfl
            rotate_left
            · simp only [Act.put, List.setIfInBounds_toArray, List.set_cons_zero, List.set_cons_succ]
              rfl
            refine take_ (i := 29) (N := some 155) (v := ?_) (a' := ?_) #[true, true, true, true, true, true, true, true, true, true, true, true, true, true, true, true, true, true, true, true, true, true, true, true, true, true, true, true, true, true, false, false, false, false, false, false, false, false, false, false, false, false, false, false, false, false, false] rfl rfl (by kernel_rfl) (fun _ _ _ h => h) (.inl ⟨by rfl, fun w' hS' => ?_⟩) hS ?_ ?_
            rotate_left
            · go_simp
              with_reducible rfl
            rotate_left
            · simp only [Act.put, List.setIfInBounds_toArray, List.set_cons_zero, List.set_cons_succ]
              rfl
            refine take_ (i := 30) (N := some 156) (v := ?_) (a' := ?_) #[true, true, true, true, true, true, true, true, true, true, true, true, true, true, true, true, true, true, true, true, true, true, true, true, true, true, true, true, true, true, true, false, false, false, false, false, false, false, false, false, false, false, false, false, false, false, false] rfl rfl (by kernel_rfl) (fun _ _ _ h => h) (.inl ⟨by rfl, fun w' hS' => ?_⟩) hS ?_ ?_
            rotate_left
            · go_simp
              with_reducible rfl
            rotate_left
            · simp only [Act.put, List.setIfInBounds_toArray, List.set_cons_zero, List.set_cons_succ]
              rfl
            refine take_ (i := 32) (N := some 158) (v := ?_) (a' := ?_) #[true, true, true, true, true, true, true, true, true, true, true, true, true, true, true, true, true, true, true, true, true, true, true, true, true, true, true, true, true, true, true, false, true, false, false, false, false, false, false, false, false, false, false, false, false, false, false] rfl rfl (by kernel_rfl) (fun _ _ _ h => h) (.inl ⟨by rfl, fun w' hS' => ?_⟩) hS ?_ ?_
            rotate_left
            · go_simp
              with_reducible rfl
            rotate_left
            · simp only [Act.put, List.setIfInBounds_toArray, List.set_cons_zero, List.set_cons_succ]
              rfl
            refine take_ (i := 33) (N := some 159) (v := ?_) (a' := ?_) #[true, true, true, true, true, true, true, true, true, true, true, true, true, true, true, true, true, true, true, true, true, true, true, true, true, true, true, true, true, true, true, false, true, true, false, false, false, false, false, false, false, false, false, false, false, false, false] rfl rfl (by kernel_rfl) (fun _ _ _ h => h) (.inl ⟨by rfl, fun w' hS' => ?_⟩) hS ?_ ?_
            rotate_left
            · go_simp
              with_reducible rfl
            rotate_left
            · simp only [Act.put, List.setIfInBounds_toArray, List.set_cons_zero, List.set_cons_succ]
              rfl
            refine take_ (i := 34) (N := some 160) (v := ?_) (a' := ?_) #[true, true, true, true, true, true, true, true, true, true, true, true, true, true, true, true, true, true, true, true, true, true, true, true, true, true, true, true, true, true, true, false, true, true, true, false, false, false, false, false, false, false, false, false, false, false, false] rfl rfl (by kernel_rfl) (fun _ _ _ h => h) (.inl ⟨by rfl, fun w' hS' => ?_⟩) hS ?_ ?_
            rotate_left
            · go_simp
              with_reducible rfl
            rotate_left
            · simp only [Act.put, List.setIfInBounds_toArray, List.set_cons_zero, List.set_cons_succ]
              rfl
            refine take_ (i := 35) (N := some 161) (v := ?_) (a' := ?_) #[true, true, true, true, true, true, true, true, true, true, true, true, true, true, true, true, true, true, true, true, true, true, true, true, true, true, true, true, true, true, true, false, true, true, true, true, false, false, false, false, false, false, false, false, false, false, false] rfl rfl (by kernel_rfl) (fun _ _ _ h => h) (.inl ⟨by rfl, fun w' hS' => ?_⟩) hS ?_ ?_
            rotate_left
            · have t1 := fun i => blk_cell hS'.2.2.1 i
              simp only [Pol.rcells] at t1
              go_simp
              with_reducible rfl
            rotate_left
            · simp only [Act.put, List.setIfInBounds_toArray, List.set_cons_zero, List.set_cons_succ]
              rfl
            refine wpAnyLast_all (rs := [31]) (by kernel_rfl) (by simp) ?_
            intro i hi'
            obtain rfl := List.mem_singleton.1 hi'
            refine wpOp_step rfl (fun K' hK' => ?_)
            go_simp
            go_at_call 19
            with_reducible refine (hM1 _ hS.2.1).mono ?_
            rintro e w11' ⟨rfl, hb11'⟩
            have hT : Below w.heap.size w w11' ∧ IsPol w11' pb ⟨⟨a1, z1, a2, z2, a3, z3⟩, cf, ⟨m1, o1, m2, o2, m3, o3⟩, ⟨p1, r1, p2, r2, p3, r3⟩, nk⟩ ∧ IsRef w11' rb ⟨⟨a1, z1, a2, z2, a3, z3⟩, cf, ⟨m1, o1, m2, o2, m3, o3⟩, ⟨p1, r1, p2, r2, p3, r3⟩, nk⟩ ∧ w11'.heap[w.heap.size]? = some (.cells #[.int .u32 (nv c.addr), .int .u32 (nv c.peer), .int .u32 (nv c.dns1), .int .u32 (nv c.dns2), .bool c.want, .int .i64 c.max] 24 (0, 0)) := ⟨hS.1.trans (hb11'.mono hS.1.size), hS.2.1.below hb11', hS.2.2.1.below hb11', (hb11'.block _ ((Array.getElem?_eq_some_iff.1 hS.2.2.2).1)).trans hS.2.2.2⟩
            refine hK' _ _ ⟨fun _ _ => hT, ?_⟩
            clear hK' K' hS
            simp only [Act.put, List.setIfInBounds_toArray, List.set_cons_zero, List.set_cons_succ]
            have hS := hT
            clear hT
            refine take_ (i := 36) (N := some 162) (v := ?_) (a' := ?_) #[true, true, true, true, true, true, true, true, true, true, true, true, true, true, true, true, true, true, true, true, true, true, true, true, true, true, true, true, true, true, true, true, true, true, true, true, true, false, false, false, false, false, false, false, false, false, false] rfl rfl (by kernel_rfl) (fun _ _ _ h => h) (.inl ⟨by rfl, fun w' hS' => ?_⟩) hS ?_ ?_
            rotate_left
            · go_simp
              with_reducible rfl
            rotate_left
            · simp only [Act.put, List.setIfInBounds_toArray, List.set_cons_zero, List.set_cons_succ]
              rfl
            refine take_ (i := 37) (N := some 163) (v := ?_) (a' := ?_) #[true, true, true, true, true, true, true, true, true, true, true, true, true, true, true, true, true, true, true, true, true, true, true, true, true, true, true, true, true, true, true, true, true, true, true, true, true, true, false, false, false, false, false, false, false, false, false] rfl rfl (by kernel_rfl) (fun _ _ _ h => h) (.inl ⟨by rfl, fun w' hS' => ?_⟩) hS ?_ ?_
            rotate_left
            · go_simp
              with_reducible rfl
            rotate_left
            · simp only [Act.put, List.setIfInBounds_toArray, List.set_cons_zero, List.set_cons_succ]
              rfl
            refine take_ (i := 38) (N := some 164) (v := ?_) (a' := ?_) #[true, true, true, true, true, true, true, true, true, true, true, true, true, true, true, true, true, true, true, true, true, true, true, true, true, true, true, true, true, true, true, true, true, true, true, true, true, true, true, false, false, false, false, false, false, false, false] rfl rfl (by kernel_rfl) (fun _ _ _ h => h) (.inl ⟨by rfl, fun w' hS' => ?_⟩) hS ?_ ?_
            rotate_left
            · go_simp
              with_reducible rfl
            rotate_left
            · simp only [Act.put, List.setIfInBounds_toArray, List.set_cons_zero, List.set_cons_succ]
              rfl
            refine take_ (i := 39) (N := some 165) (v := ?_) (a' := ?_) #[true, true, true, true, true, true, true, true, true, true, true, true, true, true, true, true, true, true, true, true, true, true, true, true, true, true, true, true, true, true, true, true, true, true, true, true, true, true, true, true, false, false, false, false, false, false, false] rfl rfl (by kernel_rfl) (fun _ _ _ h => h) (.inl ⟨by rfl, fun w' hS' => ?_⟩) hS ?_ ?_
            rotate_left
            · go_simp
              with_reducible rfl
            rotate_left
            · simp only [Act.put, List.setIfInBounds_toArray, List.set_cons_zero, List.set_cons_succ]
              rfl
            refine take_ (i := 41) (N := some 167) (v := ?_) (a' := ?_) #[true, true, true, true, true, true, true, true, true, true, true, true, true, true, true, true, true, true, true, true, true, true, true, true, true, true, true, true, true, true, true, true, true, true, true, true, true, true, true, true, false, true, false, false, false, false, false] rfl rfl (by kernel_rfl) (fun _ _ _ h => h) (.inl ⟨by rfl, fun w' hS' => ?_⟩) hS ?_ ?_
            rotate_left
            · go_simp
              with_reducible rfl
            rotate_left
            · simp only [Act.put, List.setIfInBounds_toArray, List.set_cons_zero, List.set_cons_succ]
              rfl
            refine take_ (i := 42) (N := some 168) (v := ?_) (a' := ?_) #[true, true, true, true, true, true, true, true, true, true, true, true, true, true, true, true, true, true, true, true, true, true, true, true, true, true, true, true, true, true, true, true, true, true, true, true, true, true, true, true, false, true, true, false, false, false, false] rfl rfl (by kernel_rfl) (fun _ _ _ h => h) (.inl ⟨by rfl, fun w' hS' => ?_⟩) hS ?_ ?_
            rotate_left
            · go_simp
              with_reducible rfl
            rotate_left
            · simp only [Act.put, List.setIfInBounds_toArray, List.set_cons_zero, List.set_cons_succ]
              rfl
            refine take_ (i := 43) (N := some 169) (v := ?_) (a' := ?_) #[true, true, true, true, true, true, true, true, true, true, true, true, true, true, true, true, true, true, true, true, true, true, true, true, true, true, true, true, true, true, true, true, true, true, true, true, true, true, true, true, false, true, true, true, false, false, false] rfl rfl (by kernel_rfl) (fun _ _ _ h => h) (.inl ⟨by rfl, fun w' hS' => ?_⟩) hS ?_ ?_
            rotate_left
            · go_simp
              with_reducible rfl
            rotate_left
            · simp only [Act.put, List.setIfInBounds_toArray, List.set_cons_zero, List.set_cons_succ]
              rfl
            refine take_ (i := 44) (N := some 170) (v := ?_) (a' := ?_) #[true, true, true, true, true, true, true, true, true, true, true, true, true, true, true, true, true, true, true, true, true, true, true, true, true, true, true, true, true, true, true, true, true, true, true, true, true, true, true, true, false, true, true, true, true, false, false] rfl rfl (by kernel_rfl) (fun _ _ _ h => h) (.inl ⟨by rfl, fun w' hS' => ?_⟩) hS ?_ ?_
            rotate_left
            · have t1 := fun i => blk_cell hS'.2.2.1 i
              simp only [Pol.rcells] at t1
              go_simp
              with_reducible rfl
            rotate_left
            · simp only [Act.put, List.setIfInBounds_toArray, List.set_cons_zero, List.set_cons_succ]
              rfl
            refine wpAnyLast_all (rs := [40]) (by kernel_rfl) (by simp) ?_
            intro i hi'
            obtain rfl := List.mem_singleton.1 hi'
            refine wpOp_step rfl (fun K' hK' => ?_)
            go_simp
            go_at_call 13
            with_reducible refine (hP1 _ hS.2.1).mono ?_
            rintro e w12' ⟨rfl, hb12'⟩
            have hT : Below w.heap.size w w12' ∧ IsPol w12' pb ⟨⟨a1, z1, a2, z2, a3, z3⟩, cf, ⟨m1, o1, m2, o2, m3, o3⟩, ⟨p1, r1, p2, r2, p3, r3⟩, nk⟩ ∧ IsRef w12' rb ⟨⟨a1, z1, a2, z2, a3, z3⟩, cf, ⟨m1, o1, m2, o2, m3, o3⟩, ⟨p1, r1, p2, r2, p3, r3⟩, nk⟩ ∧ w12'.heap[w.heap.size]? = some (.cells #[.int .u32 (nv c.addr), .int .u32 (nv c.peer), .int .u32 (nv c.dns1), .int .u32 (nv c.dns2), .bool c.want, .int .i64 c.max] 24 (0, 0)) := ⟨hS.1.trans (hb12'.mono hS.1.size), hS.2.1.below hb12', hS.2.2.1.below hb12', (hb12'.block _ ((Array.getElem?_eq_some_iff.1 hS.2.2.2).1)).trans hS.2.2.2⟩
            refine hK' _ _ ⟨fun _ _ => hT, ?_⟩
            clear hK' K' hS
            simp only [Act.put, List.setIfInBounds_toArray, List.set_cons_zero, List.set_cons_succ]
            have hS := hT
            clear hT
            refine take_ (i := 45) (N := some 171) (v := ?_) (a' := ?_) #[true, true, true, true, true, true, true, true, true, true, true, true, true, true, true, true, true, true, true, true, true, true, true, true, true, true, true, true, true, true, true, true, true, true, true, true, true, true, true, true, true, true, true, true, true, true, false] rfl rfl (by kernel_rfl) (fun _ _ _ h => h) (.inl ⟨by rfl, fun w' hS' => ?_⟩) hS ?_ ?_
            rotate_left
            · go_simp
              with_reducible rfl
            rotate_left
            · simp only [Act.put, List.setIfInBounds_toArray, List.set_cons_zero, List.set_cons_succ]
              rfl
            refine wpAnyLast_all (rs := [46]) (by kernel_rfl) (by simp) ?_
            intro i hi'
            obtain rfl := List.mem_singleton.1 hi'
            refine wpOp_step rfl (fun K' hK' => ?_)
            go_simp
            refine hK' _ _ ⟨fun _ h => h, ?_⟩
            clear hK' K'
            simp only [Act.put, List.setIfInBounds_toArray, List.set_cons_zero, List.set_cons_succ]
            refine wpAnyLast_done (by kernel_rfl) ?_ _
            go_wp2
            go_roundg (len - (j + 1))
            case measure => have := A.out; omega
            case rel => exact ⟨j + 1, pb, rb, _, by omega, rfl, by go_num, rfl, rfl, hS.2.1, hS.2.2.1, hI2, hne, hp0, hr0, hS.1, hS.2.2.2⟩
        · obtain rfl : j = len := by omega
          have q1 : decide ((j : Int) < (j : Int)) = false := by simp
          go_wp2_with (first
            | (go_at_call 7; with_reducible refine (plays_alive _ w hK hB).mono ?_; rintro e w2 ⟨rfl, hb2⟩))
          go_ret
          exact ⟨rfl, hb2⟩
    · have hN : ∀ W : World, Calls Tryd.prog 8 #[.agg #[.int .u32 (nv c.addr), .int .u32 (nv c.peer), .int .u32 (nv c.dns1), .int .u32 (nv c.dns2), .bool c.want, .int .i64 c.max]] W fun e w' => e = .returned (.tuple #[.pointer none, .int .i64 2]) ∧ Below W.heap.size W w' := fun W => new_bad c hm W
      have hM : ∀ W : World, Calls Tryd.prog 24 #[.agg #[.int .u32 (nv c.addr), .int .u32 (nv c.peer), .int .u32 (nv c.dns1), .int .u32 (nv c.dns2), .bool c.want, .int .i64 c.max]] W fun e w' => e = .returned (.bool false) ∧ Below W.heap.size W w' := fun W => by
        have := rmay_calls c W
        rw [decide_eq_false hm] at this
        exact this
      clear hm
      go_wp2_with (first
        | (go_at_call 8; with_reducible refine (hN _).mono ?_; rintro e w11 ⟨rfl, hb11⟩
           have B11 := B10.trans (hb11.mono B10.size)
           have c11 := (hb11.block _ g10).trans c10
           have x1 := fun i => blk_cell c11 i)
        | (go_at_call 24; with_reducible refine (hM _).mono ?_; rintro e w12 ⟨rfl, hb12⟩
           have B12 := B11.trans (hb12.mono B11.size))
        | (go_at_call 7; with_reducible refine (plays_alive _ w hK B12).mono ?_; rintro e w2 ⟨rfl, hb2⟩))
      go_ret
      exact ⟨rfl, hb2⟩
end Go.Proofs.YtlcckkdkcbelhaaDoor
