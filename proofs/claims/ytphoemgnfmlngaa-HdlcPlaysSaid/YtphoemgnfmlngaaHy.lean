/-
  Layer 4 (hdlc): HdlcPlays, walked.
-/
import Derived.Test.YtphoemgnfmlngaaHx
import Derived.Test.YtphoemgnfmlngaaHz
set_option linter.unusedVariables false
set_option linter.unusedSimpArgs false
namespace Go.Proofs.Ytphoemgnfmlngaa
open Go.RowKit Go.Proofs.YtphoemgnfmlngaaW.PrintWords Go.Proofs.YtphoemgnfmlngaaW.PrintLast

section
variable {P : Program} {ops : Array Oper} {Q : Exit → Act → World → Prop} {md : Region.Mode}
/-- From an operation on another predicate is kept: the elder one is asked of none that is to come. -/
theorem sw_go {S1 S2 : World → Prop} {ds1 ds2 : List Nat} : ∀ (fuel : Nat) (l : Array Bool) (a : Act) (w : World), (∀ i, l.getD i true = false → i ∈ ds1) → wpAnyLast P md ops Q S2 ds2 fuel l a w → wpAnyLast P md ops Q S1 ds1 fuel l a w
  | 0, l, a, w, _, h => h
  | fuel + 1, l, a, w, hl, h => ⟨h.1, fun i hi => wpOp_mono (fun a' w' h' => ⟨fun hn => absurd (hl i (mem_ready.1 hi).1) hn, sw_go fuel _ a' w' (fun j hj => by
      by_cases e : i = j
      · subst e; exact hl i (mem_ready.1 hi).1
      · refine hl j ?_
        simpa [Array.getElem?_setIfInBounds_ne e] using hj) h'.2⟩) (h.2 i hi)⟩
theorem sw_ {S1 : World → Prop} (S2 : World → Prop) {ds1 : List Nat} {fuel : Nat} {l : Array Bool} {a : Act} {w : World} (hl : ((List.range l.size).all fun i => l.getD i true || ds1.contains i) = true)
    (h : wpAnyLast P md ops Q S2 [] fuel l a w) : wpAnyLast P md ops Q S1 ds1 fuel l a w := by
  refine sw_go fuel l a w (fun i hi => ?_) h
  have hlt : i < l.size := by
    by_cases hlt : i < l.size
    · exact hlt
    · have e : l.getD i true = true := by simp [Array.getD, hlt]
      rw [e] at hi; cases hi
  have := List.all_eq_true.1 hl i (List.mem_range.2 hlt)
  rw [hi] at this
  simpa using this
end
set_option maxHeartbeats 16000000 in
set_option maxRecDepth 100000 in
theorem plays_no (m : Int) (c : Nat) (a : Option Addr) (len cap : Nat) (f : Nat → HStp) (info : List UInt8) (w : World) (h : HSteps w a len f) (hl : len ≤ maxLen) (hno : ¬ (len ≤ 60 ∧ tot f len ≤ 8192 ∧ info.length ≤ 4096)) :
    Calls Try.prog 13 #[.int .i64 m, .int .u32 (c : Int), .slice a len cap, .string (str info)] w fun e w' => e = .returned (.bool true) ∧ Below w.heap.size w w' := by
  have hz := str_size info
  by_cases hF : len ≤ 60 ∧ tot f len ≤ 8192
  · have hf := long_calls a len cap f w h hl false (by simp [hF])
    have q0 : decide ((4096 : Int) < (info.length : Int)) = true := by
      have : ¬ info.length ≤ 4096 := fun q => hno ⟨hF.1, hF.2, q⟩
      simp; omega
    clear hno hF
    go_enter Try.func13, Try.ntmps13
    go_wp2_with (first
      | (go_at_call 44; with_reducible refine hf.mono ?_; rintro e w1 ⟨rfl, hw⟩; obtain rfl := hw.symm)
      | (go_at_call 36; with_reducible refine (alive_calls _).mono ?_; rintro e w9 ⟨rfl, hb9⟩))
    go_ret
    exact ⟨rfl, hb9⟩
  · have hf := long_calls a len cap f w h hl true (by simp [hF])
    clear hno hF
    go_enter Try.func13, Try.ntmps13
    go_wp2_with (first
      | (go_at_call 44; with_reducible refine hf.mono ?_; rintro e w1 ⟨rfl, hw⟩; obtain rfl := hw.symm)
      | (go_at_call 36; with_reducible refine (alive_calls _).mono ?_; rintro e w9 ⟨rfl, hb9⟩))
    go_ret
    exact ⟨rfl, hb9⟩
theorem heard_neqR (r : Rc) (w : World) : (binOp .neq 53 (heardV r) (.agg #[.int .i64 (r.g : Int), .int .i64 (r.ab : Int), .int .i64 (r.lo : Int), .int .i64 (r.sh : Int), .int .i64 (r.su : Int)])).run Try.prog w = .ok (.bool false) w := by
  have h : ∀ n, (Op.equalIn (n + 2) 53 (hv r.g r.ab r.lo r.sh r.su) (hv r.g r.ab r.lo r.sh r.su)).run Try.prog w = .ok ((r.g : Int) == r.g && ((r.ab : Int) == r.ab && ((r.lo : Int) == r.lo && ((r.sh : Int) == r.sh && (r.su : Int) == r.su)))) w := fun n => by
    unfold hv
    refine eqA_of Try.underlying53 (by kernel_rfl) ?_
    refine eqf_cons (by rfl) (by go_simp; rfl) (by go_simp; rfl) (by go_simp) ?_
    refine eqf_cons (by rfl) (by go_simp; rfl) (by go_simp; rfl) (by go_simp) ?_
    refine eqf_cons (by rfl) (by go_simp; rfl) (by go_simp; rfl) (by go_simp) ?_
    refine eqf_cons (by rfl) (by go_simp; rfl) (by go_simp; rfl) (by go_simp) ?_
    exact eqf_last (by rfl) (by go_simp; rfl) (by go_simp; rfl) (by go_simp)
  have h' := h 9998
  rw [heardV_hv]
  unfold hv at h' ⊢
  simp only [binOp]
  simp [Op.equal, Op.maxDepth, h']
theorem nheard_neq (w : World) : (binOp .neq 53 (.agg #[.int .i64 0, .int .i64 0, .int .i64 0, .int .i64 0, .int .i64 0]) (.agg #[.int .i64 0, .int .i64 0, .int .i64 0, .int .i64 0, .int .i64 0])).run Try.prog w = .ok (.bool false) w := heard_neqR (newR 2 0) w
theorem Rc.Ok.set {n : Nat} {r : Rc} (h : r.Ok n) {m : Int} {c : Nat} (hm : 2 ≤ m ∧ m ≤ 1508) (hc : c < 4294967296) : ({ r with most := m, accm := c } : Rc).Ok n := ⟨h.g, h.ab, h.lo, h.sh, h.su, h.p, hm, hc⟩
set_option maxHeartbeats 64000000 in
set_option maxRecDepth 100000 in
theorem plays_yes (m : Int) (c : Nat) (a : Option Addr) (len cap : Nat) (f : Nat → HStp) (info : List UInt8) (w : World) (h : HSteps w a len f) (hl : len ≤ maxLen) (hc : c < 4294967296) (h60 : len ≤ 60) (htot : tot f len ≤ 8192) (hinf : info.length ≤ 4096) :
    Calls Try.prog 13 #[.int .i64 m, .int .u32 (c : Int), .slice a len cap, .string (str info)] w fun e w' => e = .returned (.bool true) ∧ Below w.heap.size w w' := by
  have hz := str_size info
  have hf := long_calls a len cap f w h hl false (by simp [h60, htot])
  have q0 : decide ((4096 : Int) < (info.length : Int)) = false := by simp; omega
  have hG := fun W => frame_calls (str info) (by rw [hz]; omega) c hc W
  rw [str_list] at hG
  have hG2 := fun W => rframe_calls info hinf c hc W
  have hgd0 : ∀ x y W, (eqGuard .neq 53 x y (.agg #[.int .i64 0, .int .i64 0, .int .i64 0, .int .i64 0, .int .i64 0]) (.agg #[.int .i64 0, .int .i64 0, .int .i64 0, .int .i64 0, .int .i64 0])).run Try.prog W = .ok () W := fun x y W => neg53 x y (newR 2 0) _ W
  have hnq0 := nheard_neq
  have hfr : (str (Hd.frame info c)).size < 100000 := by have := (frame_len info c).2; rw [str_size]; omega
  generalize str (Hd.frame info c) = FR at *
  have hMy := fun W => rmay_calls m W
  go_enter Try.func13, Try.ntmps13
  go_upto_region 6 with (first
    | (go_at_call 44; with_reducible refine hf.mono ?_; rintro e w1 ⟨rfl, hw⟩; obtain rfl := hw.symm)
    | (go_at_call 40; with_reducible refine (npush_calls _ _).mono ?_; rintro e w2 ⟨rfl, hw⟩; obtain rfl := hw.symm)
    | (go_at_call 45; with_reducible refine (nset_calls _ _ _).mono ?_; rintro e w3 ⟨rfl, hw⟩; obtain rfl := hw.symm)
    | (go_at_call 42; with_reducible refine (nheard_calls _).mono ?_; rintro e w4 ⟨rfl, hb4⟩)
    | (go_at_call 43; with_reducible refine (ninside_calls _).mono ?_; rintro e w5 ⟨rfl, hw⟩; obtain rfl := hw.symm)
    | (go_at_call 46; with_reducible refine (ncopy_calls _).mono ?_; rintro e w6 ⟨rfl, hw⟩; obtain rfl := hw.symm)
    | (go_at_call 39; with_reducible refine (hG _).mono ?_; rintro e w7 ⟨rfl, hb7⟩)
    | (go_at_call 47; with_reducible refine (hG2 _).mono ?_; rintro e w8 ⟨rfl, hb8⟩))
  have B6 := hb4.trans (hb7.mono hb4.size)
  have B8 := B6.trans (hb8.mono B6.size)
  clear hG hG2 hgd0 hnq0 hf hb4 hb7 hb8 B6
  generalize w8 = wa at *
  by_cases hm : 2 ≤ m ∧ m ≤ 1508
  · rw [decide_eq_true hm] at hMy
    have hN := new_good m c hm wa
    have hOk0 := newR_ok m c hm hc
    have hI0 : (newR m c).Inv := fun _ => rfl
    go_upto_region 11 with (first
      | (go_at_call 37; with_reducible refine hN.mono ?_; rintro e w1 ⟨rfl, hb1, hr1⟩)
      | (go_at_call 48; with_reducible refine (hMy _).mono ?_; rintro e w2 ⟨rfl, hw⟩; obtain rfl := hw.symm))
    have hrlt := hr1.lt
    have hle1 := B8.size
    have hB1 := B8.trans (hb1.mono B8.size)
    obtain ⟨bx0, hbx⟩ : ∃ x, wa.heap.size = x := ⟨_, rfl⟩
    rw [hbx] at hr1 hrlt hle1 hb1 ⊢
    clear hN hb1 hMy B8
    go_upto_block 0 with fail
    have hA1 := (Below.refl w1.heap.size w1).alloc (Nat.le_refl _) (.cells (newR m c).rcells 65)
    have hS0 : HS w bx0 w1.heap.size (newR m c) (.slice none 0 0) (w1.alloc (.cells (newR m c).rcells 65)) :=
      ⟨⟨(hA1.block bx0 hrlt).trans hr1.blk, World.ownsRow_nil _ _ _ _⟩, alloc_new _ _ _ rfl, hB1.trans (hA1.mono hB1.size), hle1, hB1.size⟩
    clear hA1 hr1 hB1
    change Code.wp _ _ _ _ (w1.alloc (.cells (newR m c).rcells 65))
    generalize w1.alloc (.cells (newR m c).rcells 65) = wS at *
    generalize w1.heap.size = rb at *
    generalize newR m c = r0 at *
    go_wp2
    go_loopg [10, 13] len (fun q xp i wr => ∃ (k bx : Nat) (v : Value) (r : Rc), k ≤ len ∧ q = len - k ∧ i = .int .i64 (k : Int) ∧ xp = .pointer (some ⟨bx, 0, none⟩) ∧ r.Ok (tot f k) ∧ Hid r.Inv ∧ Hid (HS w bx rb r v wr))
    case atStart => exact ⟨0, bx0, _, r0, by omega, rfl, rfl, rfl, hOk0, Lib.hid hI0, Lib.hid hS0⟩
    case round =>
      clear hS0 hOk0 hI0 hrlt hle1 hm
      obtain ⟨k, bx, v, r, hk, hq, rfl, rfl, hOk, hI, hS⟩ := hrel
      have A := Lib.hid hq; clear hq
      by_cases hlt : k < len
      · have hh : decide ((k : Int) < (len : Int)) = true := by simp; omega
        obtain ⟨x, rfl, c0, c1, c2, c3, c4⟩ := (h.below hS.out.bel) k hlt
        have hnx := Lib.hid (show tot f (k + 1) = tot f k + (f k).s.length from rfl)
        have htm := tot_mono f (k := k + 1) (m := len) (by omega)
        have htk : tot f k ≤ 8192 := by have := tot_mono f (k := k) (m := len) (by omega); omega
        have hts : tot f k + (f k).s.length ≤ 8192 := by have := hnx.out; omega
        have hcm := (f k).hm
        have hsz := hS.out.bel.size
        go_upto_region 16 with fail
        clear c0 c1 c2 c3 c4
        generalize f k = stp at *
        have hA := (Below.refl wr.heap.size wr).alloc (Nat.le_refl _) (.cells stp.cells 67)
        have hS1 := hS.out.below hA
        have hsb := alloc_new wr _ (.cells stp.cells 67) rfl
        change Code.wp _ _ _ _ (wr.alloc (.cells stp.cells 67))
        have hsx : wr.heap.size ≠ bx := by have := hS.out.rc.lt; omega
        have hsr : wr.heap.size ≠ rb := by have := hS.out.rf.lt; omega
        clear hA hS
        generalize wr.alloc (.cells stp.cells 67) = w1 at *
        obtain ⟨sb, hsbe⟩ : ∃ q, wr.heap.size = q := ⟨_, rfl⟩
        rw [hsbe] at hsb hsx hsr hsz ⊢
        have t1 := fun i => blk_cell hsb i
        simp only [HStp.cells] at t1
        go_upto_if 97 with fail
        go_cut [15] from 95 to 129 (fun _ wx => ∃ r1 : Rc, Hid (HS w bx rb r1 v wx) ∧ wx.heap[sb]? = some (.cells stp.cells 67 (0, 0)) ∧ r1.Ok (tot f k) ∧ Hid r1.Inv)
        case first =>
          cases hset : stp.set with
          | false =>
            go_wp2
            go_meet
            exact ⟨r, Lib.hid hS1, hsb, hOk, hI⟩
          | true =>
            have hMy2 := fun W => rmay_calls stp.most W
            by_cases hm2 : 2 ≤ stp.most ∧ stp.most ≤ 1508
            · rw [decide_eq_true hm2] at hMy2
              have hSg := set_good r w.heap.size bx v stp.most stp.accm hm2 w1 hS1.rc
              have hfin := fun (W : World) (hW : W = (w1.setCell ⟨bx, 5, none⟩ (.int .i64 stp.most)).setCell ⟨bx, 6, none⟩ (.int .u32 (stp.accm : Int))) => (show HS w bx rb { r with most := stp.most, accm := stp.accm } v ((W.setCell ⟨rb, 0, none⟩ (.int .i64 stp.most)).setCell ⟨rb, 1, none⟩ (.int .u32 (stp.accm : Int))) by rw [hW]; exact hS1.set stp.most stp.accm)
              have hrf0 := hS1.rf
              have hrx := hS1.ne
              go_upto_region 18 with (first
                | (go_at_call 45; with_reducible refine hSg.mono ?_; rintro e w2 ⟨rfl, hw2⟩; replace hw2 := Lib.hid hw2))
              have hsb2 : w2.heap[sb]? = some (.cells stp.cells 67 (0, 0)) := by
                rw [hw2.out, Below.heap_setCell _ ⟨bx, 6, none⟩ _ sb hsx, Below.heap_setCell _ ⟨bx, 5, none⟩ _ sb hsx]; exact hsb
              have hrf2 : w2.heap[rb]? = some (.cells r.rcells 65 (0, 0)) := by
                rw [hw2.out, Below.heap_setCell _ ⟨bx, 6, none⟩ _ rb hrx, Below.heap_setCell _ ⟨bx, 5, none⟩ _ rb hrx]; exact hrf0
              replace hfin := Lib.hid (hfin w2 hw2.out)
              have hsb3 : (w2.setCell ⟨rb, 0, none⟩ (.int .i64 stp.most)).heap[sb]? = some (.cells stp.cells 67 (0, 0)) := (Below.heap_setCell _ ⟨rb, 0, none⟩ _ sb hsr).trans hsb2
              have hsb4 : ((w2.setCell ⟨rb, 0, none⟩ (.int .i64 stp.most)).setCell ⟨rb, 1, none⟩ (.int .u32 (stp.accm : Int))).heap[sb]? = some (.cells stp.cells 67 (0, 0)) := (Below.heap_setCell _ ⟨rb, 1, none⟩ _ sb hsr).trans hsb3
              clear hw2 t1 hSg hS1 hrf0 hsb
              have t1 := fun i => blk_cell hsb2 i
              have t2 := fun i => blk_cell hsb3 i
              have u1 := fun i => blk_cell hrf2 i
              have u2 := fun i => blk_frozen hrf2 i
              have u3 := fun i => blk_cell (blk_set hrf2 0 (.int .i64 stp.most)) i
              have u4 := fun i => blk_frozen (blk_set hrf2 0 (.int .i64 stp.most)) i
              simp only [HStp.cells] at t1 t2
              simp only [Rc.rcells] at u1 u3
              go_wp2_with (first
                | (go_at_call 48; with_reducible refine (hMy2 _).mono ?_; rintro e w3 ⟨rfl, hw⟩; obtain rfl := hw.symm))
              go_meet
              exact ⟨_, hfin, hsb4, hOk.set hm2 hcm, Lib.hid hI.out⟩
            · rw [decide_eq_false hm2] at hMy2
              have hSg := set_bad bx stp.most stp.accm hm2 w1
              go_wp2_with (first
                | (go_at_call 45; with_reducible refine hSg.mono ?_; rintro e w2 ⟨rfl, hw⟩; obtain rfl := hw.symm)
                | (go_at_call 48; with_reducible refine (hMy2 _).mono ?_; rintro e w3 ⟨rfl, hw⟩; obtain rfl := hw.symm))
              go_meet
              exact ⟨r, Lib.hid hS1, hsb, hOk, hI⟩
        case rest =>
          clear hS1 hsb t1 hOk hI
          obtain ⟨r1, hS1, hsb, hOk, hI⟩ := hcut
          have t1 := fun i => blk_cell hsb i
          simp only [HStp.cells] at t1
          go_upto_if 131 with fail
          go_cut [10] from 131 to 138 (fun s10 wx => ∃ (nb : Nat) (v1 : Value), s10 = .pointer (some ⟨nb, 0, none⟩) ∧ Hid (HS w nb rb r1 v1 wx) ∧ wx.heap[sb]? = some (.cells stp.cells 67 (0, 0)))
          case first =>
            cases hcp : stp.cp with
            | false =>
              go_wp2
              go_meet
              exact ⟨bx, v, rfl, hS1, hsb⟩
            | true =>
              have hC := copy_calls r1 w.heap.size bx v wc hS1.out.rc (by have := hOk.p; omega)
              go_upto_region 26 with (first
                | (go_at_call 46; with_reducible refine hC.mono ?_; rintro e w2 ⟨nb, v1, rfl, hnb, hcc, hb2⟩))
              have hS2 := hS1.out.below hb2
              have hsb2 := (hb2.block _ ((Array.getElem?_eq_some_iff.1 hsb).1)).trans hsb
              have hP := push_calls r1 w.heap.size bx v ⟨#[115, 112, 111, 105, 108, 116, 126]⟩ w2 hS2.rc hS2.bel.size (tot f k) hOk (by show _ + 7 ≤ _; omega)
              generalize r1.run _ = r9 at hP
              generalize r1.outs _ = o9 at hP
              go_wp2_with (first
                | (go_at_call 40; with_reducible refine hP.mono ?_; rintro e w3 ⟨v9, ov9, rfl, hp9⟩))
              go_meet
              refine ⟨nb, v1, rfl, Lib.hid (hS1.out.copy hb2 hnb hcc hp9), ?_⟩
              rw [hp9.fr.block sb (Array.getElem?_eq_some_iff.1 hsb2).1 hsx (own_ne hS2.rc.own hsb2 (by decide))]
              exact hsb2
          case rest =>
            clear hS1 hsb t1 hsx
            obtain ⟨nb, v1, rfl, hS1, hsb⟩ := hcut
            go_upto_region 29 with fail
            refine start_ (n := 35) (S := fun W' => W'.heap[sb]? = some (.cells stp.cells 67 (0, 0))) (ds := [7, 8, 9, 10, 11, 12, 13, 14, 15, 16, 17, 18, 19, 20, 21, 22, 23, 24, 25, 26, 27, 28, 29, 30, 31, 32, 33, 34]) (#[false, false, false, false, false, false, false, false, false, false, false, false, false, false, false, false, false, false, false, false, false, false, false, false, false, false, false, false, false, false, false, false, false, false, false]) (by kernel_rfl) rfl rfl hsb (fun hS => ?_)
            have hSB := hS1.out.below (below_drew (Below.refl _ _))
            have hsbB : wc.drew.heap[sb]? = some (.cells stp.cells 67 (0, 0)) := hsb
            generalize wc.drew = wB at *
            clear hS1 hsb
            refine take_ (i := 0) (N := some 139) (v := ?_) (a' := ?_) #[true, false, false, false, false, false, false, false, false, false, false, false, false, false, false, false, false, false, false, false, false, false, false, false, false, false, false, false, false, false, false, false, false, false, false] rfl rfl (by kernel_rfl) (fun _ _ _ h => h) (.inl ⟨by rfl, fun w' hS' => ?_⟩) hS ?_ ?_
            rotate_left
            · go_simp
              with_reducible rfl
            rotate_left
            · simp only [Act.put, List.setIfInBounds_toArray, List.set_cons_zero, List.set_cons_succ]
              rfl
            refine take_ (i := 1) (N := some 140) (v := ?_) (a' := ?_) #[true, true, false, false, false, false, false, false, false, false, false, false, false, false, false, false, false, false, false, false, false, false, false, false, false, false, false, false, false, false, false, false, false, false, false] rfl rfl (by kernel_rfl) (fun _ _ _ h => h) (.inl ⟨by rfl, fun w' hS' => ?_⟩) hS ?_ ?_
            rotate_left
            · go_simp
              with_reducible rfl
            rotate_left
            · simp only [Act.put, List.setIfInBounds_toArray, List.set_cons_zero, List.set_cons_succ]
              rfl
            refine take_ (i := 2) (N := some 141) (v := ?_) (a' := ?_) #[true, true, true, false, false, false, false, false, false, false, false, false, false, false, false, false, false, false, false, false, false, false, false, false, false, false, false, false, false, false, false, false, false, false, false] rfl rfl (by kernel_rfl) (fun _ _ _ h => h) (.inl ⟨by rfl, fun w' hS' => ?_⟩) hS ?_ ?_
            rotate_left
            · have t1 := fun i => blk_cell hS' i
              simp only [HStp.cells] at t1
              go_simp
              with_reducible rfl
            rotate_left
            · simp only [Act.put, List.setIfInBounds_toArray, List.set_cons_zero, List.set_cons_succ]
              rfl
            refine take_ (i := 4) (N := some 143) (v := ?_) (a' := ?_) #[true, true, true, false, true, false, false, false, false, false, false, false, false, false, false, false, false, false, false, false, false, false, false, false, false, false, false, false, false, false, false, false, false, false, false] rfl rfl (by kernel_rfl) (fun _ _ _ h => h) (.inl ⟨by rfl, fun w' hS' => ?_⟩) hS ?_ ?_
            rotate_left
            · go_simp
              with_reducible rfl
            rotate_left
            · simp only [Act.put, List.setIfInBounds_toArray, List.set_cons_zero, List.set_cons_succ]
              rfl
            refine take_ (i := 5) (N := some 144) (v := ?_) (a' := ?_) #[true, true, true, false, true, true, false, false, false, false, false, false, false, false, false, false, false, false, false, false, false, false, false, false, false, false, false, false, false, false, false, false, false, false, false] rfl rfl (by kernel_rfl) (fun _ _ _ h => h) (.inl ⟨by rfl, fun w' hS' => ?_⟩) hS ?_ ?_
            rotate_left
            · go_simp
              with_reducible rfl
            rotate_left
            · simp only [Act.put, List.setIfInBounds_toArray, List.set_cons_zero, List.set_cons_succ]
              rfl
            refine take_ (i := 6) (N := some 145) (v := ?_) (a' := ?_) #[true, true, true, false, true, true, true, false, false, false, false, false, false, false, false, false, false, false, false, false, false, false, false, false, false, false, false, false, false, false, false, false, false, false, false] rfl rfl (by kernel_rfl) (fun _ _ _ h => h) (.inl ⟨by rfl, fun w' hS' => ?_⟩) hS ?_ ?_
            rotate_left
            · have t1 := fun i => blk_cell hS' i
              simp only [HStp.cells] at t1
              go_simp
              with_reducible rfl
            rotate_left
            · simp only [Act.put, List.setIfInBounds_toArray, List.set_cons_zero, List.set_cons_succ]
              rfl
            have hsn := hSB.ne
            have hP := push_calls r1 w.heap.size nb v1 (str stp.s) wB hSB.rc hSB.bel.size (tot f k) hOk (by rw [str_size]; omega)
            rw [str_list] at hP
            have hOk2 := hOk.run stp.s
            have hI2 := hI.out.run stp.s
            have hol := Rc.outs_le r1 stp.s
            have hR := fun W h1 => rpush_calls r1 rb (str stp.s) W h1 hI.out (tot f k) hOk (by rw [str_size]; omega)
            rw [str_list] at hR
            generalize r1.run stp.s = r2 at *
            generalize r1.outs stp.s = o2 at *
            refine wpAnyLast_all (rs := [3]) (by kernel_rfl) (by simp) ?_
            intro i hi'
            obtain rfl := List.mem_singleton.1 hi'
            refine wpOp_step rfl (fun K' hK' => ?_)
            go_simp
            go_at_call 40
            with_reducible refine hP.mono ?_
            rintro e w3 ⟨v3, ov3, rfl, hp3⟩
            obtain ⟨a3, c3, rfl⟩ := row_form hp3.out
            have hT : w3.heap[sb]? = some (.cells stp.cells 67 (0, 0)) := by
              rw [hp3.fr.block sb (Array.getElem?_eq_some_iff.1 hsbB).1 (fun e => by subst e; have := hsbB.symm.trans hSB.rc.blk; simp only [Option.some.injEq, Obj.cells.injEq] at this; exact absurd this.2.1 (by decide)) (own_ne hSB.rc.own hsbB (by decide))]
              exact hsbB
            refine hK' _ _ ⟨fun _ _ => hT, ?_⟩
            clear hK' K' hS
            simp only [Act.put, List.setIfInBounds_toArray, List.set_cons_zero, List.set_cons_succ]
            have hS := hT
            clear hT
            refine wpAnyLast_all (rs := [7]) (by kernel_rfl) (by simp) ?_
            intro i hi'
            obtain rfl := List.mem_singleton.1 hi'
            refine wpOp_step rfl (fun K' hK' => ?_)
            go_simp
            go_at_call 49
            with_reducible refine (hR _ (hSB.push1 hp3).1).mono ?_
            rintro e w4 ⟨ov4, rfl, hq4⟩
            obtain ⟨a4, c4, rfl⟩ := row_form hq4.out
            obtain ⟨hT, ho3⟩ := hSB.push2 hp3 hq4
            have ho4 := hq4.out
            refine hK' _ _ ⟨fun h => by simp at h, ?_⟩
            clear hK' K' hS
            simp only [Act.put, List.setIfInBounds_toArray, List.set_cons_zero, List.set_cons_succ]
            have hS := hT
            clear hT hSB hsbB hp3 hq4 hP hR
            have hSm := same_calls o2 o2 _ _ _ _ w4 ho3 ho4 (by omega) (by omega)
            rw [decide_eq_true rfl] at hSm
            refine sw_ (fun W' => HS w nb rb r2 v3 W') (by kernel_rfl) ?_
            refine wpAnyLast_all (rs := [8]) (by kernel_rfl) (by simp) ?_
            intro i hi'
            obtain rfl := List.mem_singleton.1 hi'
            refine wpOp_step rfl (fun K' hK' => ?_)
            go_simp
            go_at_call 41
            with_reducible refine hSm.mono ?_
            rintro e w5 ⟨rfl, hb5⟩
            have hT := hS.below hb5
            refine hK' _ _ ⟨fun _ _ => hT, ?_⟩
            clear hK' K' hS
            simp only [Act.put, List.setIfInBounds_toArray, List.set_cons_zero, List.set_cons_succ]
            have hS := hT
            clear hT hSm ho3 ho4 hb5
            have hgd := fun x y ys W => neg53 x y r2 ys W
            have hnq := fun W => heard_neqR r2 W
            refine take_ (i := 9) (N := some 148) (v := ?_) (a' := ?_) #[true, true, true, true, true, true, true, true, true, true, false, false, false, false, false, false, false, false, false, false, false, false, false, false, false, false, false, false, false, false, false, false, false, false, false] rfl rfl (by kernel_rfl) (fun _ _ _ h => h) (.inl ⟨by rfl, fun w' hS' => ?_⟩) hS ?_ ?_
            rotate_left
            · go_simp
              with_reducible rfl
            rotate_left
            · simp only [Act.put, List.setIfInBounds_toArray, List.set_cons_zero, List.set_cons_succ]
              rfl
            refine take_ (i := 10) (N := some 149) (v := ?_) (a' := ?_) #[true, true, true, true, true, true, true, true, true, true, true, false, false, false, false, false, false, false, false, false, false, false, false, false, false, false, false, false, false, false, false, false, false, false, false] rfl rfl (by kernel_rfl) (fun _ _ _ h => h) (.inl ⟨by rfl, fun w' hS' => ?_⟩) hS ?_ ?_
            rotate_left
            · go_simp
              with_reducible rfl
            rotate_left
            · simp only [Act.put, List.setIfInBounds_toArray, List.set_cons_zero, List.set_cons_succ]
              rfl
            refine take_ (i := 11) (N := some 150) (v := ?_) (a' := ?_) #[true, true, true, true, true, true, true, true, true, true, true, true, false, false, false, false, false, false, false, false, false, false, false, false, false, false, false, false, false, false, false, false, false, false, false] rfl rfl (by kernel_rfl) (fun _ _ _ h => h) (.inl ⟨by rfl, fun w' hS' => ?_⟩) hS ?_ ?_
            rotate_left
            · go_simp
              with_reducible rfl
            rotate_left
            · simp only [Act.put, List.setIfInBounds_toArray, List.set_cons_zero, List.set_cons_succ]
              rfl
            refine take_ (i := 13) (N := some 152) (v := ?_) (a' := ?_) #[true, true, true, true, true, true, true, true, true, true, true, true, false, true, false, false, false, false, false, false, false, false, false, false, false, false, false, false, false, false, false, false, false, false, false] rfl rfl (by kernel_rfl) (fun _ _ _ h => h) (.inl ⟨by rfl, fun w' hS' => ?_⟩) hS ?_ ?_
            rotate_left
            · go_simp
              with_reducible rfl
            rotate_left
            · simp only [Act.put, List.setIfInBounds_toArray, List.set_cons_zero, List.set_cons_succ]
              rfl
            refine take_ (i := 14) (N := some 153) (v := ?_) (a' := ?_) #[true, true, true, true, true, true, true, true, true, true, true, true, false, true, true, false, false, false, false, false, false, false, false, false, false, false, false, false, false, false, false, false, false, false, false] rfl rfl (by kernel_rfl) (fun _ _ _ h => h) (.inl ⟨by rfl, fun w' hS' => ?_⟩) hS ?_ ?_
            rotate_left
            · go_simp
              with_reducible rfl
            rotate_left
            · simp only [Act.put, List.setIfInBounds_toArray, List.set_cons_zero, List.set_cons_succ]
              rfl
            refine take_ (i := 15) (N := some 154) (v := ?_) (a' := ?_) #[true, true, true, true, true, true, true, true, true, true, true, true, false, true, true, true, false, false, false, false, false, false, false, false, false, false, false, false, false, false, false, false, false, false, false] rfl rfl (by kernel_rfl) (fun _ _ _ h => h) (.inl ⟨by rfl, fun w' hS' => ?_⟩) hS ?_ ?_
            rotate_left
            · go_simp
              with_reducible rfl
            rotate_left
            · simp only [Act.put, List.setIfInBounds_toArray, List.set_cons_zero, List.set_cons_succ]
              rfl
            refine take_ (i := 16) (N := some 155) (v := ?_) (a' := ?_) #[true, true, true, true, true, true, true, true, true, true, true, true, false, true, true, true, true, false, false, false, false, false, false, false, false, false, false, false, false, false, false, false, false, false, false] rfl rfl (by kernel_rfl) (fun _ _ _ h => h) (.inl ⟨by rfl, fun w' hS' => ?_⟩) hS ?_ ?_
            rotate_left
            · have t1 := hS'.rf.cell
              simp only [Rc.rcells] at t1
              go_simp
              with_reducible rfl
            rotate_left
            · simp only [Act.put, List.setIfInBounds_toArray, List.set_cons_zero, List.set_cons_succ]
              rfl
            refine wpAnyLast_all (rs := [12]) (by kernel_rfl) (by simp) ?_
            intro i hi'
            obtain rfl := List.mem_singleton.1 hi'
            refine wpOp_step rfl (fun K' hK' => ?_)
            go_simp
            go_at_call 42
            with_reducible refine (heard_calls r2 w.heap.size nb v3 _ hS.rc).mono ?_
            rintro e w6 ⟨rfl, hb6⟩
            have hT := hS.below hb6
            refine hK' _ _ ⟨fun _ _ => hT, ?_⟩
            clear hK' K' hS
            simp only [Act.put, List.setIfInBounds_toArray, List.set_cons_zero, List.set_cons_succ]
            have hS := hT
            clear hT hb6
            refine take_ (i := 17) (N := some 156) (v := ?_) (a' := ?_) #[true, true, true, true, true, true, true, true, true, true, true, true, true, true, true, true, true, true, false, false, false, false, false, false, false, false, false, false, false, false, false, false, false, false, false] rfl rfl (by kernel_rfl) (fun _ _ _ h => h) (.inl ⟨by rfl, fun w' hS' => ?_⟩) hS ?_ ?_
            rotate_left
            · go_simp
              with_reducible rfl
            rotate_left
            · simp only [Act.put, List.setIfInBounds_toArray, List.set_cons_zero, List.set_cons_succ]
              rfl
            refine take_ (i := 18) (N := some 157) (v := ?_) (a' := ?_) #[true, true, true, true, true, true, true, true, true, true, true, true, true, true, true, true, true, true, true, false, false, false, false, false, false, false, false, false, false, false, false, false, false, false, false] rfl rfl (by kernel_rfl) (fun _ _ _ h => h) (.inl ⟨by rfl, fun w' hS' => ?_⟩) hS ?_ ?_
            rotate_left
            · go_simp
              with_reducible rfl
            rotate_left
            · simp only [Act.put, List.setIfInBounds_toArray, List.set_cons_zero, List.set_cons_succ]
              rfl
            refine take_ (i := 19) (N := some 158) (v := ?_) (a' := ?_) #[true, true, true, true, true, true, true, true, true, true, true, true, true, true, true, true, true, true, true, true, false, false, false, false, false, false, false, false, false, false, false, false, false, false, false] rfl rfl (by kernel_rfl) (fun _ _ _ h => h) (.inl ⟨by rfl, fun w' hS' => ?_⟩) hS ?_ ?_
            rotate_left
            · go_simp
              with_reducible rfl
            rotate_left
            · simp only [Act.put, List.setIfInBounds_toArray, List.set_cons_zero, List.set_cons_succ]
              rfl
            refine take_ (i := 20) (N := some 159) (v := ?_) (a' := ?_) #[true, true, true, true, true, true, true, true, true, true, true, true, true, true, true, true, true, true, true, true, true, false, false, false, false, false, false, false, false, false, false, false, false, false, false] rfl rfl (by kernel_rfl) (fun _ _ _ h => h) (.inl ⟨by rfl, fun w' hS' => ?_⟩) hS ?_ ?_
            rotate_left
            · go_simp
              with_reducible rfl
            rotate_left
            · simp only [Act.put, List.setIfInBounds_toArray, List.set_cons_zero, List.set_cons_succ]
              rfl
            refine take_ (i := 22) (N := some 161) (v := ?_) (a' := ?_) #[true, true, true, true, true, true, true, true, true, true, true, true, true, true, true, true, true, true, true, true, true, false, true, false, false, false, false, false, false, false, false, false, false, false, false] rfl rfl (by kernel_rfl) (fun _ _ _ h => h) (.inl ⟨by rfl, fun w' hS' => ?_⟩) hS ?_ ?_
            rotate_left
            · go_simp
              with_reducible rfl
            rotate_left
            · simp only [Act.put, List.setIfInBounds_toArray, List.set_cons_zero, List.set_cons_succ]
              rfl
            refine take_ (i := 23) (N := some 162) (v := ?_) (a' := ?_) #[true, true, true, true, true, true, true, true, true, true, true, true, true, true, true, true, true, true, true, true, true, false, true, true, false, false, false, false, false, false, false, false, false, false, false] rfl rfl (by kernel_rfl) (fun _ _ _ h => h) (.inl ⟨by rfl, fun w' hS' => ?_⟩) hS ?_ ?_
            rotate_left
            · go_simp
              with_reducible rfl
            rotate_left
            · simp only [Act.put, List.setIfInBounds_toArray, List.set_cons_zero, List.set_cons_succ]
              rfl
            refine take_ (i := 24) (N := some 163) (v := ?_) (a' := ?_) #[true, true, true, true, true, true, true, true, true, true, true, true, true, true, true, true, true, true, true, true, true, false, true, true, true, false, false, false, false, false, false, false, false, false, false] rfl rfl (by kernel_rfl) (fun _ _ _ h => h) (.inl ⟨by rfl, fun w' hS' => ?_⟩) hS ?_ ?_
            rotate_left
            · go_simp
              with_reducible rfl
            rotate_left
            · simp only [Act.put, List.setIfInBounds_toArray, List.set_cons_zero, List.set_cons_succ]
              rfl
            cases hin : r2.inn with
            | false =>
              have hxx : decide (0 < r2.p.length) = false := by rw [hI2 hin]; rfl
              refine take_ (i := 25) (N := some 164) (v := ?_) (a' := ?_) #[true, true, true, true, true, true, true, true, true, true, true, true, true, true, true, true, true, true, true, true, true, false, true, true, true, true, false, false, false, false, false, false, false, false, false] rfl rfl (by kernel_rfl) (fun _ _ _ h => h) (.inl ⟨by rfl, fun w' hS' => ?_⟩) hS ?_ ?_
              rotate_left
              · have t1 := hS'.rf.cell
                simp only [Rc.rcells] at t1
                rw [hin] at t1
                go_simp
                with_reducible rfl
              rotate_left
              · simp only [Act.put, List.setIfInBounds_toArray, List.set_cons_zero, List.set_cons_succ]
                rfl
              refine wpAnyLast_all (rs := [21]) (by kernel_rfl) (by simp) ?_
              intro i hi'
              obtain rfl := List.mem_singleton.1 hi'
              refine wpOp_step rfl (fun K' hK' => ?_)
              go_simp
              go_at_call 43
              with_reducible refine (inside_calls r2 w.heap.size nb v3 _ hS.rc).mono ?_
              rintro e w7 ⟨rfl, hw⟩
              obtain rfl := hw.symm
              rw [hxx]
              refine hK' _ _ ⟨fun _ _ => hS, ?_⟩
              clear hK' K'
              simp only [Act.put, List.setIfInBounds_toArray, List.set_cons_zero, List.set_cons_succ]
              refine take_ (i := 26) (N := some 165) (v := ?_) (a' := ?_) #[true, true, true, true, true, true, true, true, true, true, true, true, true, true, true, true, true, true, true, true, true, true, true, true, true, true, true, false, false, false, false, false, false, false, false] rfl rfl (by kernel_rfl) (fun _ _ _ h => h) (.inl ⟨by rfl, fun w' hS' => ?_⟩) hS ?_ ?_
              rotate_left
              · go_simp
                with_reducible rfl
              rotate_left
              · simp only [Act.put, List.setIfInBounds_toArray, List.set_cons_zero, List.set_cons_succ]
                rfl
              refine take_ (i := 27) (N := some 166) (v := undef) (a' := ?_) #[true, true, true, true, true, true, true, true, true, true, true, true, true, true, true, true, true, true, true, true, true, true, true, true, true, true, true, true, false, false, false, false, false, false, false] rfl rfl (by kernel_rfl) (fun _ _ _ h => h) (.inr ⟨by rfl, rfl⟩) hS ?_ ?_
              rotate_left
              · simp only [Act.put, List.setIfInBounds_toArray, List.set_cons_zero, List.set_cons_succ]
                rfl
              refine take_ (i := 28) (N := some 167) (v := undef) (a' := ?_) #[true, true, true, true, true, true, true, true, true, true, true, true, true, true, true, true, true, true, true, true, true, true, true, true, true, true, true, true, true, false, false, false, false, false, false] rfl rfl (by kernel_rfl) (fun _ _ _ h => h) (.inr ⟨by rfl, rfl⟩) hS ?_ ?_
              rotate_left
              · simp only [Act.put, List.setIfInBounds_toArray, List.set_cons_zero, List.set_cons_succ]
                rfl
              refine take_ (i := 29) (N := some 168) (v := undef) (a' := ?_) #[true, true, true, true, true, true, true, true, true, true, true, true, true, true, true, true, true, true, true, true, true, true, true, true, true, true, true, true, true, true, false, false, false, false, false] rfl rfl (by kernel_rfl) (fun _ _ _ h => h) (.inr ⟨by rfl, rfl⟩) hS ?_ ?_
              rotate_left
              · simp only [Act.put, List.setIfInBounds_toArray, List.set_cons_zero, List.set_cons_succ]
                rfl
              refine take_ (i := 30) (N := some 169) (v := undef) (a' := ?_) #[true, true, true, true, true, true, true, true, true, true, true, true, true, true, true, true, true, true, true, true, true, true, true, true, true, true, true, true, true, true, true, false, false, false, false] rfl rfl (by kernel_rfl) (fun _ _ _ h => h) (.inr ⟨by rfl, rfl⟩) hS ?_ ?_
              rotate_left
              · simp only [Act.put, List.setIfInBounds_toArray, List.set_cons_zero, List.set_cons_succ]
                rfl
              refine take_ (i := 31) (N := some 170) (v := undef) (a' := ?_) #[true, true, true, true, true, true, true, true, true, true, true, true, true, true, true, true, true, true, true, true, true, true, true, true, true, true, true, true, true, true, true, true, false, false, false] rfl rfl (by kernel_rfl) (fun _ _ _ h => h) (.inr ⟨by rfl, rfl⟩) hS ?_ ?_
              rotate_left
              · simp only [Act.put, List.setIfInBounds_toArray, List.set_cons_zero, List.set_cons_succ]
                rfl
              refine take_ (i := 32) (N := some 171) (v := ?_) (a' := ?_) #[true, true, true, true, true, true, true, true, true, true, true, true, true, true, true, true, true, true, true, true, true, true, true, true, true, true, true, true, true, true, true, true, true, false, false] rfl rfl (by kernel_rfl) (fun _ _ _ h => h) (.inl ⟨by rfl, fun w' hS' => ?_⟩) hS ?_ ?_
              rotate_left
              · go_simp
                with_reducible rfl
              rotate_left
              · simp only [Act.put, List.setIfInBounds_toArray, List.set_cons_zero, List.set_cons_succ]
                rfl
              refine take_ (i := 33) (N := some 172) (v := ?_) (a' := ?_) #[true, true, true, true, true, true, true, true, true, true, true, true, true, true, true, true, true, true, true, true, true, true, true, true, true, true, true, true, true, true, true, true, true, true, false] rfl rfl (by kernel_rfl) (fun _ _ _ h => h) (.inl ⟨by rfl, fun w' hS' => ?_⟩) hS ?_ ?_
              rotate_left
              · go_simp
                with_reducible rfl
              rotate_left
              · simp only [Act.put, List.setIfInBounds_toArray, List.set_cons_zero, List.set_cons_succ]
                rfl
              refine take_ (i := 34) (N := some 173) (v := ?_) (a' := ?_) #[true, true, true, true, true, true, true, true, true, true, true, true, true, true, true, true, true, true, true, true, true, true, true, true, true, true, true, true, true, true, true, true, true, true, true] rfl rfl (by kernel_rfl) (fun _ _ _ h => h) (.inl ⟨by rfl, fun w' hS' => ?_⟩) hS ?_ ?_
              rotate_left
              · go_simp
                with_reducible rfl
              rotate_left
              · simp only [Act.put, List.setIfInBounds_toArray, List.set_cons_zero, List.set_cons_succ]
                rfl
              refine wpAnyLast_done (by kernel_rfl) ?_ _
              go_wp2
              go_roundg (len - (k + 1))
              case measure => have := A.out; omega
              case rel => exact ⟨k + 1, nb, v3, r2, by omega, rfl, by go_num, rfl, by rw [hnx.out]; exact hOk2, Lib.hid hI2, Lib.hid hS⟩
            | true =>
              obtain ⟨xx, hxx⟩ : ∃ xx, decide (0 < r2.p.length) = xx := ⟨_, rfl⟩
              have hx2 : (str r2.p).toList.isEmpty = !xx := by rw [toList_data, ← hxx]; show r2.p.isEmpty = _; cases r2.p <;> simp
              have hx3 : (xx != xx) = false := by simp
              refine take_ (i := 25) (N := some 164) (v := ?_) (a' := ?_) #[true, true, true, true, true, true, true, true, true, true, true, true, true, true, true, true, true, true, true, true, true, false, true, true, true, true, false, false, false, false, false, false, false, false, false] rfl rfl (by kernel_rfl) (fun _ _ _ h => h) (.inl ⟨by rfl, fun w' hS' => ?_⟩) hS ?_ ?_
              rotate_left
              · have t1 := hS'.rf.cell
                simp only [Rc.rcells] at t1
                rw [hin] at t1
                go_simp
                with_reducible rfl
              rotate_left
              · simp only [Act.put, List.setIfInBounds_toArray, List.set_cons_zero, List.set_cons_succ]
                rfl
              refine wpAnyLast_all (rs := [21]) (by kernel_rfl) (by simp) ?_
              intro i hi'
              obtain rfl := List.mem_singleton.1 hi'
              refine wpOp_step rfl (fun K' hK' => ?_)
              go_simp
              go_at_call 43
              with_reducible refine (inside_calls r2 w.heap.size nb v3 _ hS.rc).mono ?_
              rintro e w7 ⟨rfl, hw⟩
              obtain rfl := hw.symm
              rw [hxx]
              refine hK' _ _ ⟨fun _ _ => hS, ?_⟩
              clear hK' K'
              simp only [Act.put, List.setIfInBounds_toArray, List.set_cons_zero, List.set_cons_succ]
              refine take_ (i := 26) (N := some 165) (v := ?_) (a' := ?_) #[true, true, true, true, true, true, true, true, true, true, true, true, true, true, true, true, true, true, true, true, true, true, true, true, true, true, true, false, false, false, false, false, false, false, false] rfl rfl (by kernel_rfl) (fun _ _ _ h => h) (.inl ⟨by rfl, fun w' hS' => ?_⟩) hS ?_ ?_
              rotate_left
              · go_simp
                with_reducible rfl
              rotate_left
              · simp only [Act.put, List.setIfInBounds_toArray, List.set_cons_zero, List.set_cons_succ]
                rfl
              refine take_ (i := 27) (N := some 166) (v := ?_) (a' := ?_) #[true, true, true, true, true, true, true, true, true, true, true, true, true, true, true, true, true, true, true, true, true, true, true, true, true, true, true, true, false, false, false, false, false, false, false] rfl rfl (by kernel_rfl) (fun _ _ _ h => h) (.inl ⟨by rfl, fun w' hS' => ?_⟩) hS ?_ ?_
              rotate_left
              · go_simp
                with_reducible rfl
              rotate_left
              · simp only [Act.put, List.setIfInBounds_toArray, List.set_cons_zero, List.set_cons_succ]
                rfl
              refine take_ (i := 28) (N := some 167) (v := ?_) (a' := ?_) #[true, true, true, true, true, true, true, true, true, true, true, true, true, true, true, true, true, true, true, true, true, true, true, true, true, true, true, true, true, false, false, false, false, false, false] rfl rfl (by kernel_rfl) (fun _ _ _ h => h) (.inl ⟨by rfl, fun w' hS' => ?_⟩) hS ?_ ?_
              rotate_left
              · go_simp
                with_reducible rfl
              rotate_left
              · simp only [Act.put, List.setIfInBounds_toArray, List.set_cons_zero, List.set_cons_succ]
                rfl
              refine take_ (i := 29) (N := some 168) (v := ?_) (a' := ?_) #[true, true, true, true, true, true, true, true, true, true, true, true, true, true, true, true, true, true, true, true, true, true, true, true, true, true, true, true, true, true, false, false, false, false, false] rfl rfl (by kernel_rfl) (fun _ _ _ h => h) (.inl ⟨by rfl, fun w' hS' => ?_⟩) hS ?_ ?_
              rotate_left
              · go_simp
                with_reducible rfl
              rotate_left
              · simp only [Act.put, List.setIfInBounds_toArray, List.set_cons_zero, List.set_cons_succ]
                rfl
              refine take_ (i := 30) (N := some 169) (v := ?_) (a' := ?_) #[true, true, true, true, true, true, true, true, true, true, true, true, true, true, true, true, true, true, true, true, true, true, true, true, true, true, true, true, true, true, true, false, false, false, false] rfl rfl (by kernel_rfl) (fun _ _ _ h => h) (.inl ⟨by rfl, fun w' hS' => ?_⟩) hS ?_ ?_
              rotate_left
              · have t1 := hS'.rf.cell
                simp only [Rc.rcells] at t1
                go_simp
                with_reducible rfl
              rotate_left
              · simp only [Act.put, List.setIfInBounds_toArray, List.set_cons_zero, List.set_cons_succ]
                rfl
              refine take_ (i := 31) (N := some 170) (v := ?_) (a' := ?_) #[true, true, true, true, true, true, true, true, true, true, true, true, true, true, true, true, true, true, true, true, true, true, true, true, true, true, true, true, true, true, true, true, false, false, false] rfl rfl (by kernel_rfl) (fun _ _ _ h => h) (.inl ⟨by rfl, fun w' hS' => ?_⟩) hS ?_ ?_
              rotate_left
              · go_simp
                with_reducible rfl
              rotate_left
              · simp only [Act.put, List.setIfInBounds_toArray, List.set_cons_zero, List.set_cons_succ]
                rfl
              refine take_ (i := 32) (N := some 171) (v := ?_) (a' := ?_) #[true, true, true, true, true, true, true, true, true, true, true, true, true, true, true, true, true, true, true, true, true, true, true, true, true, true, true, true, true, true, true, true, true, false, false] rfl rfl (by kernel_rfl) (fun _ _ _ h => h) (.inl ⟨by rfl, fun w' hS' => ?_⟩) hS ?_ ?_
              rotate_left
              · go_simp
                with_reducible rfl
              rotate_left
              · simp only [Act.put, List.setIfInBounds_toArray, List.set_cons_zero, List.set_cons_succ]
                rfl
              refine take_ (i := 33) (N := some 172) (v := ?_) (a' := ?_) #[true, true, true, true, true, true, true, true, true, true, true, true, true, true, true, true, true, true, true, true, true, true, true, true, true, true, true, true, true, true, true, true, true, true, false] rfl rfl (by kernel_rfl) (fun _ _ _ h => h) (.inl ⟨by rfl, fun w' hS' => ?_⟩) hS ?_ ?_
              rotate_left
              · go_simp
                with_reducible rfl
              rotate_left
              · simp only [Act.put, List.setIfInBounds_toArray, List.set_cons_zero, List.set_cons_succ]
                rfl
              refine take_ (i := 34) (N := some 173) (v := ?_) (a' := ?_) #[true, true, true, true, true, true, true, true, true, true, true, true, true, true, true, true, true, true, true, true, true, true, true, true, true, true, true, true, true, true, true, true, true, true, true] rfl rfl (by kernel_rfl) (fun _ _ _ h => h) (.inl ⟨by rfl, fun w' hS' => ?_⟩) hS ?_ ?_
              rotate_left
              · go_simp
                with_reducible rfl
              rotate_left
              · simp only [Act.put, List.setIfInBounds_toArray, List.set_cons_zero, List.set_cons_succ]
                rfl
              refine wpAnyLast_done (by kernel_rfl) ?_ _
              go_wp2
              go_roundg (len - (k + 1))
              case measure => have := A.out; omega
              case rel => exact ⟨k + 1, nb, v3, r2, by omega, rfl, by go_num, rfl, by rw [hnx.out]; exact hOk2, Lib.hid hI2, Lib.hid hS⟩
      · obtain rfl : k = len := by omega
        have hh : decide (((k : Nat) : Int) < (k : Int)) = false := by simp
        have hb := hS.out.bel
        go_wp2_with (first
          | (go_at_call 36; with_reducible refine (alive_calls _).mono ?_; rintro e w9 ⟨rfl, hb9⟩))
        go_ret
        exact ⟨rfl, hb.trans (hb9.mono hb.size)⟩
  · rw [decide_eq_false hm] at hMy
    have hN := new_bad m c hm wa
    go_wp2_with (first
      | (go_at_call 37; with_reducible refine hN.mono ?_; rintro e w1 ⟨rfl, hb1⟩)
      | (go_at_call 48; with_reducible refine (hMy _).mono ?_; rintro e w2 ⟨rfl, hw⟩; obtain rfl := hw.symm)
      | (go_at_call 36; with_reducible refine (alive_calls _).mono ?_; rintro e w9 ⟨rfl, hb9⟩))
    go_ret
    have B1 := B8.trans (hb1.mono B8.size)
    exact ⟨rfl, B1.trans (hb9.mono B1.size)⟩

theorem plays_calls (m : Int) (c : Nat) (a : Option Addr) (len cap : Nat) (f : Nat → HStp) (s : ByteArray) (w : World) (h : HSteps w a len f) (hl : len ≤ maxLen) (hc : c < 4294967296) :
    Calls Try.prog 13 #[.int .i64 m, .int .u32 (c : Int), .slice a len cap, .string s] w fun e w' => e = .returned (.bool true) ∧ Below w.heap.size w w' := by
  rw [← str_of s]
  by_cases hx : len ≤ 60 ∧ tot f len ≤ 8192 ∧ s.data.toList.length ≤ 4096
  · exact plays_yes m c a len cap f _ w h hl hc hx.1 hx.2.1 hx.2.2
  · exact plays_no m c a len cap f _ w h hl hx
end Go.Proofs.Ytphoemgnfmlngaa
