/-
  Layer 15 (ipcppol): a step, of both policies; heavy, row, does, walked.
-/
import Derived.Test.YtlcckkdkcbelhaaDoorRf3
import Derived.Test.YtlcckkdkcbelhaaDoorOnlyW
set_option linter.unusedVariables false
set_option linter.unusedSimpArgs false
namespace Go.Proofs.YtlcckkdkcbelhaaDoor

/-- A step. -/
structure Stp where
  doo : Int
  l : List Opt
  own : Bool
  n : UInt8
/-- What a step is of. -/
def rowP (s : Pol) (x : Stp) : List Opt :=
  if x.own = false then x.l else if x.doo = 3 ∧ putL s.w 3 ≠ [] then ((putL s.w 3).drop (x.n.toNat % (putL s.w 3).length)).take 1 else putL s.w 3
/-- What a step leaves. -/
def stepL (s : Pol) (d : Int) (l : List Opt) : Pol :=
  if d = 0 then (judge s l).2.2 else if d = 1 then (if l = putL s.w 3 then { s with mine := s.w } else s) else if d = 2 then (nakdP s l).2 else if d = 3 then (rejd s l).2 else s
/-- What holds of a policy all along. -/
structure Inv (c : Conf) (s : Pol) : Prop where
  c : s.c = c
  ok : okI s.w 3
  n0 : 0 ≤ s.naks
  n1 : s.naks ≤ 10
theorem okI3 (x : Icp) : okI x 3 ↔ (x.ha = true ∨ x.a = 0) ∧ (x.h1 = true ∨ x.d1 = 0) ∧ (x.h2 = true ∨ x.d2 = 0) := by
  constructor
  · intro h; exact ⟨h 0 (by omega), h 1 (by omega), h 2 (by omega)⟩
  · rintro ⟨h0, h1, h2⟩ j hj
    rcases (show j = 0 ∨ j = 1 ∨ j = 2 by omega) with rfl | rfl | rfl
    · exact h0
    · exact h1
    · exact h2
theorem Inv.put {c : Conf} {s : Pol} (h : Inv c s) : (putI s.w).1 = putL s.w 3 := by
  unfold putI
  rw [if_pos h.ok]
theorem getL_ok : ∀ (l : List Opt) (x : Icp) (odd : List Opt), okI x 3 → okI (getL l x odd).1 3
  | [], x, odd, h => h
  | o :: l, x, odd, h => by
    rw [getL]
    split
    · rename_i hg
      split
      · rw [okI3]; simp [noI]
      · refine getL_ok l _ odd ?_
        intro j hj
        have hk := (good_kof hg).1
        rw [has_set x _ j hk hj, val_set2 x _ j hk hj]
        by_cases e : j = kof o
        · left; rw [if_pos e]
        · rw [if_neg e, if_neg e]; exact h j hj
    · exact getL_ok l x _ h
theorem getI_ok (l : List Opt) : okI (getI l).1 3 := getL_ok l noI [] (by rw [okI3]; simp [noI])
theorem nvz (u : UInt32) : (nv u != 0) = decide (u ≠ 0) := by
  rw [show (0 : Int) = nv 0 from rfl, bne, ni_bool]
  by_cases h : u = 0 <;> simp [h]
theorem took_same (c : Conf) (w x : Icp) (h : okI x 3) : rtook c w x = took c w x := by
  obtain ⟨h0, h1, h2⟩ := (okI3 x).1 h
  have k0 : (w.tA ((x.ha && (nv x.a != 0)) && w.ha && (nv c.addr == 0)) x.a) = w.tA (w.ha && (nv c.addr == 0)) x.a := by
    unfold Icp.tA
    rcases h0 with e | e
    · rw [e, nvz]
      by_cases e2 : x.a = 0 <;> simp [e2]
    · simp [e]
  have k1 : ∀ v : Icp, v.t1 ((x.h1 && (nv x.d1 != 0)) && w.h1) x.d1 = v.t1 w.h1 x.d1 := fun v => by
    unfold Icp.t1
    rcases h1 with e | e
    · rw [e, nvz]
      by_cases e2 : x.d1 = 0 <;> simp [e2]
    · simp [e]
  have k2 : ∀ v : Icp, v.t2 ((x.h2 && (nv x.d2 != 0)) && w.h2) x.d2 = v.t2 w.h2 x.d2 := fun v => by
    unfold Icp.t2
    rcases h2 with e | e
    · rw [e, nvz]
      by_cases e2 : x.d2 = 0 <;> simp [e2]
    · simp [e]
  unfold rtook took
  rw [k0, k1, k2]
theorem nak_same (s : Pol) (l : List Opt) : rnakP s l = nakdP s l := by
  unfold rnakP nakdP
  rw [took_same _ _ _ (getI_ok l)]
theorem rej_same {c : Conf} {s : Pol} (h : Inv c s) (l : List Opt) : rrejP s l = rejd s l := by
  unfold rrejP rejd
  rw [h.put]
  by_cases h1 : subB l (putL s.w 3) = false
  · rw [if_pos (.inl h1), if_pos (.inr h1)]
  · by_cases h2 : l = []
    · rw [if_pos (.inr h2), if_pos (.inl h2)]
    · rw [if_neg (fun e => e.elim h1 h2), if_neg (fun e => e.elim h2 h1)]
theorem tA_ok {w : Icp} (h : okI w 3) (b : Bool) (u : UInt32) : okI (w.tA (w.ha && b) u) 3 := by
  unfold Icp.tA
  split
  · rename_i e
    rw [okI3] at h ⊢
    have : w.ha = true := by have := e.1; simp at this; exact this.1
    exact ⟨.inl this, h.2⟩
  · exact h
theorem t1_ok {w : Icp} (h : okI w 3) (u : UInt32) : okI (w.t1 w.h1 u) 3 := by
  unfold Icp.t1
  split
  · rename_i e
    rw [okI3] at h ⊢
    exact ⟨h.1, .inl e.1, h.2.2⟩
  · exact h
theorem t2_ok {w : Icp} (h : okI w 3) (u : UInt32) : okI (w.t2 w.h2 u) 3 := by
  unfold Icp.t2
  split
  · rename_i e
    rw [okI3] at h ⊢
    exact ⟨h.1, h.2.1, .inl e.1⟩
  · exact h
theorem took_ok (c : Conf) {w : Icp} (h : okI w 3) (x : Icp) : okI (took c w x) 3 := by
  unfold took
  have h1 := tA_ok h (nv c.addr == 0) x.a
  have e1 : w.h1 = (w.tA (w.ha && (nv c.addr == 0)) x.a).h1 := (tA_h1 _ _ _).1.symm
  have e2 : w.h2 = (w.tA (w.ha && (nv c.addr == 0)) x.a).h2 := (tA_h1 _ _ _).2.symm
  rw [e1]
  have h2 := t1_ok h1 x.d1
  rw [e2, ← t1_h2 (w.tA (w.ha && (nv c.addr == 0)) x.a) (w.tA (w.ha && (nv c.addr == 0)) x.a).h1 x.d1]
  exact t2_ok h2 x.d2
theorem clr_ok {x : Icp} (h : okI x 3) (k : Nat) : okI (x.clr k) 3 := by
  rw [okI3] at h ⊢
  unfold Icp.clr
  split
  · exact ⟨.inr rfl, h.2⟩
  · split
    · exact ⟨h.1, .inr rfl, h.2.2⟩
    · exact ⟨h.1, h.2.1, .inr rfl⟩
theorem clrs_ok : ∀ (l : List Opt) {x : Icp}, okI x 3 → okI (clrs l x) 3
  | [], x, h => h
  | o :: l, x, h => clrs_ok l (clr_ok h (kof o))
theorem inv_reset (c : Conf) : Inv c (resetP c) := ⟨rfl, by
  rw [okI3]
  exact ⟨.inl rfl, .inr rfl, .inr rfl⟩, Int.le_refl _, show (0 : Int) ≤ 10 by decide⟩
theorem inv_step {c : Conf} (hm : c.max ≤ 10) {s : Pol} (h : Inv c s) (d : Int) (l : List Opt) : Inv c (stepL s d l) := by
  unfold stepL
  split
  · obtain ⟨k1, k2, k3, k4, k5⟩ := judge_keeps s l ⟨h.n0, h.n1⟩ (by rw [h.c]; exact hm)
    exact ⟨k1.trans h.c, by rw [k2]; exact h.ok, k4, k5⟩
  split
  · split
    · exact ⟨h.c, h.ok, h.n0, h.n1⟩
    · exact h
  split
  · unfold nakdP
    split
    · exact h
    · exact ⟨h.c, took_ok _ h.ok _, h.n0, h.n1⟩
  split
  · unfold rejd
    split
    · exact h
    · exact ⟨h.c, clrs_ok l h.ok, h.n0, h.n1⟩
  · exact h
theorem rowP_len (s : Pol) (x : Stp) (h : x.l.length ≤ 70) : (rowP s x).length ≤ 70 := by
  have := putL_le s.w 3 (Nat.le_refl _)
  unfold rowP
  split
  · exact h
  split
  · rw [List.length_take]; omega
  · omega
end Go.Proofs.YtlcckkdkcbelhaaDoor
namespace Go.Proofs.YtlcckkdkcbelhaaDoor
open Go.RowKit Go.Proofs.YtlcckkdkcbelhaaDoorW.PrintWords Go.Proofs.YtlcckkdkcbelhaaDoorW.PrintLast

/-- The steps, as they lie. -/
structure Steps (w : World) (ra : Option Addr) (rc len : Nat) (f : Nat → Stp) : Prop where
  cap : len ≤ rc
  at_ : ∀ i, i < len → ∃ x a c, ra = some x ∧ w.cell? (x.add (i * 4)) = some (.int .i64 (f i).doo) ∧ w.cell? ⟨(x.add (i * 4)).block, (x.add (i * 4)).off + 1, none⟩ = some (.slice a (f i).l.length c) ∧
    w.cell? ⟨(x.add (i * 4)).block, (x.add (i * 4)).off + 2, none⟩ = some (.bool (f i).own) ∧ w.cell? ⟨(x.add (i * 4)).block, (x.add (i * 4)).off + 3, none⟩ = some (.int .u8 (tv (f i).n)) ∧
    Row w a c (f i).l ∧ (a = none → c = 0 ∧ (f i).l = [])
  small : ∀ i, i < len → ∀ o ∈ (f i).l, o.d.size ≤ 140737488355328
theorem Steps.below {w W : World} {ra : Option Addr} {rc len : Nat} {f : Nat → Stp} (h : Steps w ra rc len f) (hb : Below w.heap.size w W) : Steps W ra rc len f := by
  refine ⟨h.cap, fun i hi => ?_, h.small⟩
  obtain ⟨x, a, c, e, h1, h2, h3, h4, h5, h6⟩ := h.at_ i hi
  exact ⟨x, a, c, e, (hb.cell (cell_lt h1)).trans h1, (hb.cell (cell_lt h2)).trans h2, (hb.cell (cell_lt h3)).trans h3, (hb.cell (cell_lt h4)).trans h4, h5.below hb, h6⟩
theorem own_nil {w : World} {B n : Nat} {a : Option Addr} {c : Nat} {xs : List Value} (h : w.ownsRow B 57 2 (.slice a n c) n xs) (ha : a = none) : c = 0 ∧ n = 0 := by
  rcases h.2 with ⟨e, h0⟩ | ⟨g, cap, cur, e, _⟩
  · cases e; exact ⟨rfl, h0⟩
  · cases e; cases ha
set_option maxRecDepth 100000 in
theorem run_cut2 (W : World) (b : Option Addr) (m : List Opt) (c j : Nat) (hj : j < m.length) (hc : m.length ≤ c) : (Instr.slice 32 (.slice b m.length c) (some (.int .i64 (j : Int))) (some (.int .i64 ((j : Int) + 1))) none).run Tryd.prog W = .ok (.slice (if c = j then b else b.map (·.add (j * 2))) 1 (c - j)) W := by
  rw [run_slice_lh (P := Tryd.prog) (w := W) 32 b m.length c und32 .i64 .i64 (j : Int) ((j : Int) + 1) (by omega) (by omega) (by omega)]
  have e : ((j : Int) + 1).toNat = j + 1 := by omega
  have e2 : (j : Int).toNat = j := by omega
  have hs : (sizeOf (Tryd.prog.elem 32)).run Tryd.prog W = .ok 2 W := by kernel_rfl
  rw [hs]
  simp only [Result.andThen, sliced, e, e2]
  rw [show j + 1 - j = 1 by omega]
set_option maxHeartbeats 4000000 in
set_option maxRecDepth 100000 in
theorem row_calls (s : Pol) (rb : Nat) (x : Stp) (y : Option Addr) (d : Nat) (w : World) (hr : IsRef w rb s) (hy : Row w y d x.l) (hyn : y = none → d = 0 ∧ x.l = []) :
    Calls Tryd.prog 37 #[.pointer (some ⟨rb, 0, none⟩), .agg #[.int .i64 x.doo, .slice y x.l.length d, .bool x.own, .int .u8 (tv x.n)]] w fun e w' => ∃ a c, e = .returned (.slice a (rowP s x).length c) ∧ Row w' a c (rowP s x) ∧ (a = none → c = 0 ∧ rowP s x = []) ∧ Below w.heap.size w w' := by
  obtain ⟨doo, l, own, n⟩ := x
  simp only at hy hyn
  have hR := fun W h1 => rreq_calls s rb W h1
  have hrow : Hid (rowP s ⟨doo, l, own, n⟩ = if own = false then l else if doo = 3 ∧ putL s.w 3 ≠ [] then ((putL s.w 3).drop (n.toNat % (putL s.w 3).length)).take 1 else putL s.w 3) := Lib.hid rfl
  have hql := putL_le s.w 3 (Nat.le_refl _)
  generalize rowP s ⟨doo, l, own, n⟩ = R at *
  generalize putL s.w 3 = q at *
  simp only
  have Bb := (Below.refl w.heap.size w).alloc (Nat.le_refl _) (.cells #[.int .i64 doo, .slice y l.length d, .bool own, .int .u8 (tv n)] 55)
  have nb := alloc_new w _ (.cells #[.int .i64 doo, .slice y l.length d, .bool own, .int .u8 (tv n)] 55) rfl
  have hrb := hr.below Bb
  cases own with
  | false =>
    have e : Hid (R = l) := Lib.hid (by rw [hrow.out, if_pos rfl])
    clear hrow
    go_enter Tryd.func37, Tryd.ntmps37
    go_wp2
    go_ret
    rw [e.out]
    exact ⟨_, _, rfl, hy.below Bb, hyn, Bb⟩
  | true =>
    have e1 : R = if doo = 3 ∧ q ≠ [] then (q.drop (n.toNat % q.length)).take 1 else q := by rw [hrow.out, if_neg (by simp)]
    clear hrow
    by_cases h3 : doo = 3
    · have p3 : (doo == 3) = true := by simpa using h3
      by_cases hq : q = []
      · have e : Hid (R = q) := Lib.hid (by rw [e1, if_neg (fun h => h.2 hq)])
        have z1 : decide ((0 : Int) < (q.length : Int)) = false := by rw [hq]; rfl
        have z2 : decide (0 < q.length) = false := by rw [hq]; rfl
        have E3 := Lib.hid h3
        have EQ := Lib.hid hq
        clear e1 h3 hq
        go_enter Tryd.func37, Tryd.ntmps37
        go_wp2_with (first
          | (go_at_call 28; with_reducible refine (hR _ hrb).mono ?_; rintro e w1 ⟨v, rfl, ho, hb1⟩
             have c0 := fun i => blk_cell ((hb1.block _ ((Array.getElem?_eq_some_iff.1 nb).1)).trans nb) i
             have ho' := ho
             obtain ⟨xa, xc, rfl, r1⟩ := row_own ho))
        go_ret
        rw [e.out]
        exact ⟨_, _, rfl, r1, fun hx => ⟨(own_nil ho' hx).1, EQ.out⟩, Bb.trans (hb1.mono Bb.size)⟩
      · have e : Hid (R = (q.drop (n.toNat % q.length)).take 1) := Lib.hid (by rw [e1, if_pos ⟨h3, hq⟩])
        have hpos : 0 < q.length := List.length_pos_iff.2 hq
        have z1 : decide ((0 : Int) < (q.length : Int)) = true := by simp; omega
        have z2 : decide (0 < q.length) = true := by simp; omega
        have z3 : (q.length : Int) ≠ 0 := by omega
        have z4 : ((q.length : Int) == 0) = false := by simp; omega
        have hk : n.toNat % q.length < q.length := Nat.mod_lt _ hpos
        obtain ⟨tv0, tv1⟩ := tv_range n
        have z5 : (tv n).tmod (q.length : Int) = ((n.toNat % q.length : Nat) : Int) := by
          unfold tv
          rw [Int.tmod_eq_emod_of_nonneg (by omega)]
          rfl
        have hl1 : ((q.drop (n.toNat % q.length)).take 1).length = 1 := by rw [List.length_take, List.length_drop]; omega
        have E3 := Lib.hid h3
        have EQ := Lib.hid hq
        replace hl1 := Lib.hid hl1
        clear e1 h3 hq
        generalize n.toNat % q.length = k at *
        have hcut := fun W b c (hc : q.length ≤ c) => run_cut2 W b q c k hk hc
        go_enter Tryd.func37, Tryd.ntmps37
        go_wp2_with (first
          | (go_at_call 28; with_reducible refine (hR _ hrb).mono ?_; rintro e w1 ⟨v, rfl, ho, hb1⟩
             have c0 := fun i => blk_cell ((hb1.block _ ((Array.getElem?_eq_some_iff.1 nb).1)).trans nb) i
             have ho' := ho
             obtain ⟨xa, xc, rfl, r1⟩ := row_own ho
             have hcut2 := fun W => hcut W xa xc r1.1
             have r2 := row_take (row_sliced r1 k (Nat.le_of_lt hk)) 1
             have hkc : xc ≠ k := by have := r1.1; omega
             rw [if_neg hkc] at r2
             simp only [if_neg hkc] at hcut2
             clear hcut))
        go_ret
        rw [e.out, hl1.out]
        refine ⟨_, _, rfl, r2, fun hx => ?_, Bb.trans (hb1.mono Bb.size)⟩
        cases xa with
        | none =>
          have := (own_nil ho' rfl).2
          exact absurd this (by omega)
        | some a => cases hx
    · have p3 : (doo == 3) = false := by simpa using h3
      have e : Hid (R = q) := Lib.hid (by rw [e1, if_neg (fun h => h3 h.1)])
      clear e1 h3
      go_enter Tryd.func37, Tryd.ntmps37
      go_wp2_with (first
        | (go_at_call 28; with_reducible refine (hR _ hrb).mono ?_; rintro e w1 ⟨v, rfl, ho, hb1⟩
           have c0 := fun i => blk_cell ((hb1.block _ ((Array.getElem?_eq_some_iff.1 nb).1)).trans nb) i
           have ho' := ho
           obtain ⟨xa, xc, rfl, r1⟩ := row_own ho))
      go_ret
      rw [e.out]
      exact ⟨_, _, rfl, r1, fun hx => ⟨(own_nil ho' hx).1, List.eq_nil_of_length_eq_zero (own_nil ho' hx).2⟩, Bb.trans (hb1.mono Bb.size)⟩
set_option maxRecDepth 100000 in
theorem heavy_calls (len : Nat) (f : Nat → Stp) (a : Option Addr) (c : Nat) (w : World) (h : Steps w a c len f) :
    Calls Tryd.prog 20 #[.slice a len c] w fun e w' => ∃ b, e = .returned (.bool b) ∧ w' = w ∧ (b = false → len ≤ 80 ∧ ∀ i, i < len → (f i).l.length ≤ 70) := by
  have c0 := Lib.hid h.cap
  go_enter Tryd.func20, Tryd.ntmps20
  go_wp2
  go_loopg [3, 4] (len + 1) (fun q n i wr => ∃ (k m : Nat), k ≤ len ∧ k ≤ 100 ∧ m ≤ k * 70 ∧ q = len + 1 - k ∧ n = .int .i64 (m : Int) ∧ i = .int .i64 (k : Int) ∧ wr = w ∧ Hid (∀ i, i < k → (f i).l.length ≤ 70))
  case atStart => exact ⟨0, 0, by omega, by omega, by omega, rfl, rfl, rfl, rfl, Lib.hid (fun i hi => by omega)⟩
  case round =>
    obtain ⟨k, m, hk, hk2, hm, hq, rfl, rfl, rfl, hall⟩ := hrel
    have A := Lib.hid hq; clear hq
    by_cases hlt : k < len
    · have h1 : decide ((k : Int) < (len : Int)) = true := by simp; omega
      by_cases hl2 : k < 100
      · have h2 : decide ((k : Int) < 100) = true := by simp; omega
        obtain ⟨x, y, d, rfl, x0, x1, x2, x3, hr, hn⟩ := h.at_ k hlt
        have hz := h.small k hlt
        have hL := long_det (f k).l y d _ hr hz
        have hkc : k ≤ c := by have := c0.out; omega
        have hsp := longB_spec (l := (f k).l)
        have hfk : Hid (∀ i, i < k + 1 → i ≠ k → (f i).l.length ≤ 70) := Lib.hid (fun i hi hne => hall.out i (by omega))
        obtain ⟨lk, hlk⟩ : ∃ n, (f k).l.length = n := ⟨_, rfl⟩
        rw [hlk] at x1 hL hsp
        cases hlb : longB (f k).l with
        | true =>
          rw [hlb] at hL
          clear hlb hsp
          go_wp2_with (first
            | (go_at_call 9; with_reducible refine hL.mono ?_; rintro e w1 ⟨rfl, hw⟩; obtain rfl := hw.symm))
          go_ret
          exact ⟨true, rfl, rfl, fun e => by cases e⟩
        | false =>
          rw [hlb] at hL
          have hk70 : lk ≤ 70 := (hsp hlb).1
          clear hlb hsp
          have hnx : Hid (∀ i, i < k + 1 → (f i).l.length ≤ 70) := Lib.hid (fun i hi => by
            by_cases e : i = k
            · rw [e, hlk]; exact hk70
            · exact hfk.out i hi e)
          clear hlk
          go_wp2_with (first
            | (go_at_call 9; with_reducible refine hL.mono ?_; rintro e w1 ⟨rfl, hw⟩; obtain rfl := hw.symm))
          go_roundg (len + 1 - (k + 1))
          case measure => have := A.out; omega
          case rel => exact ⟨k + 1, m + lk, by omega, by omega, by omega, rfl, by go_num, by go_num, rfl, hnx⟩
      · obtain rfl : k = 100 := by omega
        have h2 : decide ((100 : Int) < 100) = false := rfl
        have h3 : decide ((80 : Int) < (len : Int)) = true := by simp; omega
        have h3' : decide (80 < len) = true := by simp; omega
        go_wp2
        go_ret
        exact ⟨true, rfl, rfl, fun e => by cases e⟩
    · obtain rfl : k = len := by omega
      have h1 : decide ((k : Int) < (k : Int)) = false := by simp
      by_cases h3 : 80 < k
      · have h4 : decide ((80 : Int) < (k : Int)) = true := by simp; omega
        have h4' : decide (80 < k) = true := by simp; omega
        go_wp2
        go_ret
        exact ⟨true, rfl, rfl, fun e => by cases e⟩
      · have h4 : decide ((80 : Int) < (k : Int)) = false := by simp; omega
        have h4' : decide (80 < k) = false := by simp; omega
        by_cases h5 : 400 < m
        · have h6 : decide ((400 : Int) < (m : Int)) = true := by simp; omega
          have h6' : decide (400 < m) = true := by simp; omega
          go_wp2
          go_ret
          exact ⟨true, rfl, rfl, fun e => by cases e⟩
        · have h6 : decide ((400 : Int) < (m : Int)) = false := by simp; omega
          have h6' : decide (400 < m) = false := by simp; omega
          go_wp2
          go_ret
          exact ⟨false, rfl, rfl, fun _ => ⟨by omega, hall.out⟩⟩
end Go.Proofs.YtlcckkdkcbelhaaDoor
namespace Go.Proofs.YtlcckkdkcbelhaaDoor
open Go.RowKit Go.Proofs.YtlcckkdkcbelhaaDoorW.PrintWords Go.Proofs.YtlcckkdkcbelhaaDoorW.PrintLast

/-- All but two blocks lie as they lay. -/
structure But2 (p q : Nat) (w w' : World) : Prop where
  os : w'.os = w.os
  tape : w'.tape = w.tape
  output : w'.output = w.output
  size : w.heap.size ≤ w'.heap.size
  block : ∀ k, k < w.heap.size → k ≠ p → k ≠ q → w'.heap[k]? = w.heap[k]?
theorem But2.of_below {p q : Nat} {w w' : World} (h : Below w.heap.size w w') : But2 p q w w' := ⟨h.os, h.tape, h.output, h.size, fun k hk _ _ => h.block k hk⟩
theorem But.fst {p q : Nat} {w w' : World} (h : But p w w') : But2 p q w w' := ⟨h.os, h.tape, h.output, h.size, fun k hk h1 _ => h.block k hk h1⟩
theorem But.snd {p q : Nat} {w w' : World} (h : But q w w') : But2 p q w w' := ⟨h.os, h.tape, h.output, h.size, fun k hk _ h2 => h.block k hk h2⟩
theorem But2.trans {p q : Nat} {w w1 w2 : World} (h : But2 p q w w1) (k : But2 p q w1 w2) : But2 p q w w2 :=
  ⟨k.os.trans h.os, k.tape.trans h.tape, k.output.trans h.output, Nat.le_trans h.size k.size, fun i hi h1 h2 => (k.block i (Nat.lt_of_lt_of_le hi h.size) h1 h2).trans (h.block i hi h1 h2)⟩
theorem But2.below {p q b : Nat} {a w w' : World} (h : Below b a w) (k : But2 p q w w') (hp : b ≤ p) (hq : b ≤ q) (hw : b ≤ w.heap.size) : Below b a w' :=
  ⟨k.os.trans h.os, k.tape.trans h.tape, k.output.trans h.output, Nat.le_trans h.size k.size, fun i hi => (k.block i (by omega) (by omega) (by omega)).trans (h.block i hi)⟩
theorem IsPol.but {w W : World} {pa pb : Nat} {s : Pol} (h : IsPol w pa s) (hb : But pb w W) (hne : pa ≠ pb) : IsPol W pa s := (hb.block _ h.lt hne).trans h
theorem rjudge_told {s s' : Pol} {l m : List Opt} {z : Int} (hj : judge s l = (z, m, s')) (hl : l.length < 1000) (hn : 0 ≤ s.naks ∧ s.naks ≤ 1000) (rb : Nat) (a : Option Addr) (c : Nat) (w : World) (h : Row w a c l) (hnl : a = none → c = 0 ∧ l = []) (hp : IsRef w rb s) :
    Calls Tryd.prog 38 #[.pointer (some ⟨rb, 0, none⟩), .slice a l.length c] w fun e w' => ∃ x k, e = .returned (.tuple #[.int .u8 z, .slice x m.length k]) ∧ Row w' x k m ∧ But rb w w' ∧ IsRef w' rb s' := by
  have := rjudge_calls s rb l a c w h hnl hl hp hn
  rw [hj] at this
  refine this.mono ?_
  rintro e w' ⟨v, rfl, ⟨x, k, rfl, hr⟩, hb, hp'⟩
  exact ⟨x, k, rfl, hr, hb, hp'⟩
theorem same_self (m : List Opt) (hm : m.length < 1000000) (a b : Option Addr) (c d : Nat) (w : World) (h1 : Row w a c m) (h2 : Row w b d m) :
    Calls Tryd.prog 12 #[.slice a m.length c, .slice b m.length d] w fun e w' => e = .returned (.bool true) ∧ Below w.heap.size w w' := by
  have := same_calls m m a b c d w h1 h2 (by omega)
  rw [decide_eq_true rfl] at this
  exact this
set_option maxHeartbeats 8000000 in
set_option maxRecDepth 100000 in
theorem does_calls (cf : Conf) (hmx : cf.max ≤ 10) (s : Pol) (hI : Inv cf s) (pb rb : Nat) (hne : pb ≠ rb) (x : Stp) (y : Option Addr) (d : Nat) (w : World) (hK : K w) (hp : IsPol w pb s) (hr : IsRef w rb s) (hy : Row w y d x.l) (hyn : y = none → d = 0 ∧ x.l = []) (hxl : x.l.length ≤ 70) :
    Calls Tryd.prog 27 #[.pointer (some ⟨pb, 0, none⟩), .pointer (some ⟨rb, 0, none⟩), .agg #[.int .i64 x.doo, .slice y x.l.length d, .bool x.own, .int .u8 (tv x.n)]] w fun e w' => e = .returned (.bool true) ∧ But2 pb rb w w' ∧ IsPol w' pb (stepL s x.doo (rowP s x)) ∧ IsRef w' rb (stepL s x.doo (rowP s x)) := by
  have hLL := rowP_len s x hxl
  have hRw := fun W h1 h2 => row_calls s rb x y d W h1 h2 hyn
  obtain ⟨doo, l, own, n⟩ := x
  simp only at hy hyn hxl hRw ⊢
  generalize rowP s ⟨doo, l, own, n⟩ = L at *
  have hn10 : 0 ≤ s.naks ∧ s.naks ≤ 1000 := ⟨hI.n0, by have := hI.n1; omega⟩
  have Bb := (Below.refl w.heap.size w).alloc (Nat.le_refl _) (.cells #[.int .i64 doo, .slice y l.length d, .bool own, .int .u8 (tv n)] 55)
  have nb := alloc_new w _ (.cells #[.int .i64 doo, .slice y l.length d, .bool own, .int .u8 (tv n)] 55) rfl
  have hrb := hr.below Bb
  have hyb := hy.below Bb
  have hpb := hp.below Bb
  have hKb := hK.below Bb
  go_enter Tryd.func27, Tryd.ntmps27
  go_upto_region 3 with (first
    | (go_at_call 37; with_reducible refine (hRw _ hrb hyb).mono ?_; rintro e w1 ⟨la, lc, rfl, r1, hla, hb1⟩
       have nb1 := (hb1.block _ ((Array.getElem?_eq_some_iff.1 nb).1)).trans nb
       have B1 := Bb.trans (hb1.mono Bb.size)
       have p1 := hpb.below hb1
       have q1 := hrb.below hb1
       have K1 := hKb.below hb1)
    | (at_builtin; refine wpList_append_row rfl _ _ rfl w1.heap.size _ [] L 0 rfl rfl (World.ownsRow_nil _ _ _ _) la lc rfl r1 hla (by simp) (by omega) (Nat.le_refl _) ?_
       intro v2 w2 hown2 hg2
       rw [List.nil_append] at hown2
       have hb2 := (Below.refl w1.heap.size w1).grown hg2 (Nat.le_refl _) (fun k hk => by cases hk)
       obtain ⟨oa, oc, rfl, r2⟩ := row_own hown2
       have nb2 := (hb2.block _ ((Array.getElem?_eq_some_iff.1 nb1).1)).trans nb1
       have B2 := B1.trans (hb2.mono B1.size)
       have p2 := p1.below hb2
       have q2 := q1.below hb2
       have K2 := K1.below hb2
       have l2 := r1.below hb2))
  have c0 := fun i => blk_cell nb2 i
  have T2 : But2 pb rb w w2 := But2.of_below B2
  clear nb nb1 hb1 hb2 B1 p1 q1 K1 r1 Bb hpb hrb hyb hKb hown2 hg2 hRw hK hp hr hy B2
  by_cases d0 : doo = 0
  · have f0 : (doo == 0) = true := by simpa using d0
    have hst : Hid (stepL s doo L = (judge s L).2.2) := Lib.hid (if_pos d0)
    obtain ⟨z, m, s', hj⟩ : ∃ z m s', judge s L = (z, m, s') := ⟨_, _, _, rfl⟩
    obtain ⟨jl, _⟩ := judge_len s L
    rw [hj] at jl hst
    simp only at jl hst
    have hJ := fun W h1 h2 h3 => judge_told hj (by omega) hn10 pb oa oc L.length rfl W h1 h2 h3
    have hJ2 := fun W h1 h3 => rjudge_told hj (by omega) hn10 rb la lc W h1 hla h3
    have hZ : (z == z) = true := by simp
    clear hj d0
    go_wp2_with (first
      | (go_at_call 10; with_reducible refine (hJ _ r2 K2 p2).mono ?_; rintro e w3 ⟨xa, xc, rfl, m3, b3, p3⟩
         have q3 := q2.but b3 hne.symm
         have l3 := l2.but b3 p2
         have o3 := r2.but b3 p2
         have T3 := T2.trans b3.fst)
      | (go_at_call 38; with_reducible refine (hJ2 _ l3 q3).mono ?_; rintro e w4 ⟨ya, yc, rfl, m4, b4, q4⟩
         have p4 := p3.but b4 hne
         have l4 := l3.butR b4 q3
         have o4 := o3.butR b4 q3
         have m34 := m3.butR b4 q3
         have T4 := T3.trans b4.snd)
      | (go_at_call 12; with_reducible refine (same_self m (by omega) _ _ _ _ _ m34 m4).mono ?_; rintro e w5 ⟨rfl, b5⟩
         have l5 := l4.below b5
         have o5 := o4.below b5
         have p5 := p4.below b5
         have q5 := q4.below b5
         have T5 := T4.trans (But2.of_below b5)
         clear m34 m4)
      | (go_at_call 12; with_reducible refine (same_self L (by omega) _ _ _ _ _ o5 l5).mono ?_; rintro e w6 ⟨rfl, b6⟩
         have p6 := p5.below b6
         have q6 := q5.below b6
         have T6 := T5.trans (But2.of_below b6)))
    go_ret
    rw [hst.out]
    exact ⟨rfl, T6, p6, q6⟩
  · have f0 : (doo == 0) = false := by simpa using d0
    by_cases d1 : doo = 1
    · have f1 : (doo == 1) = true := by simpa using d1
      have hst : Hid (stepL s doo L = if L = putL s.w 3 then { s with mine := s.w } else s) := Lib.hid (by unfold stepL; rw [if_neg d0, if_pos d1])
      have hA := fun W h1 h2 h3 => acked_calls s pb L oa oc W h1 (by omega) h2 h3
      rw [hI.put] at hA
      have hA2 := fun W h1 h3 => racked_calls s rb L la lc W h1 (by omega) h3
      generalize (if L = putL s.w 3 then { s with mine := s.w } else s) = s' at *
      generalize decide (L = putL s.w 3) = b at *
      have hZ : (b == b) = true := by simp
      clear d0 d1
      go_wp2_with (first
        | (go_at_call 16; with_reducible refine (hA _ r2 K2 p2).mono ?_; rintro e w3 ⟨rfl, b3, p3⟩
           have q3 := q2.but b3 hne.symm
           have l3 := l2.but b3 p2
           have T3 := T2.trans b3.fst)
        | (go_at_call 39; with_reducible refine (hA2 _ l3 q3).mono ?_; rintro e w4 ⟨rfl, b4, q4⟩
           have p4 := p3.but b4 hne
           have T4 := T3.trans b4.snd))
      go_ret
      rw [hst.out]
      exact ⟨by simp, T4, p4, q4⟩
    · have f1 : (doo == 1) = false := by simpa using d1
      by_cases d2 : doo = 2
      · have f2 : (doo == 2) = true := by simpa using d2
        have hst : Hid (stepL s doo L = (nakdP s L).2) := Lib.hid (by unfold stepL; rw [if_neg d0, if_neg d1, if_pos d2])
        have hA := fun W h1 h2 h3 => naked_calls s pb L oa oc W h1 (by omega) h2 h3
        have hA2 := fun W h1 h3 => rnaked_calls s rb L la lc W h1 (by omega) h3
        rw [nak_same] at hA2
        generalize nakdP s L = P at *
        obtain ⟨b, s'⟩ := P
        simp only at hA hA2 hst
        have hZ : (b == b) = true := by simp
        clear d0 d1 d2
        go_wp2_with (first
          | (go_at_call 17; with_reducible refine (hA _ r2 K2 p2).mono ?_; rintro e w3 ⟨rfl, b3, p3⟩
             have q3 := q2.but b3 hne.symm
             have l3 := l2.but b3 p2
             have T3 := T2.trans b3.fst)
          | (go_at_call 40; with_reducible refine (hA2 _ l3 q3).mono ?_; rintro e w4 ⟨rfl, b4, q4⟩
             have p4 := p3.but b4 hne
             have T4 := T3.trans b4.snd))
        go_ret
        rw [hst.out]
        exact ⟨by simp, T4, p4, q4⟩
      · have f2 : (doo == 2) = false := by simpa using d2
        by_cases d3 : doo = 3
        · have f3 : (doo == 3) = true := by simpa using d3
          have hst : Hid (stepL s doo L = (rejd s L).2) := Lib.hid (by unfold stepL; rw [if_neg d0, if_neg d1, if_neg d2, if_pos d3])
          have hA := fun W h1 h2 h3 => rejected_calls s pb L oa oc W h1 (by omega) h2 h3
          have hA2 := fun W h1 h3 => rrej_calls s rb L la lc W h1 (by omega) h3
          rw [rej_same hI] at hA2
          generalize rejd s L = P at *
          obtain ⟨b, s'⟩ := P
          simp only at hA hA2 hst
          have hZ : (b == b) = true := by simp
          clear d0 d1 d2 d3
          go_wp2_with (first
            | (go_at_call 18; with_reducible refine (hA _ r2 K2 p2).mono ?_; rintro e w3 ⟨rfl, b3, p3⟩
               have q3 := q2.but b3 hne.symm
               have l3 := l2.but b3 p2
               have T3 := T2.trans b3.fst)
            | (go_at_call 41; with_reducible refine (hA2 _ l3 q3).mono ?_; rintro e w4 ⟨rfl, b4, q4⟩
               have p4 := p3.but b4 hne
               have T4 := T3.trans b4.snd))
          go_ret
          rw [hst.out]
          exact ⟨by simp, T4, p4, q4⟩
        · have f3 : (doo == 3) = false := by simpa using d3
          have hst : Hid (stepL s doo L = s) := Lib.hid (by unfold stepL; rw [if_neg d0, if_neg d1, if_neg d2, if_neg d3])
          clear d0 d1 d2 d3
          go_wp2
          go_ret
          rw [hst.out]
          exact ⟨rfl, T2, p2, q2⟩
end Go.Proofs.YtlcckkdkcbelhaaDoor
