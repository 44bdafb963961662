/-
  Layer 15 (ipcppol): Naked, walked.
-/
import Derived.Test.YtlcckkdkcbelhaaDoorAk
set_option linter.unusedVariables false
set_option linter.unusedSimpArgs false
namespace Go.Proofs.YtlcckkdkcbelhaaDoor
open Go.RowKit Go.Proofs.YtlcckkdkcbelhaaDoorW.PrintWords Go.Proofs.YtlcckkdkcbelhaaDoorW.PrintLast

def Icp.tA (x : Icp) (h : Bool) (u : UInt32) : Icp := if h = true ∧ u ≠ 0 then { x with a := u } else x
def Icp.t1 (x : Icp) (h : Bool) (u : UInt32) : Icp := if h = true ∧ u ≠ 0 then { x with d1 := u } else x
def Icp.t2 (x : Icp) (h : Bool) (u : UInt32) : Icp := if h = true ∧ u ≠ 0 then { x with d2 := u } else x
/-- What a Nak makes of a wish. -/
def took (c : Conf) (w x : Icp) : Icp := ((w.tA (w.ha && (nv c.addr == 0)) x.a).t1 w.h1 x.d1).t2 w.h2 x.d2
/-- What Naked answers, and leaves. -/
def nakdP (s : Pol) (l : List Opt) : Bool × Pol := if l = [] ∨ (getI l).2.2 ≠ 0 then (false, s) else (true, { s with w := took s.c s.w (getI l).1 })
theorem takeA (s : Pol) (pb : Nat) (has : Bool) (u : UInt32) (w : World) (hp : IsPol w pb s) :
    Calls Tryd.prog 35 #[.bool has, .pointer (some ⟨pb, 1, none⟩), .int .u32 (nv u)] w fun e w' => e = .returned (.tuple #[]) ∧ But pb w w' ∧ IsPol w' pb { s with w := s.w.tA has u } := by
  refine (take_calls has pb 1 u s.w.a w (by rw [blk_cell hp]; rfl) (blk_frozen hp 1)).mono ?_
  rintro e w' ⟨rfl, h⟩
  refine ⟨rfl, ?_⟩
  unfold Icp.tA
  split at h
  · rename_i hh
    rw [if_pos hh, h]
    exact ⟨(But.refl _ _).set 1 _, blk_set hp 1 _⟩
  · rename_i hh
    rw [if_neg hh, h]
    exact ⟨But.refl _ _, hp⟩
theorem take1 (s : Pol) (pb : Nat) (has : Bool) (u : UInt32) (w : World) (hp : IsPol w pb s) :
    Calls Tryd.prog 35 #[.bool has, .pointer (some ⟨pb, 3, none⟩), .int .u32 (nv u)] w fun e w' => e = .returned (.tuple #[]) ∧ But pb w w' ∧ IsPol w' pb { s with w := s.w.t1 has u } := by
  refine (take_calls has pb 3 u s.w.d1 w (by rw [blk_cell hp]; rfl) (blk_frozen hp 3)).mono ?_
  rintro e w' ⟨rfl, h⟩
  refine ⟨rfl, ?_⟩
  unfold Icp.t1
  split at h
  · rename_i hh
    rw [if_pos hh, h]
    exact ⟨(But.refl _ _).set 3 _, blk_set hp 3 _⟩
  · rename_i hh
    rw [if_neg hh, h]
    exact ⟨But.refl _ _, hp⟩
theorem take2 (s : Pol) (pb : Nat) (has : Bool) (u : UInt32) (w : World) (hp : IsPol w pb s) :
    Calls Tryd.prog 35 #[.bool has, .pointer (some ⟨pb, 5, none⟩), .int .u32 (nv u)] w fun e w' => e = .returned (.tuple #[]) ∧ But pb w w' ∧ IsPol w' pb { s with w := s.w.t2 has u } := by
  refine (take_calls has pb 5 u s.w.d2 w (by rw [blk_cell hp]; rfl) (blk_frozen hp 5)).mono ?_
  rintro e w' ⟨rfl, h⟩
  refine ⟨rfl, ?_⟩
  unfold Icp.t2
  split at h
  · rename_i hh
    rw [if_pos hh, h]
    exact ⟨(But.refl _ _).set 5 _, blk_set hp 5 _⟩
  · rename_i hh
    rw [if_neg hh, h]
    exact ⟨But.refl _ _, hp⟩
theorem tA_h1 (x : Icp) (h : Bool) (u : UInt32) : (x.tA h u).h1 = x.h1 ∧ (x.tA h u).h2 = x.h2 := by unfold Icp.tA; split <;> exact ⟨rfl, rfl⟩
theorem t1_h2 (x : Icp) (h : Bool) (u : UInt32) : (x.t1 h u).h2 = x.h2 := by unfold Icp.t1; split <;> rfl
theorem en35 : ∀ (args : Array Value) (w : World), (callFunc 35 args).run Tryd.prog w = .ok (.enter 35 args) w := en_of Tryd.func35 (by kernel_rfl) rfl
theorem naked_bad (s : Pol) (pb : Nat) (l : List Opt) (a : Option Addr) (c : Nat) (w : World) (h : Row w a c l) (hs : l.length < 1000000) (hK : K w) (hp : IsPol w pb s) (hb : l = [] ∨ (getI l).2.2 ≠ 0) :
    Calls Tryd.prog 17 #[.pointer (some ⟨pb, 0, none⟩), .slice a l.length c] w fun e w' => e = .returned (.bool false) ∧ Below w.heap.size w w' := by
  have hG := fun W hr hk => geti_calls l a c W hr hs hk
  obtain ⟨⟨b1, z1, b2, z2, b3, z3⟩, hx⟩ : ∃ x, (getI l).1 = x := ⟨_, rfl⟩
  generalize hge : (getI l).2.2 = ge at *
  have hG2 : ∀ W, Row W a c l → K W → Calls Tryd.prog 11 #[.slice a l.length c] W fun e w' => ∃ v, e = .returned (.tuple #[.agg #[.bool b1, .int .u32 (nv z1), .bool b2, .int .u32 (nv z2), .bool b3, .int .u32 (nv z3)], v, .int .i64 ge]) ∧ IsRow w' v (getI l).2.1 ∧ Below W.heap.size W w' := fun W hr hk => by
    have := hG W hr hk
    rw [hx] at this
    exact this
  clear hG hx hge
  by_cases h0 : l = []
  · subst h0
    simp only [List.length_nil] at hG2
    go_enter Tryd.func17, Tryd.ntmps17
    go_wp2_with (first
      | (go_at_call 11; with_reducible refine (hG2 _ h hK).mono ?_; rintro e w1 ⟨v, rfl, _, hb1⟩))
    go_ret
    exact ⟨rfl, hb1.alloc hb1.size _⟩
  · have hl0 : 0 < l.length := List.length_pos_iff.2 h0
    have n1 : ((l.length : Int) == 0) = false := by simp; omega
    have n2 : (l.length == 0) = false := by simp; omega
    have n3 : (ge != 0) = true := by simpa using hb.resolve_left h0
    clear hb
    go_enter Tryd.func17, Tryd.ntmps17
    go_wp2_with (first
      | (go_at_call 11; with_reducible refine (hG2 _ h hK).mono ?_; rintro e w1 ⟨v, rfl, _, hb1⟩))
    go_ret
    exact ⟨rfl, hb1.alloc hb1.size _⟩
set_option maxHeartbeats 16000000 in
set_option maxRecDepth 100000 in
theorem naked_good (s : Pol) (pb : Nat) (l : List Opt) (a : Option Addr) (c : Nat) (w : World) (h : Row w a c l) (hs : l.length < 1000000) (hK : K w) (hp : IsPol w pb s) (h0 : l ≠ []) (hge : (getI l).2.2 = 0) :
    Calls Tryd.prog 17 #[.pointer (some ⟨pb, 0, none⟩), .slice a l.length c] w fun e w' => e = .returned (.bool true) ∧ But pb w w' ∧ IsPol w' pb { s with w := took s.c s.w (getI l).1 } := by
  have hG := fun W hr hk => geti_calls l a c W hr hs hk
  obtain ⟨⟨b1, z1, b2, z2, b3, z3⟩, hx⟩ : ∃ x, (getI l).1 = x := ⟨_, rfl⟩
  rw [hge] at hG
  have hG2 : ∀ W, Row W a c l → K W → Calls Tryd.prog 11 #[.slice a l.length c] W fun e w' => ∃ v, e = .returned (.tuple #[.agg #[.bool b1, .int .u32 (nv z1), .bool b2, .int .u32 (nv z2), .bool b3, .int .u32 (nv z3)], v, .int .i64 0]) ∧ IsRow w' v (getI l).2.1 ∧ Below W.heap.size W w' := fun W hr hk => by
    have := hG W hr hk
    rw [hx] at this
    exact this
  rw [hx]
  clear hG hx hge
  have hl0 : 0 < l.length := List.length_pos_iff.2 h0
  have n1 : ((l.length : Int) == 0) = false := by simp; omega
  have n2 : (l.length == 0) = false := by simp; omega
  clear h0 hl0
  have hpl := hp.lt
  obtain ⟨q, hq⟩ : ∃ q, s.w.tA (s.w.ha && (nv s.c.addr == 0)) z1 = q := ⟨_, rfl⟩
  obtain ⟨r, hr⟩ : ∃ r, q.t1 s.w.h1 z2 = r := ⟨_, rfl⟩
  have hres : Hid (took s.c s.w ⟨b1, z1, b2, z2, b3, z3⟩ = r.t2 s.w.h2 z3) := Lib.hid (by unfold took; rw [hq, hr])
  have hh1 : Hid (s.w.h1 = q.h1) := Lib.hid (by rw [← hq]; exact (tA_h1 _ _ _).1.symm)
  have hh2 : Hid (s.w.h2 = r.h2) := Lib.hid (by rw [← hr, t1_h2, ← hq]; exact (tA_h1 _ _ _).2.symm)
  have k1 := fun W hW => takeA s pb (s.w.ha && (nv s.c.addr == 0)) z1 W hW
  have k2 := fun W hW => take1 { s with w := q } pb q.h1 z2 W hW
  have k3 := fun W hW => take2 { s with w := r } pb r.h2 z3 W hW
  rw [hq] at k1
  rw [hh1.out] at hr
  replace k2 : ∀ W, IsPol W pb { s with w := q } → Calls Tryd.prog 35 #[.bool q.h1, .pointer (some ⟨pb, 3, none⟩), .int .u32 (nv z2)] W fun e w' => e = .returned (.tuple #[]) ∧ But pb W w' ∧ IsPol w' pb { s with w := r } := fun W hW => by
    have := k2 W hW
    rw [show ({ s with w := q } : Pol).w = q from rfl, hr] at this
    exact this
  rw [hres.out, hh2.out]
  clear hres hh1 hh2 hr hq
  go_enter Tryd.func17, Tryd.ntmps17
  go_upto_region 5 with (first
    | (go_at_call 11; with_reducible refine (hG2 _ h hK).mono ?_; rintro e w1 ⟨v, rfl, _, hb1⟩))
  have B1 : But pb w (w1.alloc (.cells #[.bool b1, .int .u32 (nv z1), .bool b2, .int .u32 (nv z2), .bool b3, .int .u32 (nv z3)] 36)) := But.of_below (hb1.alloc hb1.size _)
  have hp1 := (hp.below hb1).below ((Below.refl _ _).alloc (Nat.le_refl _) (.cells #[.bool b1, .int .u32 (nv z1), .bool b2, .int .u32 (nv z2), .bool b3, .int .u32 (nv z3)] 36))
  have nx := alloc_new w1 _ (.cells #[.bool b1, .int .u32 (nv z1), .bool b2, .int .u32 (nv z2), .bool b3, .int .u32 (nv z3)] 36) rfl
  have nl : w1.heap.size < (w1.alloc (.cells #[.bool b1, .int .u32 (nv z1), .bool b2, .int .u32 (nv z2), .bool b3, .int .u32 (nv z3)] 36)).heap.size := by simp
  have ne : w1.heap.size ≠ pb := by have := hb1.size; omega
  clear hb1 hp h hK hG2 n1 n2
  generalize w1.alloc (.cells #[.bool b1, .int .u32 (nv z1), .bool b2, .int .u32 (nv z2), .bool b3, .int .u32 (nv z3)] 36) = wA at *
  generalize w1.heap.size = xb at *
  go_cut [5, 8] from 26 to 49 (fun s5 s8 wx => s5 = .pointer (some ⟨xb, 0, none⟩) ∧ s8 = .func (.func 35) #[] #[] ∧ But pb w wx ∧ IsPol wx pb { s with w := q } ∧ wx.heap[xb]? = some (.cells #[.bool b1, .int .u32 (nv z1), .bool b2, .int .u32 (nv z2), .bool b3, .int .u32 (nv z3)] 36 (0, 0)))
  case first =>
    obtain ⟨⟨ha, va, h1, v1, h2, v2⟩, cf, mine, peer, nk⟩ := s
    cases ha with
    | false =>
      simp only [Bool.false_and] at k1
      refine start_ (n := 23) (S := fun W' => Below wA.heap.size wA W') (ds := [22]) (#[false, false, false, false, false, false, false, false, false, false, false, false, false, false, false, false, false, false, false, false, false, false, false]) (by kernel_rfl) rfl rfl (below_drew (Below.refl _ _)) (fun hS => ?_)
      generalize wA.drew = wB at *
      refine take_ (i := 0) (N := some 26) (v := ?_) (a' := ?_) #[true, false, false, false, false, false, false, false, false, false, false, false, false, false, false, false, false, false, false, false, false, false, false] rfl rfl (by kernel_rfl) (fun _ _ _ h => h) (.inl ⟨by rfl, fun w' hS' => ?_⟩) hS ?_ ?_
      rotate_left
      · have t1 := fun i => blk_cell (hp1.below hS') i
        have t2 := fun i => blk_cell ((hS'.block _ nl).trans nx) i
        simp only [Pol.cells] at t1
        go_simp
        with_reducible rfl
      rotate_left
      · simp only [Act.put, List.setIfInBounds_toArray, List.set_cons_zero, List.set_cons_succ]
        rfl
      refine take_ (i := 1) (N := some 27) (v := ?_) (a' := ?_) #[true, true, false, false, false, false, false, false, false, false, false, false, false, false, false, false, false, false, false, false, false, false, false] rfl rfl (by kernel_rfl) (fun _ _ _ h => h) (.inl ⟨by rfl, fun w' hS' => ?_⟩) hS ?_ ?_
      rotate_left
      · have t1 := fun i => blk_cell (hp1.below hS') i
        have t2 := fun i => blk_cell ((hS'.block _ nl).trans nx) i
        simp only [Pol.cells] at t1
        go_simp
        with_reducible rfl
      rotate_left
      · simp only [Act.put, List.setIfInBounds_toArray, List.set_cons_zero, List.set_cons_succ]
        rfl
      refine take_ (i := 2) (N := some 28) (v := ?_) (a' := ?_) #[true, true, true, false, false, false, false, false, false, false, false, false, false, false, false, false, false, false, false, false, false, false, false] rfl rfl (by kernel_rfl) (fun _ _ _ h => h) (.inl ⟨by rfl, fun w' hS' => ?_⟩) hS ?_ ?_
      rotate_left
      · have t1 := fun i => blk_cell (hp1.below hS') i
        have t2 := fun i => blk_cell ((hS'.block _ nl).trans nx) i
        simp only [Pol.cells] at t1
        go_simp
        with_reducible rfl
      rotate_left
      · simp only [Act.put, List.setIfInBounds_toArray, List.set_cons_zero, List.set_cons_succ]
        rfl
      refine take_ (i := 3) (N := some 29) (v := ?_) (a' := ?_) #[true, true, true, true, false, false, false, false, false, false, false, false, false, false, false, false, false, false, false, false, false, false, false] rfl rfl (by kernel_rfl) (fun _ _ _ h => h) (.inl ⟨by rfl, fun w' hS' => ?_⟩) hS ?_ ?_
      rotate_left
      · have t1 := fun i => blk_cell (hp1.below hS') i
        have t2 := fun i => blk_cell ((hS'.block _ nl).trans nx) i
        simp only [Pol.cells] at t1
        go_simp
        with_reducible rfl
      rotate_left
      · simp only [Act.put, List.setIfInBounds_toArray, List.set_cons_zero, List.set_cons_succ]
        rfl
      refine take_ (i := 4) (N := some 30) (v := ?_) (a' := ?_) #[true, true, true, true, true, false, false, false, false, false, false, false, false, false, false, false, false, false, false, false, false, false, false] rfl rfl (by kernel_rfl) (fun _ _ _ h => h) (.inl ⟨by rfl, fun w' hS' => ?_⟩) hS ?_ ?_
      rotate_left
      · have t1 := fun i => blk_cell (hp1.below hS') i
        have t2 := fun i => blk_cell ((hS'.block _ nl).trans nx) i
        simp only [Pol.cells] at t1
        go_simp
        with_reducible rfl
      rotate_left
      · simp only [Act.put, List.setIfInBounds_toArray, List.set_cons_zero, List.set_cons_succ]
        rfl
      refine take_ (i := 5) (N := some 31) (v := ?_) (a' := ?_) #[true, true, true, true, true, true, false, false, false, false, false, false, false, false, false, false, false, false, false, false, false, false, false] rfl rfl (by kernel_rfl) (fun _ _ _ h => h) (.inl ⟨by rfl, fun w' hS' => ?_⟩) hS ?_ ?_
      rotate_left
      · have t1 := fun i => blk_cell (hp1.below hS') i
        have t2 := fun i => blk_cell ((hS'.block _ nl).trans nx) i
        simp only [Pol.cells] at t1
        go_simp
        with_reducible rfl
      rotate_left
      · simp only [Act.put, List.setIfInBounds_toArray, List.set_cons_zero, List.set_cons_succ]
        rfl
      refine take_ (i := 6) (N := some 32) (v := ?_) (a' := ?_) #[true, true, true, true, true, true, true, false, false, false, false, false, false, false, false, false, false, false, false, false, false, false, false] rfl rfl (by kernel_rfl) (fun _ _ _ h => h) (.inl ⟨by rfl, fun w' hS' => ?_⟩) hS ?_ ?_
      rotate_left
      · have t1 := fun i => blk_cell (hp1.below hS') i
        have t2 := fun i => blk_cell ((hS'.block _ nl).trans nx) i
        simp only [Pol.cells] at t1
        go_simp
        with_reducible rfl
      rotate_left
      · simp only [Act.put, List.setIfInBounds_toArray, List.set_cons_zero, List.set_cons_succ]
        rfl
      refine take_ (i := 7) (N := some 33) (v := ?_) (a' := ?_) #[true, true, true, true, true, true, true, true, false, false, false, false, false, false, false, false, false, false, false, false, false, false, false] rfl rfl (by kernel_rfl) (fun _ _ _ h => h) (.inl ⟨by rfl, fun w' hS' => ?_⟩) hS ?_ ?_
      rotate_left
      · have t1 := fun i => blk_cell (hp1.below hS') i
        have t2 := fun i => blk_cell ((hS'.block _ nl).trans nx) i
        simp only [Pol.cells] at t1
        go_simp
        with_reducible rfl
      rotate_left
      · simp only [Act.put, List.setIfInBounds_toArray, List.set_cons_zero, List.set_cons_succ]
        rfl
      refine take_ (i := 8) (N := some 34) (v := undef) (a' := ?_) #[true, true, true, true, true, true, true, true, true, false, false, false, false, false, false, false, false, false, false, false, false, false, false] rfl rfl (by kernel_rfl) (fun _ _ _ h => h) (.inr ⟨by rfl, rfl⟩) hS ?_ ?_
      rotate_left
      · simp only [Act.put, List.setIfInBounds_toArray, List.set_cons_zero, List.set_cons_succ]
        rfl
      refine take_ (i := 9) (N := some 35) (v := undef) (a' := ?_) #[true, true, true, true, true, true, true, true, true, true, false, false, false, false, false, false, false, false, false, false, false, false, false] rfl rfl (by kernel_rfl) (fun _ _ _ h => h) (.inr ⟨by rfl, rfl⟩) hS ?_ ?_
      rotate_left
      · simp only [Act.put, List.setIfInBounds_toArray, List.set_cons_zero, List.set_cons_succ]
        rfl
      refine take_ (i := 10) (N := some 36) (v := undef) (a' := ?_) #[true, true, true, true, true, true, true, true, true, true, true, false, false, false, false, false, false, false, false, false, false, false, false] rfl rfl (by kernel_rfl) (fun _ _ _ h => h) (.inr ⟨by rfl, rfl⟩) hS ?_ ?_
      rotate_left
      · simp only [Act.put, List.setIfInBounds_toArray, List.set_cons_zero, List.set_cons_succ]
        rfl
      refine take_ (i := 11) (N := some 37) (v := undef) (a' := ?_) #[true, true, true, true, true, true, true, true, true, true, true, true, false, false, false, false, false, false, false, false, false, false, false] rfl rfl (by kernel_rfl) (fun _ _ _ h => h) (.inr ⟨by rfl, rfl⟩) hS ?_ ?_
      rotate_left
      · simp only [Act.put, List.setIfInBounds_toArray, List.set_cons_zero, List.set_cons_succ]
        rfl
      refine take_ (i := 12) (N := some 38) (v := undef) (a' := ?_) #[true, true, true, true, true, true, true, true, true, true, true, true, true, false, false, false, false, false, false, false, false, false, false] rfl rfl (by kernel_rfl) (fun _ _ _ h => h) (.inr ⟨by rfl, rfl⟩) hS ?_ ?_
      rotate_left
      · simp only [Act.put, List.setIfInBounds_toArray, List.set_cons_zero, List.set_cons_succ]
        rfl
      refine take_ (i := 13) (N := some 39) (v := undef) (a' := ?_) #[true, true, true, true, true, true, true, true, true, true, true, true, true, true, false, false, false, false, false, false, false, false, false] rfl rfl (by kernel_rfl) (fun _ _ _ h => h) (.inr ⟨by rfl, rfl⟩) hS ?_ ?_
      rotate_left
      · simp only [Act.put, List.setIfInBounds_toArray, List.set_cons_zero, List.set_cons_succ]
        rfl
      refine take_ (i := 14) (N := some 40) (v := ?_) (a' := ?_) #[true, true, true, true, true, true, true, true, true, true, true, true, true, true, true, false, false, false, false, false, false, false, false] rfl rfl (by kernel_rfl) (fun _ _ _ h => h) (.inl ⟨by rfl, fun w' hS' => ?_⟩) hS ?_ ?_
      rotate_left
      · have t1 := fun i => blk_cell (hp1.below hS') i
        have t2 := fun i => blk_cell ((hS'.block _ nl).trans nx) i
        simp only [Pol.cells] at t1
        go_simp
        with_reducible rfl
      rotate_left
      · simp only [Act.put, List.setIfInBounds_toArray, List.set_cons_zero, List.set_cons_succ]
        rfl
      refine take_ (i := 15) (N := some 41) (v := ?_) (a' := ?_) #[true, true, true, true, true, true, true, true, true, true, true, true, true, true, true, true, false, false, false, false, false, false, false] rfl rfl (by kernel_rfl) (fun _ _ _ h => h) (.inl ⟨by rfl, fun w' hS' => ?_⟩) hS ?_ ?_
      rotate_left
      · have t1 := fun i => blk_cell (hp1.below hS') i
        have t2 := fun i => blk_cell ((hS'.block _ nl).trans nx) i
        simp only [Pol.cells] at t1
        go_simp
        with_reducible rfl
      rotate_left
      · simp only [Act.put, List.setIfInBounds_toArray, List.set_cons_zero, List.set_cons_succ]
        rfl
      refine take_ (i := 16) (N := some 42) (v := ?_) (a' := ?_) #[true, true, true, true, true, true, true, true, true, true, true, true, true, true, true, true, true, false, false, false, false, false, false] rfl rfl (by kernel_rfl) (fun _ _ _ h => h) (.inl ⟨by rfl, fun w' hS' => ?_⟩) hS ?_ ?_
      rotate_left
      · have t1 := fun i => blk_cell (hp1.below hS') i
        have t2 := fun i => blk_cell ((hS'.block _ nl).trans nx) i
        simp only [Pol.cells] at t1
        go_simp
        with_reducible rfl
      rotate_left
      · simp only [Act.put, List.setIfInBounds_toArray, List.set_cons_zero, List.set_cons_succ]
        rfl
      refine take_ (i := 17) (N := some 43) (v := ?_) (a' := ?_) #[true, true, true, true, true, true, true, true, true, true, true, true, true, true, true, true, true, true, false, false, false, false, false] rfl rfl (by kernel_rfl) (fun _ _ _ h => h) (.inl ⟨by rfl, fun w' hS' => ?_⟩) hS ?_ ?_
      rotate_left
      · have t1 := fun i => blk_cell (hp1.below hS') i
        have t2 := fun i => blk_cell ((hS'.block _ nl).trans nx) i
        simp only [Pol.cells] at t1
        go_simp
        with_reducible rfl
      rotate_left
      · simp only [Act.put, List.setIfInBounds_toArray, List.set_cons_zero, List.set_cons_succ]
        rfl
      refine take_ (i := 18) (N := some 44) (v := ?_) (a' := ?_) #[true, true, true, true, true, true, true, true, true, true, true, true, true, true, true, true, true, true, true, false, false, false, false] rfl rfl (by kernel_rfl) (fun _ _ _ h => h) (.inl ⟨by rfl, fun w' hS' => ?_⟩) hS ?_ ?_
      rotate_left
      · have t1 := fun i => blk_cell (hp1.below hS') i
        have t2 := fun i => blk_cell ((hS'.block _ nl).trans nx) i
        simp only [Pol.cells] at t1
        go_simp
        with_reducible rfl
      rotate_left
      · simp only [Act.put, List.setIfInBounds_toArray, List.set_cons_zero, List.set_cons_succ]
        rfl
      refine take_ (i := 19) (N := some 45) (v := ?_) (a' := ?_) #[true, true, true, true, true, true, true, true, true, true, true, true, true, true, true, true, true, true, true, true, false, false, false] rfl rfl (by kernel_rfl) (fun _ _ _ h => h) (.inl ⟨by rfl, fun w' hS' => ?_⟩) hS ?_ ?_
      rotate_left
      · have t1 := fun i => blk_cell (hp1.below hS') i
        have t2 := fun i => blk_cell ((hS'.block _ nl).trans nx) i
        simp only [Pol.cells] at t1
        go_simp
        with_reducible rfl
      rotate_left
      · simp only [Act.put, List.setIfInBounds_toArray, List.set_cons_zero, List.set_cons_succ]
        rfl
      refine take_ (i := 20) (N := some 46) (v := ?_) (a' := ?_) #[true, true, true, true, true, true, true, true, true, true, true, true, true, true, true, true, true, true, true, true, true, false, false] rfl rfl (by kernel_rfl) (fun _ _ _ h => h) (.inl ⟨by rfl, fun w' hS' => ?_⟩) hS ?_ ?_
      rotate_left
      · have t1 := fun i => blk_cell (hp1.below hS') i
        have t2 := fun i => blk_cell ((hS'.block _ nl).trans nx) i
        simp only [Pol.cells] at t1
        go_simp
        with_reducible rfl
      rotate_left
      · simp only [Act.put, List.setIfInBounds_toArray, List.set_cons_zero, List.set_cons_succ]
        rfl
      refine take_ (i := 21) (N := some 47) (v := ?_) (a' := ?_) #[true, true, true, true, true, true, true, true, true, true, true, true, true, true, true, true, true, true, true, true, true, true, false] rfl rfl (by kernel_rfl) (fun _ _ _ h => h) (.inl ⟨by rfl, fun w' hS' => ?_⟩) hS ?_ ?_
      rotate_left
      · have t1 := fun i => blk_cell (hp1.below hS') i
        have t2 := fun i => blk_cell ((hS'.block _ nl).trans nx) i
        simp only [Pol.cells] at t1
        go_simp
        with_reducible rfl
      rotate_left
      · simp only [Act.put, List.setIfInBounds_toArray, List.set_cons_zero, List.set_cons_succ]
        rfl
      refine wpAnyLast_all (rs := [22]) (by kernel_rfl) (by simp) ?_
      intro i hi'
      obtain rfl := List.mem_singleton.1 hi'
      refine wpOp_step rfl (fun K' hK' => ?_)
      go_simp
      with_reducible refine (k1 _ (hp1.below hS)).mono ?_
      rintro e w3 ⟨rfl, hb3, hp3⟩
      have hx3 := (hb3.block _ (Nat.lt_of_lt_of_le nl hS.size) ne).trans ((hS.block _ nl).trans nx)
      have hB3 := (B1.trans (But.of_below hS)).trans hb3
      refine hK' _ _ ⟨fun h => by simp at h, ?_⟩
      clear hK' K'
      simp only [Act.put, List.setIfInBounds_toArray, List.set_cons_zero, List.set_cons_succ]
      refine wpAnyLast_done (by kernel_rfl) ?_ _
      go_wp2
      go_meet
      exact ⟨rfl, rfl, hB3, hp3, hx3⟩
    | true =>
      simp only [Bool.true_and] at k1
      refine start_ (n := 23) (S := fun W' => Below wA.heap.size wA W') (ds := [22]) (#[false, false, false, false, false, false, false, false, false, false, false, false, false, false, false, false, false, false, false, false, false, false, false]) (by kernel_rfl) rfl rfl (below_drew (Below.refl _ _)) (fun hS => ?_)
      generalize wA.drew = wB at *
      refine take_ (i := 0) (N := some 26) (v := ?_) (a' := ?_) #[true, false, false, false, false, false, false, false, false, false, false, false, false, false, false, false, false, false, false, false, false, false, false] rfl rfl (by kernel_rfl) (fun _ _ _ h => h) (.inl ⟨by rfl, fun w' hS' => ?_⟩) hS ?_ ?_
      rotate_left
      · have t1 := fun i => blk_cell (hp1.below hS') i
        have t2 := fun i => blk_cell ((hS'.block _ nl).trans nx) i
        simp only [Pol.cells] at t1
        go_simp
        with_reducible rfl
      rotate_left
      · simp only [Act.put, List.setIfInBounds_toArray, List.set_cons_zero, List.set_cons_succ]
        rfl
      refine take_ (i := 1) (N := some 27) (v := ?_) (a' := ?_) #[true, true, false, false, false, false, false, false, false, false, false, false, false, false, false, false, false, false, false, false, false, false, false] rfl rfl (by kernel_rfl) (fun _ _ _ h => h) (.inl ⟨by rfl, fun w' hS' => ?_⟩) hS ?_ ?_
      rotate_left
      · have t1 := fun i => blk_cell (hp1.below hS') i
        have t2 := fun i => blk_cell ((hS'.block _ nl).trans nx) i
        simp only [Pol.cells] at t1
        go_simp
        with_reducible rfl
      rotate_left
      · simp only [Act.put, List.setIfInBounds_toArray, List.set_cons_zero, List.set_cons_succ]
        rfl
      refine take_ (i := 2) (N := some 28) (v := ?_) (a' := ?_) #[true, true, true, false, false, false, false, false, false, false, false, false, false, false, false, false, false, false, false, false, false, false, false] rfl rfl (by kernel_rfl) (fun _ _ _ h => h) (.inl ⟨by rfl, fun w' hS' => ?_⟩) hS ?_ ?_
      rotate_left
      · have t1 := fun i => blk_cell (hp1.below hS') i
        have t2 := fun i => blk_cell ((hS'.block _ nl).trans nx) i
        simp only [Pol.cells] at t1
        go_simp
        with_reducible rfl
      rotate_left
      · simp only [Act.put, List.setIfInBounds_toArray, List.set_cons_zero, List.set_cons_succ]
        rfl
      refine take_ (i := 3) (N := some 29) (v := ?_) (a' := ?_) #[true, true, true, true, false, false, false, false, false, false, false, false, false, false, false, false, false, false, false, false, false, false, false] rfl rfl (by kernel_rfl) (fun _ _ _ h => h) (.inl ⟨by rfl, fun w' hS' => ?_⟩) hS ?_ ?_
      rotate_left
      · have t1 := fun i => blk_cell (hp1.below hS') i
        have t2 := fun i => blk_cell ((hS'.block _ nl).trans nx) i
        simp only [Pol.cells] at t1
        go_simp
        with_reducible rfl
      rotate_left
      · simp only [Act.put, List.setIfInBounds_toArray, List.set_cons_zero, List.set_cons_succ]
        rfl
      refine take_ (i := 4) (N := some 30) (v := ?_) (a' := ?_) #[true, true, true, true, true, false, false, false, false, false, false, false, false, false, false, false, false, false, false, false, false, false, false] rfl rfl (by kernel_rfl) (fun _ _ _ h => h) (.inl ⟨by rfl, fun w' hS' => ?_⟩) hS ?_ ?_
      rotate_left
      · have t1 := fun i => blk_cell (hp1.below hS') i
        have t2 := fun i => blk_cell ((hS'.block _ nl).trans nx) i
        simp only [Pol.cells] at t1
        go_simp
        with_reducible rfl
      rotate_left
      · simp only [Act.put, List.setIfInBounds_toArray, List.set_cons_zero, List.set_cons_succ]
        rfl
      refine take_ (i := 5) (N := some 31) (v := ?_) (a' := ?_) #[true, true, true, true, true, true, false, false, false, false, false, false, false, false, false, false, false, false, false, false, false, false, false] rfl rfl (by kernel_rfl) (fun _ _ _ h => h) (.inl ⟨by rfl, fun w' hS' => ?_⟩) hS ?_ ?_
      rotate_left
      · have t1 := fun i => blk_cell (hp1.below hS') i
        have t2 := fun i => blk_cell ((hS'.block _ nl).trans nx) i
        simp only [Pol.cells] at t1
        go_simp
        with_reducible rfl
      rotate_left
      · simp only [Act.put, List.setIfInBounds_toArray, List.set_cons_zero, List.set_cons_succ]
        rfl
      refine take_ (i := 6) (N := some 32) (v := ?_) (a' := ?_) #[true, true, true, true, true, true, true, false, false, false, false, false, false, false, false, false, false, false, false, false, false, false, false] rfl rfl (by kernel_rfl) (fun _ _ _ h => h) (.inl ⟨by rfl, fun w' hS' => ?_⟩) hS ?_ ?_
      rotate_left
      · have t1 := fun i => blk_cell (hp1.below hS') i
        have t2 := fun i => blk_cell ((hS'.block _ nl).trans nx) i
        simp only [Pol.cells] at t1
        go_simp
        with_reducible rfl
      rotate_left
      · simp only [Act.put, List.setIfInBounds_toArray, List.set_cons_zero, List.set_cons_succ]
        rfl
      refine take_ (i := 7) (N := some 33) (v := ?_) (a' := ?_) #[true, true, true, true, true, true, true, true, false, false, false, false, false, false, false, false, false, false, false, false, false, false, false] rfl rfl (by kernel_rfl) (fun _ _ _ h => h) (.inl ⟨by rfl, fun w' hS' => ?_⟩) hS ?_ ?_
      rotate_left
      · have t1 := fun i => blk_cell (hp1.below hS') i
        have t2 := fun i => blk_cell ((hS'.block _ nl).trans nx) i
        simp only [Pol.cells] at t1
        go_simp
        with_reducible rfl
      rotate_left
      · simp only [Act.put, List.setIfInBounds_toArray, List.set_cons_zero, List.set_cons_succ]
        rfl
      refine take_ (i := 8) (N := some 34) (v := ?_) (a' := ?_) #[true, true, true, true, true, true, true, true, true, false, false, false, false, false, false, false, false, false, false, false, false, false, false] rfl rfl (by kernel_rfl) (fun _ _ _ h => h) (.inl ⟨by rfl, fun w' hS' => ?_⟩) hS ?_ ?_
      rotate_left
      · have t1 := fun i => blk_cell (hp1.below hS') i
        have t2 := fun i => blk_cell ((hS'.block _ nl).trans nx) i
        simp only [Pol.cells] at t1
        go_simp
        with_reducible rfl
      rotate_left
      · simp only [Act.put, List.setIfInBounds_toArray, List.set_cons_zero, List.set_cons_succ]
        rfl
      refine take_ (i := 9) (N := some 35) (v := ?_) (a' := ?_) #[true, true, true, true, true, true, true, true, true, true, false, false, false, false, false, false, false, false, false, false, false, false, false] rfl rfl (by kernel_rfl) (fun _ _ _ h => h) (.inl ⟨by rfl, fun w' hS' => ?_⟩) hS ?_ ?_
      rotate_left
      · have t1 := fun i => blk_cell (hp1.below hS') i
        have t2 := fun i => blk_cell ((hS'.block _ nl).trans nx) i
        simp only [Pol.cells] at t1
        go_simp
        with_reducible rfl
      rotate_left
      · simp only [Act.put, List.setIfInBounds_toArray, List.set_cons_zero, List.set_cons_succ]
        rfl
      refine take_ (i := 10) (N := some 36) (v := ?_) (a' := ?_) #[true, true, true, true, true, true, true, true, true, true, true, false, false, false, false, false, false, false, false, false, false, false, false] rfl rfl (by kernel_rfl) (fun _ _ _ h => h) (.inl ⟨by rfl, fun w' hS' => ?_⟩) hS ?_ ?_
      rotate_left
      · have t1 := fun i => blk_cell (hp1.below hS') i
        have t2 := fun i => blk_cell ((hS'.block _ nl).trans nx) i
        simp only [Pol.cells] at t1
        go_simp
        with_reducible rfl
      rotate_left
      · simp only [Act.put, List.setIfInBounds_toArray, List.set_cons_zero, List.set_cons_succ]
        rfl
      refine take_ (i := 11) (N := some 37) (v := ?_) (a' := ?_) #[true, true, true, true, true, true, true, true, true, true, true, true, false, false, false, false, false, false, false, false, false, false, false] rfl rfl (by kernel_rfl) (fun _ _ _ h => h) (.inl ⟨by rfl, fun w' hS' => ?_⟩) hS ?_ ?_
      rotate_left
      · have t1 := fun i => blk_cell (hp1.below hS') i
        have t2 := fun i => blk_cell ((hS'.block _ nl).trans nx) i
        simp only [Pol.cells] at t1
        go_simp
        with_reducible rfl
      rotate_left
      · simp only [Act.put, List.setIfInBounds_toArray, List.set_cons_zero, List.set_cons_succ]
        rfl
      refine take_ (i := 12) (N := some 38) (v := ?_) (a' := ?_) #[true, true, true, true, true, true, true, true, true, true, true, true, true, false, false, false, false, false, false, false, false, false, false] rfl rfl (by kernel_rfl) (fun _ _ _ h => h) (.inl ⟨by rfl, fun w' hS' => ?_⟩) hS ?_ ?_
      rotate_left
      · have t1 := fun i => blk_cell (hp1.below hS') i
        have t2 := fun i => blk_cell ((hS'.block _ nl).trans nx) i
        simp only [Pol.cells] at t1
        go_simp
        with_reducible rfl
      rotate_left
      · simp only [Act.put, List.setIfInBounds_toArray, List.set_cons_zero, List.set_cons_succ]
        rfl
      refine take_ (i := 13) (N := some 39) (v := ?_) (a' := ?_) #[true, true, true, true, true, true, true, true, true, true, true, true, true, true, false, false, false, false, false, false, false, false, false] rfl rfl (by kernel_rfl) (fun _ _ _ h => h) (.inl ⟨by rfl, fun w' hS' => ?_⟩) hS ?_ ?_
      rotate_left
      · have t1 := fun i => blk_cell (hp1.below hS') i
        have t2 := fun i => blk_cell ((hS'.block _ nl).trans nx) i
        simp only [Pol.cells] at t1
        go_simp
        with_reducible rfl
      rotate_left
      · simp only [Act.put, List.setIfInBounds_toArray, List.set_cons_zero, List.set_cons_succ]
        rfl
      refine take_ (i := 14) (N := some 40) (v := ?_) (a' := ?_) #[true, true, true, true, true, true, true, true, true, true, true, true, true, true, true, false, false, false, false, false, false, false, false] rfl rfl (by kernel_rfl) (fun _ _ _ h => h) (.inl ⟨by rfl, fun w' hS' => ?_⟩) hS ?_ ?_
      rotate_left
      · have t1 := fun i => blk_cell (hp1.below hS') i
        have t2 := fun i => blk_cell ((hS'.block _ nl).trans nx) i
        simp only [Pol.cells] at t1
        go_simp
        with_reducible rfl
      rotate_left
      · simp only [Act.put, List.setIfInBounds_toArray, List.set_cons_zero, List.set_cons_succ]
        rfl
      refine take_ (i := 15) (N := some 41) (v := ?_) (a' := ?_) #[true, true, true, true, true, true, true, true, true, true, true, true, true, true, true, true, false, false, false, false, false, false, false] rfl rfl (by kernel_rfl) (fun _ _ _ h => h) (.inl ⟨by rfl, fun w' hS' => ?_⟩) hS ?_ ?_
      rotate_left
      · have t1 := fun i => blk_cell (hp1.below hS') i
        have t2 := fun i => blk_cell ((hS'.block _ nl).trans nx) i
        simp only [Pol.cells] at t1
        go_simp
        with_reducible rfl
      rotate_left
      · simp only [Act.put, List.setIfInBounds_toArray, List.set_cons_zero, List.set_cons_succ]
        rfl
      refine take_ (i := 16) (N := some 42) (v := ?_) (a' := ?_) #[true, true, true, true, true, true, true, true, true, true, true, true, true, true, true, true, true, false, false, false, false, false, false] rfl rfl (by kernel_rfl) (fun _ _ _ h => h) (.inl ⟨by rfl, fun w' hS' => ?_⟩) hS ?_ ?_
      rotate_left
      · have t1 := fun i => blk_cell (hp1.below hS') i
        have t2 := fun i => blk_cell ((hS'.block _ nl).trans nx) i
        simp only [Pol.cells] at t1
        go_simp
        with_reducible rfl
      rotate_left
      · simp only [Act.put, List.setIfInBounds_toArray, List.set_cons_zero, List.set_cons_succ]
        rfl
      refine take_ (i := 17) (N := some 43) (v := ?_) (a' := ?_) #[true, true, true, true, true, true, true, true, true, true, true, true, true, true, true, true, true, true, false, false, false, false, false] rfl rfl (by kernel_rfl) (fun _ _ _ h => h) (.inl ⟨by rfl, fun w' hS' => ?_⟩) hS ?_ ?_
      rotate_left
      · have t1 := fun i => blk_cell (hp1.below hS') i
        have t2 := fun i => blk_cell ((hS'.block _ nl).trans nx) i
        simp only [Pol.cells] at t1
        go_simp
        with_reducible rfl
      rotate_left
      · simp only [Act.put, List.setIfInBounds_toArray, List.set_cons_zero, List.set_cons_succ]
        rfl
      refine take_ (i := 18) (N := some 44) (v := ?_) (a' := ?_) #[true, true, true, true, true, true, true, true, true, true, true, true, true, true, true, true, true, true, true, false, false, false, false] rfl rfl (by kernel_rfl) (fun _ _ _ h => h) (.inl ⟨by rfl, fun w' hS' => ?_⟩) hS ?_ ?_
      rotate_left
      · have t1 := fun i => blk_cell (hp1.below hS') i
        have t2 := fun i => blk_cell ((hS'.block _ nl).trans nx) i
        simp only [Pol.cells] at t1
        go_simp
        with_reducible rfl
      rotate_left
      · simp only [Act.put, List.setIfInBounds_toArray, List.set_cons_zero, List.set_cons_succ]
        rfl
      refine take_ (i := 19) (N := some 45) (v := ?_) (a' := ?_) #[true, true, true, true, true, true, true, true, true, true, true, true, true, true, true, true, true, true, true, true, false, false, false] rfl rfl (by kernel_rfl) (fun _ _ _ h => h) (.inl ⟨by rfl, fun w' hS' => ?_⟩) hS ?_ ?_
      rotate_left
      · have t1 := fun i => blk_cell (hp1.below hS') i
        have t2 := fun i => blk_cell ((hS'.block _ nl).trans nx) i
        simp only [Pol.cells] at t1
        go_simp
        with_reducible rfl
      rotate_left
      · simp only [Act.put, List.setIfInBounds_toArray, List.set_cons_zero, List.set_cons_succ]
        rfl
      refine take_ (i := 20) (N := some 46) (v := ?_) (a' := ?_) #[true, true, true, true, true, true, true, true, true, true, true, true, true, true, true, true, true, true, true, true, true, false, false] rfl rfl (by kernel_rfl) (fun _ _ _ h => h) (.inl ⟨by rfl, fun w' hS' => ?_⟩) hS ?_ ?_
      rotate_left
      · have t1 := fun i => blk_cell (hp1.below hS') i
        have t2 := fun i => blk_cell ((hS'.block _ nl).trans nx) i
        simp only [Pol.cells] at t1
        go_simp
        with_reducible rfl
      rotate_left
      · simp only [Act.put, List.setIfInBounds_toArray, List.set_cons_zero, List.set_cons_succ]
        rfl
      refine take_ (i := 21) (N := some 47) (v := ?_) (a' := ?_) #[true, true, true, true, true, true, true, true, true, true, true, true, true, true, true, true, true, true, true, true, true, true, false] rfl rfl (by kernel_rfl) (fun _ _ _ h => h) (.inl ⟨by rfl, fun w' hS' => ?_⟩) hS ?_ ?_
      rotate_left
      · have t1 := fun i => blk_cell (hp1.below hS') i
        have t2 := fun i => blk_cell ((hS'.block _ nl).trans nx) i
        simp only [Pol.cells] at t1
        go_simp
        with_reducible rfl
      rotate_left
      · simp only [Act.put, List.setIfInBounds_toArray, List.set_cons_zero, List.set_cons_succ]
        rfl
      refine wpAnyLast_all (rs := [22]) (by kernel_rfl) (by simp) ?_
      intro i hi'
      obtain rfl := List.mem_singleton.1 hi'
      refine wpOp_step rfl (fun K' hK' => ?_)
      go_simp
      with_reducible refine (k1 _ (hp1.below hS)).mono ?_
      rintro e w3 ⟨rfl, hb3, hp3⟩
      have hx3 := (hb3.block _ (Nat.lt_of_lt_of_le nl hS.size) ne).trans ((hS.block _ nl).trans nx)
      have hB3 := (B1.trans (But.of_below hS)).trans hb3
      refine hK' _ _ ⟨fun h => by simp at h, ?_⟩
      clear hK' K'
      simp only [Act.put, List.setIfInBounds_toArray, List.set_cons_zero, List.set_cons_succ]
      refine wpAnyLast_done (by kernel_rfl) ?_ _
      go_wp2
      go_meet
      exact ⟨rfl, rfl, hB3, hp3, hx3⟩
  case rest =>
    obtain ⟨rfl, rfl, B2, hp2, nx2⟩ := hcut
    have nl2 := (Array.getElem?_eq_some_iff.1 nx2).1
    clear k1 B1 hp1 nx nl
    generalize wc = wC at *
    go_upto_region 6 with fail
    go_cut [5, 8] from 49 to 64 (fun s5 s8 wx => s5 = .pointer (some ⟨xb, 0, none⟩) ∧ s8 = .func (.func 35) #[] #[] ∧ But pb w wx ∧ IsPol wx pb { s with w := r } ∧ wx.heap[xb]? = some (.cells #[.bool b1, .int .u32 (nv z1), .bool b2, .int .u32 (nv z2), .bool b3, .int .u32 (nv z3)] 36 (0, 0)))
    case first =>
      refine start_ (n := 15) (S := fun W' => Below wC.heap.size wC W') (ds := [14]) (#[false, false, false, false, false, false, false, false, false, false, false, false, false, false, false]) (by kernel_rfl) rfl rfl (below_drew (Below.refl _ _)) (fun hS => ?_)
      generalize wC.drew = wB at *
      refine take_ (i := 0) (N := some 49) (v := ?_) (a' := ?_) #[true, false, false, false, false, false, false, false, false, false, false, false, false, false, false] rfl rfl (by kernel_rfl) (fun _ _ _ h => h) (.inl ⟨by rfl, fun w' hS' => ?_⟩) hS ?_ ?_
      rotate_left
      · have t1 := fun i => blk_cell (hp2.below hS') i
        have t2 := fun i => blk_cell ((hS'.block _ nl2).trans nx2) i
        simp only [Pol.cells] at t1
        go_simp
        with_reducible rfl
      rotate_left
      · simp only [Act.put, List.setIfInBounds_toArray, List.set_cons_zero, List.set_cons_succ]
        rfl
      refine take_ (i := 1) (N := some 50) (v := ?_) (a' := ?_) #[true, true, false, false, false, false, false, false, false, false, false, false, false, false, false] rfl rfl (by kernel_rfl) (fun _ _ _ h => h) (.inl ⟨by rfl, fun w' hS' => ?_⟩) hS ?_ ?_
      rotate_left
      · have t1 := fun i => blk_cell (hp2.below hS') i
        have t2 := fun i => blk_cell ((hS'.block _ nl2).trans nx2) i
        simp only [Pol.cells] at t1
        go_simp
        with_reducible rfl
      rotate_left
      · simp only [Act.put, List.setIfInBounds_toArray, List.set_cons_zero, List.set_cons_succ]
        rfl
      refine take_ (i := 2) (N := some 51) (v := ?_) (a' := ?_) #[true, true, true, false, false, false, false, false, false, false, false, false, false, false, false] rfl rfl (by kernel_rfl) (fun _ _ _ h => h) (.inl ⟨by rfl, fun w' hS' => ?_⟩) hS ?_ ?_
      rotate_left
      · have t1 := fun i => blk_cell (hp2.below hS') i
        have t2 := fun i => blk_cell ((hS'.block _ nl2).trans nx2) i
        simp only [Pol.cells] at t1
        go_simp
        with_reducible rfl
      rotate_left
      · simp only [Act.put, List.setIfInBounds_toArray, List.set_cons_zero, List.set_cons_succ]
        rfl
      refine take_ (i := 3) (N := some 52) (v := ?_) (a' := ?_) #[true, true, true, true, false, false, false, false, false, false, false, false, false, false, false] rfl rfl (by kernel_rfl) (fun _ _ _ h => h) (.inl ⟨by rfl, fun w' hS' => ?_⟩) hS ?_ ?_
      rotate_left
      · have t1 := fun i => blk_cell (hp2.below hS') i
        have t2 := fun i => blk_cell ((hS'.block _ nl2).trans nx2) i
        simp only [Pol.cells] at t1
        go_simp
        with_reducible rfl
      rotate_left
      · simp only [Act.put, List.setIfInBounds_toArray, List.set_cons_zero, List.set_cons_succ]
        rfl
      refine take_ (i := 4) (N := some 53) (v := ?_) (a' := ?_) #[true, true, true, true, true, false, false, false, false, false, false, false, false, false, false] rfl rfl (by kernel_rfl) (fun _ _ _ h => h) (.inl ⟨by rfl, fun w' hS' => ?_⟩) hS ?_ ?_
      rotate_left
      · have t1 := fun i => blk_cell (hp2.below hS') i
        have t2 := fun i => blk_cell ((hS'.block _ nl2).trans nx2) i
        simp only [Pol.cells] at t1
        go_simp
        with_reducible rfl
      rotate_left
      · simp only [Act.put, List.setIfInBounds_toArray, List.set_cons_zero, List.set_cons_succ]
        rfl
      refine take_ (i := 5) (N := some 54) (v := ?_) (a' := ?_) #[true, true, true, true, true, true, false, false, false, false, false, false, false, false, false] rfl rfl (by kernel_rfl) (fun _ _ _ h => h) (.inl ⟨by rfl, fun w' hS' => ?_⟩) hS ?_ ?_
      rotate_left
      · have t1 := fun i => blk_cell (hp2.below hS') i
        have t2 := fun i => blk_cell ((hS'.block _ nl2).trans nx2) i
        simp only [Pol.cells] at t1
        go_simp
        with_reducible rfl
      rotate_left
      · simp only [Act.put, List.setIfInBounds_toArray, List.set_cons_zero, List.set_cons_succ]
        rfl
      refine take_ (i := 6) (N := some 55) (v := ?_) (a' := ?_) #[true, true, true, true, true, true, true, false, false, false, false, false, false, false, false] rfl rfl (by kernel_rfl) (fun _ _ _ h => h) (.inl ⟨by rfl, fun w' hS' => ?_⟩) hS ?_ ?_
      rotate_left
      · have t1 := fun i => blk_cell (hp2.below hS') i
        have t2 := fun i => blk_cell ((hS'.block _ nl2).trans nx2) i
        simp only [Pol.cells] at t1
        go_simp
        with_reducible rfl
      rotate_left
      · simp only [Act.put, List.setIfInBounds_toArray, List.set_cons_zero, List.set_cons_succ]
        rfl
      refine take_ (i := 7) (N := some 56) (v := ?_) (a' := ?_) #[true, true, true, true, true, true, true, true, false, false, false, false, false, false, false] rfl rfl (by kernel_rfl) (fun _ _ _ h => h) (.inl ⟨by rfl, fun w' hS' => ?_⟩) hS ?_ ?_
      rotate_left
      · have t1 := fun i => blk_cell (hp2.below hS') i
        have t2 := fun i => blk_cell ((hS'.block _ nl2).trans nx2) i
        simp only [Pol.cells] at t1
        go_simp
        with_reducible rfl
      rotate_left
      · simp only [Act.put, List.setIfInBounds_toArray, List.set_cons_zero, List.set_cons_succ]
        rfl
      refine take_ (i := 8) (N := some 57) (v := ?_) (a' := ?_) #[true, true, true, true, true, true, true, true, true, false, false, false, false, false, false] rfl rfl (by kernel_rfl) (fun _ _ _ h => h) (.inl ⟨by rfl, fun w' hS' => ?_⟩) hS ?_ ?_
      rotate_left
      · have t1 := fun i => blk_cell (hp2.below hS') i
        have t2 := fun i => blk_cell ((hS'.block _ nl2).trans nx2) i
        simp only [Pol.cells] at t1
        go_simp
        with_reducible rfl
      rotate_left
      · simp only [Act.put, List.setIfInBounds_toArray, List.set_cons_zero, List.set_cons_succ]
        rfl
      refine take_ (i := 9) (N := some 58) (v := ?_) (a' := ?_) #[true, true, true, true, true, true, true, true, true, true, false, false, false, false, false] rfl rfl (by kernel_rfl) (fun _ _ _ h => h) (.inl ⟨by rfl, fun w' hS' => ?_⟩) hS ?_ ?_
      rotate_left
      · have t1 := fun i => blk_cell (hp2.below hS') i
        have t2 := fun i => blk_cell ((hS'.block _ nl2).trans nx2) i
        simp only [Pol.cells] at t1
        go_simp
        with_reducible rfl
      rotate_left
      · simp only [Act.put, List.setIfInBounds_toArray, List.set_cons_zero, List.set_cons_succ]
        rfl
      refine take_ (i := 10) (N := some 59) (v := ?_) (a' := ?_) #[true, true, true, true, true, true, true, true, true, true, true, false, false, false, false] rfl rfl (by kernel_rfl) (fun _ _ _ h => h) (.inl ⟨by rfl, fun w' hS' => ?_⟩) hS ?_ ?_
      rotate_left
      · have t1 := fun i => blk_cell (hp2.below hS') i
        have t2 := fun i => blk_cell ((hS'.block _ nl2).trans nx2) i
        simp only [Pol.cells] at t1
        go_simp
        with_reducible rfl
      rotate_left
      · simp only [Act.put, List.setIfInBounds_toArray, List.set_cons_zero, List.set_cons_succ]
        rfl
      refine take_ (i := 11) (N := some 60) (v := ?_) (a' := ?_) #[true, true, true, true, true, true, true, true, true, true, true, true, false, false, false] rfl rfl (by kernel_rfl) (fun _ _ _ h => h) (.inl ⟨by rfl, fun w' hS' => ?_⟩) hS ?_ ?_
      rotate_left
      · have t1 := fun i => blk_cell (hp2.below hS') i
        have t2 := fun i => blk_cell ((hS'.block _ nl2).trans nx2) i
        simp only [Pol.cells] at t1
        go_simp
        with_reducible rfl
      rotate_left
      · simp only [Act.put, List.setIfInBounds_toArray, List.set_cons_zero, List.set_cons_succ]
        rfl
      refine take_ (i := 12) (N := some 61) (v := ?_) (a' := ?_) #[true, true, true, true, true, true, true, true, true, true, true, true, true, false, false] rfl rfl (by kernel_rfl) (fun _ _ _ h => h) (.inl ⟨by rfl, fun w' hS' => ?_⟩) hS ?_ ?_
      rotate_left
      · have t1 := fun i => blk_cell (hp2.below hS') i
        have t2 := fun i => blk_cell ((hS'.block _ nl2).trans nx2) i
        simp only [Pol.cells] at t1
        go_simp
        with_reducible rfl
      rotate_left
      · simp only [Act.put, List.setIfInBounds_toArray, List.set_cons_zero, List.set_cons_succ]
        rfl
      refine take_ (i := 13) (N := some 62) (v := ?_) (a' := ?_) #[true, true, true, true, true, true, true, true, true, true, true, true, true, true, false] rfl rfl (by kernel_rfl) (fun _ _ _ h => h) (.inl ⟨by rfl, fun w' hS' => ?_⟩) hS ?_ ?_
      rotate_left
      · have t1 := fun i => blk_cell (hp2.below hS') i
        have t2 := fun i => blk_cell ((hS'.block _ nl2).trans nx2) i
        simp only [Pol.cells] at t1
        go_simp
        with_reducible rfl
      rotate_left
      · simp only [Act.put, List.setIfInBounds_toArray, List.set_cons_zero, List.set_cons_succ]
        rfl
      refine wpAnyLast_all (rs := [14]) (by kernel_rfl) (by simp) ?_
      intro i hi'
      obtain rfl := List.mem_singleton.1 hi'
      refine wpOp_step rfl (fun K' hK' => ?_)
      go_simp
      with_reducible refine (k2 _ (hp2.below hS)).mono ?_
      rintro e w3 ⟨rfl, hb3, hp3⟩
      have hx3 := (hb3.block _ (Nat.lt_of_lt_of_le nl2 hS.size) ne).trans ((hS.block _ nl2).trans nx2)
      have hB3 := (B2.trans (But.of_below hS)).trans hb3
      refine hK' _ _ ⟨fun h => by simp at h, ?_⟩
      clear hK' K'
      simp only [Act.put, List.setIfInBounds_toArray, List.set_cons_zero, List.set_cons_succ]
      refine wpAnyLast_done (by kernel_rfl) ?_ _
      go_wp2
      go_meet
      exact ⟨rfl, rfl, hB3, hp3, hx3⟩
    case rest =>
      obtain ⟨rfl, rfl, B3, hp3, nx3⟩ := hcut
      have nl3 := (Array.getElem?_eq_some_iff.1 nx3).1
      clear k2 B2 hp2 nx2 nl2
      go_upto_region 7 with fail
      refine start_ (n := 15) (S := fun W' => Below wc.heap.size wc W') (ds := [14]) (#[false, false, false, false, false, false, false, false, false, false, false, false, false, false, false]) (by kernel_rfl) rfl rfl (below_drew (Below.refl _ _)) (fun hS => ?_)
      generalize wc.drew = wB at *
      refine take_ (i := 0) (N := some 64) (v := ?_) (a' := ?_) #[true, false, false, false, false, false, false, false, false, false, false, false, false, false, false] rfl rfl (by kernel_rfl) (fun _ _ _ h => h) (.inl ⟨by rfl, fun w' hS' => ?_⟩) hS ?_ ?_
      rotate_left
      · have t1 := fun i => blk_cell (hp3.below hS') i
        have t2 := fun i => blk_cell ((hS'.block _ nl3).trans nx3) i
        simp only [Pol.cells] at t1
        go_simp
        with_reducible rfl
      rotate_left
      · simp only [Act.put, List.setIfInBounds_toArray, List.set_cons_zero, List.set_cons_succ]
        rfl
      refine take_ (i := 1) (N := some 65) (v := ?_) (a' := ?_) #[true, true, false, false, false, false, false, false, false, false, false, false, false, false, false] rfl rfl (by kernel_rfl) (fun _ _ _ h => h) (.inl ⟨by rfl, fun w' hS' => ?_⟩) hS ?_ ?_
      rotate_left
      · have t1 := fun i => blk_cell (hp3.below hS') i
        have t2 := fun i => blk_cell ((hS'.block _ nl3).trans nx3) i
        simp only [Pol.cells] at t1
        go_simp
        with_reducible rfl
      rotate_left
      · simp only [Act.put, List.setIfInBounds_toArray, List.set_cons_zero, List.set_cons_succ]
        rfl
      refine take_ (i := 2) (N := some 66) (v := ?_) (a' := ?_) #[true, true, true, false, false, false, false, false, false, false, false, false, false, false, false] rfl rfl (by kernel_rfl) (fun _ _ _ h => h) (.inl ⟨by rfl, fun w' hS' => ?_⟩) hS ?_ ?_
      rotate_left
      · have t1 := fun i => blk_cell (hp3.below hS') i
        have t2 := fun i => blk_cell ((hS'.block _ nl3).trans nx3) i
        simp only [Pol.cells] at t1
        go_simp
        with_reducible rfl
      rotate_left
      · simp only [Act.put, List.setIfInBounds_toArray, List.set_cons_zero, List.set_cons_succ]
        rfl
      refine take_ (i := 3) (N := some 67) (v := ?_) (a' := ?_) #[true, true, true, true, false, false, false, false, false, false, false, false, false, false, false] rfl rfl (by kernel_rfl) (fun _ _ _ h => h) (.inl ⟨by rfl, fun w' hS' => ?_⟩) hS ?_ ?_
      rotate_left
      · have t1 := fun i => blk_cell (hp3.below hS') i
        have t2 := fun i => blk_cell ((hS'.block _ nl3).trans nx3) i
        simp only [Pol.cells] at t1
        go_simp
        with_reducible rfl
      rotate_left
      · simp only [Act.put, List.setIfInBounds_toArray, List.set_cons_zero, List.set_cons_succ]
        rfl
      refine take_ (i := 4) (N := some 68) (v := ?_) (a' := ?_) #[true, true, true, true, true, false, false, false, false, false, false, false, false, false, false] rfl rfl (by kernel_rfl) (fun _ _ _ h => h) (.inl ⟨by rfl, fun w' hS' => ?_⟩) hS ?_ ?_
      rotate_left
      · have t1 := fun i => blk_cell (hp3.below hS') i
        have t2 := fun i => blk_cell ((hS'.block _ nl3).trans nx3) i
        simp only [Pol.cells] at t1
        go_simp
        with_reducible rfl
      rotate_left
      · simp only [Act.put, List.setIfInBounds_toArray, List.set_cons_zero, List.set_cons_succ]
        rfl
      refine take_ (i := 5) (N := some 69) (v := ?_) (a' := ?_) #[true, true, true, true, true, true, false, false, false, false, false, false, false, false, false] rfl rfl (by kernel_rfl) (fun _ _ _ h => h) (.inl ⟨by rfl, fun w' hS' => ?_⟩) hS ?_ ?_
      rotate_left
      · have t1 := fun i => blk_cell (hp3.below hS') i
        have t2 := fun i => blk_cell ((hS'.block _ nl3).trans nx3) i
        simp only [Pol.cells] at t1
        go_simp
        with_reducible rfl
      rotate_left
      · simp only [Act.put, List.setIfInBounds_toArray, List.set_cons_zero, List.set_cons_succ]
        rfl
      refine take_ (i := 6) (N := some 70) (v := ?_) (a' := ?_) #[true, true, true, true, true, true, true, false, false, false, false, false, false, false, false] rfl rfl (by kernel_rfl) (fun _ _ _ h => h) (.inl ⟨by rfl, fun w' hS' => ?_⟩) hS ?_ ?_
      rotate_left
      · have t1 := fun i => blk_cell (hp3.below hS') i
        have t2 := fun i => blk_cell ((hS'.block _ nl3).trans nx3) i
        simp only [Pol.cells] at t1
        go_simp
        with_reducible rfl
      rotate_left
      · simp only [Act.put, List.setIfInBounds_toArray, List.set_cons_zero, List.set_cons_succ]
        rfl
      refine take_ (i := 7) (N := some 71) (v := ?_) (a' := ?_) #[true, true, true, true, true, true, true, true, false, false, false, false, false, false, false] rfl rfl (by kernel_rfl) (fun _ _ _ h => h) (.inl ⟨by rfl, fun w' hS' => ?_⟩) hS ?_ ?_
      rotate_left
      · have t1 := fun i => blk_cell (hp3.below hS') i
        have t2 := fun i => blk_cell ((hS'.block _ nl3).trans nx3) i
        simp only [Pol.cells] at t1
        go_simp
        with_reducible rfl
      rotate_left
      · simp only [Act.put, List.setIfInBounds_toArray, List.set_cons_zero, List.set_cons_succ]
        rfl
      refine take_ (i := 8) (N := some 72) (v := ?_) (a' := ?_) #[true, true, true, true, true, true, true, true, true, false, false, false, false, false, false] rfl rfl (by kernel_rfl) (fun _ _ _ h => h) (.inl ⟨by rfl, fun w' hS' => ?_⟩) hS ?_ ?_
      rotate_left
      · have t1 := fun i => blk_cell (hp3.below hS') i
        have t2 := fun i => blk_cell ((hS'.block _ nl3).trans nx3) i
        simp only [Pol.cells] at t1
        go_simp
        with_reducible rfl
      rotate_left
      · simp only [Act.put, List.setIfInBounds_toArray, List.set_cons_zero, List.set_cons_succ]
        rfl
      refine take_ (i := 9) (N := some 73) (v := ?_) (a' := ?_) #[true, true, true, true, true, true, true, true, true, true, false, false, false, false, false] rfl rfl (by kernel_rfl) (fun _ _ _ h => h) (.inl ⟨by rfl, fun w' hS' => ?_⟩) hS ?_ ?_
      rotate_left
      · have t1 := fun i => blk_cell (hp3.below hS') i
        have t2 := fun i => blk_cell ((hS'.block _ nl3).trans nx3) i
        simp only [Pol.cells] at t1
        go_simp
        with_reducible rfl
      rotate_left
      · simp only [Act.put, List.setIfInBounds_toArray, List.set_cons_zero, List.set_cons_succ]
        rfl
      refine take_ (i := 10) (N := some 74) (v := ?_) (a' := ?_) #[true, true, true, true, true, true, true, true, true, true, true, false, false, false, false] rfl rfl (by kernel_rfl) (fun _ _ _ h => h) (.inl ⟨by rfl, fun w' hS' => ?_⟩) hS ?_ ?_
      rotate_left
      · have t1 := fun i => blk_cell (hp3.below hS') i
        have t2 := fun i => blk_cell ((hS'.block _ nl3).trans nx3) i
        simp only [Pol.cells] at t1
        go_simp
        with_reducible rfl
      rotate_left
      · simp only [Act.put, List.setIfInBounds_toArray, List.set_cons_zero, List.set_cons_succ]
        rfl
      refine take_ (i := 11) (N := some 75) (v := ?_) (a' := ?_) #[true, true, true, true, true, true, true, true, true, true, true, true, false, false, false] rfl rfl (by kernel_rfl) (fun _ _ _ h => h) (.inl ⟨by rfl, fun w' hS' => ?_⟩) hS ?_ ?_
      rotate_left
      · have t1 := fun i => blk_cell (hp3.below hS') i
        have t2 := fun i => blk_cell ((hS'.block _ nl3).trans nx3) i
        simp only [Pol.cells] at t1
        go_simp
        with_reducible rfl
      rotate_left
      · simp only [Act.put, List.setIfInBounds_toArray, List.set_cons_zero, List.set_cons_succ]
        rfl
      refine take_ (i := 12) (N := some 76) (v := ?_) (a' := ?_) #[true, true, true, true, true, true, true, true, true, true, true, true, true, false, false] rfl rfl (by kernel_rfl) (fun _ _ _ h => h) (.inl ⟨by rfl, fun w' hS' => ?_⟩) hS ?_ ?_
      rotate_left
      · have t1 := fun i => blk_cell (hp3.below hS') i
        have t2 := fun i => blk_cell ((hS'.block _ nl3).trans nx3) i
        simp only [Pol.cells] at t1
        go_simp
        with_reducible rfl
      rotate_left
      · simp only [Act.put, List.setIfInBounds_toArray, List.set_cons_zero, List.set_cons_succ]
        rfl
      refine take_ (i := 13) (N := some 77) (v := ?_) (a' := ?_) #[true, true, true, true, true, true, true, true, true, true, true, true, true, true, false] rfl rfl (by kernel_rfl) (fun _ _ _ h => h) (.inl ⟨by rfl, fun w' hS' => ?_⟩) hS ?_ ?_
      rotate_left
      · have t1 := fun i => blk_cell (hp3.below hS') i
        have t2 := fun i => blk_cell ((hS'.block _ nl3).trans nx3) i
        simp only [Pol.cells] at t1
        go_simp
        with_reducible rfl
      rotate_left
      · simp only [Act.put, List.setIfInBounds_toArray, List.set_cons_zero, List.set_cons_succ]
        rfl
      refine wpAnyLast_all (rs := [14]) (by kernel_rfl) (by simp) ?_
      intro i hi'
      obtain rfl := List.mem_singleton.1 hi'
      refine wpOp_step rfl (fun K' hK' => ?_)
      go_simp
      with_reducible refine (k3 _ (hp3.below hS)).mono ?_
      rintro e w3 ⟨rfl, hb3, hp3⟩
      have hx3 := (hb3.block _ (Nat.lt_of_lt_of_le nl3 hS.size) ne).trans ((hS.block _ nl3).trans nx3)
      have hB3 := (B3.trans (But.of_below hS)).trans hb3
      refine hK' _ _ ⟨fun h => by simp at h, ?_⟩
      clear hK' K'
      simp only [Act.put, List.setIfInBounds_toArray, List.set_cons_zero, List.set_cons_succ]
      refine wpAnyLast_done (by kernel_rfl) ?_ _
      go_wp2
      go_ret
      exact ⟨rfl, hB3, hp3⟩
theorem naked_calls (s : Pol) (pb : Nat) (l : List Opt) (a : Option Addr) (c : Nat) (w : World) (h : Row w a c l) (hs : l.length < 1000000) (hK : K w) (hp : IsPol w pb s) :
    Calls Tryd.prog 17 #[.pointer (some ⟨pb, 0, none⟩), .slice a l.length c] w fun e w' => e = .returned (.bool (nakdP s l).1) ∧ But pb w w' ∧ IsPol w' pb (nakdP s l).2 := by
  by_cases hb : l = [] ∨ (getI l).2.2 ≠ 0
  · rw [show nakdP s l = (false, s) from if_pos hb]
    exact (naked_bad s pb l a c w h hs hK hp hb).mono fun e w' ⟨he, hbl⟩ => ⟨he, But.of_below hbl, hp.below hbl⟩
  · rw [show nakdP s l = (true, { s with w := took s.c s.w (getI l).1 }) from if_neg hb]
    exact naked_good s pb l a c w h hs hK hp (fun e => hb (.inl e)) (Classical.not_not.1 fun e => hb (.inr e))
end Go.Proofs.YtlcckkdkcbelhaaDoor
