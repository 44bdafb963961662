/-
  Layer 15 (ipcppol): the chapter's examples, walked.
-/
import Derived.Test.YtlcckkdkcbelhaaDoorJd
set_option linter.unusedVariables false
set_option linter.unusedSimpArgs false
namespace Go.Proofs.YtlcckkdkcbelhaaDoor
open Go.RowKit Go.Proofs.YtlcckkdkcbelhaaDoorW.PrintWords Go.Proofs.YtlcckkdkcbelhaaDoorW.PrintLast

theorem eqA36 (d : Nat) (w : World) (a1 b1 a3 b3 a5 b5 : Bool) (a2 b2 a4 b4 a6 b6 : Int) :
    (Op.equalIn (d + 2) 36 (.agg #[.bool a1, .int .u32 a2, .bool a3, .int .u32 a4, .bool a5, .int .u32 a6]) (.agg #[.bool b1, .int .u32 b2, .bool b3, .int .u32 b4, .bool b5, .int .u32 b6])).run Tryd.prog w =
      .ok (a1 == b1 && (a2 == b2 && (a3 == b3 && (a4 == b4 && (a5 == b5 && (a6 == b6)))))) w := by
  refine eqA_of Tryd.underlying36 (by kernel_rfl) ?_
  refine eqf_cons (by rfl) (by go_simp; rfl) (by go_simp; rfl) (by go_simp) ?_
  refine eqf_cons (by rfl) (by go_simp; rfl) (by go_simp; rfl) (by go_simp) ?_
  refine eqf_cons (by rfl) (by go_simp; rfl) (by go_simp; rfl) (by go_simp) ?_
  refine eqf_cons (by rfl) (by go_simp; rfl) (by go_simp; rfl) (by go_simp) ?_
  refine eqf_cons (by rfl) (by go_simp; rfl) (by go_simp; rfl) (by go_simp) ?_
  exact eqf_last (by rfl) (by go_simp; rfl) (by go_simp; rfl) (by go_simp)
def C9 : Conf := ⟨0, 9, 0, 0, false, 3⟩
def A0 : Opt := ⟨3, ⟨#[0, 0, 0, 0]⟩⟩
def A9 : Opt := ⟨3, ⟨#[0, 0, 0, 9]⟩⟩
def P0 : Pol := resetP C9
def P1 : Pol := { P0 with naks := 1 }
def P2 : Pol := { P0 with naks := 2 }
def P3 : Pol := { P0 with peer := ⟨true, 9, false, 0, false, 0⟩ }
theorem ju1 : judge P0 [A0] = (3, [A9], P1) := by kernel_rfl
theorem ju2 : judge P1 [] = (3, [A9], P2) := by kernel_rfl
theorem ju3 : judge P2 [A9] = (2, [A9], P3) := by kernel_rfl
/-- An answer of Judge, told. -/
theorem judge_told {s s' : Pol} {l m : List Opt} {z : Int} (hj : judge s l = (z, m, s')) (hl : l.length < 1000000) (hn : 0 ≤ s.naks ∧ s.naks ≤ 1000) (pb : Nat) (a : Option Addr) (c n : Nat) (hnl : n = l.length) (w : World) (h : Row w a c l) (hK : K w) (hp : IsPol w pb s) :
    Calls Tryd.prog 10 #[.pointer (some ⟨pb, 0, none⟩), .slice a n c] w fun e w' => ∃ x k, e = .returned (.tuple #[.int .u8 z, .slice x m.length k]) ∧ Row w' x k m ∧ But pb w w' ∧ IsPol w' pb s' := by
  subst hnl
  have := judge_calls s pb l a c w h hl hK hp hn
  rw [hj] at this
  refine this.mono ?_
  rintro e w' ⟨v, rfl, ⟨x, k, rfl, hr⟩, hb, hp'⟩
  exact ⟨x, k, rfl, hr, hb, hp'⟩
attribute [local go_sem high] eqA36 eqA57
set_option maxRecDepth 100000 in
set_option maxHeartbeats 8000000 in
theorem alive_calls (w : World) (hK : K w) : Calls Tryd.prog 7 #[] w fun e w' => e = .returned (.bool true) ∧ Below w.heap.size w w' := by
  have hu36 := Tryd.underlying36
  have hu57 := Tryd.underlying57
  have hN : ∀ w : World, Calls Tryd.prog 8 #[.agg #[.int .u32 0, .int .u32 9, .int .u32 0, .int .u32 0, .bool false, .int .i64 3]] w fun e w' => e = .returned (.tuple #[.pointer (some ⟨w.heap.size + 1, 0, none⟩), .int .i64 0]) ∧ Below w.heap.size w w' ∧ IsPol w' (w.heap.size + 1) P0 := fun w => new_good C9 (by decide) (by decide) w
  have hN0 : ∀ w : World, Calls Tryd.prog 8 #[.agg #[.int .u32 0, .int .u32 0, .int .u32 0, .int .u32 0, .bool false, .int .i64 0]] w fun e w' => e = .returned (.tuple #[.pointer none, .int .i64 2]) ∧ Below w.heap.size w w' := fun w => new_bad ⟨0, 0, 0, 0, false, 0⟩ (by decide) w
  have ad0 : ∀ w : World, Calls Tryd.prog 26 #[.int .u8 0] w fun e w' => e = .returned (.agg #[.int .u8 3, .string ⟨#[0, 0, 0, 0]⟩]) ∧ Below w.heap.size w w' := fun w => addr_calls 0 w
  have ad9 : ∀ w : World, Calls Tryd.prog 26 #[.int .u8 9] w fun e w' => e = .returned (.agg #[.int .u8 3, .string ⟨#[0, 0, 0, 9]⟩]) ∧ Below w.heap.size w w' := fun w => addr_calls 9 w
  have r0 : ∀ W : World, Row (W.alloc (.cells #[.int .u8 3, .string ⟨#[0, 0, 0, 0]⟩] 57)) (some ⟨W.heap.size, 0, none⟩) 1 [A0] := fun W => row_new W A0
  have r9 : ∀ W : World, Row (W.alloc (.cells #[.int .u8 3, .string ⟨#[0, 0, 0, 9]⟩] 57)) (some ⟨W.heap.size, 0, none⟩) 1 [A9] := fun W => row_new W A9
  have j1 := fun pb a c w h hK hp => judge_told ju1 (by decide) (by decide) pb a c 1 rfl w h hK hp
  have j2 := fun pb a c w h hK hp => judge_told ju2 (by decide) (by decide) pb a c 0 rfl w h hK hp
  have j3 := fun pb a c w h hK hp => judge_told ju3 (by decide) (by decide) pb a c 1 rfl w h hK hp
  have sm : ∀ (a : Option Addr) (c : Nat) (g : Nat) (w : World), Row w a c [A9] → Row w (some ⟨g, 0, none⟩) 1 [A9] → Calls Tryd.prog 12 #[.slice a 1 c, .slice (some ⟨g, 0, none⟩) 1 1] w fun e w' => e = .returned (.bool true) ∧ Below w.heap.size w w' := fun a c g w h1 h2 => by
    have := same_calls [A9] [A9] a _ c 1 w h1 h2 (by decide)
    rw [decide_eq_true rfl] at this
    exact this
  have pe : ∀ (pb : Nat) (w : World), IsPol w pb P3 → Calls Tryd.prog 13 #[.pointer (some ⟨pb, 0, none⟩)] w fun e w' => e = .returned (.agg #[.bool true, .int .u32 9, .bool false, .int .u32 0, .bool false, .int .u32 0]) ∧ Below w.heap.size w w' := fun pb w h => peer_calls P3 pb w h
  generalize P0 = p0 at *
  generalize P1 = p1 at *
  generalize P2 = p2 at *
  generalize P3 = p3 at *
  have hz : w.heap.size ≤ w.heap.size := Nat.le_refl _
  have hz1 : w.heap.size ≤ w.heap.size + 1 := Nat.le_succ _
  go_enter Tryd.func7, Tryd.ntmps7
  go_wp2_with (first
    | (go_at_call 8; with_reducible refine (hN _).mono ?_; rintro e w1 ⟨rfl, B1, i1⟩)
    | (go_at_call 8; with_reducible refine (hN0 _).mono ?_; rintro e w2 ⟨rfl, hb2⟩
       have B2 := B1.trans (hb2.mono B1.size)
       have i2 := i1.below hb2)
    | (go_at_call 26; with_reducible refine (ad0 _).mono ?_; rintro e w3 ⟨rfl, hb3⟩
       have B3 := B2.trans (hb3.mono B2.size)
       have i3 := i2.below hb3
       have B3' := B3.alloc B3.size (.cells #[.int .u8 3, .string ⟨#[0, 0, 0, 0]⟩] 57)
       have i3' := i3.below ((Below.refl w3.heap.size w3).alloc (Nat.le_refl _) (.cells #[.int .u8 3, .string ⟨#[0, 0, 0, 0]⟩] 57)))
    | (go_at_call 10; with_reducible refine (j1 _ _ _ _ (r0 _) (hK.below B3') i3').mono ?_; rintro e w4 ⟨x4, k4, rfl, m4, hb4, i4⟩
       have B4 := But.below B3' hb4 hz1 B3'.size
       simp only [List.length_cons, List.length_nil, Nat.zero_add] at *)
    | (go_at_call 10; with_reducible refine (j2 _ _ _ _ (row_nil _ _ _) (hK.below B4) i4).mono ?_; rintro e w5 ⟨x5, k5, rfl, m5, hb5, i5⟩
       have B5 := But.below B4 hb5 hz1 B4.size
       have m4' := m4.but hb5 i4
       simp only [List.length_cons, List.length_nil, Nat.zero_add] at *)
    | (go_at_call 26; with_reducible refine (ad9 _).mono ?_; rintro e w6 ⟨rfl, hb6⟩
       have B6 := B5.trans (hb6.mono B5.size)
       have i6 := i5.below hb6
       have m46 := m4'.below hb6
       have m56 := m5.below hb6
       have ha := (Below.refl w6.heap.size w6).alloc (Nat.le_refl _) (.cells #[.int .u8 3, .string ⟨#[0, 0, 0, 9]⟩] 57)
       have B6' := B6.trans (ha.mono B6.size)
       have i6' := i6.below ha
       have m46' := m46.below ha
       have m56' := m56.below ha)
    | (go_at_call 10; with_reducible refine (j3 _ _ _ _ (r9 _) (hK.below B6') i6').mono ?_; rintro e w7 ⟨x7, k7, rfl, m7, hb7, i7⟩
       have B7 := But.below B6' hb7 hz1 B6'.size
       have m47 := m46'.but hb7 i6'
       have m57 := m56'.but hb7 i6'
       simp only [List.length_cons, List.length_nil, Nat.zero_add] at *)
    | (go_at_call 26; with_reducible refine (ad9 _).mono ?_; rintro e w8 ⟨rfl, hb8⟩
       have B8 := B7.trans (hb8.mono B7.size)
       have ha8 := (Below.refl w8.heap.size w8).alloc (Nat.le_refl _) (.cells #[.int .u8 3, .string ⟨#[0, 0, 0, 9]⟩] 57)
       have I8 := (i7.below hb8).below ha8
       have C8 := B8.trans (ha8.mono B8.size)
       have m47_8 := (m47.below hb8).below ha8
       have m57_8 := (m57.below hb8).below ha8
       have m7_8 := (m7.below hb8).below ha8)
    | (go_at_call 12; with_reducible refine (sm x4 k4 _ _ m47_8 (r9 _)).mono ?_; rintro e w9 ⟨rfl, hb9⟩
       have B9 := C8.trans (hb9.mono C8.size)
       have I9 := I8.below hb9
       replace m57 := m57_8.below hb9
       replace m7 := m7_8.below hb9)
    | (go_at_call 26; with_reducible refine (ad9 _).mono ?_; rintro e w10 ⟨rfl, hb10⟩
       have B10 := B9.trans (hb10.mono B9.size)
       have ha10 := (Below.refl w10.heap.size w10).alloc (Nat.le_refl _) (.cells #[.int .u8 3, .string ⟨#[0, 0, 0, 9]⟩] 57)
       have I10 := (I9.below hb10).below ha10
       have C10 := B10.trans (ha10.mono B10.size)
       have m57_10 := (m57.below hb10).below ha10
       have m7_10 := (m7.below hb10).below ha10)
    | (go_at_call 12; with_reducible refine (sm x5 k5 _ _ m57_10 (r9 _)).mono ?_; rintro e w11 ⟨rfl, hb11⟩
       have B11 := C10.trans (hb11.mono C10.size)
       have I11 := I10.below hb11
       replace m7 := m7_10.below hb11)
    | (go_at_call 26; with_reducible refine (ad9 _).mono ?_; rintro e w12 ⟨rfl, hb12⟩
       have B12 := B11.trans (hb12.mono B11.size)
       have ha12 := (Below.refl w12.heap.size w12).alloc (Nat.le_refl _) (.cells #[.int .u8 3, .string ⟨#[0, 0, 0, 9]⟩] 57)
       have I12 := (I11.below hb12).below ha12
       have C12 := B12.trans (ha12.mono B12.size)
       have m7_12 := (m7.below hb12).below ha12)
    | (go_at_call 12; with_reducible refine (sm x7 k7 _ _ m7_12 (r9 _)).mono ?_; rintro e w13 ⟨rfl, hb13⟩
       have B13 := C12.trans (hb13.mono C12.size)
       have I13 := I12.below hb13)
    | (go_at_call 13; with_reducible refine (pe _ _ I13).mono ?_; rintro e w14 ⟨rfl, hb14⟩
       have B14 := B13.trans (hb14.mono B13.size)))
  go_ret
  exact ⟨rfl, B14⟩
end Go.Proofs.YtlcckkdkcbelhaaDoor
