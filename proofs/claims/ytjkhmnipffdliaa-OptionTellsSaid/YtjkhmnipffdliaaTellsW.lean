/-
  Layer 8 (option): the law OptionTells, walked.
-/
import Derived.Test.YtjkhmnipffdliaaLng
import Derived.Test.YtjkhmnipffdliaaAlive
import Derived.Test.YtjkhmnipffdliaaRGet
import Derived.Test.YtjkhmnipffdliaaRPut
set_option linter.unusedVariables false
set_option linter.unusedSimpArgs false
namespace Go.Proofs.Ytjkhmnipffdliaa
open Go.RowKit Go.Proofs.YtjkhmnipffdliaaW.PrintWords Go.Proofs.YtjkhmnipffdliaaW.PrintLast

theorem head_form (f : List Opt) : ∃ (z : Int) (d : ByteArray) (b : Bool), headV f = .tuple #[.agg #[.int .u8 z, .string d], .bool b] := by
  cases f with
  | nil => exact ⟨_, _, _, rfl⟩
  | cons o f => exact ⟨_, _, _, rfl⟩
attribute [local go_sem high] eqA32
set_option maxRecDepth 100000 in
theorem tells_short (l m : List Opt) (s : ByteArray) (u : UInt8) (a b : Option Addr) (c d : Nat) (w : World) (hl : Row w a c l) (hm : Row w b d m) (zl : ∀ o ∈ l, o.d.size ≤ 140737488355328) (zm : ∀ o ∈ m, o.d.size ≤ 140737488355328)
    (h : longB l = true ∨ longB m = true ∨ 4096 < s.size) :
    Calls Try.prog 3 #[.slice a l.length c, .slice b m.length d, .string s, .int .u8 (tv u)] w fun e w' => e = .returned (.bool true) ∧ Below w.heap.size w w' := by
  cases h1 : longB l with
  | true =>
    go_enter Try.func3, Try.ntmps3
    go_wp2_with (first
      | (go_at_call 7; with_reducible refine (long_det l a c _ hl zl).mono ?_; rintro e w1 ⟨rfl, hw⟩; obtain rfl := hw.symm; rw [h1])
      | (go_at_call 8; with_reducible refine (alive_calls _).mono ?_; rintro e w1 ⟨rfl, hb1⟩))
    go_ret
    exact ⟨rfl, hb1⟩
  | false =>
    cases h2 : longB m with
    | true =>
      go_enter Try.func3, Try.ntmps3
      go_wp2_with (first
        | (go_at_call 7; with_reducible refine (long_det l a c _ hl zl).mono ?_; rintro e w1 ⟨rfl, hw⟩; obtain rfl := hw.symm; rw [h1])
        | (go_at_call 7; with_reducible refine (long_det m b d _ hm zm).mono ?_; rintro e w1 ⟨rfl, hw⟩; obtain rfl := hw.symm; rw [h2])
        | (go_at_call 8; with_reducible refine (alive_calls _).mono ?_; rintro e w1 ⟨rfl, hb1⟩))
      go_ret
      exact ⟨rfl, hb1⟩
    | false =>
      have h3 : 4096 < s.size := by
        rcases h with h | h | h
        · rw [h] at h1; cases h1
        · rw [h] at h2; cases h2
        · exact h
      have hd : decide ((4096 : Int) < (s.size : Int)) = true := by simp; omega
      have hd2 : decide (4096 < s.size) = true := by simp; omega
      go_enter Try.func3, Try.ntmps3
      go_wp2_with (first
        | (go_at_call 7; with_reducible refine (long_det l a c _ hl zl).mono ?_; rintro e w1 ⟨rfl, hw⟩; obtain rfl := hw.symm; rw [h1])
        | (go_at_call 7; with_reducible refine (long_det m b d _ hm zm).mono ?_; rintro e w1 ⟨rfl, hw⟩; obtain rfl := hw.symm; rw [h2])
        | (go_at_call 8; with_reducible refine (alive_calls _).mono ?_; rintro e w1 ⟨rfl, hb1⟩))
      go_ret
      exact ⟨rfl, hb1⟩
set_option maxRecDepth 100000 in
set_option maxHeartbeats 4000000 in
theorem tells_long (l m : List Opt) (s : ByteArray) (u : UInt8) (a b : Option Addr) (c d : Nat) (w : World) (hl : Row w a c l) (hnl : a = none → c = 0 ∧ l = []) (hm : Row w b d m) (zl : ∀ o ∈ l, o.d.size ≤ 140737488355328) (zm : ∀ o ∈ m, o.d.size ≤ 140737488355328)
    (h1 : longB l = false) (h2 : longB m = false) (h3 : s.size ≤ 4096) :
    Calls Try.prog 3 #[.slice a l.length c, .slice b m.length d, .string s, .int .u8 (tv u)] w fun e w' => e = .returned (.bool true) ∧ Below w.heap.size w w' := by
  have hd : decide ((4096 : Int) < (s.size : Int)) = false := by simp; omega
  have hd2 : decide (4096 < s.size) = false := by simp; omega
  obtain ⟨l70, _⟩ := longB_spec h1
  obtain ⟨m70, _⟩ := longB_spec h2
  have hls : l.length < 1000000 := by omega
  have hP : ∀ (a : Option Addr) (c : Nat) (w : World), Row w a c l → Calls Try.prog 9 #[.slice a l.length c] w fun e w' => e = .returned (putV l) ∧ Below w.heap.size w w' := fun a c w h => put_calls l a c w h hls
  have hR : ∀ (a : Option Addr) (c : Nat) (w : World), Row w a c l → Calls Try.prog 10 #[.slice a l.length c] w fun e w' => e = .returned (putV l) ∧ Below w.heap.size w w' := fun a c w h => rput_calls l a c w h hls
  obtain ⟨ps, pe, hpv⟩ : ∃ ps pe, putV l = .tuple #[.string ps, .int .i64 pe] := ⟨_, _, rfl⟩
  rw [hpv] at hP hR
  have hG := fun w => get_calls s w
  have hRG := fun w => rget_calls s w
  have hxl : (getS s).1.length < 140737488355328 := by
    by_cases he : (getS s).2.2 = 0
    · have := (put_get s he).1
      rcases put_cases (getS s).1 with ⟨_, e⟩ | ⟨h', _⟩ | ⟨h', _⟩ | ⟨h', _⟩
      · exact absurd (congrArg Prod.snd (e.symm.trans this)) (fun h => by simp at h)
      · omega
      · omega
      · omega
    · rw [(get_bad s he).1]; decide
  generalize (getS s).1 = x at *
  generalize (getS s).2.1 = n at *
  generalize (getS s).2.2 = g at *
  obtain ⟨z, o, q, hh⟩ := head_form (l.filter (hasT u))
  have hF : ∀ (a : Option Addr) (c : Nat) (w : World), Row w a c l → Calls Try.prog 13 #[.int .u8 (tv u), .slice a l.length c] w fun e w' => e = .returned (headV (l.filter (hasT u))) ∧ Below w.heap.size w w' := fun a c w h => find_calls u l a c w h hls
  have hRF : ∀ (a : Option Addr) (c : Nat) (w : World), Row w a c l → Calls Try.prog 14 #[.int .u8 (tv u), .slice a l.length c] w fun e w' => e = .returned (headV (l.filter (hasT u))) ∧ Below w.heap.size w w' := fun a c w h => rfind_calls u l a c w h hls
  rw [hh] at hF hRF
  have hW : ∀ (a : Option Addr) (c : Nat) (w : World), Row w a c l → Calls Try.prog 16 #[.int .u8 (tv u), .slice a l.length c] w fun e w' => ∃ v, e = .returned v ∧ IsRow w' v (l.filter (notT u)) ∧ Below w.heap.size w w' := fun a c w h => without_calls u l a c w h hls
  have hRW : ∀ (a : Option Addr) (c : Nat) (w : World), Row w a c l → Calls Try.prog 17 #[.int .u8 (tv u), .slice a l.length c] w fun e w' => ∃ v, e = .returned v ∧ IsRow w' v (l.filter (notT u)) ∧ Below w.heap.size w w' := fun a c w h => rwithout_calls u l a c w h hls
  have hfl : (l.filter (notT u)).length < 140737488355328 := by have := List.length_filter_le (notT u) l; omega
  generalize l.filter (notT u) = f at *
  clear hpv hh
  generalize hq : decide (l = m) = qm at *
  have Hq := Lib.hid hq; clear hq
  generalize htu : tv u = tu at *
  go_enter Try.func3, Try.ntmps3
  go_wp2_with (first
    | (go_at_call 7; with_reducible refine (long_det l a c _ hl zl).mono ?_; rintro e w1 ⟨rfl, hw⟩; obtain rfl := hw.symm; rw [h1])
    | (go_at_call 7; with_reducible refine (long_det m b d _ hm zm).mono ?_; rintro e w1 ⟨rfl, hw⟩; obtain rfl := hw.symm; rw [h2])
    | (at_builtin; refine wpList_append_row rfl _ _ rfl w.heap.size _ [] l 0 rfl rfl (World.ownsRow_nil _ _ _ _) a c rfl hl hnl (by simp) (by omega) (Nat.le_refl _) ?_
       intro v1 w1 hown hg1
       rw [List.nil_append] at hown
       obtain ⟨ra, rc, rfl, o1⟩ := row_own hown
       have B1 := (Below.refl w.heap.size w).grown hg1 (Nat.le_refl _) (fun k hk => by cases hk)
       clear hown hg1)
    | (go_at_call 9; with_reducible refine (hP _ _ _ o1).mono ?_; rintro e w2 ⟨rfl, hb2⟩
       have B2 := B1.trans (hb2.mono B1.size)
       have o2 := o1.below hb2)
    | (go_at_call 10; with_reducible refine (hR _ _ _ (hl.below B2)).mono ?_; rintro e w3 ⟨rfl, hb3⟩
       have B3 := B2.trans (hb3.mono B2.size)
       have o3 := o2.below hb3)
    | (go_at_call 11; with_reducible refine (hG _).mono ?_; rintro e w4 ⟨v4, rfl, hx, hb4⟩
       obtain ⟨xa, xc, rfl, x4⟩ := hx
       have B4 := B3.trans (hb4.mono B3.size)
       have o4 := o3.below hb4)
    | (go_at_call 12; with_reducible refine (hRG _).mono ?_; rintro e w5 ⟨v5, rfl, hy, hb5⟩
       obtain ⟨ya, yc, rfl, y5⟩ := hy
       have B5 := B4.trans (hb5.mono B4.size)
       have o5 := o4.below hb5
       have x5 := x4.below hb5)
    | (go_at_call 13; with_reducible refine (hF _ _ _ o5).mono ?_; rintro e w6 ⟨rfl, hb6⟩
       have B6 := B5.trans (hb6.mono B5.size)
       have o6 := o5.below hb6
       have x6 := x5.below hb6
       have y6 := y5.below hb6)
    | (go_at_call 14; with_reducible refine (hRF _ _ _ (hl.below (B6.alloc B6.size _))).mono ?_; rintro e w7 ⟨rfl, hb7⟩
       have k6 := (Below.refl w6.heap.size w6).alloc (Nat.le_refl _) (.cells #[.int .u8 z, .string o] 32)
       have n6 := heap_alloc_new w6 (.cells #[.int .u8 z, .string o] 32)
       have B7 := (B6.alloc B6.size (.cells #[.int .u8 z, .string o] 32)).trans (hb7.mono (by have := B6.size; simp; omega))
       have o7 := (o6.below k6).below hb7
       have x7 := (x6.below k6).below hb7
       have y7 := (y6.below k6).below hb7
       have n7 : w7.heap[w6.heap.size]? = some (.cells #[.int .u8 z, .string o] 32 (0, 0)) := (hb7.block _ (by simp)).trans n6
       clear k6 n6 B6 o6 x6 y6 hb6)
    | (go_at_call 15; with_reducible refine (same_calls x x xa ya xc yc _ (x7.below (Below.alloc (Below.refl _ w7) (Nat.le_refl _) _)) (y7.below (Below.alloc (Below.refl _ w7) (Nat.le_refl _) _)) hxl).mono ?_; rintro e w8 ⟨rfl, hb8⟩
       rw [decide_eq_true (Eq.refl x)]
       have k7 := (Below.refl w7.heap.size w7).alloc (Nat.le_refl _) (.cells #[.int .u8 z, .string o] 32)
       have n8 := heap_alloc_new w7 (.cells #[.int .u8 z, .string o] 32)
       have B8 := (B7.alloc B7.size (.cells #[.int .u8 z, .string o] 32)).trans (hb8.mono (by have := B7.size; simp; omega))
       have o8 := (o7.below k7).below hb8
       have m8 : w8.heap[w7.heap.size]? = some (.cells #[.int .u8 z, .string o] 32 (0, 0)) := (hb8.block _ (by simp)).trans n8
       have l8 : w8.heap[w6.heap.size]? = some (.cells #[.int .u8 z, .string o] 32 (0, 0)) := by
         have e1 : w6.heap.size < w7.heap.size := (Array.getElem?_eq_some_iff.1 n7).1
         exact ((hb8.block _ (by simp; omega)).trans (k7.block _ e1)).trans n7
       have d0 : w8.cell? ⟨w6.heap.size, 0, none⟩ = some (.int .u8 z) := by rw [Lib.cell_of_heap l8]; rfl
       have d1 : w8.cell? ⟨w6.heap.size, 1, none⟩ = some (.string o) := by rw [Lib.cell_of_heap l8]; rfl
       have d2 : w8.cell? ⟨w7.heap.size, 0, none⟩ = some (.int .u8 z) := by rw [Lib.cell_of_heap m8]; rfl
       have d3 : w8.cell? ⟨w7.heap.size, 1, none⟩ = some (.string o) := by rw [Lib.cell_of_heap m8]; rfl
       clear k7 n8 m8 l8 n7 o7 x7 y7 B7 hb8)
    | (go_at_call 16; with_reducible refine (hW _ _ _ o8).mono ?_; rintro e w9 ⟨v9, rfl, h9, hb9⟩
       obtain ⟨fa, fc, rfl, f9⟩ := h9
       have B9 := B8.trans (hb9.mono B8.size)
       have o9 := o8.below hb9)
    | (go_at_call 17; with_reducible refine (hRW _ _ _ (hl.below B9)).mono ?_; rintro e w10 ⟨v10, rfl, h10, hb10⟩
       obtain ⟨ga, gc, rfl, g10⟩ := h10
       have B10 := B9.trans (hb10.mono B9.size)
       have o10 := o9.below hb10
       have f10 := f9.below hb10)
    | (go_at_call 15; with_reducible refine (same_calls f f fa ga fc gc _ f10 g10 hfl).mono ?_; rintro e w11 ⟨rfl, hb11⟩
       rw [decide_eq_true (Eq.refl f)]
       have B11 := B10.trans (hb11.mono B10.size)
       have o11 := o10.below hb11)
    | (go_at_call 18; with_reducible refine (alike_calls l m ra b rc d _ o11 (hm.below B11) (by omega)).mono ?_; rintro e w12 ⟨rfl, hb12⟩
       rw [Hq.out]
       have B12 := B11.trans (hb12.mono B11.size)
       have o12 := o11.below hb12)
    | (go_at_call 15; with_reducible refine (same_calls l m a b c d _ (hl.below B12) (hm.below B12) (by omega)).mono ?_; rintro e w13 ⟨rfl, hb13⟩
       rw [Hq.out]
       have B13 := B12.trans (hb13.mono B12.size)
       have o13 := o12.below hb13)
    | (go_at_call 15; with_reducible refine (same_calls l l ra a rc c _ o13 (hl.below B13) (by omega)).mono ?_; rintro e w14 ⟨rfl, hb14⟩
       rw [decide_eq_true (Eq.refl l)]
       have B14 := B13.trans (hb14.mono B13.size))
    | (go_at_call 8; with_reducible refine (alive_calls _).mono ?_; rintro e w15 ⟨rfl, hb15⟩
       have B15 := B14.trans (hb15.mono B14.size)))
  go_ret
  exact ⟨rfl, B15⟩
theorem tells_walk (l m : List Opt) (s : ByteArray) (u : UInt8) (a b : Option Addr) (c d : Nat) (w : World) (hl : Row w a c l) (hnl : a = none → c = 0 ∧ l = []) (hm : Row w b d m) (zl : ∀ o ∈ l, o.d.size ≤ 140737488355328) (zm : ∀ o ∈ m, o.d.size ≤ 140737488355328) :
    Calls Try.prog 3 #[.slice a l.length c, .slice b m.length d, .string s, .int .u8 (tv u)] w fun e w' => e = .returned (.bool true) ∧ Below w.heap.size w w' := by
  by_cases h : longB l = true ∨ longB m = true ∨ 4096 < s.size
  · exact tells_short l m s u a b c d w hl hm zl zm h
  · refine tells_long l m s u a b c d w hl hnl hm zl zm ?_ ?_ (by omega)
    · cases h' : longB l with
      | true => exact absurd (.inl h') h
      | false => rfl
    · cases h' : longB m with
      | true => exact absurd (.inr (.inl h')) h
      | false => rfl
end Go.Proofs.Ytjkhmnipffdliaa
