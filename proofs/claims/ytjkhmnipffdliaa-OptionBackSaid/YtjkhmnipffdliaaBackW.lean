/-
  Layer 8 (option): the law OptionBack, walked.
-/
import Derived.Test.YtjkhmnipffdliaaLng
import Derived.Test.YtjkhmnipffdliaaAlive
set_option linter.unusedVariables false
set_option linter.unusedSimpArgs false
namespace Go.Proofs.Ytjkhmnipffdliaa
open Go.RowKit Go.Proofs.YtjkhmnipffdliaaW.PrintWords Go.Proofs.YtjkhmnipffdliaaW.PrintLast

theorem back_short (l : List Opt) (s : ByteArray) (a : Option Addr) (c : Nat) (w : World) (hl : Row w a c l) (zl : ∀ o ∈ l, o.d.size ≤ 140737488355328) (h : longB l = true ∨ 4096 < s.size) :
    Calls Try.prog 4 #[.slice a l.length c, .string s] w fun e w' => e = .returned (.bool true) ∧ Below w.heap.size w w' := by
  cases h1 : longB l with
  | true =>
    go_enter Try.func4, Try.ntmps4
    go_wp2_with (first
      | (go_at_call 7; with_reducible refine (long_det l a c _ hl zl).mono ?_; rintro e w1 ⟨rfl, hw⟩; obtain rfl := hw.symm; rw [h1])
      | (go_at_call 8; with_reducible refine (alive_calls _).mono ?_; rintro e w1 ⟨rfl, hb1⟩))
    go_ret
    exact ⟨rfl, hb1⟩
  | false =>
    have h3 : 4096 < s.size := by
      rcases h with h | h
      · rw [h] at h1; cases h1
      · exact h
    have hd : decide ((4096 : Int) < (s.size : Int)) = true := by simp; omega
    have hd2 : decide (4096 < s.size) = true := by simp; omega
    go_enter Try.func4, Try.ntmps4
    go_wp2_with (first
      | (go_at_call 7; with_reducible refine (long_det l a c _ hl zl).mono ?_; rintro e w1 ⟨rfl, hw⟩; obtain rfl := hw.symm; rw [h1])
      | (go_at_call 8; with_reducible refine (alive_calls _).mono ?_; rintro e w1 ⟨rfl, hb1⟩))
    go_ret
    exact ⟨rfl, hb1⟩
set_option maxRecDepth 100000 in
set_option maxHeartbeats 4000000 in
theorem back_00 (l : List Opt) (s : ByteArray) (a : Option Addr) (c : Nat) (w : World) (hl : Row w a c l) (zl : ∀ o ∈ l, o.d.size ≤ 140737488355328) (h1 : longB l = false) (h3 : s.size ≤ 4096) (hp : (put l).2 ≠ 0) (hg : (getS s).2.2 ≠ 0) :
    Calls Try.prog 4 #[.slice a l.length c, .string s] w fun e w' => e = .returned (.bool true) ∧ Below w.heap.size w w' := by
  have hd : decide ((4096 : Int) < (s.size : Int)) = false := by simp; omega
  have hd2 : decide (4096 < s.size) = false := by simp; omega
  obtain ⟨l70, _⟩ := longB_spec h1
  have hls : l.length < 1000000 := by omega
  have hP : ∀ (a : Option Addr) (c : Nat) (w : World), Row w a c l → Calls Try.prog 9 #[.slice a l.length c] w fun e w' => e = .returned (putV l) ∧ Below w.heap.size w w' := fun a c w h => put_calls l a c w h hls
  obtain ⟨ps, pe, hpv, hpe⟩ : ∃ (ps : ByteArray) (pe : Int), putV l = .tuple #[.string ps, .int .i64 pe] ∧ (pe == 0) = false := ⟨_, _, rfl, by simpa using hp⟩
  rw [hpv] at hP
  clear hpv hp
  have hG := fun w => get_calls s w
  obtain ⟨hx0, hn0, hn1⟩ := get_bad s hg
  have hne : ((getS s).2.2 != 0) = true := by simpa using hg
  rw [hx0] at hG
  clear hg hx0
  generalize (getS s).2.1 = n at *
  generalize (getS s).2.2 = g at *
  have q1 : decide ((0 : Int) ≤ n) = true := by simpa using hn0
  have q2 : decide (n ≤ (s.size : Int)) = true := by simpa using hn1
  go_enter Try.func4, Try.ntmps4
  go_wp2_with (first
    | (go_at_call 7; with_reducible refine (long_det l a c _ hl zl).mono ?_; rintro e w1 ⟨rfl, hw⟩; obtain rfl := hw.symm; rw [h1])
    | (go_at_call 9; with_reducible refine (hP _ _ _ hl).mono ?_; rintro e w4 ⟨rfl, B4⟩)
    | (go_at_call 11; with_reducible refine (hG _).mono ?_; rintro e w6 ⟨v5, rfl, hy, hb5⟩
       obtain ⟨ya, yc, rfl, y5⟩ := hy
       have B6 := B4.trans (hb5.mono B4.size))
    | (go_at_call 8; with_reducible refine (alive_calls _).mono ?_; rintro e w7 ⟨rfl, hb7⟩
       have B7 := B6.trans (hb7.mono B6.size)))
  go_ret
  exact ⟨rfl, B7⟩
set_option maxRecDepth 100000 in
set_option maxHeartbeats 4000000 in
theorem back_01 (l : List Opt) (s : ByteArray) (a : Option Addr) (c : Nat) (w : World) (hl : Row w a c l) (zl : ∀ o ∈ l, o.d.size ≤ 140737488355328) (h1 : longB l = false) (h3 : s.size ≤ 4096) (hp : (put l).2 ≠ 0) (hg : (getS s).2.2 = 0) :
    Calls Try.prog 4 #[.slice a l.length c, .string s] w fun e w' => e = .returned (.bool true) ∧ Below w.heap.size w w' := by
  have hd : decide ((4096 : Int) < (s.size : Int)) = false := by simp; omega
  have hd2 : decide (4096 < s.size) = false := by simp; omega
  obtain ⟨l70, _⟩ := longB_spec h1
  have hls : l.length < 1000000 := by omega
  have hP : ∀ (a : Option Addr) (c : Nat) (w : World), Row w a c l → Calls Try.prog 9 #[.slice a l.length c] w fun e w' => e = .returned (putV l) ∧ Below w.heap.size w w' := fun a c w h => put_calls l a c w h hls
  obtain ⟨ps, pe, hpv, hpe⟩ : ∃ (ps : ByteArray) (pe : Int), putV l = .tuple #[.string ps, .int .i64 pe] ∧ (pe == 0) = false := ⟨_, _, rfl, by simpa using hp⟩
  rw [hpv] at hP
  clear hpv hp
  have hG := fun w => get_calls s w
  obtain ⟨hpg, hn⟩ := put_get s hg
  have hx64 : (getS s).1.length < 1000000 := by
    rcases put_cases (getS s).1 with ⟨_, e⟩ | ⟨h', _⟩ | ⟨h', _⟩ | ⟨h', _⟩
    · exact absurd (congrArg Prod.snd (e.symm.trans hpg)) (fun h => by simp at h)
    · omega
    · omega
    · omega
  rw [hg, hn] at hG
  clear hg hn
  generalize (getS s).1 = x at *
  have hP2 : ∀ (a : Option Addr) (c : Nat) (w : World), Row w a c x → Calls Try.prog 9 #[.slice a x.length c] w fun e w' => e = .returned (.tuple #[.string s, .int .i64 0]) ∧ Below w.heap.size w w' := fun a c w h => by
    have := put_calls x a c w h hx64
    rw [putV, hpg] at this
    exact this
  clear hpg
  go_enter Try.func4, Try.ntmps4
  go_wp2_with (first
    | (go_at_call 7; with_reducible refine (long_det l a c _ hl zl).mono ?_; rintro e w1 ⟨rfl, hw⟩; obtain rfl := hw.symm; rw [h1])
    | (go_at_call 9; with_reducible refine (hP _ _ _ hl).mono ?_; rintro e w4 ⟨rfl, B4⟩)
    | (go_at_call 11; with_reducible refine (hG _).mono ?_; rintro e w5 ⟨v5, rfl, hy, hb5⟩
       obtain ⟨ya, yc, rfl, y5⟩ := hy
       have B5 := B4.trans (hb5.mono B4.size))
    | (go_at_call 9; with_reducible refine (hP2 _ _ _ y5).mono ?_; rintro e w6 ⟨rfl, hb6⟩
       have B6 := B5.trans (hb6.mono B5.size))
    | (go_at_call 8; with_reducible refine (alive_calls _).mono ?_; rintro e w7 ⟨rfl, hb7⟩
       have B7 := B6.trans (hb7.mono B6.size)))
  go_ret
  exact ⟨rfl, B7⟩
set_option maxRecDepth 100000 in
set_option maxHeartbeats 4000000 in
theorem back_10 (l : List Opt) (s : ByteArray) (a : Option Addr) (c : Nat) (w : World) (hl : Row w a c l) (zl : ∀ o ∈ l, o.d.size ≤ 140737488355328) (h1 : longB l = false) (h3 : s.size ≤ 4096) (hp : (put l).2 = 0) (hg : (getS s).2.2 ≠ 0) :
    Calls Try.prog 4 #[.slice a l.length c, .string s] w fun e w' => e = .returned (.bool true) ∧ Below w.heap.size w w' := by
  have hd : decide ((4096 : Int) < (s.size : Int)) = false := by simp; omega
  have hd2 : decide (4096 < s.size) = false := by simp; omega
  obtain ⟨l70, _⟩ := longB_spec h1
  have hls : l.length < 1000000 := by omega
  have hP : ∀ (a : Option Addr) (c : Nat) (w : World), Row w a c l → Calls Try.prog 9 #[.slice a l.length c] w fun e w' => e = .returned (putV l) ∧ Below w.heap.size w w' := fun a c w h => put_calls l a c w h hls
  obtain ⟨ps, hpv, hgp⟩ : ∃ ps : ByteArray, putV l = .tuple #[.string ps, .int .i64 0] ∧ getS ps = (l, (ps.size : Int), 0) := by
    refine ⟨⟨(put l).1.toArray⟩, by rw [putV, hp], ?_⟩
    rw [get_put l hp, size_list]
  rw [hpv] at hP
  have hG1 := fun w => get_calls ps w
  rw [hgp] at hG1
  clear hpv hgp hp
  have hG := fun w => get_calls s w
  obtain ⟨hx0, hn0, hn1⟩ := get_bad s hg
  have hne : ((getS s).2.2 != 0) = true := by simpa using hg
  rw [hx0] at hG
  clear hg hx0
  generalize (getS s).2.1 = n at *
  generalize (getS s).2.2 = g at *
  have q1 : decide ((0 : Int) ≤ n) = true := by simpa using hn0
  have q2 : decide (n ≤ (s.size : Int)) = true := by simpa using hn1
  go_enter Try.func4, Try.ntmps4
  go_wp2_with (first
    | (go_at_call 7; with_reducible refine (long_det l a c _ hl zl).mono ?_; rintro e w1 ⟨rfl, hw⟩; obtain rfl := hw.symm; rw [h1])
    | (go_at_call 9; with_reducible refine (hP _ _ _ hl).mono ?_; rintro e w2 ⟨rfl, B2⟩)
    | (go_at_call 11; with_reducible refine (hG1 _).mono ?_; rintro e w3 ⟨v3, rfl, hx, hb3⟩
       obtain ⟨xa, xc, rfl, x3⟩ := hx
       have B3 := B2.trans (hb3.mono B2.size))
    | (go_at_call 15; with_reducible refine (same_calls l l xa a xc c _ x3 (hl.below B3) (by omega)).mono ?_; rintro e w4 ⟨rfl, hb4⟩
       rw [decide_eq_true (Eq.refl l)]
       have B4 := B3.trans (hb4.mono B3.size))
    | (go_at_call 11; with_reducible refine (hG _).mono ?_; rintro e w6 ⟨v5, rfl, hy, hb5⟩
       obtain ⟨ya, yc, rfl, y5⟩ := hy
       have B6 := B4.trans (hb5.mono B4.size))
    | (go_at_call 8; with_reducible refine (alive_calls _).mono ?_; rintro e w7 ⟨rfl, hb7⟩
       have B7 := B6.trans (hb7.mono B6.size)))
  go_ret
  exact ⟨rfl, B7⟩
set_option maxRecDepth 100000 in
set_option maxHeartbeats 4000000 in
theorem back_11 (l : List Opt) (s : ByteArray) (a : Option Addr) (c : Nat) (w : World) (hl : Row w a c l) (zl : ∀ o ∈ l, o.d.size ≤ 140737488355328) (h1 : longB l = false) (h3 : s.size ≤ 4096) (hp : (put l).2 = 0) (hg : (getS s).2.2 = 0) :
    Calls Try.prog 4 #[.slice a l.length c, .string s] w fun e w' => e = .returned (.bool true) ∧ Below w.heap.size w w' := by
  have hd : decide ((4096 : Int) < (s.size : Int)) = false := by simp; omega
  have hd2 : decide (4096 < s.size) = false := by simp; omega
  obtain ⟨l70, _⟩ := longB_spec h1
  have hls : l.length < 1000000 := by omega
  have hP : ∀ (a : Option Addr) (c : Nat) (w : World), Row w a c l → Calls Try.prog 9 #[.slice a l.length c] w fun e w' => e = .returned (putV l) ∧ Below w.heap.size w w' := fun a c w h => put_calls l a c w h hls
  obtain ⟨ps, hpv, hgp⟩ : ∃ ps : ByteArray, putV l = .tuple #[.string ps, .int .i64 0] ∧ getS ps = (l, (ps.size : Int), 0) := by
    refine ⟨⟨(put l).1.toArray⟩, by rw [putV, hp], ?_⟩
    rw [get_put l hp, size_list]
  rw [hpv] at hP
  have hG1 := fun w => get_calls ps w
  rw [hgp] at hG1
  clear hpv hgp hp
  have hG := fun w => get_calls s w
  obtain ⟨hpg, hn⟩ := put_get s hg
  have hx64 : (getS s).1.length < 1000000 := by
    rcases put_cases (getS s).1 with ⟨_, e⟩ | ⟨h', _⟩ | ⟨h', _⟩ | ⟨h', _⟩
    · exact absurd (congrArg Prod.snd (e.symm.trans hpg)) (fun h => by simp at h)
    · omega
    · omega
    · omega
  rw [hg, hn] at hG
  clear hg hn
  generalize (getS s).1 = x at *
  have hP2 : ∀ (a : Option Addr) (c : Nat) (w : World), Row w a c x → Calls Try.prog 9 #[.slice a x.length c] w fun e w' => e = .returned (.tuple #[.string s, .int .i64 0]) ∧ Below w.heap.size w w' := fun a c w h => by
    have := put_calls x a c w h hx64
    rw [putV, hpg] at this
    exact this
  clear hpg
  go_enter Try.func4, Try.ntmps4
  go_wp2_with (first
    | (go_at_call 7; with_reducible refine (long_det l a c _ hl zl).mono ?_; rintro e w1 ⟨rfl, hw⟩; obtain rfl := hw.symm; rw [h1])
    | (go_at_call 9; with_reducible refine (hP _ _ _ hl).mono ?_; rintro e w2 ⟨rfl, B2⟩)
    | (go_at_call 11; with_reducible refine (hG1 _).mono ?_; rintro e w3 ⟨v3, rfl, hx, hb3⟩
       obtain ⟨xa, xc, rfl, x3⟩ := hx
       have B3 := B2.trans (hb3.mono B2.size))
    | (go_at_call 15; with_reducible refine (same_calls l l xa a xc c _ x3 (hl.below B3) (by omega)).mono ?_; rintro e w4 ⟨rfl, hb4⟩
       rw [decide_eq_true (Eq.refl l)]
       have B4 := B3.trans (hb4.mono B3.size))
    | (go_at_call 11; with_reducible refine (hG _).mono ?_; rintro e w5 ⟨v5, rfl, hy, hb5⟩
       obtain ⟨ya, yc, rfl, y5⟩ := hy
       have B5 := B4.trans (hb5.mono B4.size))
    | (go_at_call 9; with_reducible refine (hP2 _ _ _ y5).mono ?_; rintro e w6 ⟨rfl, hb6⟩
       have B6 := B5.trans (hb6.mono B5.size))
    | (go_at_call 8; with_reducible refine (alive_calls _).mono ?_; rintro e w7 ⟨rfl, hb7⟩
       have B7 := B6.trans (hb7.mono B6.size)))
  go_ret
  exact ⟨rfl, B7⟩
theorem back_walk (l : List Opt) (s : ByteArray) (a : Option Addr) (c : Nat) (w : World) (hl : Row w a c l) (zl : ∀ o ∈ l, o.d.size ≤ 140737488355328) :
    Calls Try.prog 4 #[.slice a l.length c, .string s] w fun e w' => e = .returned (.bool true) ∧ Below w.heap.size w w' := by
  by_cases h : longB l = true ∨ 4096 < s.size
  · exact back_short l s a c w hl zl h
  · have h1 : longB l = false := by
      cases h' : longB l with
      | true => exact absurd (.inl h') h
      | false => rfl
    have h3 : s.size ≤ 4096 := by omega
    by_cases hp : (put l).2 = 0
    · by_cases hg : (getS s).2.2 = 0
      · exact back_11 l s a c w hl zl h1 h3 hp hg
      · exact back_10 l s a c w hl zl h1 h3 hp hg
    · by_cases hg : (getS s).2.2 = 0
      · exact back_01 l s a c w hl zl h1 h3 hp hg
      · exact back_00 l s a c w hl zl h1 h3 hp hg
end Go.Proofs.Ytjkhmnipffdliaa
