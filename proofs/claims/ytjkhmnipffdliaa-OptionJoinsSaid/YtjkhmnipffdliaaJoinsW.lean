/-
  Layer 8 (option): the law OptionJoins, walked.
-/
import Derived.Test.YtjkhmnipffdliaaLng
import Derived.Test.YtjkhmnipffdliaaAlive
import Derived.Laws.Concat
set_option linter.unusedVariables false
set_option linter.unusedSimpArgs false
namespace Go.Proofs.Ytjkhmnipffdliaa
open Go.RowKit Go.Proofs.YtjkhmnipffdliaaW.PrintWords Go.Proofs.YtjkhmnipffdliaaW.PrintLast

theorem joins_short (l m : List Opt) (a b : Option Addr) (c d : Nat) (w : World) (hl : Row w a c l) (hm : Row w b d m) (zl : ∀ o ∈ l, o.d.size ≤ 140737488355328) (zm : ∀ o ∈ m, o.d.size ≤ 140737488355328) (h : longB l = true ∨ longB m = true) :
    Calls Try.prog 5 #[.slice a l.length c, .slice b m.length d] w fun e w' => e = .returned (.bool true) ∧ Below w.heap.size w w' := by
  cases h1 : longB l with
  | true =>
    go_enter Try.func5, Try.ntmps5
    go_wp2_with (first
      | (go_at_call 7; with_reducible refine (long_det l a c _ hl zl).mono ?_; rintro e w1 ⟨rfl, hw⟩; obtain rfl := hw.symm; rw [h1])
      | (go_at_call 8; with_reducible refine (alive_calls _).mono ?_; rintro e w1 ⟨rfl, hb1⟩))
    go_ret
    exact ⟨rfl, hb1⟩
  | false =>
    have h2 : longB m = true := by
      rcases h with h | h
      · rw [h] at h1; cases h1
      · exact h
    go_enter Try.func5, Try.ntmps5
    go_wp2_with (first
      | (go_at_call 7; with_reducible refine (long_det l a c _ hl zl).mono ?_; rintro e w1 ⟨rfl, hw⟩; obtain rfl := hw.symm; rw [h1])
      | (go_at_call 7; with_reducible refine (long_det m b d _ hm zm).mono ?_; rintro e w1 ⟨rfl, hw⟩; obtain rfl := hw.symm; rw [h2])
      | (go_at_call 8; with_reducible refine (alive_calls _).mono ?_; rintro e w1 ⟨rfl, hb1⟩))
    go_ret
    exact ⟨rfl, hb1⟩
/-- What is known of the three answers. -/
def Ans (l m : List Opt) (p : ByteArray) (pe : Int) (q : ByteArray) (qe : Int) (r : ByteArray) (re : Int) : Prop :=
  putV l = .tuple #[.string p, .int .i64 pe] ∧ putV m = .tuple #[.string q, .int .i64 qe] ∧ putV (l ++ m) = .tuple #[.string r, .int .i64 re]
set_option maxRecDepth 100000 in
set_option maxHeartbeats 4000000 in
theorem joins_a (l m : List Opt) (p q r : ByteArray) (pe qe re : Int) (hA : Ans l m p pe q qe r re) (a b : Option Addr) (c d : Nat) (w : World) (hl : Row w a c l) (hnl : a = none → c = 0 ∧ l = []) (hm : Row w b d m) (hnm : b = none → d = 0 ∧ m = []) (zl : ∀ o ∈ l, o.d.size ≤ 140737488355328) (zm : ∀ o ∈ m, o.d.size ≤ 140737488355328) (h1 : longB l = false) (h2 : longB m = false) (hpe : (pe != 0) = true) (hre : (re != 0) = true) :
    Calls Try.prog 5 #[.slice a l.length c, .slice b m.length d] w fun e w' => e = .returned (.bool true) ∧ Below w.heap.size w w' := by
  obtain ⟨l70, _⟩ := longB_spec h1
  obtain ⟨m70, _⟩ := longB_spec h2
  obtain ⟨A1, A2, A3⟩ := hA
  have hP : ∀ (a : Option Addr) (c : Nat) (w : World), Row w a c l → Calls Try.prog 9 #[.slice a l.length c] w fun e w' => e = .returned (putV l) ∧ Below w.heap.size w w' := fun a c w h => put_calls l a c w h (by omega)
  have hQ : ∀ (a : Option Addr) (c : Nat) (w : World), Row w a c m → Calls Try.prog 9 #[.slice a m.length c] w fun e w' => e = .returned (putV m) ∧ Below w.heap.size w w' := fun a c w h => put_calls m a c w h (by omega)
  have hR : ∀ (a : Option Addr) (c : Nat) (w : World), Row w a c (l ++ m) → Calls Try.prog 9 #[.slice a (l.length + m.length) c] w fun e w' => e = .returned (putV (l ++ m)) ∧ Below w.heap.size w w' := fun a c w h => by rw [← List.length_append]; exact put_calls (l ++ m) a c w h (by rw [List.length_append]; omega)
  rw [A1] at hP
  rw [A2] at hQ
  rw [A3] at hR
  clear A1 A2 A3
  go_enter Try.func5, Try.ntmps5
  go_wp2_with (first
    | (go_at_call 7; with_reducible refine (long_det l a c _ hl zl).mono ?_; rintro e w1 ⟨rfl, hw⟩; obtain rfl := hw.symm; rw [h1])
    | (go_at_call 7; with_reducible refine (long_det m b d _ hm zm).mono ?_; rintro e w1 ⟨rfl, hw⟩; obtain rfl := hw.symm; rw [h2])
    | (go_at_call 9; with_reducible refine (hP _ _ _ hl).mono ?_; rintro e w2 ⟨rfl, B2⟩)
    | (go_at_call 9; with_reducible refine (hQ _ _ _ (hm.below B2)).mono ?_; rintro e w3 ⟨rfl, hb3⟩
       have B3 := B2.trans (hb3.mono B2.size))
    | (at_builtin; refine wpList_append_row rfl _ _ rfl w.heap.size _ [] l 0 rfl rfl (World.ownsRow_nil _ _ _ _) a c rfl (hl.below B3) hnl (by simp) (by omega) B3.size ?_
       intro v4 w4 hown4 hg4
       rw [List.nil_append] at hown4
       have B4 := B3.grown hg4 B3.size (fun k hk => by cases hk))
    | (at_builtin; refine wpList_append_row rfl _ _ rfl w.heap.size _ l m _ rfl rfl hown4 b d rfl (hm.below B4) hnm (by omega) (by omega) B4.size ?_
       intro v5 w5 hown5 hg5
       have B5 := B4.grown hg5 B4.size (own_base hown4)
       obtain ⟨ra, rc, rfl, r5⟩ := row_own hown5
       clear hown5 hown4 hg5 hg4)
    | (go_at_call 9; with_reducible refine (hR _ _ _ r5).mono ?_; rintro e w6 ⟨rfl, hb6⟩
       have B6 := B5.trans (hb6.mono B5.size))
    | (go_at_call 8; with_reducible refine (alive_calls _).mono ?_; rintro e w7 ⟨rfl, hb7⟩
       have B7 := B6.trans (hb7.mono B6.size)))
  go_ret
  exact ⟨rfl, B7⟩
set_option maxRecDepth 100000 in
set_option maxHeartbeats 4000000 in
theorem joins_b (l m : List Opt) (p q r : ByteArray) (pe qe re : Int) (hA : Ans l m p pe q qe r re) (a b : Option Addr) (c d : Nat) (w : World) (hl : Row w a c l) (hnl : a = none → c = 0 ∧ l = []) (hm : Row w b d m) (hnm : b = none → d = 0 ∧ m = []) (zl : ∀ o ∈ l, o.d.size ≤ 140737488355328) (zm : ∀ o ∈ m, o.d.size ≤ 140737488355328) (h1 : longB l = false) (h2 : longB m = false) (hpe : pe = 0) (hqe : (qe != 0) = true) (hre : (re != 0) = true) :
    Calls Try.prog 5 #[.slice a l.length c, .slice b m.length d] w fun e w' => e = .returned (.bool true) ∧ Below w.heap.size w w' := by
  obtain ⟨l70, _⟩ := longB_spec h1
  obtain ⟨m70, _⟩ := longB_spec h2
  obtain ⟨A1, A2, A3⟩ := hA
  have hP : ∀ (a : Option Addr) (c : Nat) (w : World), Row w a c l → Calls Try.prog 9 #[.slice a l.length c] w fun e w' => e = .returned (putV l) ∧ Below w.heap.size w w' := fun a c w h => put_calls l a c w h (by omega)
  have hQ : ∀ (a : Option Addr) (c : Nat) (w : World), Row w a c m → Calls Try.prog 9 #[.slice a m.length c] w fun e w' => e = .returned (putV m) ∧ Below w.heap.size w w' := fun a c w h => put_calls m a c w h (by omega)
  have hR : ∀ (a : Option Addr) (c : Nat) (w : World), Row w a c (l ++ m) → Calls Try.prog 9 #[.slice a (l.length + m.length) c] w fun e w' => e = .returned (putV (l ++ m)) ∧ Below w.heap.size w w' := fun a c w h => by rw [← List.length_append]; exact put_calls (l ++ m) a c w h (by rw [List.length_append]; omega)
  rw [A1] at hP
  rw [A2] at hQ
  rw [A3] at hR
  clear A1 A2 A3
  subst hpe
  go_enter Try.func5, Try.ntmps5
  go_wp2_with (first
    | (go_at_call 7; with_reducible refine (long_det l a c _ hl zl).mono ?_; rintro e w1 ⟨rfl, hw⟩; obtain rfl := hw.symm; rw [h1])
    | (go_at_call 7; with_reducible refine (long_det m b d _ hm zm).mono ?_; rintro e w1 ⟨rfl, hw⟩; obtain rfl := hw.symm; rw [h2])
    | (go_at_call 9; with_reducible refine (hP _ _ _ hl).mono ?_; rintro e w2 ⟨rfl, B2⟩)
    | (go_at_call 9; with_reducible refine (hQ _ _ _ (hm.below B2)).mono ?_; rintro e w3 ⟨rfl, hb3⟩
       have B3 := B2.trans (hb3.mono B2.size))
    | (at_builtin; refine wpList_append_row rfl _ _ rfl w.heap.size _ [] l 0 rfl rfl (World.ownsRow_nil _ _ _ _) a c rfl (hl.below B3) hnl (by simp) (by omega) B3.size ?_
       intro v4 w4 hown4 hg4
       rw [List.nil_append] at hown4
       have B4 := B3.grown hg4 B3.size (fun k hk => by cases hk))
    | (at_builtin; refine wpList_append_row rfl _ _ rfl w.heap.size _ l m _ rfl rfl hown4 b d rfl (hm.below B4) hnm (by omega) (by omega) B4.size ?_
       intro v5 w5 hown5 hg5
       have B5 := B4.grown hg5 B4.size (own_base hown4)
       obtain ⟨ra, rc, rfl, r5⟩ := row_own hown5
       clear hown5 hown4 hg5 hg4)
    | (go_at_call 9; with_reducible refine (hR _ _ _ r5).mono ?_; rintro e w6 ⟨rfl, hb6⟩
       have B6 := B5.trans (hb6.mono B5.size))
    | (go_at_call 8; with_reducible refine (alive_calls _).mono ?_; rintro e w7 ⟨rfl, hb7⟩
       have B7 := B6.trans (hb7.mono B6.size)))
  go_ret
  exact ⟨rfl, B7⟩
set_option maxRecDepth 100000 in
set_option maxHeartbeats 4000000 in
theorem joins_c (l m : List Opt) (p q r : ByteArray) (pe qe re : Int) (hA : Ans l m p pe q qe r re) (a b : Option Addr) (c d : Nat) (w : World) (hl : Row w a c l) (hnl : a = none → c = 0 ∧ l = []) (hm : Row w b d m) (hnm : b = none → d = 0 ∧ m = []) (zl : ∀ o ∈ l, o.d.size ≤ 140737488355328) (zm : ∀ o ∈ m, o.d.size ≤ 140737488355328) (h1 : longB l = false) (h2 : longB m = false) (hpe : pe = 0) (hqe : qe = 0) (hre : re = 4) (hn : 64 < l.length + m.length) :
    Calls Try.prog 5 #[.slice a l.length c, .slice b m.length d] w fun e w' => e = .returned (.bool true) ∧ Below w.heap.size w w' := by
  obtain ⟨l70, _⟩ := longB_spec h1
  obtain ⟨m70, _⟩ := longB_spec h2
  obtain ⟨A1, A2, A3⟩ := hA
  have hP : ∀ (a : Option Addr) (c : Nat) (w : World), Row w a c l → Calls Try.prog 9 #[.slice a l.length c] w fun e w' => e = .returned (putV l) ∧ Below w.heap.size w w' := fun a c w h => put_calls l a c w h (by omega)
  have hQ : ∀ (a : Option Addr) (c : Nat) (w : World), Row w a c m → Calls Try.prog 9 #[.slice a m.length c] w fun e w' => e = .returned (putV m) ∧ Below w.heap.size w w' := fun a c w h => put_calls m a c w h (by omega)
  have hR : ∀ (a : Option Addr) (c : Nat) (w : World), Row w a c (l ++ m) → Calls Try.prog 9 #[.slice a (l.length + m.length) c] w fun e w' => e = .returned (putV (l ++ m)) ∧ Below w.heap.size w w' := fun a c w h => by rw [← List.length_append]; exact put_calls (l ++ m) a c w h (by rw [List.length_append]; omega)
  rw [A1] at hP
  rw [A2] at hQ
  rw [A3] at hR
  clear A1 A2 A3
  subst hpe hqe hre
  have g1 : decide ((64 : Int) < (l.length : Int) + (m.length : Int)) = true := by simp; omega
  have g2 : decide (64 < l.length + m.length) = true := by simp; omega
  go_enter Try.func5, Try.ntmps5
  go_wp2_with (first
    | (go_at_call 7; with_reducible refine (long_det l a c _ hl zl).mono ?_; rintro e w1 ⟨rfl, hw⟩; obtain rfl := hw.symm; rw [h1])
    | (go_at_call 7; with_reducible refine (long_det m b d _ hm zm).mono ?_; rintro e w1 ⟨rfl, hw⟩; obtain rfl := hw.symm; rw [h2])
    | (go_at_call 9; with_reducible refine (hP _ _ _ hl).mono ?_; rintro e w2 ⟨rfl, B2⟩)
    | (go_at_call 9; with_reducible refine (hQ _ _ _ (hm.below B2)).mono ?_; rintro e w3 ⟨rfl, hb3⟩
       have B3 := B2.trans (hb3.mono B2.size))
    | (at_builtin; refine wpList_append_row rfl _ _ rfl w.heap.size _ [] l 0 rfl rfl (World.ownsRow_nil _ _ _ _) a c rfl (hl.below B3) hnl (by simp) (by omega) B3.size ?_
       intro v4 w4 hown4 hg4
       rw [List.nil_append] at hown4
       have B4 := B3.grown hg4 B3.size (fun k hk => by cases hk))
    | (at_builtin; refine wpList_append_row rfl _ _ rfl w.heap.size _ l m _ rfl rfl hown4 b d rfl (hm.below B4) hnm (by omega) (by omega) B4.size ?_
       intro v5 w5 hown5 hg5
       have B5 := B4.grown hg5 B4.size (own_base hown4)
       obtain ⟨ra, rc, rfl, r5⟩ := row_own hown5
       clear hown5 hown4 hg5 hg4)
    | (go_at_call 9; with_reducible refine (hR _ _ _ r5).mono ?_; rintro e w6 ⟨rfl, hb6⟩
       have B6 := B5.trans (hb6.mono B5.size))
    | (go_at_call 8; with_reducible refine (alive_calls _).mono ?_; rintro e w7 ⟨rfl, hb7⟩
       have B7 := B6.trans (hb7.mono B6.size)))
  go_ret
  exact ⟨rfl, B7⟩
set_option maxRecDepth 100000 in
set_option maxHeartbeats 4000000 in
theorem joins_d (l m : List Opt) (p q r : ByteArray) (pe qe re : Int) (hA : Ans l m p pe q qe r re) (a b : Option Addr) (c d : Nat) (w : World) (hl : Row w a c l) (hnl : a = none → c = 0 ∧ l = []) (hm : Row w b d m) (hnm : b = none → d = 0 ∧ m = []) (zl : ∀ o ∈ l, o.d.size ≤ 140737488355328) (zm : ∀ o ∈ m, o.d.size ≤ 140737488355328) (h1 : longB l = false) (h2 : longB m = false) (hpe : pe = 0) (hqe : qe = 0) (hre : re = 5) (hn : l.length + m.length ≤ 64) (hp : p.size ≤ 1496) (hq : q.size ≤ 1496) (hz : 1496 < p.size + q.size) :
    Calls Try.prog 5 #[.slice a l.length c, .slice b m.length d] w fun e w' => e = .returned (.bool true) ∧ Below w.heap.size w w' := by
  obtain ⟨l70, _⟩ := longB_spec h1
  obtain ⟨m70, _⟩ := longB_spec h2
  obtain ⟨A1, A2, A3⟩ := hA
  have hP : ∀ (a : Option Addr) (c : Nat) (w : World), Row w a c l → Calls Try.prog 9 #[.slice a l.length c] w fun e w' => e = .returned (putV l) ∧ Below w.heap.size w w' := fun a c w h => put_calls l a c w h (by omega)
  have hQ : ∀ (a : Option Addr) (c : Nat) (w : World), Row w a c m → Calls Try.prog 9 #[.slice a m.length c] w fun e w' => e = .returned (putV m) ∧ Below w.heap.size w w' := fun a c w h => put_calls m a c w h (by omega)
  have hR : ∀ (a : Option Addr) (c : Nat) (w : World), Row w a c (l ++ m) → Calls Try.prog 9 #[.slice a (l.length + m.length) c] w fun e w' => e = .returned (putV (l ++ m)) ∧ Below w.heap.size w w' := fun a c w h => by rw [← List.length_append]; exact put_calls (l ++ m) a c w h (by rw [List.length_append]; omega)
  rw [A1] at hP
  rw [A2] at hQ
  rw [A3] at hR
  clear A1 A2 A3
  subst hpe hqe hre
  have g1 : decide ((64 : Int) < (l.length : Int) + (m.length : Int)) = false := by simp; omega
  have g2 : decide (64 < l.length + m.length) = false := by simp; omega
  have g3 : decide ((1496 : Int) < (p.size : Int) + (q.size : Int)) = true := by simp; omega
  have g4 : decide (1496 < p.size + q.size) = true := by simp; omega
  go_enter Try.func5, Try.ntmps5
  go_wp2_with (first
    | (go_at_call 7; with_reducible refine (long_det l a c _ hl zl).mono ?_; rintro e w1 ⟨rfl, hw⟩; obtain rfl := hw.symm; rw [h1])
    | (go_at_call 7; with_reducible refine (long_det m b d _ hm zm).mono ?_; rintro e w1 ⟨rfl, hw⟩; obtain rfl := hw.symm; rw [h2])
    | (go_at_call 9; with_reducible refine (hP _ _ _ hl).mono ?_; rintro e w2 ⟨rfl, B2⟩)
    | (go_at_call 9; with_reducible refine (hQ _ _ _ (hm.below B2)).mono ?_; rintro e w3 ⟨rfl, hb3⟩
       have B3 := B2.trans (hb3.mono B2.size))
    | (at_builtin; refine wpList_append_row rfl _ _ rfl w.heap.size _ [] l 0 rfl rfl (World.ownsRow_nil _ _ _ _) a c rfl (hl.below B3) hnl (by simp) (by omega) B3.size ?_
       intro v4 w4 hown4 hg4
       rw [List.nil_append] at hown4
       have B4 := B3.grown hg4 B3.size (fun k hk => by cases hk))
    | (at_builtin; refine wpList_append_row rfl _ _ rfl w.heap.size _ l m _ rfl rfl hown4 b d rfl (hm.below B4) hnm (by omega) (by omega) B4.size ?_
       intro v5 w5 hown5 hg5
       have B5 := B4.grown hg5 B4.size (own_base hown4)
       obtain ⟨ra, rc, rfl, r5⟩ := row_own hown5
       clear hown5 hown4 hg5 hg4)
    | (go_at_call 9; with_reducible refine (hR _ _ _ r5).mono ?_; rintro e w6 ⟨rfl, hb6⟩
       have B6 := B5.trans (hb6.mono B5.size))
    | (go_at_call 8; with_reducible refine (alive_calls _).mono ?_; rintro e w7 ⟨rfl, hb7⟩
       have B7 := B6.trans (hb7.mono B6.size)))
  go_ret
  exact ⟨rfl, B7⟩
set_option maxRecDepth 100000 in
set_option maxHeartbeats 4000000 in
theorem joins_e (l m : List Opt) (p q r : ByteArray) (pe qe re : Int) (hA : Ans l m p pe q qe r re) (a b : Option Addr) (c d : Nat) (w : World) (hl : Row w a c l) (hnl : a = none → c = 0 ∧ l = []) (hm : Row w b d m) (hnm : b = none → d = 0 ∧ m = []) (zl : ∀ o ∈ l, o.d.size ≤ 140737488355328) (zm : ∀ o ∈ m, o.d.size ≤ 140737488355328) (h1 : longB l = false) (h2 : longB m = false) (hpe : pe = 0) (hqe : qe = 0) (hre : re = 0) (hn : l.length + m.length ≤ 64) (hp : p.size ≤ 1496) (hq : q.size ≤ 1496) (hz : p.size + q.size ≤ 1496) (hr : r = p ++ q) :
    Calls Try.prog 5 #[.slice a l.length c, .slice b m.length d] w fun e w' => e = .returned (.bool true) ∧ Below w.heap.size w w' := by
  obtain ⟨l70, _⟩ := longB_spec h1
  obtain ⟨m70, _⟩ := longB_spec h2
  obtain ⟨A1, A2, A3⟩ := hA
  have hP : ∀ (a : Option Addr) (c : Nat) (w : World), Row w a c l → Calls Try.prog 9 #[.slice a l.length c] w fun e w' => e = .returned (putV l) ∧ Below w.heap.size w w' := fun a c w h => put_calls l a c w h (by omega)
  have hQ : ∀ (a : Option Addr) (c : Nat) (w : World), Row w a c m → Calls Try.prog 9 #[.slice a m.length c] w fun e w' => e = .returned (putV m) ∧ Below w.heap.size w w' := fun a c w h => put_calls m a c w h (by omega)
  have hR : ∀ (a : Option Addr) (c : Nat) (w : World), Row w a c (l ++ m) → Calls Try.prog 9 #[.slice a (l.length + m.length) c] w fun e w' => e = .returned (putV (l ++ m)) ∧ Below w.heap.size w w' := fun a c w h => by rw [← List.length_append]; exact put_calls (l ++ m) a c w h (by rw [List.length_append]; omega)
  rw [A1] at hP
  rw [A2] at hQ
  rw [A3] at hR
  clear A1 A2 A3
  subst hpe hqe hre hr
  have g1 : decide ((64 : Int) < (l.length : Int) + (m.length : Int)) = false := by simp; omega
  have g2 : decide (64 < l.length + m.length) = false := by simp; omega
  have g3 : decide ((1496 : Int) < (p.size : Int) + (q.size : Int)) = false := by simp; omega
  have g4 : decide (1496 < p.size + q.size) = false := by simp; omega
  have hsa := fun W => run_string_add_sum (P := Try.prog) W p q (by omega)
  go_enter Try.func5, Try.ntmps5
  go_wp2_with (first
    | (go_at_call 7; with_reducible refine (long_det l a c _ hl zl).mono ?_; rintro e w1 ⟨rfl, hw⟩; obtain rfl := hw.symm; rw [h1])
    | (go_at_call 7; with_reducible refine (long_det m b d _ hm zm).mono ?_; rintro e w1 ⟨rfl, hw⟩; obtain rfl := hw.symm; rw [h2])
    | (go_at_call 9; with_reducible refine (hP _ _ _ hl).mono ?_; rintro e w2 ⟨rfl, B2⟩)
    | (go_at_call 9; with_reducible refine (hQ _ _ _ (hm.below B2)).mono ?_; rintro e w3 ⟨rfl, hb3⟩
       have B3 := B2.trans (hb3.mono B2.size))
    | (at_builtin; refine wpList_append_row rfl _ _ rfl w.heap.size _ [] l 0 rfl rfl (World.ownsRow_nil _ _ _ _) a c rfl (hl.below B3) hnl (by simp) (by omega) B3.size ?_
       intro v4 w4 hown4 hg4
       rw [List.nil_append] at hown4
       have B4 := B3.grown hg4 B3.size (fun k hk => by cases hk))
    | (at_builtin; refine wpList_append_row rfl _ _ rfl w.heap.size _ l m _ rfl rfl hown4 b d rfl (hm.below B4) hnm (by omega) (by omega) B4.size ?_
       intro v5 w5 hown5 hg5
       have B5 := B4.grown hg5 B4.size (own_base hown4)
       obtain ⟨ra, rc, rfl, r5⟩ := row_own hown5
       clear hown5 hown4 hg5 hg4)
    | (go_at_call 9; with_reducible refine (hR _ _ _ r5).mono ?_; rintro e w6 ⟨rfl, hb6⟩
       have B6 := B5.trans (hb6.mono B5.size))
    | (go_at_call 8; with_reducible refine (alive_calls _).mono ?_; rintro e w7 ⟨rfl, hb7⟩
       have B7 := B6.trans (hb7.mono B6.size)))
  go_ret
  exact ⟨rfl, B7⟩
theorem joins_walk (l m : List Opt) (a b : Option Addr) (c d : Nat) (w : World) (hl : Row w a c l) (hnl : a = none → c = 0 ∧ l = []) (hm : Row w b d m) (hnm : b = none → d = 0 ∧ m = []) (zl : ∀ o ∈ l, o.d.size ≤ 140737488355328) (zm : ∀ o ∈ m, o.d.size ≤ 140737488355328) :
    Calls Try.prog 5 #[.slice a l.length c, .slice b m.length d] w fun e w' => e = .returned (.bool true) ∧ Below w.heap.size w w' := by
  by_cases h : longB l = true ∨ longB m = true
  · exact joins_short l m a b c d w hl hm zl zm h
  · have h1 : longB l = false := by
      cases h' : longB l with
      | true => exact absurd (.inl h') h
      | false => rfl
    have h2 : longB m = false := by
      cases h' : longB m with
      | true => exact absurd (.inr h') h
      | false => rfl
    have hA : Ans l m ⟨(put l).1.toArray⟩ (put l).2 ⟨(put m).1.toArray⟩ (put m).2 ⟨(put (l ++ m)).1.toArray⟩ (put (l ++ m)).2 := ⟨rfl, rfl, rfl⟩
    by_cases hp : (put l).2 = 0
    · by_cases hq : (put m).2 = 0
      · have s1 : (⟨(put l).1.toArray⟩ : ByteArray).size = (put l).1.length := by rw [size_list]
        have s2 : (⟨(put m).1.toArray⟩ : ByteArray).size = (put m).1.length := by rw [size_list]
        have e1 : (put l).1.length ≤ 1496 := by obtain ⟨_, _, h3, h4⟩ := put_zero hp; rw [h4]; exact h3
        have e2 : (put m).1.length ≤ 1496 := by obtain ⟨_, _, h3, h4⟩ := put_zero hq; rw [h4]; exact h3
        by_cases hn : 64 < l.length + m.length
        · exact joins_c l m _ _ _ _ _ _ hA a b c d w hl hnl hm hnm zl zm h1 h2 hp hq (by rw [joins_full l m hn]) hn
        · by_cases hz : 1496 < (put l).1.length + (put m).1.length
          · exact joins_d l m _ _ _ _ _ _ hA a b c d w hl hnl hm hnm zl zm h1 h2 hp hq (by rw [joins_long l m hp hq (by omega) hz]) (by omega) (by omega) (by omega) (by omega)
          · have hj := joins_ok l m hp hq (by omega) (by omega)
            refine joins_e l m _ _ _ _ _ _ hA a b c d w hl hnl hm hnm zl zm h1 h2 hp hq (by rw [hj]) (by omega) (by omega) (by omega) (by omega) ?_
            rw [hj]
            apply ByteArray.ext
            simp [ByteArray.data_append]
      · exact joins_b l m _ _ _ _ _ _ hA a b c d w hl hnl hm hnm zl zm h1 h2 hp (by simpa using hq) (by simpa using joins_bad l m (.inr hq))
    · exact joins_a l m _ _ _ _ _ _ hA a b c d w hl hnl hm hnm zl zm h1 h2 (by simpa using hp) (by simpa using joins_bad l m (.inl hp))
end Go.Proofs.Ytjkhmnipffdliaa
