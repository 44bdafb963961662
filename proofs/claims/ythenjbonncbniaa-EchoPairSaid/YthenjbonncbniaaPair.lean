/-
  Layer 17 (echo): the law EchoPair, walked.
-/
import Derived.Test.YthenjbonncbniaaAlive17
set_option linter.unusedVariables false
set_option linter.unusedSimpArgs false
namespace Go.Proofs.Ythenjbonncbniaa
open Go.RowKit Go.Proofs.YthenjbonncbniaaW.PrintWords Go.Proofs.YthenjbonncbniaaW.PrintLast

theorem oct_inj {m n : Nat} (hm : m < 4294967296) (hn : n < 4294967296) (h : oct m = oct n) : m = n := by
  unfold oct at h
  injection h with h
  simp only [Array.mk.injEq, List.cons.injEq, and_true] at h
  obtain ⟨h1, h2, h3, h4⟩ := h
  have e1 := congrArg UInt8.toNat h1
  have e2 := congrArg UInt8.toNat h2
  have e3 := congrArg UInt8.toNat h3
  have e4 := congrArg UInt8.toNat h4
  simp only [UInt8.toNat_ofNat'] at e1 e2 e3 e4
  omega
theorem oct_size (m : Nat) : (oct m).size = 4 := rfl
theorem oct_front (m : Nat) : (oct m).extract 0 4 = oct m := rfl
theorem oct_rest (m n : Nat) : oct m ++ (oct n).extract 4 4 = oct m := rfl
def pst (now t k m i r : Nat) (d : Bool) : Ech := ⟨(now : Int), (t : Int), (k : Int), 3, m, (i : Int), (r : Int), d⟩
theorem pst_ok {now t k m i r : Nat} {d : Bool} (h1 : t ≤ now) (h2 : now ≤ 100000) (hk : k ≤ 256) (hm : m < 4294967296) (hi : i ≤ 200) (hr : r ≤ 20) : (pst now t k m i r d).Ok 200 :=
  ⟨by simp only [pst]; omega, by simp only [pst]; omega, by simp only [pst]; omega, by simp only [pst]; omega, by simp only [pst]; omega, by simp only [pst]; exact hm, by simp only [pst]; omega⟩
/-- A round's Tick, where it is sent. -/
theorem pair_tick {t k m j r : Nat} (ht : t ≤ 256 * j) (hk : 1 ≤ k ∧ k ≤ 256) (hm : m < 4294967296) (hj : j < 20) (hr : r < 3) (A : Nat) (w : World) (h : IsEch w A (pst t t k m j r false)) :
    Calls Try.prog 18 #[.pointer (some ⟨A, 0, none⟩), .int .i64 ((t : Int) + (k : Int))] w fun e w' => ∃ g, w.heap.size ≤ g ∧ e = .returned (.tuple #[.slice (some ⟨g, 0, none⟩) 1 1, .int .i64 0]) ∧
      IsPkt w' g 9 (((j : Int) + 1) % 256) (oct m) ∧ But A w w' ∧ IsEch w' A (pst (t + k) (t + k) k m (j + 1) (r + 1) false) :=
  tick_sent (pst t t k m j r false) 200 (by omega) (pst_ok (by omega) (by omega) (by omega) hm (by omega) (by omega)) A ((t : Int) + (k : Int)) (by simp only [pst]; omega) (by omega) (by simp only [Ech.due, pst]; refine ⟨by omega, trivial, by omega⟩) (by simp only [pst]; omega) w h
theorem pair_dead {t k m j : Nat} (ht : t ≤ 256 * j) (hk : 1 ≤ k ∧ k ≤ 256) (hm : m < 4294967296) (hj : j < 20) (A : Nat) (w : World) (h : IsEch w A (pst t t k m j 3 false)) :
    Calls Try.prog 18 #[.pointer (some ⟨A, 0, none⟩), .int .i64 ((t : Int) + (k : Int))] w fun e w' => e = .returned (.tuple #[.slice none 0 0, .int .i64 0]) ∧ But A w w' ∧ IsEch w' A (pst (t + k) t k m j 3 true) :=
  tick_dead (pst t t k m j 3 false) 200 (pst_ok (by omega) (by omega) (by omega) hm (by omega) (by omega)) A ((t : Int) + (k : Int)) (by simp only [pst]; omega) (by omega) (by simp only [Ech.due, pst]; refine ⟨by omega, trivial, by omega⟩) (by simp only [pst]; omega) w h
theorem pair_loop {k m : Nat} (hm : m < 4294967296) (hm0 : m ≠ 0) (id : Int) (B : Nat) (w : World) (h : IsEch w B (pst 0 0 k m 0 0 false)) :
    Calls Try.prog 21 #[.pointer (some ⟨B, 0, none⟩), .agg #[.int .u8 9, .int .u8 id, .string (oct m)]] w fun e w' => e = .returned (.tuple #[.slice none 0 0, .int .i64 170]) ∧ But B w w' ∧ IsEch w' B (pst 0 0 k m 0 0 false) := by
  have hE : (pst 0 0 k m 0 0 false).pktE 9 id (oct m) = some 170 := by
    unfold Ech.pktE
    rw [if_neg (by decide), if_neg (by rw [oct_size]; decide), if_pos ⟨hm0, oct_front m⟩]
  have := pkt_told (pst 0 0 k m 0 0 false) hm B 9 id (oct m) (by rw [oct_size]; decide) 170 hE w h
  rwa [show (pst 0 0 k m 0 0 false).pktS 9 id (oct m) = pst 0 0 k m 0 0 false from if_neg (fun e => absurd e.1 (by decide))] at this
theorem pair_ask {k m n : Nat} (hm : m < 4294967296) (hn : n < 4294967296) (hne : ¬ (m = n ∧ m ≠ 0)) (id : Int) (B : Nat) (w : World) (h : IsEch w B (pst 0 0 k n 0 0 false)) :
    Calls Try.prog 21 #[.pointer (some ⟨B, 0, none⟩), .agg #[.int .u8 9, .int .u8 id, .string (oct m)]] w fun e w' => ∃ g, w.heap.size ≤ g ∧ e = .returned (.tuple #[.slice (some ⟨g, 0, none⟩) 1 1, .int .i64 0]) ∧ But B w w' ∧ IsEch w' B (pst 0 0 k n 0 0 false) ∧ IsPkt w' g 10 id (oct n) := by
  have hE : (pst 0 0 k n 0 0 false).pktE 9 id (oct m) = none := by
    unfold Ech.pktE
    rw [if_neg (by decide), if_neg (by rw [oct_size]; decide), if_neg (fun e => by
      have e2 : oct m = oct n := e.2
      have := oct_inj hm hn e2
      exact hne ⟨this, by rw [this]; exact e.1⟩), if_pos rfl]
  have := pkt_sent (pst 0 0 k n 0 0 false) hn B 9 id (oct m) (by rw [oct_size]; decide) hE w h
  rwa [show oct (pst 0 0 k n 0 0 false).magic ++ (oct m).extract 4 (oct m).size = oct n from oct_rest n m] at this
theorem pair_answer {t k m n j : Nat} (hm : m < 4294967296) (hn : n < 4294967296) (hne : ¬ (m = n ∧ m ≠ 0)) (A : Nat) (w : World) (h : IsEch w A (pst t t k m (j + 1) 1 false)) :
    Calls Try.prog 21 #[.pointer (some ⟨A, 0, none⟩), .agg #[.int .u8 10, .int .u8 (((j : Int) + 1) % 256), .string (oct n)]] w fun e w' => e = .returned (.tuple #[.slice none 0 0, .int .i64 0]) ∧ But A w w' ∧ IsEch w' A (pst t t k m (j + 1) 0 false) := by
  have hE : (pst t t k m (j + 1) 1 false).pktE 10 (((j : Int) + 1) % 256) (oct n) = some 0 := by
    unfold Ech.pktE
    rw [if_neg (by decide), if_neg (by rw [oct_size]; decide), if_neg (fun e => by
      have e2 : oct n = oct m := e.2
      have := oct_inj hn hm e2
      exact hne ⟨this.symm, e.1⟩), if_neg (by decide), if_pos rfl, if_neg (by simp only [pst]; omega)]
  have := pkt_told (pst t t k m (j + 1) 1 false) hm A 10 (((j : Int) + 1) % 256) (oct n) (by rw [oct_size]; decide) 0 hE w h
  rwa [show (pst t t k m (j + 1) 1 false).pktS 10 (((j : Int) + 1) % 256) (oct n) = pst t t k m (j + 1) 0 false from if_pos ⟨rfl, hE⟩] at this
set_option maxHeartbeats 8000000 in
set_option maxRecDepth 100000 in
theorem pair_same (m : Nat) (hm : m < 4294967296) (hm0 : m ≠ 0) (a2 a3 : Nat) (h2 : a2 < 256) (h3 : a3 < 256) (w : World) :
    Calls Try.prog 5 #[.int .u32 (m : Int), .int .u32 (m : Int), .int .u8 (a2 : Int), .int .u8 (a3 : Int)] w fun e w' => e = .returned (.bool true) ∧ Below w.heap.size w w' := by
  have hz : w.heap.size ≤ w.heap.size + 1 := Nat.le_succ _
  have hmz : ((m : Int) != 0) = true := by simpa using hm0
  obtain ⟨k, hk⟩ : ∃ k : Nat, 1 + (a2 : Int) = (k : Int) := ⟨1 + a2, by omega⟩
  obtain ⟨c, hc⟩ : ∃ c : Nat, (a3 : Int) % 20 = (c : Int) := ⟨a3 % 20, by omega⟩
  have hk1 : 1 ≤ k ∧ k ≤ 256 := by omega
  have hc1 : c < 20 := by omega
  have hN : ∀ (m : Nat) (w : World), Calls Try.prog 17 #[.agg #[.int .i64 (k : Int), .int .i64 3], .int .u32 (m : Int), .int .i64 0] w fun e w' => e = .returned (.tuple #[.pointer (some ⟨w.heap.size + 1, 0, none⟩), .int .i64 0]) ∧ Below w.heap.size w w' ∧ IsEch w' (w.heap.size + 1) (pst 0 0 k m 0 0 false) := fun m w => newE_good k 3 m 0 (by unfold May; omega) w
  have tok1 : 1 = 1 := rfl
  go_enter Try.func5, Try.ntmps5
  go_wp2_with (first
    | (have _t : 1 = 1 := tok1; go_at_call 17; with_reducible refine (hN _ _).mono ?_; rintro e w1 ⟨rfl, hb1, ht1⟩; clear tok1)
    | (go_at_call 17; with_reducible refine (hN _ _).mono ?_; rintro e w2 ⟨rfl, hb2, ht2⟩))
  have hlt1 := ht1.lt
  have ht12 := ht1.below hb2
  have hA : w.heap.size + 1 ≠ w1.heap.size + 1 := by omega
  have hzB : w.heap.size ≤ w1.heap.size + 1 := by omega
  have k2 := hb1.trans (hb2.mono hb1.size)
  generalize w1.heap.size + 1 = B at *
  clear hN ht1 hb2 hb1 hlt1
  go_loopg [14, 15, 16, 17, 18, 19, 20, 21] c (fun q now i a16 a17 a18 a19 a20 a21 wr => ∃ (j t : Nat), j ≤ c ∧ q = c - j ∧ now = .int .i64 (t : Int) ∧ i = .int .i64 (j : Int) ∧ t ≤ 256 * j ∧ j ≤ 3 ∧ IsEch wr (w.heap.size + 1) (pst t t k m j j false) ∧ IsEch wr B (pst 0 0 k m 0 0 false) ∧ Below w.heap.size w wr)
  case atStart => exact ⟨0, 0, by omega, rfl, rfl, rfl, by omega, by omega, ht12, ht2, k2⟩
  case round =>
    clear ht12 ht2 k2
    obtain ⟨j, t, hj, hq, rfl, rfl, htj, hj3, htA, htB, hB⟩ := hrel
    have Q := Lib.hid hq; clear hq
    by_cases hlt : j < c
    · have e1 : decide ((j : Int) < (c : Int)) = true := by simp; omega
      by_cases h3 : j < 3
      · have e3 : decide ((3 : Int) ≤ (j : Int)) = false := by simp; omega
        have e4 : ¬ ((3 : Int) ≤ (j : Int)) := by omega
        have T := pair_tick htj hk1 hm (by omega) h3 (w.heap.size + 1) wr htA
        have D := fun w1 h => dead_calls (pst (t + k) (t + k) k m (j + 1) (j + 1) false) (w.heap.size + 1) w1 h
        rw [show (pst (t + k) (t + k) k m (j + 1) (j + 1) false).dead = false from rfl] at D
        have L := fun w1 h => pair_loop (k := k) hm hm0 (((j : Int) + 1) % 256) B w1 h
        generalize hs2 : pst (t + k) (t + k) k m (j + 1) (j + 1) false = s2 at *
        generalize hs3 : pst 0 0 k m 0 0 false = s3 at *
        have HS2 := Lib.hid hs2
        have HS3 := Lib.hid hs3
        clear hs2 hs3
        go_wp2_with (first
          | (go_at_call 18; with_reducible refine T.mono ?_; rintro e w4 ⟨g, hg, rfl, hp, hb4, ht4⟩
             have hgb : g ≠ B := by have := htB.lt; omega
             have htB4 := htB.but hb4 hA.symm
             have c0 := hp.c0
             have c1 := hp.c1
             have c2 := hp.c2)
          | (go_at_call 19; with_reducible refine (D _ ht4).mono ?_; rintro e w5 ⟨rfl, rfl⟩)
          | (go_at_call 21; with_reducible refine (L _ htB4).mono ?_; rintro e w6 ⟨rfl, hb6, ht6⟩))
        have k4 := hb4.below hB hz hB.size
        have k6 := hb6.below k4 hzB k4.size
        go_roundg (c - (j + 1))
        case measure => have := Q.out; omega
        case rel => exact ⟨j + 1, t + k, by omega, rfl, by go_num, by go_num, by omega, by omega, HS2.out ▸ ht4.but hb6 hA, HS3.out ▸ ht6, k6⟩
      · obtain rfl : j = 3 := by omega
        have T := pair_dead htj hk1 hm (by omega) (w.heap.size + 1) wr htA
        have D := fun w1 h => dead_calls (pst (t + k) t k m 3 3 true) (w.heap.size + 1) w1 h
        rw [show (pst (t + k) t k m 3 3 true).dead = true from rfl] at D
        generalize pst (t + k) t k m 3 3 true = s2 at *
        go_wp2_with (first
          | (go_at_call 18; with_reducible refine T.mono ?_; rintro e w4 ⟨rfl, hb4, ht4⟩)
          | (go_at_call 19; with_reducible refine (D _ ht4).mono ?_; rintro e w5 ⟨rfl, rfl⟩)
          | (go_at_call 16; with_reducible refine (alive17_calls _).mono ?_; rintro e w8 ⟨rfl, hb8⟩))
        have k4 := hb4.below hB hz hB.size
        go_ret
        exact ⟨rfl, k4.trans (hb8.mono k4.size)⟩
    · have e1 : decide ((j : Int) < (c : Int)) = false := by simp; omega
      go_wp2_with (first
        | (go_at_call 16; with_reducible refine (alive17_calls _).mono ?_; rintro e w8 ⟨rfl, hb8⟩))
      go_ret
      exact ⟨rfl, hB.trans (hb8.mono hB.size)⟩
set_option maxHeartbeats 8000000 in
set_option maxRecDepth 100000 in
theorem pair_diff (m n : Nat) (hm : m < 4294967296) (hn : n < 4294967296) (hmn : m ≠ n) (a2 a3 : Nat) (h2 : a2 < 256) (h3 : a3 < 256) (w : World) :
    Calls Try.prog 5 #[.int .u32 (m : Int), .int .u32 (n : Int), .int .u8 (a2 : Int), .int .u8 (a3 : Int)] w fun e w' => e = .returned (.bool true) ∧ Below w.heap.size w w' := by
  have hz : w.heap.size ≤ w.heap.size + 1 := Nat.le_succ _
  have hmz : ((m : Int) == (n : Int)) = false := by simp; omega
  obtain ⟨k, hk⟩ : ∃ k : Nat, 1 + (a2 : Int) = (k : Int) := ⟨1 + a2, by omega⟩
  obtain ⟨c, hc⟩ : ∃ c : Nat, (a3 : Int) % 20 = (c : Int) := ⟨a3 % 20, by omega⟩
  have hk1 : 1 ≤ k ∧ k ≤ 256 := by omega
  have hc1 : c < 20 := by omega
  have hN : ∀ (m : Nat) (w : World), Calls Try.prog 17 #[.agg #[.int .i64 (k : Int), .int .i64 3], .int .u32 (m : Int), .int .i64 0] w fun e w' => e = .returned (.tuple #[.pointer (some ⟨w.heap.size + 1, 0, none⟩), .int .i64 0]) ∧ Below w.heap.size w w' ∧ IsEch w' (w.heap.size + 1) (pst 0 0 k m 0 0 false) := fun m w => newE_good k 3 m 0 (by unfold May; omega) w
  have tok1 : 1 = 1 := rfl
  go_enter Try.func5, Try.ntmps5
  go_wp2_with (first
    | (have _t : 1 = 1 := tok1; go_at_call 17; with_reducible refine (hN _ _).mono ?_; rintro e w1 ⟨rfl, hb1, ht1⟩; clear tok1)
    | (go_at_call 17; with_reducible refine (hN _ _).mono ?_; rintro e w2 ⟨rfl, hb2, ht2⟩))
  have hlt1 := ht1.lt
  have ht12 := ht1.below hb2
  have hA : w.heap.size + 1 ≠ w1.heap.size + 1 := by omega
  have hzB : w.heap.size ≤ w1.heap.size + 1 := by omega
  have k2 := hb1.trans (hb2.mono hb1.size)
  generalize w1.heap.size + 1 = B at *
  clear hN ht1 hb2 hb1 hlt1
  go_loopg [14, 15, 16, 17, 18, 19, 20, 21] c (fun q now i a16 a17 a18 a19 a20 a21 wr => ∃ (j t : Nat), j ≤ c ∧ q = c - j ∧ now = .int .i64 (t : Int) ∧ i = .int .i64 (j : Int) ∧ t ≤ 256 * j ∧ IsEch wr (w.heap.size + 1) (pst t t k m j 0 false) ∧ IsEch wr B (pst 0 0 k n 0 0 false) ∧ Below w.heap.size w wr)
  case atStart => exact ⟨0, 0, by omega, rfl, rfl, rfl, by omega, ht12, ht2, k2⟩
  case round =>
    clear ht12 ht2 k2
    obtain ⟨j, t, hj, hq, rfl, rfl, htj, htA, htB, hB⟩ := hrel
    have Q := Lib.hid hq; clear hq
    by_cases hlt : j < c
    · have e1 : decide ((j : Int) < (c : Int)) = true := by simp; omega
      have T := pair_tick htj hk1 hm (by omega) (by omega) (w.heap.size + 1) wr htA
      have D := fun w1 h => dead_calls (pst (t + k) (t + k) k m (j + 1) (0 + 1) false) (w.heap.size + 1) w1 h
      rw [show (pst (t + k) (t + k) k m (j + 1) (0 + 1) false).dead = false from rfl] at D
      have L := fun w1 h => pair_ask (k := k) (m := m) (n := n) hm hn (fun e => hmn e.1) (((j : Int) + 1) % 256) B w1 h
      have R : ∀ w1, IsEch w1 (w.heap.size + 1) (pst (t + k) (t + k) k m (j + 1) (0 + 1) false) → _ := fun w1 h => pair_answer (t := t + k) (k := k) (j := j) (m := m) (n := n) hm hn (fun e => hmn e.1) (w.heap.size + 1) w1 h
      have M := fun w1 h => missed_calls (pst (t + k) (t + k) k m (j + 1) 0 false) (w.heap.size + 1) w1 h
      rw [show (pst (t + k) (t + k) k m (j + 1) 0 false).missed = 0 from rfl] at M
      generalize pst (t + k) (t + k) k m (j + 1) (0 + 1) false = s2 at *
      generalize hs3 : pst 0 0 k n 0 0 false = s3 at *
      generalize hs4 : pst (t + k) (t + k) k m (j + 1) 0 false = s4 at *
      have HS3 := Lib.hid hs3
      have HS4 := Lib.hid hs4
      clear hs3 hs4
      go_wp2_with (first
        | (go_at_call 18; with_reducible refine T.mono ?_; rintro e w4 ⟨g, hg, rfl, hp, hb4, ht4⟩
           have htB4 := htB.but hb4 hA.symm
           have c0 := hp.c0
           have c1 := hp.c1
           have c2 := hp.c2)
        | (go_at_call 19; with_reducible refine (D _ ht4).mono ?_; rintro e w5 ⟨rfl, rfl⟩)
        | (go_at_call 21; with_reducible refine (L _ htB4).mono ?_; rintro e w6 ⟨g6, hg6, rfl, hb6, ht6, hp6⟩
           have htA6 := ht4.but hb6 hA
           clear c0 c1 c2
           have c0 := hp6.c0
           have c1 := hp6.c1
           have c2 := hp6.c2)
        | (go_at_call 21; with_reducible refine (R _ htA6).mono ?_; rintro e w7 ⟨rfl, hb7, ht7⟩)
        | (go_at_call 22; with_reducible refine (M _ ht7).mono ?_; rintro e w8 ⟨rfl, rfl⟩))
      have k4 := hb4.below hB hz hB.size
      have k6 := hb6.below k4 hzB k4.size
      have k7 := hb7.below k6 hz k6.size
      go_roundg (c - (j + 1))
      case measure => have := Q.out; omega
      case rel => exact ⟨j + 1, t + k, by omega, rfl, by go_num, by go_num, by omega, HS4.out ▸ ht7, HS3.out ▸ ht6.but hb7 hA.symm, k7⟩
    · have e1 : decide ((j : Int) < (c : Int)) = false := by simp; omega
      go_wp2_with (first
        | (go_at_call 16; with_reducible refine (alive17_calls _).mono ?_; rintro e w8 ⟨rfl, hb8⟩))
      go_ret
      exact ⟨rfl, hB.trans (hb8.mono hB.size)⟩
set_option maxHeartbeats 8000000 in
set_option maxRecDepth 100000 in
theorem pair_zero  (a2 a3 : Nat) (h2 : a2 < 256) (h3 : a3 < 256) (w : World) :
    Calls Try.prog 5 #[.int .u32 0, .int .u32 0, .int .u8 (a2 : Int), .int .u8 (a3 : Int)] w fun e w' => e = .returned (.bool true) ∧ Below w.heap.size w w' := by
  have hz : w.heap.size ≤ w.heap.size + 1 := Nat.le_succ _
  obtain ⟨k, hk⟩ : ∃ k : Nat, 1 + (a2 : Int) = (k : Int) := ⟨1 + a2, by omega⟩
  obtain ⟨c, hc⟩ : ∃ c : Nat, (a3 : Int) % 20 = (c : Int) := ⟨a3 % 20, by omega⟩
  have hk1 : 1 ≤ k ∧ k ≤ 256 := by omega
  have hc1 : c < 20 := by omega
  have hN : ∀ (m : Nat) (w : World), Calls Try.prog 17 #[.agg #[.int .i64 (k : Int), .int .i64 3], .int .u32 (m : Int), .int .i64 0] w fun e w' => e = .returned (.tuple #[.pointer (some ⟨w.heap.size + 1, 0, none⟩), .int .i64 0]) ∧ Below w.heap.size w w' ∧ IsEch w' (w.heap.size + 1) (pst 0 0 k m 0 0 false) := fun m w => newE_good k 3 m 0 (by unfold May; omega) w
  have hN0 : ∀ (w : World), Calls Try.prog 17 #[.agg #[.int .i64 (k : Int), .int .i64 3], .int .u32 0, .int .i64 0] w fun e w' => e = .returned (.tuple #[.pointer (some ⟨w.heap.size + 1, 0, none⟩), .int .i64 0]) ∧ Below w.heap.size w w' ∧ IsEch w' (w.heap.size + 1) (pst 0 0 k 0 0 0 false) := fun w => hN 0 w
  clear hN
  have tok1 : 1 = 1 := rfl
  go_enter Try.func5, Try.ntmps5
  go_wp2_with (first
    | (have _t : 1 = 1 := tok1; go_at_call 17; with_reducible refine (hN0 _).mono ?_; rintro e w1 ⟨rfl, hb1, ht1⟩; clear tok1)
    | (go_at_call 17; with_reducible refine (hN0 _).mono ?_; rintro e w2 ⟨rfl, hb2, ht2⟩))
  have hlt1 := ht1.lt
  have ht12 := ht1.below hb2
  have hA : w.heap.size + 1 ≠ w1.heap.size + 1 := by omega
  have hzB : w.heap.size ≤ w1.heap.size + 1 := by omega
  have k2 := hb1.trans (hb2.mono hb1.size)
  generalize w1.heap.size + 1 = B at *
  clear hN0 ht1 hb2 hb1 hlt1
  go_loopg [14, 15, 16, 17, 18, 19, 20, 21] c (fun q now i a16 a17 a18 a19 a20 a21 wr => ∃ (j t : Nat), j ≤ c ∧ q = c - j ∧ now = .int .i64 (t : Int) ∧ i = .int .i64 (j : Int) ∧ t ≤ 256 * j ∧ IsEch wr (w.heap.size + 1) (pst t t k 0 j 0 false) ∧ IsEch wr B (pst 0 0 k 0 0 0 false) ∧ Below w.heap.size w wr)
  case atStart => exact ⟨0, 0, by omega, rfl, rfl, rfl, by omega, ht12, ht2, k2⟩
  case round =>
    clear ht12 ht2 k2
    obtain ⟨j, t, hj, hq, rfl, rfl, htj, htA, htB, hB⟩ := hrel
    have Q := Lib.hid hq; clear hq
    by_cases hlt : j < c
    · have e1 : decide ((j : Int) < (c : Int)) = true := by simp; omega
      have T := pair_tick htj hk1 (by decide) (by omega) (by omega) (w.heap.size + 1) wr htA
      have D := fun w1 h => dead_calls (pst (t + k) (t + k) k 0 (j + 1) (0 + 1) false) (w.heap.size + 1) w1 h
      rw [show (pst (t + k) (t + k) k 0 (j + 1) (0 + 1) false).dead = false from rfl] at D
      have L := fun w1 h => pair_ask (k := k) (m := 0) (n := 0) (by decide) (by decide) (fun e => e.2 rfl) (((j : Int) + 1) % 256) B w1 h
      have R : ∀ w1, IsEch w1 (w.heap.size + 1) (pst (t + k) (t + k) k 0 (j + 1) (0 + 1) false) → _ := fun w1 h => pair_answer (t := t + k) (k := k) (j := j) (m := 0) (n := 0) (by decide) (by decide) (fun e => e.2 rfl) (w.heap.size + 1) w1 h
      have M := fun w1 h => missed_calls (pst (t + k) (t + k) k 0 (j + 1) 0 false) (w.heap.size + 1) w1 h
      rw [show (pst (t + k) (t + k) k 0 (j + 1) 0 false).missed = 0 from rfl] at M
      generalize pst (t + k) (t + k) k 0 (j + 1) (0 + 1) false = s2 at *
      generalize hs3 : pst 0 0 k 0 0 0 false = s3 at *
      generalize hs4 : pst (t + k) (t + k) k 0 (j + 1) 0 false = s4 at *
      have HS3 := Lib.hid hs3
      have HS4 := Lib.hid hs4
      clear hs3 hs4
      go_wp2_with (first
        | (go_at_call 18; with_reducible refine T.mono ?_; rintro e w4 ⟨g, hg, rfl, hp, hb4, ht4⟩
           have htB4 := htB.but hb4 hA.symm
           have c0 := hp.c0
           have c1 := hp.c1
           have c2 := hp.c2)
        | (go_at_call 19; with_reducible refine (D _ ht4).mono ?_; rintro e w5 ⟨rfl, rfl⟩)
        | (go_at_call 21; with_reducible refine (L _ htB4).mono ?_; rintro e w6 ⟨g6, hg6, rfl, hb6, ht6, hp6⟩
           have htA6 := ht4.but hb6 hA
           clear c0 c1 c2
           have c0 := hp6.c0
           have c1 := hp6.c1
           have c2 := hp6.c2)
        | (go_at_call 21; with_reducible refine (R _ htA6).mono ?_; rintro e w7 ⟨rfl, hb7, ht7⟩)
        | (go_at_call 22; with_reducible refine (M _ ht7).mono ?_; rintro e w8 ⟨rfl, rfl⟩))
      have k4 := hb4.below hB hz hB.size
      have k6 := hb6.below k4 hzB k4.size
      have k7 := hb7.below k6 hz k6.size
      go_roundg (c - (j + 1))
      case measure => have := Q.out; omega
      case rel => exact ⟨j + 1, t + k, by omega, rfl, by go_num, by go_num, by omega, HS4.out ▸ ht7, HS3.out ▸ ht6.but hb7 hA.symm, k7⟩
    · have e1 : decide ((j : Int) < (c : Int)) = false := by simp; omega
      go_wp2_with (first
        | (go_at_call 16; with_reducible refine (alive17_calls _).mono ?_; rintro e w8 ⟨rfl, hb8⟩))
      go_ret
      exact ⟨rfl, hB.trans (hb8.mono hB.size)⟩
theorem pair_walk (m n : Nat) (hm : m < 4294967296) (hn : n < 4294967296) (a2 a3 : Nat) (h2 : a2 < 256) (h3 : a3 < 256) (w : World) :
    Calls Try.prog 5 #[.int .u32 (m : Int), .int .u32 (n : Int), .int .u8 (a2 : Int), .int .u8 (a3 : Int)] w fun e w' => e = .returned (.bool true) ∧ Below w.heap.size w w' := by
  by_cases h : m = n
  · subst h
    by_cases h0 : m = 0
    · subst h0; exact pair_zero a2 a3 h2 h3 w
    · exact pair_same m hm h0 a2 a3 h2 h3 w
  · exact pair_diff m n hm hn h a2 a3 h2 h3 w
end Go.Proofs.Ythenjbonncbniaa
