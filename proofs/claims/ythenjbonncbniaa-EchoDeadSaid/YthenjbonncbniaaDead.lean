/-
  Layer 17 (echo): the law EchoDead, walked.
-/
import Derived.Test.YthenjbonncbniaaAlive17
import Derived.Test.YthenjbonncbniaaFillsW
set_option linter.unusedVariables false
set_option linter.unusedSimpArgs false
namespace Go.Proofs.Ythenjbonncbniaa
open Go.RowKit Go.Proofs.YthenjbonncbniaaW.PrintWords Go.Proofs.YthenjbonncbniaaW.PrintLast

theorem IsRow.at2 {k : IntKind} {w W : World} {x : Addr} {len cap : Nat} {zs : List Int} (h : IsRow k w (some x) len cap zs) (hb : Below w.heap.size w W) (i : Nat) (hi : i < len) :
    W.cell? (x.add i) = some (.int k (zs.getD i 0)) := by
  obtain ⟨y, hy, hc, _⟩ := h.at_ hb i hi
  cases hy
  exact hc
def dst (now t n k i r : Nat) (d : Bool) : Ech := ⟨(now : Int), (t : Int), (n : Int), (k : Int), 5, (i : Int), (r : Int), d⟩
theorem dst_ok {now t n k i r : Nat} {d : Bool} (h1 : t ≤ now) (h2 : now ≤ 100000) (hn : n ≤ 256) (hk : 1 ≤ k ∧ k ≤ 20) (hi : i ≤ 200) (hr : r ≤ 20) : (dst now t n k i r d).Ok 200 :=
  ⟨by simp only [dst]; omega, by simp only [dst]; omega, by simp only [dst]; omega, by simp only [dst]; omega, by simp only [dst]; omega, by simp [dst], by simp only [dst]; omega⟩
set_option maxHeartbeats 8000000 in
set_option maxRecDepth 100000 in
theorem dead_walk (a0 a1 : Nat) (h0 : a0 < 256) (h1 : a1 < 256) (a2 : Option Addr) (len2 cap2 : Nat) (z2 : List Int) (w : World) (w2 : IsRow .u8 w a2 len2 cap2 z2) :
    Calls Try.prog 4 #[.int .u8 (a0 : Int), .int .u8 (a1 : Int), .slice a2 len2 cap2] w fun e w' => e = .returned (.bool true) ∧ Below w.heap.size w w' := by
  have hz : w.heap.size ≤ w.heap.size + 1 := Nat.le_succ _
  by_cases hl : 100 < len2
  · have hd : decide ((100 : Int) < (len2 : Int)) = true := by simp; omega
    have hd2 : decide (100 < len2) = true := by simp; omega
    go_enter Try.func4, Try.ntmps4
    go_wp2_with (first
      | (go_at_call 16; with_reducible refine (alive17_calls _).mono ?_; rintro e w2 ⟨rfl, hb2⟩))
    go_ret
    exact ⟨rfl, hb2⟩
  · have hd : decide ((100 : Int) < (len2 : Int)) = false := by simp; omega
    have hd2 : decide (100 < len2) = false := by simp; omega
    obtain ⟨n, hn⟩ : ∃ n : Nat, 1 + (a0 : Int) = (n : Int) := ⟨1 + a0, by omega⟩
    obtain ⟨k, hk⟩ : ∃ k : Nat, 1 + (a1 : Int) % 20 = (k : Int) := ⟨1 + a1 % 20, by omega⟩
    have hn1 : 1 ≤ n ∧ n ≤ 256 := by omega
    have hk1 : 1 ≤ k ∧ k ≤ 20 := by omega
    have hN : ∀ w : World, Calls Try.prog 17 #[.agg #[.int .i64 (n : Int), .int .i64 (k : Int)], .int .u32 5, .int .i64 0] w fun e w' => e = .returned (.tuple #[.pointer (some ⟨w.heap.size + 1, 0, none⟩), .int .i64 0]) ∧ Below w.heap.size w w' ∧ IsEch w' (w.heap.size + 1) (dst 0 0 n k 0 0 false) := fun w => newE_good n k 5 0 (by unfold May; omega) w
    go_enter Try.func4, Try.ntmps4
    go_wp2_with (first
      | (go_at_call 17; with_reducible refine (hN _).mono ?_; rintro e w1 ⟨rfl, hb1, ht1⟩))
    clear hN
    go_loopg [11, 12, 13, 14, 15, 16, 17, 22, 23] len2 (fun q now row i a14 a15 a16 a17 a22 a23 wr => ∃ (j t r : Nat), j ≤ len2 ∧ q = len2 - j ∧ now = .int .i64 (t : Int) ∧ row = .int .i64 (r : Int) ∧ i = .int .i64 (j : Int) ∧ t ≤ 256 * j ∧ r ≤ k ∧ IsEch wr (w.heap.size + 1) (dst t t n k j r false) ∧ Below w.heap.size w wr)
    case atStart => exact ⟨0, 0, 0, by omega, rfl, rfl, rfl, rfl, by omega, by omega, ht1, hb1⟩
    case round =>
      clear ht1 hb1
      obtain ⟨j, t, r, hj, hq, rfl, rfl, rfl, htj, hrk, ht, hB⟩ := hrel
      have A := Lib.hid hq; clear hq
      by_cases hlt : j < len2
      · have h2 : decide ((j : Int) < (len2 : Int)) = true := by simp; omega
        have T1 := tick_early (dst t t n k j r false) 200 (dst_ok (by omega) (by omega) (by omega) hk1 (by omega) (by omega)) (w.heap.size + 1) ((t : Int) + (n : Int) - 1) (by simp only [dst]; omega) (by omega) (by simp only [Ech.due, dst]; omega) wr ht
        rw [show ({ dst t t n k j r false with now := (t : Int) + (n : Int) - 1 } : Ech) = dst (t + n - 1) t n k j r false from by simp only [dst, Ech.mk.injEq, and_true, true_and]; omega] at T1
        by_cases hr : r < k
        · have h3 : decide ((k : Int) ≤ (r : Int)) = false := by simp; omega
          have T2 : ∀ w1, IsEch w1 (w.heap.size + 1) (dst (t + n - 1) t n k j r false) → _ := fun w1 h => tick_sent (dst (t + n - 1) t n k j r false) 200 (by omega) (dst_ok (by omega) (by omega) (by omega) hk1 (by omega) (by omega)) (w.heap.size + 1) ((t : Int) + (n : Int)) (by simp only [dst]; omega) (by omega) (by simp only [Ech.due, dst]; refine ⟨by omega, trivial, by omega⟩) (by simp only [dst]; omega) w1 h
          rw [show ({ dst (t + n - 1) t n k j r false with now := (t : Int) + (n : Int), last := (t : Int) + (n : Int), sent := (dst (t + n - 1) t n k j r false).sent + 1, missed := (dst (t + n - 1) t n k j r false).missed + 1 } : Ech) = dst (t + n) (t + n) n k (j + 1) (r + 1) false from rfl, show (dst (t + n - 1) t n k j r false).sent = (j : Int) from rfl, show (dst (t + n - 1) t n k j r false).magic = 5 from rfl] at T2
          have hm5 : (dst (t + n) (t + n) n k (j + 1) (r + 1) false).magic < 4294967296 := by simp [dst]
          have D2 := fun w1 h => dead_calls (dst (t + n) (t + n) n k (j + 1) (r + 1) false) (w.heap.size + 1) w1 h
          rw [show (dst (t + n) (t + n) n k (j + 1) (r + 1) false).dead = false from rfl] at D2
          have M2 := fun w1 h => missed_calls (dst (t + n) (t + n) n k (j + 1) (r + 1) false) (w.heap.size + 1) w1 h
          rw [show (dst (t + n) (t + n) n k (j + 1) (r + 1) false).missed = (r : Int) + 1 from rfl] at M2
          have M3 := fun w1 h => missed_calls (dst (t + n) (t + n) n k (j + 1) 0 false) (w.heap.size + 1) w1 h
          rw [show (dst (t + n) (t + n) n k (j + 1) 0 false).missed = 0 from rfl] at M3
          have hE : (dst (t + n) (t + n) n k (j + 1) (r + 1) false).pktE 10 (((j : Int) + 1) % 256) ⟨#[0, 0, 0, 6, 109, 111, 114, 101]⟩ = some 0 := by
            unfold Ech.pktE
            rw [if_neg (by decide), if_neg (by decide), if_neg (fun e => absurd e.2 (by simp only [dst]; decide +kernel)), if_neg (by decide), if_pos rfl, if_neg (by simp only [dst]; omega)]
          have P2 := fun w1 h => pkt_told (dst (t + n) (t + n) n k (j + 1) (r + 1) false) hm5 (w.heap.size + 1) 10 (((j : Int) + 1) % 256) ⟨#[0, 0, 0, 6, 109, 111, 114, 101]⟩ (by decide) 0 hE w1 h
          rw [show (dst (t + n) (t + n) n k (j + 1) (r + 1) false).pktS 10 (((j : Int) + 1) % 256) ⟨#[0, 0, 0, 6, 109, 111, 114, 101]⟩ = dst (t + n) (t + n) n k (j + 1) 0 false from if_pos ⟨rfl, hE⟩] at P2
          obtain ⟨x2, rfl, hc0, hw2⟩ := w2.at_ hB j hlt
          have hb2 : 0 ≤ z2.getD j 0 ∧ z2.getD j 0 ≤ 255 := by simpa [Lit.wf, IntKind.min, IntKind.max, IntKind.signed, IntKind.bits] using hw2
          have hcell := fun W hW => w2.at2 (W := W) hW j hlt
          obtain ⟨b, eb⟩ := Int.eq_ofNat_of_zero_le hb2.1
          rw [eb] at hb2 hcell
          clear hc0 hw2 eb hE
          have hj8 : (((j : Int) + 1) % 256) % 256 = ((j : Int) + 1) % 256 := by omega
          have hbase : ∀ g, w.heap.size + 1 < g → g ≠ w.heap.size + 1 := fun g hg => by omega
          generalize dst (t + n - 1) t n k j r false = s1 at *
          generalize hs2 : dst (t + n) (t + n) n k (j + 1) (r + 1) false = s2 at *
          generalize hs3 : dst (t + n) (t + n) n k (j + 1) 0 false = s3 at *
          have HS2 := Lib.hid hs2
          have HS3 := Lib.hid hs3
          clear hs2 hs3
          by_cases hodd : (b : Int) % 2 = 1
          · clear M2
            go_wp2_with (first
              | (go_at_call 18; with_reducible refine T1.mono ?_; rintro e w3 ⟨rfl, hb3, ht3⟩)
              | (go_at_call 18; with_reducible refine (T2 _ ht3).mono ?_; rintro e w4 ⟨g, hg, rfl, hp, hb4, ht4⟩
                 have hgb : g ≠ w.heap.size + 1 := by have := ht3.lt; omega
                 have k3 := hb3.below hB hz hB.size
                 have k4 := hb4.below k3 hz k3.size
                 have hcb := hcell _ k4
                 have hp' : IsPkt w4 g 9 (((j : Int) + 1) % 256) (oct 5) := hp
                 have c0 := hp'.c0
                 have c1 := hp'.c1)
              | (go_at_call 19; with_reducible refine (D2 _ ht4).mono ?_; rintro e w5 ⟨rfl, rfl⟩)
              | (go_at_call 21; with_reducible refine (P2 _ ht4).mono ?_; rintro e w6 ⟨rfl, hb6, ht6⟩)
              | (go_at_call 22; with_reducible refine (M3 _ ht6).mono ?_; rintro e w7 ⟨rfl, rfl⟩))
            go_roundg (len2 - (j + 1))
            case measure => have := A.out; omega
            case rel => exact ⟨j + 1, t + n, 0, by omega, rfl, by go_num, by go_num, by go_num, by omega, by omega, HS3.out ▸ ht6, hb6.below k4 hz k4.size⟩
          · replace hodd : (b : Int) % 2 = 0 := by omega
            clear M3 P2
            go_wp2_with (first
              | (go_at_call 18; with_reducible refine T1.mono ?_; rintro e w3 ⟨rfl, hb3, ht3⟩)
              | (go_at_call 18; with_reducible refine (T2 _ ht3).mono ?_; rintro e w4 ⟨g, hg, rfl, hp, hb4, ht4⟩
                 have hgb : g ≠ w.heap.size + 1 := by have := ht3.lt; omega
                 have k3 := hb3.below hB hz hB.size
                 have k4 := hb4.below k3 hz k3.size
                 have hcb := hcell _ k4
                 have hp' : IsPkt w4 g 9 (((j : Int) + 1) % 256) (oct 5) := hp
                 have c0 := hp'.c0
                 have c1 := hp'.c1)
              | (go_at_call 19; with_reducible refine (D2 _ ht4).mono ?_; rintro e w5 ⟨rfl, rfl⟩)
              | (go_at_call 22; with_reducible refine (M2 _ ht4).mono ?_; rintro e w7 ⟨rfl, rfl⟩))
            go_roundg (len2 - (j + 1))
            case measure => have := A.out; omega
            case rel => exact ⟨j + 1, t + n, r + 1, by omega, rfl, by go_num, by go_num, by go_num, by omega, by omega, HS2.out ▸ ht4, k4⟩
        · have h3 : decide ((k : Int) ≤ (r : Int)) = true := by simp; omega
          have h3p : (k : Int) ≤ (r : Int) := by omega
          have T2 : ∀ w1, IsEch w1 (w.heap.size + 1) (dst (t + n - 1) t n k j r false) → _ := fun w1 h => tick_dead (dst (t + n - 1) t n k j r false) 200 (dst_ok (by omega) (by omega) (by omega) hk1 (by omega) (by omega)) (w.heap.size + 1) ((t : Int) + (n : Int)) (by simp only [dst]; omega) (by omega) (by simp only [Ech.due, dst]; refine ⟨by omega, trivial, by omega⟩) (by simp only [dst]; omega) w1 h
          rw [show ({ dst (t + n - 1) t n k j r false with now := (t : Int) + (n : Int), dead := true } : Ech) = dst (t + n) t n k j r true from rfl] at T2
          have D2 := fun w1 h => dead_calls (dst (t + n) t n k j r true) (w.heap.size + 1) w1 h
          rw [show (dst (t + n) t n k j r true).dead = true from rfl] at D2
          have T3 : ∀ w1, IsEch w1 (w.heap.size + 1) (dst (t + n) t n k j r true) → _ := fun w1 h => tick_early (dst (t + n) t n k j r true) 200 (dst_ok (by omega) (by omega) (by omega) hk1 (by omega) (by omega)) (w.heap.size + 1) ((t : Int) + (n : Int) + 1000) (by simp only [dst]; omega) (by omega) (by simp [Ech.due, dst]) w1 h
          rw [show ({ dst (t + n) t n k j r true with now := (t : Int) + (n : Int) + 1000 } : Ech) = dst (t + n + 1000) t n k j r true from rfl] at T3
          have N3 := fun w1 h => next_calls (dst (t + n + 1000) t n k j r true) 200 (dst_ok (by omega) (by omega) (by omega) hk1 (by omega) (by omega)) (w.heap.size + 1) w1 h
          rw [show (dst (t + n + 1000) t n k j r true).next = .tuple #[.int .i64 0, .bool false] from if_pos (.inr rfl)] at N3
          generalize dst (t + n - 1) t n k j r false = s1 at *
          generalize dst (t + n) t n k j r true = s2 at *
          generalize dst (t + n + 1000) t n k j r true = s3 at *
          go_wp2_with (first
            | (go_at_call 18; with_reducible refine T1.mono ?_; rintro e w3 ⟨rfl, hb3, ht3⟩)
            | (go_at_call 18; with_reducible refine (T2 _ ht3).mono ?_; rintro e w4 ⟨rfl, hb4, ht4⟩)
            | (go_at_call 19; with_reducible refine (D2 _ ht4).mono ?_; rintro e w5 ⟨rfl, rfl⟩)
            | (go_at_call 18; with_reducible refine (T3 _ ht4).mono ?_; rintro e w6 ⟨rfl, hb6, ht6⟩)
            | (go_at_call 20; with_reducible refine (N3 _ ht6).mono ?_; rintro e w7 ⟨rfl, n7, hw7⟩
               have hb7 : But (w.heap.size + 1) w6 w7 := by rw [hw7]; exact (But.refl _ _).drewN n7
               clear hw7)
            | (go_at_call 16; with_reducible refine (alive17_calls _).mono ?_; rintro e w8 ⟨rfl, hb8⟩))
          have k3 := hb3.below hB hz hB.size
          have k4 := hb4.below k3 hz k3.size
          have k6 := hb6.below k4 hz k4.size
          have k7 := hb7.below k6 hz k6.size
          go_ret
          exact ⟨rfl, k7.trans (hb8.mono k7.size)⟩
      · have h2 : decide ((j : Int) < (len2 : Int)) = false := by simp; omega
        go_wp2_with (first
          | (go_at_call 16; with_reducible refine (alive17_calls _).mono ?_; rintro e w8 ⟨rfl, hb8⟩))
        go_ret
        exact ⟨rfl, hB.trans (hb8.mono hB.size)⟩
end Go.Proofs.Ythenjbonncbniaa
