/-
  Layer 25 (table): the law TableFills, walked.
-/
import Derived.Test.YthenjbonncbniaaFills
import Derived.Laws.BytesArg
set_option linter.unusedVariables false
set_option linter.unusedSimpArgs false
namespace Go.Proofs.Ythenjbonncbniaa
open Go.RowKit Go.Proofs.YthenjbonncbniaaW.PrintWords Go.Proofs.YthenjbonncbniaaW.PrintLast

theorem cell_lt {W : World} {a : Addr} {v : Value} (h : W.cell? a = some v) : a.block < W.heap.size := by
  rcases Nat.lt_or_ge a.block W.heap.size with h' | h'
  · exact h'
  · unfold World.cell? at h
    rw [Array.getElem?_eq_none h'] at h
    cases h
/-- What is known of a slice of whole numbers that came in. -/
def IsRow (k : IntKind) (w : World) (a : Option Addr) (len cap : Nat) (zs : List Int) : Prop :=
  (a = none ∧ len = 0 ∧ cap = 0 ∧ zs = []) ∨
  ∃ x, a = some x ∧ len ≤ cap ∧ cap ≤ maxLen ∧ zs.length = cap ∧ (∀ i, i < zs.length → w.cell? (x.add i) = some (.int k (zs.getD i 0))) ∧ ∀ n ∈ zs, (Lit.int k n).wf = true
theorem IsRow.at_ {k : IntKind} {w W : World} {a : Option Addr} {len cap : Nat} {zs : List Int} (h : IsRow k w a len cap zs) (hb : Below w.heap.size w W) (i : Nat) (hi : i < len) :
    ∃ x, a = some x ∧ W.cell? (x.add i) = some (.int k (zs.getD i 0)) ∧ (Lit.int k (zs.getD i 0)).wf = true := by
  rcases h with ⟨_, h0, _⟩ | ⟨x, rfl, h1, h2, h3, h4, h5⟩
  · omega
  · have hc := h4 i (by omega)
    refine ⟨x, rfl, (hb.cell (cell_lt hc)).trans hc, h5 _ ?_⟩
    rw [List.getD_eq_getElem?_getD, List.getElem?_eq_getElem (by omega)]
    exact List.getElem_mem _
/-- Free, where place k is the least free one; and where none is. -/
theorem free_at {s : Tab} {m c : Nat} {p : Nat → Bool} (h : s.Full m p) (ho : s.Ok c) (hc : c < 18446744073709551615) (B : Nat) (k : Nat) (hk : k < m) (h0 : p k = false) (h1 : ∀ j, j < k → p j = true) (w : World) (ht : IsTab w B s) :
    Calls Try.prog 11 #[.pointer (some ⟨B, 0, none⟩)] w fun e w' => e = .returned (.tuple #[.int .i64 (k : Int), .bool true]) ∧ Below w.heap.size w w' := by
  have := free_calls s (ho.wf hc) B w ht
  rw [h.free ho k hk h0 h1, show max (k : Int) 0 = k by omega, decide_eq_true (by omega)] at this
  exact this
theorem free_none {s : Tab} {m c : Nat} {p : Nat → Bool} (h : s.Full m p) (ho : s.Ok c) (hc : c < 18446744073709551615) (B : Nat) (h1 : ∀ j, j < m → p j = true) (w : World) (ht : IsTab w B s) :
    Calls Try.prog 11 #[.pointer (some ⟨B, 0, none⟩)] w fun e w' => e = .returned (.tuple #[.int .i64 0, .bool false]) ∧ Below w.heap.size w w' := by
  have := free_calls s (ho.wf hc) B w ht
  rw [h.none ho h1] at this
  exact this
theorem IsTab.alloc {W : World} {B : Nat} {s : Tab} (h : IsTab W B s) (o : Obj) : IsTab (W.alloc o) B s := by
  have := h.lt
  unfold IsTab World.alloc
  simp only
  rw [Array.getElem?_push_lt this, ← Array.getElem?_eq_getElem this]
  exact h
theorem nm_conv (k : Nat) (hk : k < 64) (W : World) : (convert 22 9 (.slice (some ⟨W.heap.size, 0, none⟩) 2 2)).run Try.prog (W.alloc (.cells #[.int .u8 (k : Int), .int .u8 120] 5)) = .ok (.string (nm k)) (W.alloc (.cells #[.int .u8 (k : Int), .int .u8 120] 5)) := by
  have := run_convert_bytes_arg (P := Try.prog) (W.alloc (.cells #[.int .u8 (k : Int), .int .u8 120] 5)) 22 5 Try.underlying22 Try.underlying5 W.heap.size 0 2 2 [(k : Int), 120] rfl (fun i hi => by
    match i, hi with
    | 0, _ => simp
    | 1, _ => simp) 9 Try.underlying9
  rw [this]
  congr 2
theorem of_free {s : Tab} {m c : Nat} {p : Nat → Bool} (h : s.Full m p) (ho : s.Ok c) (hc : c < 18446744073709551615) (B : Nat) (k : Nat) (hk : k < m) (h0 : p k = false) (w : World) (ht : IsTab w B s) :
    Calls Try.prog 14 #[.pointer (some ⟨B, 0, none⟩), .string (nm k)] w fun e w' => e = .returned (.tuple #[.int .i64 0, .bool false]) ∧ Below w.heap.size w w' := by
  have := of_calls s (ho.wf hc) B (nm k) w ht
  rw [if_neg (nm_ne k), h.of ho k hk h0] at this
  exact this
theorem bind_free {s : Tab} {m c : Nat} {p : Nat → Bool} (h : s.Full m p) (ho : s.Ok c) (hc : c < 18446744073709551615) (B : Nat) (k : Nat) (hk : k < m) (h0 : p k = false) (w : World) (ht : IsTab w B s) :
    Calls Try.prog 12 #[.pointer (some ⟨B, 0, none⟩), .int .i64 (k : Int), .string (nm k)] w fun e w' => e = .returned (.int .i64 0) ∧ But B w w' ∧ ∃ s', s'.Ok (c + 1) ∧ s'.Full m (fun j => decide (j = k) || p j) ∧ IsTab w' B s' := by
  have := bind_all s (ho.wf hc) B (k : Int) (nm k) w ht
  rw [(h.bindR ho k hk h0).1] at this
  exact this.mono fun e w' ⟨h1, h2, h3⟩ => ⟨h1, h2, _, ok_bindR ho _ _, (h.bindR ho k hk h0).2, h3⟩
theorem bind_more {s : Tab} {m c : Nat} {p : Nat → Bool} (h : s.Full m p) (ho : s.Ok c) (hc : c < 18446744073709551615) (B : Nat) (h0 : p 0 = true) (w : World) (ht : IsTab w B s) :
    Calls Try.prog 12 #[.pointer (some ⟨B, 0, none⟩), .int .i64 0, .string ⟨#[109, 111, 114, 101]⟩] w fun e w' => e = .returned (.int .i64 9) ∧ But B w w' ∧ IsTab w' B s := by
  have := bind_all s (ho.wf hc) B 0 more w ht
  rw [h.more ho h0] at this
  exact this
theorem unbind_bound {s : Tab} {m c : Nat} {p : Nat → Bool} (h : s.Full m p) (ho : s.Ok c) (hc : c < 18446744073709551615) (B : Nat) (k : Nat) (hk : k < m) (h0 : p k = true) (w : World) (ht : IsTab w B s) :
    Calls Try.prog 13 #[.pointer (some ⟨B, 0, none⟩), .int .i64 (k : Int)] w fun e w' => e = .returned (.int .i64 0) ∧ But B w w' ∧ ∃ s', s'.Ok (c + 1) ∧ s'.Full m (fun j => !decide (j = k) && p j) ∧ IsTab w' B s' := by
  have := unbind_all s (ho.wf hc) B (k : Int) w ht
  rw [(h.unbindR ho k hk h0).1] at this
  exact this.mono fun e w' ⟨h1, h2, h3⟩ => ⟨h1, h2, _, ok_unbindR ho _, (h.unbindR ho k hk h0).2, h3⟩
theorem unbind_free {s : Tab} {m c : Nat} {p : Nat → Bool} (h : s.Full m p) (ho : s.Ok c) (hc : c < 18446744073709551615) (B : Nat) (k : Nat) (hk : k < m) (h0 : p k = false) (w : World) (ht : IsTab w B s) :
    Calls Try.prog 13 #[.pointer (some ⟨B, 0, none⟩), .int .i64 (k : Int)] w fun e w' => e = .returned (.int .i64 3) ∧ But B w w' ∧ IsTab w' B s := by
  have := unbind_all s (ho.wf hc) B (k : Int) w ht
  rw [h.unbind3 ho k hk h0] at this
  exact this
theorem list_full {s : Tab} {m c : Nat} {p : Nat → Bool} (h : s.Full m p) (ho : s.Ok c) (hc : c < 18446744073709551615) (B : Nat) (h1 : ∀ j, j < m → p j = true) (w : World) (ht : IsTab w B s) :
    Calls Try.prog 15 #[.pointer (some ⟨B, 0, none⟩)] w fun e w' => (∃ a cap, e = .returned (.slice a m cap)) ∧ Below w.heap.size w w' := by
  refine (list_calls s (ho.wf hc) B w ht).mono ?_
  rintro e w' ⟨v, rfl, hown, hb⟩
  rw [h.list ho h1] at hown
  refine ⟨?_, hb⟩
  rcases hown.2 with ⟨rfl, h0⟩ | ⟨g, cap, cur, rfl, _⟩
  · exact ⟨none, 0, by rw [h0]⟩
  · exact ⟨_, _, rfl⟩
theorem But.alloc_ {B : Nat} {W w : World} (o : Obj) (h : But B (W.alloc o) w) : But B W w := ⟨h.os, h.tape, h.output, by have := h.size; simp at this; omega, fun k hk hne => (h.block k (by simp; omega) hne).trans (by
  unfold World.alloc
  simp only
  rw [Array.getElem?_push_lt hk, ← Array.getElem?_eq_getElem hk])⟩
set_option maxRecDepth 100000 in
theorem short_walk (n : Nat) (hn : n < 256) (a2 : Option Addr) (len2 cap2 : Nat) (w : World) (hl : 100 < len2) :
    Calls Try.prog 3 #[.int .u8 (n : Int), .slice a2 len2 cap2] w fun e w' => e = .returned (.bool true) ∧ Below w.heap.size w w' := by
  have hd : decide ((100 : Int) < (len2 : Int)) = true := by simp; omega
  have hd2 : decide (100 < len2) = true := by simp; omega
  obtain ⟨m, hm⟩ : ∃ m : Nat, 1 + (n : Int) % 64 = (m : Int) := ⟨1 + n % 64, by omega⟩
  have hm1 : 1 ≤ m ∧ m ≤ 64 := by omega
  have hN := new_good m hm1.1 hm1.2
  go_enter Try.func3, Try.ntmps3
  go_wp2_with (first
    | (go_at_call 9; with_reducible refine (hN _).mono ?_; rintro e w1 ⟨rfl, hb1, ht1⟩)
    | (go_at_call 10; with_reducible refine (alive_calls _).mono ?_; rintro e w2 ⟨rfl, hb2⟩))
  go_ret
  exact ⟨rfl, hb1.trans (hb2.mono hb1.size)⟩
set_option maxRecDepth 100000 in
theorem long_walk (n : Nat) (hn : n < 256) (a2 : Option Addr) (len2 cap2 : Nat) (z2 : List Int) (w : World) (hl : len2 ≤ 100) (w2 : IsRow .u8 w a2 len2 cap2 z2) :
    Calls Try.prog 3 #[.int .u8 (n : Int), .slice a2 len2 cap2] w fun e w' => e = .returned (.bool true) ∧ Below w.heap.size w w' := by
  have hd : decide ((100 : Int) < (len2 : Int)) = false := by simp; omega
  have hd2 : decide (100 < len2) = false := by simp; omega
  obtain ⟨m, hm⟩ : ∃ m : Nat, 1 + (n : Int) % 64 = (m : Int) := ⟨1 + n % 64, by omega⟩
  have hm1 : 1 ≤ m ∧ m ≤ 64 := by omega
  have hN := new_good m hm1.1 hm1.2
  have hz : w.heap.size ≤ w.heap.size := Nat.le_refl _
  go_enter Try.func3, Try.ntmps3
  go_wp2_with (first
    | (go_at_call 9; with_reducible refine (hN _).mono ?_; rintro e w1 ⟨rfl, hb1, ht1⟩))
  have hl1 := hb1.size
  clear hN
  go_loopg [8, 9, 10] m (fun q i a9 a10 wr => ∃ (k : Nat) (s : Tab), k ≤ m ∧ q = m - k ∧ i = .int .i64 k ∧ s.Ok k ∧ s.Full m (fun j => decide (j < k)) ∧ IsTab wr w.heap.size s ∧ Below w.heap.size w wr)
  case atStart => exact ⟨0, newT m, by omega, rfl, rfl, newT_ok m hm1.1 hm1.2, newT_full m, ht1, hb1⟩
  case round =>
    obtain ⟨k, s, hk, hq, rfl, ho, hfu, ht, hB⟩ := hrel
    have A := Lib.hid hq; clear hq
    by_cases hlt : k < m
    · have h1 : decide ((k : Int) < (m : Int)) = true := by simp; omega
      have hfree := free_at hfu ho (by omega) w.heap.size k hlt (by simp) (fun j hj => by simpa using hj) wr ht
      have hcs := nm_conv k (by omega)
      go_wp2_with (first
        | (go_at_call 11; with_reducible refine hfree.mono ?_; rintro e w3 ⟨rfl, hb3⟩; have ht3 := ht.below hb3)
        | (go_at_call 12; with_reducible refine (bind_free hfu ho (by omega) _ k hlt (by simp) _ (ht3.alloc _)).mono ?_; rintro e w4 ⟨rfl, hb4, s', ho', hfu', ht4⟩))
      go_roundg (m - (k + 1))
      case measure => have := A.out; omega
      case rel =>
        have k3 := But.below hB (But.of_below hb3) hz (by exact hB.size)
        exact ⟨k + 1, s', by omega, rfl, by go_num, ho', hfu'.congr (fun j _ => by rw [← Bool.decide_or]; exact decide_eq_decide.2 (by omega)), ht4, But.below k3 hb4.alloc_ hz (by exact k3.size)⟩
    · obtain rfl : k = m := by omega
      have h1 : decide ((k : Int) < (k : Int)) = false := by simp
      replace hfu : s.Full k (fun _ => true) := hfu.congr (fun j hj => by simp; omega)
      have hnone := free_none hfu ho (by omega) w.heap.size (fun _ _ => rfl) wr ht
      have hmore := fun w ht => bind_more hfu ho (by omega) w.heap.size rfl w ht
      go_wp2_with (first
        | (go_at_call 11; with_reducible refine hnone.mono ?_; rintro e w3 ⟨rfl, hb3⟩; have ht3 := ht.below hb3)
        | (go_at_call 12; with_reducible refine (bind_more hfu ho (by omega) _ rfl _ ht3).mono ?_; rintro e w4 ⟨rfl, hb4, ht4⟩))
      have k3 := But.below hB (But.of_below hb3) hz (by exact hB.size)
      have k4 := But.below k3 hb4 hz (by exact k3.size)
      go_loopg [13, 14, 15, 16, 17, 18] len2 (fun q i a14 a15 a16 a17 a18 wq => ∃ (j : Nat) (s : Tab), j ≤ len2 ∧ q = len2 - j ∧ i = .int .i64 j ∧ s.Ok (k + 3 * j) ∧ s.Full k (fun _ => true) ∧ IsTab wq w.heap.size s ∧ Below w.heap.size w wq)
      case atStart => exact ⟨0, s, by omega, rfl, rfl, ho, hfu, ht4, k4⟩
      case round =>
        clear hfu ho ht4 k4 k3 hb4 ht3 hb3 hmore hnone ht hB
        obtain ⟨j, s, hj, hq, rfl, ho, hfu, ht, hB⟩ := hrel
        have A := Lib.hid hq; clear hq
        by_cases hlt : j < len2
        · have h2 : decide ((j : Int) < (len2 : Int)) = true := by simp; omega
          obtain ⟨x2, rfl, hc2, hw2⟩ := w2.at_ hB j hlt
          have hb2 : 0 ≤ z2.getD j 0 ∧ z2.getD j 0 ≤ 255 := by simpa [Lit.wf, IntKind.min, IntKind.max, IntKind.signed, IntKind.bits] using hw2
          obtain ⟨b, eb⟩ := Int.eq_ofNat_of_zero_le hb2.1
          rw [eb] at hb2 hc2
          clear eb hw2
          obtain ⟨r, hr⟩ : ∃ r : Nat, (b : Int) % (k : Int) = r := ⟨b % k, rfl⟩
          have hrk : r < k := by have := Int.emod_lt_of_pos (b : Int) (show 0 < (k : Int) by omega); omega
          have hcs := nm_conv r (by omega)
          go_wp2_with (first
            | (go_at_call 13; with_reducible refine (unbind_bound hfu ho (by omega) _ r hrk rfl _ ht).mono ?_; rintro e w5 ⟨rfl, hb5, s1, ho1, hfu1, ht5⟩)
            | (go_at_call 11; with_reducible refine (free_at hfu1 ho1 (by omega) _ r hrk (by simp) (fun j hj => by simp; omega) _ ht5).mono ?_; rintro e w6 ⟨rfl, hb6⟩; have ht6 := ht5.below hb6)
            | (go_at_call 14; with_reducible refine (of_free hfu1 ho1 (by omega) _ r hrk (by simp) _ (ht6.alloc _)).mono ?_; rintro e w7 ⟨rfl, hb7⟩; have ht7 := (ht6.alloc _).below hb7)
            | (go_at_call 13; with_reducible refine (unbind_free hfu1 ho1 (by omega) _ r hrk (by simp) _ ht7).mono ?_; rintro e w8 ⟨rfl, hb8, ht8⟩)
            | (go_at_call 12; with_reducible refine (bind_free hfu1 ho1 (by omega) _ r hrk (by simp) _ (ht8.alloc _)).mono ?_; rintro e w9 ⟨rfl, hb9, s2, ho2, hfu2, ht9⟩))
          go_roundg (len2 - (j + 1))
          case measure => have := A.out; omega
          case rel =>
            have k5 := But.below hB hb5 hz (by exact hB.size)
            have k6 := But.below k5 (But.of_below hb6) hz (by exact k5.size)
            have k7 := But.below k6 (But.of_below hb7).alloc_ hz (by exact k6.size)
            have k8 := But.below k7 hb8 hz (by exact k7.size)
            exact ⟨j + 1, s2, by omega, rfl, by go_num, ho2.up (by omega), hfu2.congr (fun i _ => by simp), ht9, But.below k8 hb9.alloc_ hz (by exact k8.size)⟩
        · obtain rfl : j = len2 := by omega
          have h2 : decide ((j : Int) < (j : Int)) = false := by simp
          have hkk : ((k : Int) == (k : Int)) = true := by simp
          go_wp2_with (first
            | (go_at_call 15; with_reducible refine (list_full hfu ho (by omega) _ (fun _ _ => rfl) _ ht).mono ?_; rintro e w5 ⟨⟨la, lc, rfl⟩, hb5⟩)
            | (go_at_call 10; with_reducible refine (alive_calls _).mono ?_; rintro e w6 ⟨rfl, hb6⟩))
          have k5 := But.below hB (But.of_below hb5) hz (by exact hB.size)
          go_ret
          exact ⟨rfl, k5.trans (hb6.mono k5.size)⟩
theorem fills_calls (n : Nat) (hn : n < 256) (a2 : Option Addr) (len2 cap2 : Nat) (z2 : List Int) (w : World) (w2 : IsRow .u8 w a2 len2 cap2 z2) :
    Calls Try.prog 3 #[.int .u8 (n : Int), .slice a2 len2 cap2] w fun e w' => e = .returned (.bool true) ∧ Below w.heap.size w w' := by
  by_cases hl : len2 ≤ 100
  · exact long_walk n hn a2 len2 cap2 z2 w hl w2
  · exact short_walk n hn a2 len2 cap2 w (by omega)
end Go.Proofs.Ythenjbonncbniaa
