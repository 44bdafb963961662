/-
  Layer 17 (echo): the document's answer, walked: its state, numbers as bytes, May, Next, Tick.
-/
import Derived.Test.YthenjbonncbniaaAlive17
set_option linter.unusedVariables false
set_option linter.unusedSimpArgs false
namespace Go.Proofs.Ythenjbonncbniaa
open Go.RowKit Go.Proofs.YthenjbonncbniaaW.PrintWords Go.Proofs.YthenjbonncbniaaW.PrintLast

def Ech.rcells (s : Ech) : List Value := [.int .i64 s.every, .int .i64 s.most, .int .u32 (s.magic : Int), .int .i64 s.now, .int .i64 s.last, .int .i64 s.sent, .int .i64 s.missed, .bool s.dead]
def IsRef (W : World) (B : Nat) (s : Ech) : Prop := W.heap[B]? = some (.cells s.rcells.toArray 70 (0, 0))
theorem IsRef.lt {W : World} {B : Nat} {s : Ech} (h : IsRef W B s) : B < W.heap.size := (Array.getElem?_eq_some_iff.1 h).1
theorem IsRef.cell {W : World} {B : Nat} {s : Ech} (h : IsRef W B s) (j : Nat) : W.cell? ⟨B, j, none⟩ = s.rcells[j]? := by
  unfold World.cell?
  rw [show W.heap[B]? = _ from h]
  simp
theorem IsRef.frozen {W : World} {B : Nat} {s : Ech} (h : IsRef W B s) (j : Nat) : W.frozen? ⟨B, j, none⟩ = false := by
  simp [World.frozen?, show W.heap[B]? = _ from h]
theorem IsRef.below {W w : World} {B : Nat} {s : Ech} (h : IsRef W B s) (hb : Below W.heap.size W w) : IsRef w B s := (hb.block B h.lt).trans h
theorem IsRef.but {W w : World} {A B : Nat} {s : Ech} (h : IsRef W A s) (hb : But B W w) (hg : A ≠ B) : IsRef w A s := (hb.block A h.lt hg).trans h
theorem IsRef.alloc {W : World} {B : Nat} {s : Ech} (h : IsRef W B s) (o : Obj) : IsRef (W.alloc o) B s := h.below ((Below.refl _ _).alloc (Nat.le_refl _) o)
theorem IsRef.drewN {W : World} {B : Nat} {s : Ech} (h : IsRef W B s) (n : Nat) : IsRef (W.drewN n) B s := h
structure Ech.RReads (W : World) (B : Nat) (s : Ech) : Prop where
  every : W.cell? ⟨B, 0, none⟩ = some (.int .i64 s.every)
  most : W.cell? ⟨B, 1, none⟩ = some (.int .i64 s.most)
  magic : W.cell? ⟨B, 2, none⟩ = some (.int .u32 (s.magic : Int))
  now : W.cell? ⟨B, 3, none⟩ = some (.int .i64 s.now)
  last : W.cell? ⟨B, 4, none⟩ = some (.int .i64 s.last)
  sent : W.cell? ⟨B, 5, none⟩ = some (.int .i64 s.sent)
  missed : W.cell? ⟨B, 6, none⟩ = some (.int .i64 s.missed)
  dead : W.cell? ⟨B, 7, none⟩ = some (.bool s.dead)
theorem IsRef.reads {W : World} {B : Nat} {s : Ech} (h : IsRef W B s) : s.RReads W B := ⟨h.cell 0, h.cell 1, h.cell 2, h.cell 3, h.cell 4, h.cell 5, h.cell 6, h.cell 7⟩
theorem IsRef.setNow {W : World} {B : Nat} {s : Ech} (h : IsRef W B s) (t : Int) : IsRef (W.setCell ⟨B, 3, none⟩ (.int .i64 t)) B { s with now := t } := by
  unfold IsRef; rw [blk_set h]; rfl
theorem IsRef.setDead {W : World} {B : Nat} {s : Ech} (h : IsRef W B s) : IsRef (W.setCell ⟨B, 7, none⟩ (.bool true)) B { s with dead := true } := by
  unfold IsRef; rw [blk_set h]; rfl
theorem IsRef.setLast {W : World} {B : Nat} {s : Ech} (h : IsRef W B s) (t : Int) : IsRef (W.setCell ⟨B, 4, none⟩ (.int .i64 t)) B { s with last := t } := by
  unfold IsRef; rw [blk_set h]; rfl
theorem IsRef.setSent {W : World} {B : Nat} {s : Ech} (h : IsRef W B s) (t : Int) : IsRef (W.setCell ⟨B, 5, none⟩ (.int .i64 t)) B { s with sent := t } := by
  unfold IsRef; rw [blk_set h]; rfl
theorem IsRef.setMissed {W : World} {B : Nat} {s : Ech} (h : IsRef W B s) (t : Int) : IsRef (W.setCell ⟨B, 6, none⟩ (.int .i64 t)) B { s with missed := t } := by
  unfold IsRef; rw [blk_set h]; rfl

/-- The last k bytes of a number. -/
def nss (v : Nat) : Nat → ByteArray
  | 0 => ⟨#[]⟩
  | k + 1 => ⟨#[UInt8.ofNat (v / 256 ^ k)]⟩ ++ nss v k
theorem nss_size (v : Nat) : ∀ k, (nss v k).size = k
  | 0 => rfl
  | k + 1 => by
    rw [nss, ByteArray.size_append, nss_size v k]
    show 1 + k = k + 1
    omega
theorem nss_oct (v : Nat) : nss v 4 = oct v := by
  unfold oct
  rw [nss, nss, nss, nss, nss, Nat.pow_zero, Nat.div_one]
  rfl
theorem byte_conv (u : Nat) (W : World) : (convert 22 9 (.slice (some ⟨W.heap.size, 0, none⟩) 1 1)).run Try.prog (W.alloc (.cells #[.int .u8 ((u : Int) % 256)] 5)) = .ok (.string ⟨#[UInt8.ofNat u]⟩) (W.alloc (.cells #[.int .u8 ((u : Int) % 256)] 5)) := by
  have := run_convert_bytes_arg (P := Try.prog) (W.alloc (.cells #[.int .u8 ((u : Int) % 256)] 5)) 22 5 Try.underlying22 Try.underlying5 W.heap.size 0 1 1 [(u : Int) % 256] rfl (fun i hi => by
    match i, hi with
    | 0, _ => simp) 9 Try.underlying9
  rw [this, show strOfNums [(u : Int) % 256] = ⟨#[UInt8.ofNat u]⟩ from by
    unfold strOfNums
    simp only [List.map_cons, List.map_nil]
    rw [show ((u : Int) % 256).toNat = u % 256 from rfl, u8_mod]]
theorem num_calls (v : Nat) (hv : v < 4294967296) (w : World) : Calls Try.prog 31 #[.int .u64 (v : Int), .int .i64 4] w fun e w' => e = .returned (.string (oct v)) ∧ Below w.heap.size w w' := by
  go_enter Try.func31, Try.ntmps31
  go_wp2
  go_loopg [0, 5, 6] 4 (fun q a s i wr => ∃ k : Nat, k ≤ 4 ∧ q = 4 - k ∧ a = .int .u64 ((v / 256 ^ k : Nat) : Int) ∧ s = .string (nss v k) ∧ i = .int .i64 (k : Int) ∧ Below w.heap.size w wr)
  case atStart => exact ⟨0, by omega, rfl, by rw [Nat.pow_zero, Nat.div_one], rfl, rfl, Below.refl _ _⟩
  case round =>
    obtain ⟨k, hk, hq, rfl, rfl, rfl, hB⟩ := hrel
    have A := Lib.hid hq; clear hq
    by_cases hlt : k < 4
    · have h1 : decide ((k : Int) < 4) = true := by simp; omega
      have hcs := byte_conv (v / 256 ^ k)
      have hsz : ¬ (9223372036854775807 < (⟨#[UInt8.ofNat (v / 256 ^ k)]⟩ : ByteArray).size + (nss v k).size) := by
        rw [nss_size, show (⟨#[UInt8.ofNat (v / 256 ^ k)]⟩ : ByteArray).size = 1 from rfl]; omega
      have hle : v / 256 ^ k ≤ v := Nat.div_le_self _ _
      have hnx := Lib.hid (show nss v (k + 1) = ⟨#[UInt8.ofNat (v / 256 ^ k)]⟩ ++ nss v k from rfl)
      have hdv := Lib.hid (show v / 256 ^ (k + 1) = v / 256 ^ k / 256 from by rw [Nat.pow_succ, Nat.div_div_eq_div_mul])
      generalize v / 256 ^ k = u at *
      generalize nss v k = z at *
      go_wp2
      go_roundg (4 - (k + 1))
      case measure => have := A.out; omega
      case rel => exact ⟨k + 1, by omega, rfl, by rw [hdv.out]; rfl, by rw [hnx.out], by go_num, hB.alloc hB.size _⟩
    · obtain rfl : k = 4 := by omega
      have hf := Lib.hid (nss_oct v)
      go_wp2
      go_ret
      exact ⟨by rw [← hf.out]; rfl, hB⟩
theorem rnext_calls (s : Ech) (c : Nat) (ho : s.Ok c) (B : Nat) (w : World) (h : IsRef w B s) : Calls Try.prog 32 #[.pointer (some ⟨B, 0, none⟩)] w fun e w' => e = .returned s.next ∧ ∃ n, w' = w.drewN n := by
  obtain ⟨r0, r1, r2, r3, r4, r5, r6, r7⟩ := h.reads
  unfold Ech.next
  by_cases h1 : s.every = 0
  · rw [if_pos (.inl h1)]
    rw [h1] at r0
    go_enter Try.func32, Try.ntmps32
    go_wp2
    go_ret2
    exact ⟨rfl, 0, rfl⟩
  · have hd : (s.every == 0) = false := by simpa using h1
    cases h2 : s.dead with
    | true =>
      rw [if_pos (.inr rfl)]
      rw [h2] at r7
      go_enter Try.func32, Try.ntmps32
      go_wp2
      go_ret2
      exact ⟨rfl, 0, rfl⟩
    | false =>
      rw [if_neg (by simp [h1])]
      rw [h2] at r7
      have hsum : IntKind.i64.wrap (s.last + s.every) = s.last + s.every := IntWalk.i64_in _ (by have := ho.last; have := ho.every; have := ho.now; omega)
      go_enter Try.func32, Try.ntmps32
      go_wp2
      go_quiet (fail)
      go_wp2
      go_ret2
      exact ⟨rfl, _, rfl⟩
theorem may_good (every most now : Int) (h : May every most now) (w : World) : Calls Try.prog 28 #[.agg #[.int .i64 every, .int .i64 most], .int .i64 now] w fun e w' => e = .returned (.bool true) ∧ Below w.heap.size w w' := by
  obtain ⟨⟨h1, h2⟩, ⟨h3, h4⟩, h5, h6⟩ := h
  have d1 : decide (0 ≤ every) = true := by simpa using h1
  have d2 : decide (every ≤ 100000) = true := by simpa using h2
  have d3 : decide (1 ≤ most) = true := by simpa using h3
  have d4 : decide (most ≤ 20) = true := by simpa using h4
  have d5 : decide (0 ≤ now) = true := by simpa using h5
  have d6 : decide (now ≤ 1152921504606846976) = true := by simpa using h6
  go_enter Try.func28, Try.ntmps28
  go_wp2
  go_ret
  exact ⟨rfl, (Below.refl _ _).alloc (Nat.le_refl _) _⟩
set_option maxHeartbeats 2000000 in
theorem may_bad (every most now : Int) (h : ¬ May every most now) (w : World) : Calls Try.prog 28 #[.agg #[.int .i64 every, .int .i64 most], .int .i64 now] w fun e w' => e = .returned (.bool false) ∧ Below w.heap.size w w' := by
  by_cases h1 : 0 ≤ every
  · have d1 : decide (0 ≤ every) = true := by simpa using h1
    by_cases h2 : every ≤ 100000
    · have d2 : decide (every ≤ 100000) = true := by simpa using h2
      by_cases h3 : 1 ≤ most
      · have d3 : decide (1 ≤ most) = true := by simpa using h3
        by_cases h4 : most ≤ 20
        · have d4 : decide (most ≤ 20) = true := by simpa using h4
          by_cases h5 : 0 ≤ now
          · have d5 : decide (0 ≤ now) = true := by simpa using h5
            by_cases h6 : now ≤ 1152921504606846976
            · have d6 : decide (now ≤ 1152921504606846976) = true := by simpa using h6
              exact absurd ⟨⟨h1, h2⟩, ⟨h3, h4⟩, h5, h6⟩ h
            · have d6 : decide (now ≤ 1152921504606846976) = false := by simpa using h6
              clear h h1 h2 h3 h4 h5 h6
              go_enter Try.func28, Try.ntmps28
              go_wp2
              go_ret
              exact ⟨rfl, (Below.refl _ _).alloc (Nat.le_refl _) _⟩
          · have d5 : decide (0 ≤ now) = false := by simpa using h5
            clear h h1 h2 h3 h4 h5
            go_enter Try.func28, Try.ntmps28
            go_wp2
            go_ret
            exact ⟨rfl, (Below.refl _ _).alloc (Nat.le_refl _) _⟩
        · have d4 : decide (most ≤ 20) = false := by simpa using h4
          clear h h1 h2 h3 h4
          go_enter Try.func28, Try.ntmps28
          go_wp2
          go_ret
          exact ⟨rfl, (Below.refl _ _).alloc (Nat.le_refl _) _⟩
      · have d3 : decide (1 ≤ most) = false := by simpa using h3
        clear h h1 h2 h3
        go_enter Try.func28, Try.ntmps28
        go_wp2
        go_ret
        exact ⟨rfl, (Below.refl _ _).alloc (Nat.le_refl _) _⟩
    · have d2 : decide (every ≤ 100000) = false := by simpa using h2
      clear h h1 h2
      go_enter Try.func28, Try.ntmps28
      go_wp2
      go_ret
      exact ⟨rfl, (Below.refl _ _).alloc (Nat.le_refl _) _⟩
  · have d1 : decide (0 ≤ every) = false := by simpa using h1
    clear h h1
    go_enter Try.func28, Try.ntmps28
    go_wp2
    go_ret
    exact ⟨rfl, (Below.refl _ _).alloc (Nat.le_refl _) _⟩
theorem rtick_bad (s : Ech) (c : Nat) (ho : s.Ok c) (B : Nat) (t : Int) (ht : t < s.now ∨ 1152921504606846976 < t) (w : World) (h : IsRef w B s) :
    Calls Try.prog 29 #[.pointer (some ⟨B, 0, none⟩), .int .i64 t] w fun e w' => e = .returned (.tuple #[.slice none 0 0, .int .i64 2]) ∧ w' = w := by
  have r0 := h.reads.now
  by_cases h1 : t < s.now
  · have hd : decide (t < s.now) = true := by simpa using h1
    go_enter Try.func29, Try.ntmps29
    go_wp2
    go_ret2
    exact ⟨rfl, rfl⟩
  · have hd : decide (t < s.now) = false := by simpa using h1
    have hd2 : decide (1152921504606846976 < t) = true := by simp; omega
    go_enter Try.func29, Try.ntmps29
    go_wp2
    go_ret2
    exact ⟨rfl, rfl⟩
theorem rtick_early (s : Ech) (c : Nat) (ho : s.Ok c) (B : Nat) (t : Int) (h1 : s.now ≤ t) (h2 : t ≤ 1152921504606846976) (hd : ¬ s.due t) (w : World) (h : IsRef w B s) :
    Calls Try.prog 29 #[.pointer (some ⟨B, 0, none⟩), .int .i64 t] w fun e w' => e = .returned (.tuple #[.slice none 0 0, .int .i64 0]) ∧ But B w w' ∧ IsRef w' B { s with now := t } := by
  have r0 := h.reads.now
  have f0 := h.frozen
  have hd1 : decide (t < s.now) = false := by simp; omega
  have hd2 : decide (1152921504606846976 < t) = false := by simp; omega
  have h' := h.setNow t
  have hn := rnext_calls { s with now := t } c ⟨ho.sent, by have := ho.now; show 0 ≤ t ∧ t ≤ _; omega, by have := ho.last; show 0 ≤ s.last ∧ s.last ≤ t; omega, ho.every, ho.most, ho.magic, ho.missed⟩ B _ h'
  have hB := (But.refl B w).set 3 (.int .i64 t)
  rw [show ({ s with now := t } : Ech).next = s.next from rfl] at hn
  by_cases h3 : s.every = 0 ∨ s.dead = true
  · rw [show s.next = .tuple #[.int .i64 0, .bool false] from if_pos h3] at hn
    clear h3 hd
    go_enter Try.func29, Try.ntmps29
    go_wp2_with (first
      | (go_at_call 32; with_reducible refine hn.mono ?_; rintro e w1 ⟨rfl, n, rfl⟩))
    go_ret2
    exact ⟨rfl, hB.drewN _, h'.drewN _⟩
  · rw [show s.next = .tuple #[.int .i64 (s.last + s.every), .bool true] from if_neg h3] at hn
    have h4 : decide (t < s.last + s.every) = true := by
      have : t < s.last + s.every := by
        rcases Int.lt_or_le t (s.last + s.every) with h' | h'
        · exact h'
        · exact absurd ⟨fun e => h3 (.inl e), by simpa using fun e => h3 (.inr e), h'⟩ hd
      simpa using this
    clear h3 hd
    go_enter Try.func29, Try.ntmps29
    go_wp2_with (first
      | (go_at_call 32; with_reducible refine hn.mono ?_; rintro e w1 ⟨rfl, n, rfl⟩))
    go_ret2
    exact ⟨rfl, hB.drewN _, h'.drewN _⟩
theorem rtick_dead (s : Ech) (c : Nat) (ho : s.Ok c) (B : Nat) (t : Int) (h1 : s.now ≤ t) (h2 : t ≤ 1152921504606846976) (hd : s.due t) (hm : s.most ≤ s.missed) (w : World) (h : IsRef w B s) :
    Calls Try.prog 29 #[.pointer (some ⟨B, 0, none⟩), .int .i64 t] w fun e w' => e = .returned (.tuple #[.slice none 0 0, .int .i64 0]) ∧ But B w w' ∧ IsRef w' B { s with now := t, dead := true } := by
  have r0 := h.reads.now
  have f0 := h.frozen
  have hd1 : decide (t < s.now) = false := by simp; omega
  have hd2 : decide (1152921504606846976 < t) = false := by simp; omega
  have h' := h.setNow t
  have hn := rnext_calls { s with now := t } c ⟨ho.sent, by have := ho.now; show 0 ≤ t ∧ t ≤ _; omega, by have := ho.last; show 0 ≤ s.last ∧ s.last ≤ t; omega, ho.every, ho.most, ho.magic, ho.missed⟩ B _ h'
  have hB := (But.refl B w).set 3 (.int .i64 t)
  obtain ⟨e1, e2, e3⟩ := hd
  rw [show ({ s with now := t } : Ech).next = .tuple #[.int .i64 (s.last + s.every), .bool true] from if_neg (by simp [e1, e2])] at hn
  have hd3 : decide (t < s.last + s.every) = false := by simp; omega
  have hd4 : decide (s.most ≤ s.missed) = true := by simpa using hm
  go_enter Try.func29, Try.ntmps29
  go_wp2_with (first
    | (go_at_call 32; with_reducible refine hn.mono ?_; rintro e w1 ⟨rfl, n, hw1⟩; have hT : IsRef w1 B { s with now := t } := hw1 ▸ h'.drewN n; have hB1 : But B w w1 := hw1 ▸ hB.drewN n; have q3 := hT.reads.most; have q6 := hT.reads.missed; have g0 := hT.frozen; clear hw1))
  go_quiet (fail)
  have hT2 := hT.drewN nq
  have hB2 := hB1.drewN nq
  clear hT hB1 q3 q6 g0
  generalize w1.drewN nq = w2 at *
  have g0 := hT2.frozen
  have q7 := hT2.reads.dead
  go_wp2
  go_ret2
  exact ⟨rfl, hB2.set _ _, hT2.setDead⟩
theorem rtick_sent (s : Ech) (c : Nat) (hc : c < 1000000) (ho : s.Ok c) (B : Nat) (t : Int) (h1 : s.now ≤ t) (h2 : t ≤ 1152921504606846976) (hd : s.due t) (hm : s.missed < s.most) (w : World) (h : IsRef w B s) :
    Calls Try.prog 29 #[.pointer (some ⟨B, 0, none⟩), .int .i64 t] w fun e w' => ∃ g, w.heap.size ≤ g ∧ e = .returned (.tuple #[.slice (some ⟨g, 0, none⟩) 1 1, .int .i64 0]) ∧
      w'.heap[g]? = some (.cells #[.int .u8 9, .int .u8 ((s.sent + 1) % 256), .string (oct s.magic)] 48 (0, 0)) ∧ But B w w' ∧ IsRef w' B { s with now := t, last := t, sent := s.sent + 1, missed := s.missed + 1 } := by
  have r0 := h.reads.now
  have f0 := h.frozen
  have hd1 : decide (t < s.now) = false := by simp; omega
  have hd2 : decide (1152921504606846976 < t) = false := by simp; omega
  have h' := h.setNow t
  have hn := rnext_calls { s with now := t } c ⟨ho.sent, by have := ho.now; show 0 ≤ t ∧ t ≤ _; omega, by have := ho.last; show 0 ≤ s.last ∧ s.last ≤ t; omega, ho.every, ho.most, ho.magic, ho.missed⟩ B _ h'
  have hB := (But.refl B w).set 3 (.int .i64 t)
  obtain ⟨e1, e2, e3⟩ := hd
  rw [show ({ s with now := t } : Ech).next = .tuple #[.int .i64 (s.last + s.every), .bool true] from if_neg (by simp [e1, e2])] at hn
  have hd3 : decide (t < s.last + s.every) = false := by simp; omega
  have hd4 : decide (s.most ≤ s.missed) = false := by simp; omega
  have hwr : IntKind.u8.wrap (s.sent + 1) = (s.sent + 1) % 256 := rfl
  have hs1 : 0 ≤ s.sent ∧ s.sent ≤ 1000000 := by have := ho.sent; omega
  have hs2 : 0 ≤ s.missed ∧ s.missed ≤ 20 := ho.missed
  go_enter Try.func29, Try.ntmps29
  go_wp2_with (first
    | (go_at_call 32; with_reducible refine hn.mono ?_; rintro e w1 ⟨rfl, n, hw1⟩; have hT : IsRef w1 B { s with now := t } := hw1 ▸ h'.drewN n; have hB1 : But B w w1 := hw1 ▸ hB.drewN n; have q3 := hT.reads.most; have q6 := hT.reads.missed; have g0 := hT.frozen; clear hw1))
  go_quiet (fail)
  have hT2 := hT.drewN nq
  have hB2 := hB1.drewN nq
  clear hT hB1 q3 q6 g0
  generalize w1.drewN nq = w2 at *
  have g0 := hT2.frozen
  have q6 := hT2.reads.missed
  have q1 := hT2.reads.last
  have q5 := hT2.reads.sent
  go_wp2
  have hT3 := ((hT2.setSent (s.sent + 1)).setMissed (s.missed + 1)).setLast t
  have hB3 := ((hB2.set 5 (.int .i64 (s.sent + 1))).set 6 (.int .i64 (s.missed + 1))).set 4 (.int .i64 t)
  clear q1 q5 q6 g0 hT2 hB2
  generalize (((w2.setCell ⟨B, 5, none⟩ (.int .i64 (s.sent + 1))).setCell ⟨B, 6, none⟩ (.int .i64 (s.missed + 1))).setCell ⟨B, 4, none⟩ (.int .i64 t)) = w3 at *
  have q5 := hT3.reads.sent
  have q2 := hT3.reads.magic
  have hT3d : IsRef w3.drew B { s with now := t, last := t, sent := s.sent + 1, missed := s.missed + 1 } := hT3
  have hB3d := hB3.drew
  have hmg := ho.magic
  have hw64 : IntKind.u64.wrap (s.magic : Int) = (s.magic : Int) := by simp [IntKind.wrap, IntKind.bits, IntKind.signed]; omega
  have hid8 : IntKind.u8.wrap ((s.sent + 1).tmod 256) = (s.sent + 1) % 256 := by rw [show IntKind.u8.wrap ((s.sent + 1).tmod 256) = (s.sent + 1).tmod 256 % 256 from rfl, Int.tmod_eq_emod_of_nonneg (by omega)]; omega
  clear hT3 hB3
  refine start_ (n := 16) (S := fun W' => IsRef W' B { s with now := t, last := t, sent := s.sent + 1, missed := s.missed + 1 } ∧ W'.cell? ⟨B, 5, none⟩ = some (.int .i64 (s.sent + 1)) ∧ W'.cell? ⟨B, 2, none⟩ = some (.int .u32 (s.magic : Int))) (ds := []) (#[false, false, false, false, false, false, false, false, false, false, false, false, false, false, false, false]) (by kernel_rfl) rfl rfl (⟨hT3d, q5, q2⟩) (fun hS => ?_)
  refine take_ (i := 0) (N := some 65) (v := ?_) (a' := ?_) #[true, false, false, false, false, false, false, false, false, false, false, false, false, false, false, false] rfl rfl (by kernel_rfl) (fun _ _ _ h => h) (.inl ⟨by rfl, fun w' hS' => ?_⟩) hS ?_ ?_
  rotate_left
  · obtain ⟨hI', hm', hn'⟩ := hS'
    go_simp
    with_reducible rfl
  rotate_left
  · simp only [Act.put, List.setIfInBounds_toArray, List.set_cons_zero, List.set_cons_succ]
    rfl
  refine take_ (i := 1) (N := some 66) (v := ?_) (a' := ?_) #[true, true, false, false, false, false, false, false, false, false, false, false, false, false, false, false] rfl rfl (by kernel_rfl) (fun _ _ _ h => h) (.inl ⟨by rfl, fun w' hS' => ?_⟩) hS ?_ ?_
  rotate_left
  · obtain ⟨hI', hm', hn'⟩ := hS'
    go_simp
    with_reducible rfl
  rotate_left
  · simp only [Act.put, List.setIfInBounds_toArray, List.set_cons_zero, List.set_cons_succ]
    rfl
  refine take_ (i := 2) (N := some 67) (v := ?_) (a' := ?_) #[true, true, true, false, false, false, false, false, false, false, false, false, false, false, false, false] rfl rfl (by kernel_rfl) (fun _ _ _ h => h) (.inl ⟨by rfl, fun w' hS' => ?_⟩) hS ?_ ?_
  rotate_left
  · obtain ⟨hI', hm', hn'⟩ := hS'
    go_simp
    with_reducible rfl
  rotate_left
  · simp only [Act.put, List.setIfInBounds_toArray, List.set_cons_zero, List.set_cons_succ]
    rfl
  refine take_ (i := 3) (N := some 68) (v := ?_) (a' := ?_) #[true, true, true, true, false, false, false, false, false, false, false, false, false, false, false, false] rfl rfl (by kernel_rfl) (fun _ _ _ h => h) (.inl ⟨by rfl, fun w' hS' => ?_⟩) hS ?_ ?_
  rotate_left
  · obtain ⟨hI', hm', hn'⟩ := hS'
    go_simp
    with_reducible rfl
  rotate_left
  · simp only [Act.put, List.setIfInBounds_toArray, List.set_cons_zero, List.set_cons_succ]
    rfl
  refine take_ (i := 4) (N := some 69) (v := ?_) (a' := ?_) #[true, true, true, true, true, false, false, false, false, false, false, false, false, false, false, false] rfl rfl (by kernel_rfl) (fun _ _ _ h => h) (.inl ⟨by rfl, fun w' hS' => ?_⟩) hS ?_ ?_
  rotate_left
  · obtain ⟨hI', hm', hn'⟩ := hS'
    go_simp
    with_reducible rfl
  rotate_left
  · simp only [Act.put, List.setIfInBounds_toArray, List.set_cons_zero, List.set_cons_succ]
    rfl
  refine take_ (i := 5) (N := some 70) (v := ?_) (a' := ?_) #[true, true, true, true, true, true, false, false, false, false, false, false, false, false, false, false] rfl rfl (by kernel_rfl) (fun _ _ _ h => h) (.inl ⟨by rfl, fun w' hS' => ?_⟩) hS ?_ ?_
  rotate_left
  · obtain ⟨hI', hm', hn'⟩ := hS'
    go_simp
    with_reducible rfl
  rotate_left
  · simp only [Act.put, List.setIfInBounds_toArray, List.set_cons_zero, List.set_cons_succ]
    rfl
  refine take_ (i := 6) (N := some 71) (v := ?_) (a' := ?_) #[true, true, true, true, true, true, true, false, false, false, false, false, false, false, false, false] rfl rfl (by kernel_rfl) (fun _ _ _ h => h) (.inl ⟨by rfl, fun w' hS' => ?_⟩) hS ?_ ?_
  rotate_left
  · obtain ⟨hI', hm', hn'⟩ := hS'
    go_simp
    with_reducible rfl
  rotate_left
  · simp only [Act.put, List.setIfInBounds_toArray, List.set_cons_zero, List.set_cons_succ]
    rfl
  refine take_ (i := 7) (N := some 72) (v := ?_) (a' := ?_) #[true, true, true, true, true, true, true, true, false, false, false, false, false, false, false, false] rfl rfl (by kernel_rfl) (fun _ _ _ h => h) (.inl ⟨by rfl, fun w' hS' => ?_⟩) hS ?_ ?_
  rotate_left
  · obtain ⟨hI', hm', hn'⟩ := hS'
    go_simp
    with_reducible rfl
  rotate_left
  · simp only [Act.put, List.setIfInBounds_toArray, List.set_cons_zero, List.set_cons_succ]
    rfl
  refine take_ (i := 8) (N := some 73) (v := ?_) (a' := ?_) #[true, true, true, true, true, true, true, true, true, false, false, false, false, false, false, false] rfl rfl (by kernel_rfl) (fun _ _ _ h => h) (.inl ⟨by rfl, fun w' hS' => ?_⟩) hS ?_ ?_
  rotate_left
  · obtain ⟨hI', hm', hn'⟩ := hS'
    go_simp
    with_reducible rfl
  rotate_left
  · simp only [Act.put, List.setIfInBounds_toArray, List.set_cons_zero, List.set_cons_succ]
    rfl
  refine take_ (i := 9) (N := some 74) (v := ?_) (a' := ?_) #[true, true, true, true, true, true, true, true, true, true, false, false, false, false, false, false] rfl rfl (by kernel_rfl) (fun _ _ _ h => h) (.inl ⟨by rfl, fun w' hS' => ?_⟩) hS ?_ ?_
  rotate_left
  · obtain ⟨hI', hm', hn'⟩ := hS'
    go_simp
    with_reducible rfl
  rotate_left
  · simp only [Act.put, List.setIfInBounds_toArray, List.set_cons_zero, List.set_cons_succ]
    rfl
  refine take_ (i := 10) (N := some 75) (v := ?_) (a' := ?_) #[true, true, true, true, true, true, true, true, true, true, true, false, false, false, false, false] rfl rfl (by kernel_rfl) (fun _ _ _ h => h) (.inl ⟨by rfl, fun w' hS' => ?_⟩) hS ?_ ?_
  rotate_left
  · obtain ⟨hI', hm', hn'⟩ := hS'
    go_simp
    with_reducible rfl
  rotate_left
  · simp only [Act.put, List.setIfInBounds_toArray, List.set_cons_zero, List.set_cons_succ]
    rfl
  refine wpAnyLast_all (rs := [11]) (by kernel_rfl) (by simp) ?_
  intro i hi'
  obtain rfl := List.mem_singleton.1 hi'
  refine wpOp_step rfl (fun K' hK => ?_)
  go_simp
  go_at_call 31
  with_reducible refine (num_calls _ hmg _).mono ?_
  rintro e w4 ⟨rfl, hb4⟩
  refine hK _ _ ⟨fun _ h => ⟨h.1.below hb4, (h.1.below hb4).reads.sent, (h.1.below hb4).reads.magic⟩, ?_⟩
  clear hK K'
  simp only [Act.put, List.setIfInBounds_toArray, List.set_cons_zero, List.set_cons_succ]
  refine wpAnyLast_all (rs := [12]) (by kernel_rfl) (by simp) ?_
  intro i hi'
  obtain rfl := List.mem_singleton.1 hi'
  refine wpOp_step rfl (fun K' hK => ?_)
  go_simp
  refine hK _ _ ⟨fun _ h => h, ?_⟩
  clear hK K'
  simp only [Act.put, List.setIfInBounds_toArray, List.set_cons_zero, List.set_cons_succ]
  refine wpAnyLast_all (rs := [13]) (by kernel_rfl) (by simp) ?_
  intro i hi'
  obtain rfl := List.mem_singleton.1 hi'
  refine wpOp_step rfl (fun K' hK => ?_)
  go_simp
  refine hK _ _ ⟨fun _ h => ⟨h.1.alloc _, (h.1.alloc _).reads.sent, (h.1.alloc _).reads.magic⟩, ?_⟩
  clear hK K'
  simp only [Act.put, List.setIfInBounds_toArray, List.set_cons_zero, List.set_cons_succ]
  refine wpAnyLast_all (rs := [14]) (by kernel_rfl) (by simp) ?_
  intro i hi'
  obtain rfl := List.mem_singleton.1 hi'
  refine wpOp_step rfl (fun K' hK => ?_)
  go_simp
  refine hK _ _ ⟨fun _ h => h, ?_⟩
  clear hK K'
  simp only [Act.put, List.setIfInBounds_toArray, List.set_cons_zero, List.set_cons_succ]
  refine wpAnyLast_all (rs := [15]) (by kernel_rfl) (by simp) ?_
  intro i hi'
  obtain rfl := List.mem_singleton.1 hi'
  refine wpOp_step rfl (fun K' hK => ?_)
  go_simp
  refine hK _ _ ⟨fun _ h => h, ?_⟩
  clear hK K'
  simp only [Act.put, List.setIfInBounds_toArray, List.set_cons_zero, List.set_cons_succ]
  refine wpAnyLast_done (by kernel_rfl) ?_ _
  go_wp2
  go_ret2
  exact ⟨w4.heap.size, Nat.le_trans hB3d.size hb4.size, rfl, alloc_new _ _ _ rfl, (hB3d.trans_below hb4).alloc _, by have q := (IsRef.below hT3d hb4).alloc (Obj.cells #[.int .u8 9, .int .u8 ((s.sent + 1) % 256), .string (oct s.magic)] 48); rw [e2] at q; exact q⟩
end Go.Proofs.Ythenjbonncbniaa
