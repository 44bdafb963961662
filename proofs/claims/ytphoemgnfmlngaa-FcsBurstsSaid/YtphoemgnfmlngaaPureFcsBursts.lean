/-
  The plain law of FcsBursts: turned bits within 16 in a row are found.
-/
import Derived.Test.YtphoemgnfmlngaaPFcsBurstsx1
import Derived.Lib.Bytes
set_option linter.unusedVariables false
set_option linter.unusedSimpArgs false
namespace Go.Proofs.Ytphoemgnfmlngaa.Pure
open Go.RowKit Go.Proofs.Ytphoemgnfmlngaa.PFcsBursts Go.Proofs.YtphoemgnfmlngaaW.PrintWords Go.Proofs.YtphoemgnfmlngaaW.PrintLast

/-- Not by rfl: so the kernel is not asked to compare what is bound with what stands behind. -/
theorem bs {α β : Type} (a : α) (f : α → Option β) : (some a).bind f = f a := by rw [Option.bind_some]
theorem bytes_ext {a b : ByteArray} (h : a.data.toList = b.data.toList) : a = b := by
  cases a; cases b; simp at h; exact congrArg ByteArray.mk h
theorem more_eq (c : Nat) (s : ByteArray) (hc : c < 65536) (hs : s.size ≤ 9223372036854775807) : fcs_More.f (c : Int) s = some ((Fcs.more c (nats s.data.toList) : Nat) : Int) := by
  unfold fcs_More.f
  rw [if_pos ⟨by omega, by omega, hs⟩, Int.toNat_natCast]
theorem good_eq (s : ByteArray) (hs : s.size ≤ 9223372036854775807) : fcs_Good.f s = some (decide (2 ≤ s.size ∧ Fcs.more 65535 (nats s.data.toList) = 61624)) := by
  unfold fcs_Good.f
  by_cases h : 2 ≤ s.size
  · rw [if_pos (by omega), show (65535 : Int) = ((65535 : Nat) : Int) from rfl, more_eq _ _ (by decide) hs]
    simp only [bs, Option.some.injEq]
    rw [Bool.eq_iff_iff]
    simp only [beq_iff_eq, decide_eq_true_eq]
    constructor
    · intro e; exact ⟨h, by omega⟩
    · rintro ⟨_, e⟩; omega
  · rw [if_neg (by omega)]
    simp [h]
theorem alive_eq : halyardlaw02_alive.f = some true := by decide +kernel
theorem nats_length (l : List UInt8) : (nats l).length = l.length := by simp [nats]
theorem nats_inj {a b : List UInt8} (h : nats a = nats b) : a = b := by
  induction a generalizing b with
  | nil => cases b with
    | nil => rfl
    | cons => simp [nats] at h
  | cons x a ih => cases b with
    | nil => simp [nats] at h
    | cons y b =>
      simp only [nats, List.map_cons, List.cons.injEq] at h
      rw [ih h.2, UInt8.toNat_inj.1 h.1]
theorem data_len (s : ByteArray) : s.data.toList.length = s.size := by rw [Array.length_toList]; rfl
theorem wrap_sub (n : Nat) (h : 2 ≤ n) (h2 : n ≤ 9223372036854775807) : wrap64 ((n : Int) - 2) = ((n - 2 : Nat) : Int) := by
  unfold wrap64; omega
theorem extract_list (s : ByteArray) (n : Nat) : (s.extract 0 n).data.toList = s.data.toList.take n := by
  rw [ByteArray.data_extract, Array.toList_extract]; simp

theorem seal_list (n : Nat) (h : n < 65536) : (strOfNums [(n : Int) % 256, ((n : Int) / 256) % 256]).data.toList = [UInt8.ofNat (n % 256), UInt8.ofNat (n / 256)] := by
  rw [strOfNums_data]
  simp only [List.map_cons, List.map_nil, List.cons.injEq, and_true]
  constructor
  · congr 1
  · congr 1; omega
theorem seal_eq (s : ByteArray) (hs : s.size ≤ 9223372036854775805) : ∃ t : ByteArray, fcs_Seal.f s = some t ∧ nats t.data.toList = Fcs.sealed (nats s.data.toList) ∧ t.data.toList.take s.size = s.data.toList ∧ t.size = s.size + 2 := by
  have hlt : Fcs.sum (nats s.data.toList) < 65536 := Fcs.sum_lt _ (nats_lt _)
  unfold fcs_Seal.f fcs_Sum.f
  rw [if_pos (by omega)]
  simp only [bs]
  rw [if_pos (by rw [strOfNums_size]; simp; omega)]
  refine ⟨_, rfl, ?_, ?_, ?_⟩
  · rw [ByteArray.data_append, Array.toList_append, seal_list _ hlt]
    have e1 : (UInt8.ofNat (Fcs.sum (nats s.data.toList) % 256)).toNat = Fcs.sum (nats s.data.toList) % 256 := by
      rw [UInt8.toNat_ofNat']; omega
    have e2 : (UInt8.ofNat (Fcs.sum (nats s.data.toList) / 256)).toNat = Fcs.sum (nats s.data.toList) / 256 := by
      rw [UInt8.toNat_ofNat']; omega
    simp only [nats, List.map_append, List.map_cons, List.map_nil, Fcs.sealed] at e1 e2 ⊢
    rw [e1, e2]
  · rw [ByteArray.data_append, Array.toList_append, List.take_append_of_le_length (by rw [data_len]; omega), List.take_of_length_le (by rw [data_len]; omega)]
  · rw [ByteArray.size_append, strOfNums_size]; rfl
theorem open_bad (s : ByteArray) (hs : s.size ≤ 9223372036854775807) (h : ¬ (2 ≤ s.size ∧ Fcs.more 65535 (nats s.data.toList) = 61624)) :
    fcs_Open.f s = some ((⟨#[]⟩ : ByteArray), if s.size < 2 then 6 else 7) := by
  unfold fcs_Open.f
  by_cases h2 : s.size < 2
  · rw [if_pos (by omega), if_pos h2]
  · rw [if_neg (by omega), good_eq s hs, if_neg h2]
    simp only [bs, decide_eq_true_eq]
    rw [if_neg h]
theorem open_good (s : ByteArray) (hs : s.size ≤ 9223372036854775807) (h2 : 2 ≤ s.size) (h : Fcs.more 65535 (nats s.data.toList) = 61624) :
    fcs_Open.f s = some (s.extract 0 (s.size - 2), 0) := by
  unfold fcs_Open.f
  rw [if_neg (by omega), good_eq s hs]
  simp only [bs, decide_eq_true_eq]
  rw [if_pos ⟨h2, h⟩, wrap_sub _ h2 hs, if_pos (by omega), if_pos (by omega), Int.toNat_natCast]
theorem last_two (s : ByteArray) (h2 : 2 ≤ s.size) : ∃ x y, nats s.data.toList = nats (s.data.toList.take (s.size - 2)) ++ [x, y] ∧ x < 256 ∧ y < 256 := by
  have hl : (s.data.toList.drop (s.size - 2)).length = 2 := by rw [List.length_drop, data_len]; omega
  obtain ⟨x, y, hxy⟩ : ∃ x y, s.data.toList.drop (s.size - 2) = [x, y] := by
    match hq : s.data.toList.drop (s.size - 2), hl with
    | [x, y], _ => exact ⟨x, y, rfl⟩
  refine ⟨x.toNat, y.toNat, ?_, x.toNat_lt, y.toNat_lt⟩
  conv => lhs; rw [← List.take_append_drop (s.size - 2) s.data.toList, hxy]
  simp [nats]
/-- What is good is the seal of what it opens to. -/
theorem good_iff (s : ByteArray) (h2 : 2 ≤ s.size) : Fcs.more 65535 (nats s.data.toList) = 61624 ↔ nats s.data.toList = Fcs.sealed (nats (s.data.toList.take (s.size - 2))) := by
  obtain ⟨x, y, e, hx, hy⟩ := last_two s h2
  constructor
  · intro h
    rw [e] at h ⊢
    exact Fcs.good_seal _ x y (nats_lt _) hx hy h
  · intro h
    rw [h]
    exact Fcs.more_seal _ (nats_lt _)

theorem good_of_seal (s t : ByteArray) (hs : s.size ≤ 9223372036854775805) (h : fcs_Seal.f s = some t) : 2 ≤ t.size ∧ Fcs.more 65535 (nats t.data.toList) = 61624 ∧ t.size ≤ 9223372036854775807 ∧ t.extract 0 (t.size - 2) = s := by
  obtain ⟨t', h', e, ht, hz⟩ := seal_eq s hs
  rw [h'] at h
  obtain rfl := Option.some.inj h
  refine ⟨by omega, by rw [e]; exact Fcs.more_seal _ (nats_lt _), by omega, bytes_ext ?_⟩
  rw [extract_list, show t'.size - 2 = s.size from by omega, ht]

/-! ### Turned bits -/
theorem two_xor (k a b : Nat) : 2 ^ k * (a ^^^ b) = (2 ^ k * a) ^^^ (2 ^ k * b) := by
  apply Nat.eq_of_testBit_eq
  intro j
  rw [Nat.testBit_xor, Nat.testBit_two_pow_mul, Nat.testBit_two_pow_mul, Nat.testBit_two_pow_mul, Nat.testBit_xor]
  by_cases hj : k ≤ j <;> simp [hj]
theorem low_xor (a k : Nat) (h : a < 2 ^ k) : 2 ^ k ^^^ a = 2 ^ k + a := by
  apply Nat.eq_of_testBit_eq
  intro j
  have e := Nat.testBit_two_pow_mul_add 1 h j
  rw [Nat.mul_one] at e
  rw [Nat.testBit_xor, e, Nat.testBit_two_pow]
  by_cases hj : j < k
  · rw [if_pos hj, decide_eq_false (by omega), Bool.false_xor]
  · rw [if_neg hj, Nat.testBit_lt_two_pow (Nat.lt_of_lt_of_le h (Nat.pow_le_pow_right (by decide) (by omega))), Bool.xor_false]
    by_cases hk : k = j
    · subst hk; rw [Nat.sub_self, decide_eq_true rfl]; rfl
    · obtain ⟨m, hm⟩ : ∃ m, j - k = m + 1 := ⟨j - k - 1, by omega⟩
      rw [hm, Nat.testBit_succ, decide_eq_false hk]
      simp
/-- One round: bit i of 'bits', if it is set, turns bit n + i of the bytes. -/
def fl (bits n i : Nat) (l : List UInt8) : List UInt8 := if bits / 2 ^ i % 2 = 1 then l.set ((n + i) / 8) (l.getD ((n + i) / 8) 0 ^^^ UInt8.ofNat (2 ^ ((n + i) % 8))) else l
def fls (bits n : Nat) : Nat → List UInt8 → List UInt8
  | 0, l => l
  | i + 1, l => fl bits n i (fls bits n i l)
theorem fl_length (bits n i : Nat) (l : List UInt8) : (fl bits n i l).length = l.length := by unfold fl; split <;> simp
theorem fls_length (bits n i : Nat) (l : List UInt8) : (fls bits n i l).length = l.length := by
  induction i with
  | zero => rfl
  | succ i ih => rw [fls, fl_length, ih]
theorem num_set (m : UInt8) : ∀ (l : List UInt8) (k : Nat), k < l.length → Fcs.num (nats (l.set k (l.getD k 0 ^^^ m))) = Fcs.num (nats l) ^^^ (2 ^ (8 * k) * m.toNat)
  | [], k, h => by simp at h
  | b :: l, 0, _ => by
    simp only [List.set_cons_zero, List.getD_cons_zero, nats, List.map_cons, Fcs.num, UInt8.toNat_xor, Nat.mul_zero, Nat.pow_zero, Nat.one_mul]
    rw [Nat.xor_assoc, Nat.xor_comm m.toNat, ← Nat.xor_assoc]
  | b :: l, k + 1, h => by
    have ih := num_set m l k (by simpa using h)
    simp only [nats] at ih
    simp only [List.set_cons_succ, List.getD_cons_succ, nats, List.map_cons, Fcs.num]
    rw [ih, show 8 * (k + 1) = 8 + 8 * k from by omega, Nat.pow_add, Nat.mul_assoc, Nat.xor_assoc, two_xor]
theorem num_fls (bits n : Nat) (l : List UInt8) (i : Nat) (h : n + i ≤ 8 * l.length) : Fcs.num (nats (fls bits n i l)) = Fcs.num (nats l) ^^^ (2 ^ n * (bits % 2 ^ i)) := by
  induction i with
  | zero => simp [fls, Nat.mod_one]
  | succ i ih =>
    have ih := ih (by omega)
    rw [fls, fl]
    have hm : bits % 2 ^ (i + 1) = bits % 2 ^ i + 2 ^ i * (bits / 2 ^ i % 2) := by rw [Nat.pow_succ, Nat.mod_mul]
    have hlt : bits % 2 ^ i < 2 ^ i := Nat.mod_lt _ (Nat.two_pow_pos i)
    by_cases hb : bits / 2 ^ i % 2 = 1
    · rw [if_pos hb, num_set _ _ _ (by rw [fls_length]; omega), ih, hm, hb, Nat.mul_one, Nat.add_comm (bits % 2 ^ i), ← low_xor _ _ hlt, two_xor, Nat.xor_comm (2 ^ n * 2 ^ i), ← Nat.xor_assoc]
      congr 1
      have hp : 2 ^ ((n + i) % 8) < 256 := Nat.lt_of_le_of_lt (Nat.pow_le_pow_right (by decide) (show (n + i) % 8 ≤ 7 by omega)) (by decide)
      rw [UInt8.toNat_ofNat', Nat.mod_eq_of_lt hp, ← Nat.pow_add, ← Nat.pow_add]
      congr 1
      omega
    · rw [if_neg hb, ih, hm, show bits / 2 ^ i % 2 = 0 from by omega, Nat.mul_zero, Nat.add_zero]
theorem burst_bad (l : List UInt8) (bits n : Nat) (hb : bits < 65536) (h0 : bits ≠ 0) (hn : n + 16 ≤ 8 * l.length) (hg : Fcs.more 65535 (nats l) = 61624) : Fcs.more 65535 (nats (fls bits n 16 l)) ≠ 61624 := by
  rw [Fcs.more_num, nats_length] at hg ⊢
  rw [num_fls bits n l 16 hn, fls_length, ← Nat.xor_assoc, Fcs.zn_xor, hg, show 2 ^ 16 = 65536 from rfl, Nat.mod_eq_of_lt hb]
  intro h
  obtain ⟨m, hm⟩ : ∃ m, 8 * l.length = n + m := ⟨8 * l.length - n, by omega⟩
  rw [hm, Fcs.zn_add, Fcs.zn_shift] at h
  have hz : Fcs.zn m bits = 0 := by
    have := congrArg (61624 ^^^ ·) h
    simpa [← Nat.xor_assoc] using this
  exact h0 (Fcs.zn_eq_zero _ _ hb hz)

end Go.Proofs.Ytphoemgnfmlngaa.Pure
