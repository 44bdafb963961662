/-
  The pure law of FcsTells: the program's answers are the document's; for every register and text.
-/
import Derived.Test.YtphoemgnfmlngaaPFcsTellsx1
import Derived.Lib.Bytes
set_option linter.unusedVariables false
set_option linter.unusedSimpArgs false
namespace Go.Proofs.Ytphoemgnfmlngaa.PureF
open Go.RowKit Go.Proofs.Ytphoemgnfmlngaa.PFcsTells Go.Proofs.YtphoemgnfmlngaaW.PrintWords Go.Proofs.YtphoemgnfmlngaaW.PrintLast

/-- Not by rfl: so the kernel is not asked to compare what is bound with what stands behind. -/
theorem bs {α β : Type} (a : α) (f : α → Option β) : (some a).bind f = f a := by rw [Option.bind_some]
theorem bytes_ext {a b : ByteArray} (h : a.data.toList = b.data.toList) : a = b := by
  cases a; cases b; simp at h; exact congrArg ByteArray.mk h
theorem more_eq (c : Nat) (s : ByteArray) (hc : c < 65536) (hs : s.size ≤ 9223372036854775807) : fcs_More.f (c : Int) s = some ((Fcs.more c (nats s.data.toList) : Nat) : Int) := by
  unfold fcs_More.f
  rw [if_pos ⟨by omega, by omega, hs⟩, Int.toNat_natCast]
theorem good_eq (s : ByteArray) (hs : s.size ≤ 9223372036854775807) : fcs_Good.f s = some (decide (2 ≤ s.size ∧ Fcs.more 65535 (nats s.data.toList) = 61624)) := by
  unfold fcs_Good.f
  by_cases h : 2 ≤ s.size
  · rw [if_pos (by omega), show (65535 : Int) = ((65535 : Nat) : Int) from rfl, more_eq _ _ (by decide) hs]
    simp only [bs, Option.some.injEq]
    rw [Bool.eq_iff_iff]
    simp only [beq_iff_eq, decide_eq_true_eq]
    constructor
    · intro e; exact ⟨h, by omega⟩
    · rintro ⟨_, e⟩; omega
  · rw [if_neg (by omega)]
    simp [h]
theorem alive_eq : halyardlaw02_alive.f = some true := by decide +kernel
theorem nats_length (l : List UInt8) : (nats l).length = l.length := by simp [nats]
theorem nats_inj {a b : List UInt8} (h : nats a = nats b) : a = b := by
  induction a generalizing b with
  | nil => cases b with
    | nil => rfl
    | cons => simp [nats] at h
  | cons x a ih => cases b with
    | nil => simp [nats] at h
    | cons y b =>
      simp only [nats, List.map_cons, List.cons.injEq] at h
      rw [ih h.2, UInt8.toNat_inj.1 h.1]
theorem data_len (s : ByteArray) : s.data.toList.length = s.size := by rw [Array.length_toList]; rfl
theorem wrap_sub (n : Nat) (h : 2 ≤ n) (h2 : n ≤ 9223372036854775807) : wrap64 ((n : Int) - 2) = ((n - 2 : Nat) : Int) := by
  unfold wrap64; omega
theorem extract_list (s : ByteArray) (n : Nat) : (s.extract 0 n).data.toList = s.data.toList.take n := by
  rw [ByteArray.data_extract, Array.toList_extract]; simp

theorem seal_list (n : Nat) (h : n < 65536) : (strOfNums [(n : Int) % 256, ((n : Int) / 256) % 256]).data.toList = [UInt8.ofNat (n % 256), UInt8.ofNat (n / 256)] := by
  rw [strOfNums_data]
  simp only [List.map_cons, List.map_nil, List.cons.injEq, and_true]
  constructor
  · congr 1
  · congr 1; omega
theorem seal_eq (s : ByteArray) (hs : s.size ≤ 9223372036854775805) : ∃ t : ByteArray, fcs_Seal.f s = some t ∧ nats t.data.toList = Fcs.sealed (nats s.data.toList) ∧ t.data.toList.take s.size = s.data.toList ∧ t.size = s.size + 2 := by
  have hlt : Fcs.sum (nats s.data.toList) < 65536 := Fcs.sum_lt _ (nats_lt _)
  unfold fcs_Seal.f fcs_Sum.f
  rw [if_pos (by omega)]
  simp only [bs]
  rw [if_pos (by rw [strOfNums_size]; simp; omega)]
  refine ⟨_, rfl, ?_, ?_, ?_⟩
  · rw [ByteArray.data_append, Array.toList_append, seal_list _ hlt]
    have e1 : (UInt8.ofNat (Fcs.sum (nats s.data.toList) % 256)).toNat = Fcs.sum (nats s.data.toList) % 256 := by
      rw [UInt8.toNat_ofNat']; omega
    have e2 : (UInt8.ofNat (Fcs.sum (nats s.data.toList) / 256)).toNat = Fcs.sum (nats s.data.toList) / 256 := by
      rw [UInt8.toNat_ofNat']; omega
    simp only [nats, List.map_append, List.map_cons, List.map_nil, Fcs.sealed] at e1 e2 ⊢
    rw [e1, e2]
  · rw [ByteArray.data_append, Array.toList_append, List.take_append_of_le_length (by rw [data_len]; omega), List.take_of_length_le (by rw [data_len]; omega)]
  · rw [ByteArray.size_append, strOfNums_size]; rfl
theorem open_bad (s : ByteArray) (hs : s.size ≤ 9223372036854775807) (h : ¬ (2 ≤ s.size ∧ Fcs.more 65535 (nats s.data.toList) = 61624)) :
    fcs_Open.f s = some ((⟨#[]⟩ : ByteArray), if s.size < 2 then 6 else 7) := by
  unfold fcs_Open.f
  by_cases h2 : s.size < 2
  · rw [if_pos (by omega), if_pos h2]
  · rw [if_neg (by omega), good_eq s hs, if_neg h2]
    simp only [bs, decide_eq_true_eq]
    rw [if_neg h]
theorem open_good (s : ByteArray) (hs : s.size ≤ 9223372036854775807) (h2 : 2 ≤ s.size) (h : Fcs.more 65535 (nats s.data.toList) = 61624) :
    fcs_Open.f s = some (s.extract 0 (s.size - 2), 0) := by
  unfold fcs_Open.f
  rw [if_neg (by omega), good_eq s hs]
  simp only [bs, decide_eq_true_eq]
  rw [if_pos ⟨h2, h⟩, wrap_sub _ h2 hs, if_pos (by omega), if_pos (by omega), Int.toNat_natCast]
theorem last_two (s : ByteArray) (h2 : 2 ≤ s.size) : ∃ x y, nats s.data.toList = nats (s.data.toList.take (s.size - 2)) ++ [x, y] ∧ x < 256 ∧ y < 256 := by
  have hl : (s.data.toList.drop (s.size - 2)).length = 2 := by rw [List.length_drop, data_len]; omega
  obtain ⟨x, y, hxy⟩ : ∃ x y, s.data.toList.drop (s.size - 2) = [x, y] := by
    match hq : s.data.toList.drop (s.size - 2), hl with
    | [x, y], _ => exact ⟨x, y, rfl⟩
  refine ⟨x.toNat, y.toNat, ?_, x.toNat_lt, y.toNat_lt⟩
  conv => lhs; rw [← List.take_append_drop (s.size - 2) s.data.toList, hxy]
  simp [nats]
/-- What is good is the seal of what it opens to. -/
theorem good_iff (s : ByteArray) (h2 : 2 ≤ s.size) : Fcs.more 65535 (nats s.data.toList) = 61624 ↔ nats s.data.toList = Fcs.sealed (nats (s.data.toList.take (s.size - 2))) := by
  obtain ⟨x, y, e, hx, hy⟩ := last_two s h2
  constructor
  · intro h
    rw [e] at h ⊢
    exact Fcs.good_seal _ x y (nats_lt _) hx hy h
  · intro h
    rw [h]
    exact Fcs.more_seal _ (nats_lt _)

theorem tmod_two (n : Nat) : Int.tmod (n : Int) 2 = ((n % 2 : Nat) : Int) := by
  rw [show (2 : Int) = ((2 : Nat) : Int) from rfl, Int.ofNat_tmod]
theorem tdiv_two (n : Nat) : Int.tdiv (n : Int) 2 = ((n / 2 : Nat) : Int) := by
  rw [show (2 : Int) = ((2 : Nat) : Int) from rfl, Int.ofNat_tdiv]
theorem bit_eq (c b : Nat) (hc : c < 65536) (hb : b < 2) : halyardref02_Bit.f (c : Int) (b : Int) = some ((Fcs.z (c ^^^ b) : Nat) : Int) := by
  have hp : ((c ^^^ b) % 2 = 1) ↔ ¬ ((c % 2 = 1) ↔ (b % 2 = 1)) := Nat.xor_mod_two_eq_one
  have hd : (c ^^^ b) / 2 = c / 2 := by rw [Nat.xor_div_two, show b / 2 = 0 from by omega, Nat.xor_zero]
  unfold halyardref02_Bit.f Fcs.z
  rw [tmod_two, tdiv_two, wrap_u16_nat _ (by omega), hd]
  by_cases e : c % 2 = b
  · rw [if_pos (by omega), if_neg (by rw [hp]; omega)]
  · rw [if_neg (by omega), if_pos (by rw [hp]; omega)]
    congr 1
    exact xor_u16 (c / 2) 33800 (by omega) (by decide)
theorem l1_eq (s : ByteArray) (x5 : Int) (m : Nat) : ∀ (k c b : Nat), m ≤ 8 → c < 65536 → b < 2 ^ m →
    halyardref02_More.l1 (k + m + 1) (c : Int) s x5 (b : Int) ((8 - m : Nat) : Int) = halyardref02_More.l0 k ((Fcs.zn m (c ^^^ b) : Nat) : Int) s (wrap64 (x5 + 1)) := by
  induction m with
  | zero =>
    intro k c b hm hc hb
    obtain rfl : b = 0 := by simpa using hb
    simp only [halyardref02_More.l1]
    rw [if_neg (by simp), Nat.xor_zero]
    simp only [Fcs.zn]
    done
  | succ m ih =>
    intro k c b hm hc hb
    obtain ⟨K, hK⟩ : ∃ K, k + m + 1 = K := ⟨_, rfl⟩
    rw [show k + (m + 1) + 1 = K + 1 from by omega]
    simp only [halyardref02_More.l1]
    rw [← hK]
    have hb2 : b < 2 * 2 ^ m := by rw [Nat.pow_succ] at hb; omega
    have h256 : 2 * 2 ^ m ≤ 256 := by
      have : 2 ^ (m + 1) ≤ 2 ^ 8 := Nat.pow_le_pow_right (by decide) hm
      rw [Nat.pow_succ] at this; omega
    rw [if_pos (by omega), tmod_two, wrap_u16_nat _ (by omega), bit_eq c _ hc (by omega)]
    simp only [bs]
    rw [tdiv_two, show (((b / 2 : Nat) : Int) % 256) = ((b / 2 : Nat) : Int) from by omega, show wrap64 (((8 - (m + 1) : Nat) : Int) + 1) = ((8 - m : Nat) : Int) from by unfold wrap64; omega]
    have hx2 : c ^^^ (b % 2) < 65536 := Nat.xor_lt_two_pow (n := 16) hc (by omega)
    rw [ih k _ _ (by omega) (Fcs.z_lt _ hx2) (by omega)]
    have e : Fcs.zn m (Fcs.z (c ^^^ b % 2) ^^^ b / 2) = Fcs.zn (m + 1) (c ^^^ b) := by
      have e1 : b % 2 ^^^ 2 * (b / 2) = b := by
        have := Nat.eq_of_testBit_eq (x := b % 2 ^^^ 2 * (b / 2)) (y := b) (by
          intro j
          rw [Nat.testBit_xor]
          cases j with
          | zero => simp [Nat.testBit_zero]
          | succ j => simp [Nat.testBit_succ])
        exact this
      conv => rhs; rw [← e1, ← Nat.xor_assoc]
      simp only [Fcs.zn]
      rw [Fcs.z_xor (c ^^^ b % 2), Fcs.z_double]
    rw [e]
theorem bt_nat (s : ByteArray) (i : Nat) (h : i < s.size) : bt s (i : Int) = ((s[i].toNat : Nat) : Int) := by
  unfold bt
  rw [Int.toNat_natCast, dif_pos h]
theorem rl0_eq (s : ByteArray) (hs : s.size ≤ 9223372036854775806) (m : Nat) : ∀ (e i c : Nat), i + m = s.size → c < 65536 →
    halyardref02_More.l0 (10 * m + 1 + e) (c : Int) s (i : Int) = some ((Fcs.more c (nats (s.data.toList.drop i)) : Nat) : Int) := by
  induction m with
  | zero =>
    intro e i c hi hc
    rw [show 10 * 0 + 1 + e = e + 1 from by omega]
    simp only [halyardref02_More.l0]
    rw [if_neg (by omega), List.drop_of_length_le (by rw [data_len]; omega)]
    rfl
  | succ m ih =>
    intro e i c hi hc
    have hlt : i < s.size := by omega
    obtain ⟨K, hK⟩ : ∃ K, 10 * m + 1 + e + 8 + 1 = K := ⟨_, rfl⟩
    rw [show 10 * (m + 1) + 1 + e = K + 1 from by omega]
    simp only [halyardref02_More.l0]
    rw [← hK]
    rw [if_pos (by omega), if_pos (by omega), bt_nat s i hlt]
    have h1 := l1_eq s (i : Int) 8 (10 * m + 1 + e) c s[i].toNat (by omega) hc s[i].toNat_lt
    rw [show ((8 - 8 : Nat) : Int) = 0 from rfl] at h1
    rw [h1, show wrap64 ((i : Int) + 1) = ((i + 1 : Nat) : Int) from by unfold wrap64; omega]
    have hx : Fcs.step c s[i].toNat < 65536 := Fcs.zn_lt 8 _ (Nat.xor_lt_two_pow (n := 16) hc (by have := s[i].toNat_lt; omega))
    rw [show Fcs.zn 8 (c ^^^ s[i].toNat) = Fcs.step c s[i].toNat from rfl, ih e (i + 1) _ (by omega) hx]
    have hd : s.data.toList.drop i = s[i] :: s.data.toList.drop (i + 1) := by
      rw [List.drop_eq_getElem_cons (by rw [data_len]; exact hlt)]; rfl
    rw [hd]
    rfl
theorem rmore_eq (k : Nat) (c : Nat) (s : ByteArray) (hs : s.size ≤ 9223372036854775806) (hc : c < 65536) (hk : 10 * s.size + 1 ≤ k) :
    halyardref02_More.f k (c : Int) s = some ((Fcs.more c (nats s.data.toList) : Nat) : Int) := by
  unfold halyardref02_More.f
  have := rl0_eq s hs s.size (k - (10 * s.size + 1)) 0 c (by omega) hc
  rw [show 10 * s.size + 1 + (k - (10 * s.size + 1)) = k from by omega] at this
  exact this
theorem rsum_eq (k : Nat) (s : ByteArray) (hs : s.size ≤ 9223372036854775806) (hk : 10 * s.size + 1 ≤ k) : halyardref02_Sum.f k s = some ((Fcs.sum (nats s.data.toList) : Nat) : Int) := by
  unfold halyardref02_Sum.f
  rw [show (65535 : Int) = ((65535 : Nat) : Int) from rfl, rmore_eq k _ s hs (by decide) hk]
  simp only [bs]
  rw [xor_u16 _ _ (Fcs.more_lt _ _ (by decide) (nats_lt _)) (by decide), Nat.xor_comm]
  rfl
theorem rseal_eq (k : Nat) (s : ByteArray) (hs : s.size ≤ 9223372036854775805) (hk : 10 * s.size + 1 ≤ k) : halyardref02_Seal.f k s = fcs_Seal.f s := by
  have hlt : Fcs.sum (nats s.data.toList) < 65536 := Fcs.sum_lt _ (nats_lt _)
  unfold halyardref02_Seal.f fcs_Seal.f fcs_Sum.f
  rw [rsum_eq k s (by omega) hk, if_pos (by omega)]
  simp only [bs]
  have e1 : Int.tmod ((Fcs.sum (nats s.data.toList) : Nat) : Int) 256 % 256 = ((Fcs.sum (nats s.data.toList) : Nat) : Int) % 256 := by
    rw [show (256 : Int) = ((256 : Nat) : Int) from rfl, ← Int.ofNat_tmod]; omega
  have e2 : IntKind.u16.wrap (Int.tdiv ((Fcs.sum (nats s.data.toList) : Nat) : Int) 256) % 256 = ((Fcs.sum (nats s.data.toList) : Nat) : Int) / 256 % 256 := by
    rw [show (256 : Int) = ((256 : Nat) : Int) from rfl, ← Int.ofNat_tdiv, wrap_u16_nat _ (by omega)]; omega
  rw [e1, e2]
theorem rgood_eq (k : Nat) (s : ByteArray) (hs : s.size ≤ 9223372036854775806) (hk : 10 * s.size + 1 ≤ k) : halyardref02_Good.f k s = some (decide (2 ≤ s.size ∧ Fcs.more 65535 (nats s.data.toList) = 61624)) := by
  unfold halyardref02_Good.f
  by_cases h2 : 2 ≤ s.size
  · rw [if_pos (by omega), wrap_sub _ h2 (by omega), if_pos (by omega), if_pos (by omega), Int.toNat_natCast, rseal_eq k _ (by simp [ByteArray.size_extract]; omega) (by simp [ByteArray.size_extract]; omega)]
    obtain ⟨t, ht, e, hp, hz⟩ := seal_eq (s.extract 0 (s.size - 2)) (by simp [ByteArray.size_extract]; omega)
    rw [ht]
    simp only [bs, Option.some.injEq]
    rw [Bool.eq_iff_iff]
    simp only [beq_iff_eq, decide_eq_true_eq]
    rw [extract_list] at e
    rw [good_iff s h2]
    constructor
    · intro h
      rw [ByteArray.toList_eq, ByteArray.toList_eq] at h
      exact ⟨h2, by rw [h] at e; exact e⟩
    · rintro ⟨_, h⟩
      have : t.data.toList = s.data.toList := nats_inj (e.trans h.symm)
      rw [ByteArray.toList_eq, ByteArray.toList_eq, this]
  · rw [if_neg (by omega)]
    simp [h2]
theorem ropen_eq (k : Nat) (s : ByteArray) (hs : s.size ≤ 9223372036854775806) (hk : 10 * s.size + 1 ≤ k) : halyardref02_Open.f k s = fcs_Open.f s := by
  unfold halyardref02_Open.f fcs_Open.f
  rw [rgood_eq k s hs hk, good_eq s (by omega)]

theorem FcsTells : halyardlaw02_FcsTells.Pure := by
  intro a0 a1 h0 h1
  have hb0 : 0 ≤ a0 ∧ a0 ≤ 65535 := by simpa [Lit.wf, IntKind.min, IntKind.max, IntKind.signed, IntKind.bits] using h0
  obtain ⟨c, rfl⟩ := Int.eq_ofNat_of_zero_le hb0.1
  refine ⟨10 * a1.size + 1, ?_⟩
  unfold halyardlaw02_FcsTells.f
  by_cases hbig : (a1.size : Int) > 8192
  · rw [if_pos hbig, alive_eq]; rfl
  · rw [if_neg hbig, ropen_eq _ a1 (by omega) (Nat.le_refl _)]
    obtain ⟨q, hq⟩ : ∃ q, fcs_Open.f a1 = some q := by
      by_cases hg : 2 ≤ a1.size ∧ Fcs.more 65535 (nats a1.data.toList) = 61624
      · exact ⟨_, open_good a1 (by omega) hg.1 hg.2⟩
      · exact ⟨_, open_bad a1 (by omega) hg⟩
    obtain ⟨t, ht, _⟩ := seal_eq a1 (by omega)
    rw [hq, more_eq c a1 (by omega) (by omega), rmore_eq _ c a1 (by omega) (by omega) (Nat.le_refl _)]
    have hsum : fcs_Sum.f a1 = some ((Fcs.sum (nats a1.data.toList) : Nat) : Int) := by unfold fcs_Sum.f; rw [if_pos (by omega)]
    simp only [bs, if_true]
    rw [hsum, rsum_eq _ a1 (by omega) (Nat.le_refl _)]
    simp only [bs, if_true]
    rw [rseal_eq _ a1 (by omega) (Nat.le_refl _), ht]
    simp only [bs, if_true]
    rw [good_eq a1 (by omega), rgood_eq _ a1 (by omega) (Nat.le_refl _)]
    simp only [bs, beq_self_eq_true, if_true]
    rw [alive_eq]
    rfl

end Go.Proofs.Ytphoemgnfmlngaa.PureF
