/-
  The pure law of EscapeTells: the program's answers are the document's; for every text, map and byte.
-/
import Derived.Test.YtphoemgnfmlngaaPEscapeTellsx2
import Derived.Lib.Bytes
set_option linter.unusedVariables false
set_option linter.unusedSimpArgs false
namespace Go.Proofs.Ytphoemgnfmlngaa.Pure
open Go.RowKit Go.Proofs.Ytphoemgnfmlngaa.PEscapeTells Go.Proofs.YtphoemgnfmlngaaW.PrintWords Go.Proofs.YtphoemgnfmlngaaW.PrintLast

/-- Not by rfl: so the kernel is not asked to compare what is bound with what stands behind. -/
theorem bs {α β : Type} (a : α) (f : α → Option β) : (some a).bind f = f a := by rw [Option.bind_some]
theorem data_len (s : ByteArray) : s.data.toList.length = s.size := by rw [Array.length_toList]; rfl
theorem mk_list (l : List UInt8) : (⟨l.toArray⟩ : ByteArray).toList = l := by rw [ByteArray.toList_eq]
theorem mk_size (l : List UInt8) : (⟨l.toArray⟩ : ByteArray).size = l.length := by simp [ByteArray.size]
theorem bt_nat (s : ByteArray) (i : Nat) (h : i < s.size) : bt s (i : Int) = ((s[i].toNat : Nat) : Int) := by
  unfold bt
  rw [Int.toNat_natCast, dif_pos h]
theorem drop_at (s : ByteArray) (i : Nat) (h : i < s.size) : s.data.toList.drop i = s[i] :: s.data.toList.drop (i + 1) := by
  rw [List.drop_eq_getElem_cons (by rw [data_len]; exact h)]; rfl
theorem alive_eq : halyardlaw03_alive.f = some true := by decide +kernel
theorem mapped_eq (a b : Nat) (ha : a < 4294967296) (hb : b < 256) : escape_Mapped.f (a : Int) (b : Int) = some (Esc.mapped a b) := by
  unfold escape_Mapped.f
  by_cases h : b < 32
  · rw [if_pos (by omega), if_pos (by omega)]
    have hlt : a / 2 ^ b < 4294967296 := Nat.lt_of_le_of_lt (Nat.div_le_self _ _) ha
    have hs : shr .u32 (a : Int) (b : Int) = ((a / 2 ^ b : Nat) : Int) := by
      unfold shr
      simp [IntKind.bits]
      rw [Nat.min_eq_left (by omega)]
    rw [hs, and_one32 _ hlt, Esc.mapped, Nat.testBit_eq_decide_div_mod_eq, decide_eq_true h, Bool.true_and]
    congr 1
    rw [Bool.eq_iff_iff]
    simp only [beq_iff_eq, decide_eq_true_eq]
    omega
  · rw [if_neg (by omega)]
    simp [Esc.mapped, h]
theorem put_eq (a : Nat) (s : ByteArray) (ha : a < 4294967296) (hs : s.size ≤ 35184372088832) : escape_Put.f s (a : Int) = some (⟨(Esc.put a s.data.toList).toArray⟩ : ByteArray) := by
  unfold escape_Put.f
  rw [if_pos ⟨hs, by omega, by omega⟩, Int.toNat_natCast]
theorem strip_eq (a : Nat) (s : ByteArray) (ha : a < 4294967296) (hs : s.size ≤ 140737488351232) : escape_Strip.f s (a : Int) = some (⟨(Esc.strip a s.data.toList).toArray⟩ : ByteArray) := by
  unfold escape_Strip.f
  rw [if_pos ⟨hs, by omega, by omega⟩, Int.toNat_natCast]
theorem size_eq (a : Nat) (s : ByteArray) (ha : a < 4294967296) (hs : s.size ≤ 35184372088832) : escape_Size.f s (a : Int) = some (((Esc.put a s.data.toList).length : Nat) : Int) := by
  unfold escape_Size.f
  rw [put_eq a s ha hs, bs, mk_size]

theorem rmapped_l0 (b : Nat) (hb : b < 256) (m : Nat) : ∀ (e i x : Nat), i + m = b → x < 4294967296 → halyardref03_Mapped.l0 (m + 1 + e) (x : Int) (b : Int) (i : Int) = some (decide (b < 32) && x.testBit m) := by
  have hw : wrap64 (b : Int) = (b : Int) := by unfold wrap64; omega
  induction m with
  | zero =>
    intro e i x hi hx
    rw [show 0 + 1 + e = e + 1 from by omega]
    simp only [halyardref03_Mapped.l0]
    rw [hw, if_neg (by omega)]
    by_cases h : b < 32
    · rw [if_pos (by omega), show (2 : Int) = ((2 : Nat) : Int) from rfl, ← Int.ofNat_tmod, decide_eq_true h, Bool.true_and, Nat.testBit_zero]
      congr 1
      rw [Bool.eq_iff_iff]
      simp only [beq_iff_eq, decide_eq_true_eq]
      omega
    · rw [if_neg (by omega), decide_eq_false h, Bool.false_and]
  | succ m ih =>
    intro e i x hi hx
    obtain ⟨K, hK⟩ : ∃ K, m + 1 + e = K := ⟨_, rfl⟩
    rw [show m + 1 + 1 + e = K + 1 from by omega]
    simp only [halyardref03_Mapped.l0]
    rw [hw, if_pos (by omega), show (2 : Int) = ((2 : Nat) : Int) from rfl, ← Int.ofNat_tdiv, show (((x / 2 : Nat) : Int) % 4294967296) = ((x / 2 : Nat) : Int) from by omega, show wrap64 ((i : Int) + 1) = ((i + 1 : Nat) : Int) from by unfold wrap64; omega, ← hK, ih e (i + 1) (x / 2) (by omega) (by omega), Nat.testBit_succ]
theorem rmapped_eq (k a b : Nat) (ha : a < 4294967296) (hb : b < 256) (hk : 300 ≤ k) : halyardref03_Mapped.f k (a : Int) (b : Int) = some (Esc.mapped a b) := by
  unfold halyardref03_Mapped.f
  have := rmapped_l0 b hb b (k - (b + 1)) 0 a (by omega) ha
  rw [show b + 1 + (k - (b + 1)) = k from by omega] at this
  exact this
theorem turned_nat : ∀ n, n < 256 → (if n / 32 % 2 = 1 then n - 32 else n + 32) = n ^^^ 32 := by decide +kernel
theorem rturned_eq (b : UInt8) : halyardref03_turned.f ((b.toNat : Nat) : Int) = some ((((b ^^^ 32).toNat : Nat)) : Int) := by
  have h := b.toNat_lt
  have ht := turned_nat b.toNat h
  unfold halyardref03_turned.f
  rw [UInt8.toNat_xor, show (32 : UInt8).toNat = 32 from rfl, ← ht, show (32 : Int) = ((32 : Nat) : Int) from rfl, ← Int.ofNat_tdiv]
  by_cases e : b.toNat / 32 % 2 = 1
  · rw [if_pos (by omega), if_pos e]; congr 1; omega
  · rw [if_neg (by omega), if_neg e]; congr 1; omega
theorem snoc_ints (o : List UInt8) (b : UInt8) : ints o ++ [((b.toNat : Nat) : Int)] = ints (o ++ [b]) := by simp [ints]
theorem isE_cases (a : Nat) (b : UInt8) : Esc.isE a b = (b.toNat == 125 || b.toNat == 126 || Esc.mapped a b.toNat) := rfl
theorem rput_l0 (a : Nat) (ha : a < 4294967296) (s : ByteArray) (hs : s.size ≤ 8192) (m : Nat) : ∀ (e i : Nat) (o : List UInt8), 300 ≤ e → i + m = s.size → o.length ≤ 2 * i →
    halyardref03_Put.l0 (m + 1 + e) s (a : Int) (ints o) (i : Int) = some (⟨(o ++ Esc.put a (s.data.toList.drop i)).toArray⟩ : ByteArray) := by
  induction m with
  | zero =>
    intro e i o he hi ho
    rw [show 0 + 1 + e = e + 1 from by omega]
    simp only [halyardref03_Put.l0]
    rw [if_neg (by omega), List.drop_of_length_le (by rw [data_len]; omega), ints_str]
    simp [Esc.put]
  | succ m ih =>
    intro e i o he hi ho
    have hlt : i < s.size := by omega
    obtain ⟨K, hK⟩ : ∃ K, m + 1 + e = K := ⟨_, rfl⟩
    rw [show m + 1 + 1 + e = K + 1 from by omega]
    have hp : Esc.put a (s.data.toList.drop i) = (if Esc.isE a s[i] then [125, s[i] ^^^ 32] else [s[i]]) ++ Esc.put a (s.data.toList.drop (i + 1)) := by
      rw [drop_at s i hlt]; simp [Esc.put]
    have hw : wrap64 ((i : Int) + 1) = ((i + 1 : Nat) : Int) := by unfold wrap64; omega
    have htwo : ints o ++ [125, ((s[i] ^^^ 32).toNat : Int)] = ints (o ++ [125, s[i] ^^^ 32]) := by simp [ints]
    have h2 : Esc.isE a s[i] = true → halyardref03_Put.l0 K s (a : Int) (ints o ++ [125, ((s[i] ^^^ 32).toNat : Int)]) ((i + 1 : Nat) : Int) = some (⟨(o ++ Esc.put a (s.data.toList.drop i)).toArray⟩ : ByteArray) := by
      intro hE
      rw [htwo, ← hK, ih e (i + 1) _ he (by omega) (by simp; omega), hp, hE]
      simp
    have h1 : Esc.isE a s[i] = false → halyardref03_Put.l0 K s (a : Int) (ints o ++ [((s[i].toNat : Nat) : Int)]) ((i + 1 : Nat) : Int) = some (⟨(o ++ Esc.put a (s.data.toList.drop i)).toArray⟩ : ByteArray) := by
      intro hE
      rw [snoc_ints, ← hK, ih e (i + 1) _ he (by omega) (by simp; omega), hp, hE]
      simp
    have hb := s[i].toNat_lt
    simp only [halyardref03_Put.l0]
    rw [if_pos (by omega), if_pos (by omega), bt_nat s i hlt, hw]
    by_cases c1 : s[i].toNat = 125
    · rw [if_pos (by omega), rturned_eq]
      simp only [bs]
      rw [if_pos (by rw [ints_length]; simp; omega)]
      exact h2 (by rw [isE_cases, c1]; rfl)
    · rw [if_neg (by omega)]
      by_cases c2 : s[i].toNat = 126
      · rw [if_pos (by omega), rturned_eq]
        simp only [bs]
        rw [if_pos (by rw [ints_length]; simp; omega)]
        exact h2 (by rw [isE_cases, c2]; rfl)
      · have hE : Esc.isE a s[i] = Esc.mapped a s[i].toNat := by rw [isE_cases]; simp [c1, c2]
        rw [if_neg (by omega), rmapped_eq K a _ ha hb (by omega)]
        simp only [bs]
        cases hm : Esc.mapped a s[i].toNat with
        | true =>
          rw [if_pos rfl, rturned_eq]
          simp only [bs]
          rw [if_pos (by rw [ints_length]; simp; omega)]
          exact h2 (hE.trans hm)
        | false =>
          rw [if_neg (by simp), if_pos (by rw [ints_length]; omega)]
          exact h1 (hE.trans hm)
theorem rput_eq (k a : Nat) (ha : a < 4294967296) (s : ByteArray) (hs : s.size ≤ 8192) (hk : s.size + 400 ≤ k) : halyardref03_Put.f k s (a : Int) = some (⟨(Esc.put a s.data.toList).toArray⟩ : ByteArray) := by
  unfold halyardref03_Put.f
  have := rput_l0 a ha s hs s.size (k - (s.size + 1)) 0 [] (by omega) (by omega) (by simp)
  rw [show s.size + 1 + (k - (s.size + 1)) = k from by omega] at this
  exact this
theorem rstrip_l0 (a : Nat) (ha : a < 4294967296) (s : ByteArray) (hs : s.size ≤ 8192) (m : Nat) : ∀ (e i : Nat) (o : List UInt8), 300 ≤ e → i + m = s.size → o.length ≤ i →
    halyardref03_Strip.l0 (m + 1 + e) s (a : Int) (ints o) (i : Int) = some (⟨(o ++ Esc.strip a (s.data.toList.drop i)).toArray⟩ : ByteArray) := by
  induction m with
  | zero =>
    intro e i o he hi ho
    rw [show 0 + 1 + e = e + 1 from by omega]
    simp only [halyardref03_Strip.l0]
    rw [if_neg (by omega), List.drop_of_length_le (by rw [data_len]; omega), ints_str]
    simp [Esc.strip]
  | succ m ih =>
    intro e i o he hi ho
    have hlt : i < s.size := by omega
    obtain ⟨K, hK⟩ : ∃ K, m + 1 + e = K := ⟨_, rfl⟩
    rw [show m + 1 + 1 + e = K + 1 from by omega]
    have hw : wrap64 ((i : Int) + 1) = ((i + 1 : Nat) : Int) := by unfold wrap64; omega
    have hb := s[i].toNat_lt
    simp only [halyardref03_Strip.l0]
    rw [if_pos (by omega), if_pos (by omega), bt_nat s i hlt, hw, rmapped_eq K a _ ha hb (by omega)]
    simp only [bs]
    rw [drop_at s i hlt]
    cases hm : Esc.mapped a s[i].toNat with
    | true =>
      rw [if_pos rfl, ← hK, ih e (i + 1) _ he (by omega) (by omega)]
      simp [Esc.strip, hm]
    | false =>
      rw [if_neg (by simp), if_pos (by rw [ints_length]; omega), snoc_ints, ← hK, ih e (i + 1) _ he (by omega) (by simp; omega)]
      simp [Esc.strip, hm]
theorem rstrip_eq (k a : Nat) (ha : a < 4294967296) (s : ByteArray) (hs : s.size ≤ 8192) (hk : s.size + 400 ≤ k) : halyardref03_Strip.f k s (a : Int) = some (⟨(Esc.strip a s.data.toList).toArray⟩ : ByteArray) := by
  unfold halyardref03_Strip.f
  have := rstrip_l0 a ha s hs s.size (k - (s.size + 1)) 0 [] (by omega) (by omega) (by simp)
  rw [show s.size + 1 + (k - (s.size + 1)) = k from by omega] at this
  exact this
def pairOf (q : List UInt8 × Bool) : ByteArray × Int := if q.2 then ((⟨#[]⟩ : ByteArray), 7) else ((⟨q.1.toArray⟩ : ByteArray), 0)
theorem rget_l1 (s : ByteArray) (hs : s.size ≤ 8192) (m : Nat) : ∀ (e i : Nat) (o : List UInt8), i + m = s.size → o.length ≤ i →
    halyardref03_Get.l1 (m + 1 + e) s (ints o) (i : Int) = some (pairOf ((s.data.toList.drop i).foldl Esc.gstep (o, false))) := by
  induction m using Nat.strongRecOn with
  | _ m ih =>
    intro e i o hi ho
    cases m with
    | zero =>
      rw [show 0 + 1 + e = e + 1 from by omega]
      simp only [halyardref03_Get.l1]
      rw [if_neg (by omega), List.drop_of_length_le (by rw [data_len]; omega), ints_str]
      rfl
    | succ m =>
      have hlt : i < s.size := by omega
      obtain ⟨K, hK⟩ : ∃ K, m + 1 + e = K := ⟨_, rfl⟩
      rw [show m + 1 + 1 + e = K + 1 from by omega]
      have hw : wrap64 ((i : Int) + 1) = ((i + 1 : Nat) : Int) := by unfold wrap64; omega
      have hw2 : wrap64 (((i + 1 : Nat) : Int) + 1) = ((i + 2 : Nat) : Int) := by unfold wrap64; omega
      have hb := s[i].toNat_lt
      simp only [halyardref03_Get.l1]
      rw [if_pos (by omega), if_pos (by omega), bt_nat s i hlt, hw, hw2, drop_at s i hlt]
      by_cases c1 : s[i].toNat = 125
      · rw [if_pos (by omega)]
        have hg : Esc.gstep (o, false) s[i] = (o, true) := by simp [Esc.gstep, c1]
        by_cases c2 : i + 1 = s.size
        · rw [if_pos (by omega), List.drop_of_length_le (by rw [data_len]; omega)]
          simp only [List.foldl_cons, List.foldl_nil, hg]
          rfl
        · have hlt2 : i + 1 < s.size := by omega
          rw [if_neg (by omega), if_pos (by omega), if_pos (by omega), bt_nat s (i + 1) hlt2, rturned_eq]
          simp only [bs]
          rw [if_pos (by rw [ints_length]; omega), snoc_ints, drop_at s (i + 1) hlt2]
          cases m with
          | zero => omega
          | succ m =>
            rw [← hK, show m + 1 + 1 + e = m + 1 + (e + 1) from by omega, ih m (by omega) (e + 1) (i + 2) _ (by omega) (by simp; omega)]
            simp only [List.foldl_cons, hg]
            rfl
      · rw [if_neg (by omega), if_pos (by rw [ints_length]; omega), snoc_ints, ← hK, ih m (by omega) e (i + 1) _ (by omega) (by simp; omega)]
        have hg : Esc.gstep (o, false) s[i] = (o ++ [s[i]], false) := by simp [Esc.gstep, c1]
        simp only [List.foldl_cons, hg]
theorem rget_l0 (s : ByteArray) (hs : s.size ≤ 8192) (m : Nat) : ∀ (e i : Nat), i + m = s.size → halyardref03_Get.l0 (m + 1 + (s.size + 1 + e)) s (i : Int) =
    some (if Esc.flagged (s.data.toList.drop i) then ((⟨#[]⟩ : ByteArray), 7) else pairOf (Esc.gets s.data.toList)) := by
  induction m with
  | zero =>
    intro e i hi
    obtain ⟨K, hK⟩ : ∃ K, s.size + 1 + e = K := ⟨_, rfl⟩
    rw [show 0 + 1 + (s.size + 1 + e) = K + 1 from by omega]
    simp only [halyardref03_Get.l0]
    rw [if_neg (by omega), ← hK, show ([] : List Int) = ints [] from rfl, show (0 : Int) = ((0 : Nat) : Int) from rfl, rget_l1 s hs s.size e 0 [] (by omega) (by simp), List.drop_zero, List.drop_of_length_le (i := i) (by rw [data_len]; omega)]
    rfl
  | succ m ih =>
    intro e i hi
    have hlt : i < s.size := by omega
    obtain ⟨K, hK⟩ : ∃ K, m + 1 + (s.size + 1 + e) = K := ⟨_, rfl⟩
    rw [show m + 1 + 1 + (s.size + 1 + e) = K + 1 from by omega]
    have hw : wrap64 ((i : Int) + 1) = ((i + 1 : Nat) : Int) := by unfold wrap64; omega
    simp only [halyardref03_Get.l0]
    rw [if_pos (by omega), if_pos (by omega), bt_nat s i hlt, hw, drop_at s i hlt]
    by_cases c : s[i].toNat = 126
    · rw [if_pos (by omega), if_pos (by simp [Esc.flagged, c])]
    · rw [if_neg (by omega), ← hK, ih e (i + 1) (by omega)]
      have : Esc.flagged (s[i] :: s.data.toList.drop (i + 1)) = Esc.flagged (s.data.toList.drop (i + 1)) := by simp [Esc.flagged, c]
      rw [this]
theorem get_eq (k : Nat) (s : ByteArray) (hs : s.size ≤ 8192) (hk : 2 * s.size + 2 ≤ k) : ∃ q, escape_Get.f s = some q ∧ halyardref03_Get.f k s = some q := by
  unfold escape_Get.f halyardref03_Get.f
  rw [if_pos (by omega)]
  refine ⟨_, rfl, ?_⟩
  have := rget_l0 s hs s.size (k - (2 * s.size + 2)) 0 (by omega)
  rw [show s.size + 1 + (s.size + 1 + (k - (2 * s.size + 2))) = k from by omega] at this
  rw [show (0 : Int) = ((0 : Nat) : Int) from rfl, this, List.drop_zero]
  unfold Esc.get pairOf
  cases Esc.flagged s.data.toList with
  | true => rfl
  | false => cases (Esc.gets s.data.toList).2 <;> rfl

theorem EscapeTells : halyardlaw03_EscapeTells.Pure := by
  intro a0 a1 a2 h0 h1 h2
  have hb1 : 0 ≤ a1 ∧ a1 ≤ 4294967295 := by simpa [Lit.wf, IntKind.min, IntKind.max, IntKind.signed, IntKind.bits] using h1
  have hb2 : 0 ≤ a2 ∧ a2 ≤ 255 := by simpa [Lit.wf, IntKind.min, IntKind.max, IntKind.signed, IntKind.bits] using h2
  obtain ⟨a, rfl⟩ := Int.eq_ofNat_of_zero_le hb1.1
  obtain ⟨b, rfl⟩ := Int.eq_ofNat_of_zero_le hb2.1
  refine ⟨2 * a0.size + 402, ?_⟩
  unfold halyardlaw03_EscapeTells.f
  by_cases hbig : (a0.size : Int) > 8192
  · rw [if_pos hbig, alive_eq]; rfl
  · rw [if_neg hbig]
    have ha : a < 4294967296 := by omega
    obtain ⟨q, hq1, hq2⟩ := get_eq (2 * a0.size + 402) a0 (by omega) (by omega)
    rw [hq1, hq2, rput_eq _ a ha a0 (by omega) (by omega), mapped_eq a b ha (by omega), rmapped_eq _ a b ha (by omega) (by omega)]
    simp only [bs, beq_self_eq_true, if_true]
    rw [put_eq a a0 ha (by omega)]
    simp only [bs, if_true]
    rw [size_eq a a0 ha (by omega)]
    simp only [bs, mk_size, if_true]
    rw [strip_eq a a0 ha (by omega), rstrip_eq _ a ha a0 (by omega) (by omega)]
    simp only [bs, if_true]
    rw [alive_eq]
    rfl

end Go.Proofs.Ytphoemgnfmlngaa.Pure
