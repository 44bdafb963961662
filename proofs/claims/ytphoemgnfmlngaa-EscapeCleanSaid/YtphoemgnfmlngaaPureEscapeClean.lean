/-
  The pure law of EscapeClean: what was put has no flag and no mapped byte, at most twice as many bytes, and two texts are put as one; for every two texts and map.
-/
import Derived.Test.YtphoemgnfmlngaaPEscapeCleanx1
import Derived.Lib.Bytes
set_option linter.unusedVariables false
set_option linter.unusedSimpArgs false
namespace Go.Proofs.Ytphoemgnfmlngaa.Pure
open Go.RowKit Go.Proofs.Ytphoemgnfmlngaa.PEscapeClean Go.Proofs.YtphoemgnfmlngaaW.PrintWords Go.Proofs.YtphoemgnfmlngaaW.PrintLast

/-- Not by rfl: so the kernel is not asked to compare what is bound with what stands behind. -/
theorem bs {α β : Type} (a : α) (f : α → Option β) : (some a).bind f = f a := by rw [Option.bind_some]
theorem data_len (s : ByteArray) : s.data.toList.length = s.size := by rw [Array.length_toList]; rfl
theorem mk_list (l : List UInt8) : (⟨l.toArray⟩ : ByteArray).toList = l := by rw [ByteArray.toList_eq]
theorem mk_size (l : List UInt8) : (⟨l.toArray⟩ : ByteArray).size = l.length := by simp [ByteArray.size]
theorem bt_nat (s : ByteArray) (i : Nat) (h : i < s.size) : bt s (i : Int) = ((s[i].toNat : Nat) : Int) := by
  unfold bt
  rw [Int.toNat_natCast, dif_pos h]
theorem drop_at (s : ByteArray) (i : Nat) (h : i < s.size) : s.data.toList.drop i = s[i] :: s.data.toList.drop (i + 1) := by
  rw [List.drop_eq_getElem_cons (by rw [data_len]; exact h)]; rfl
theorem alive_eq : halyardlaw03_alive.f = some true := by decide +kernel
theorem mapped_eq (a b : Nat) (ha : a < 4294967296) (hb : b < 256) : escape_Mapped.f (a : Int) (b : Int) = some (Esc.mapped a b) := by
  unfold escape_Mapped.f
  by_cases h : b < 32
  · rw [if_pos (by omega), if_pos (by omega)]
    have hlt : a / 2 ^ b < 4294967296 := Nat.lt_of_le_of_lt (Nat.div_le_self _ _) ha
    have hs : shr .u32 (a : Int) (b : Int) = ((a / 2 ^ b : Nat) : Int) := by
      unfold shr
      simp [IntKind.bits]
      rw [Nat.min_eq_left (by omega)]
    rw [hs, and_one32 _ hlt, Esc.mapped, Nat.testBit_eq_decide_div_mod_eq, decide_eq_true h, Bool.true_and]
    congr 1
    rw [Bool.eq_iff_iff]
    simp only [beq_iff_eq, decide_eq_true_eq]
    omega
  · rw [if_neg (by omega)]
    simp [Esc.mapped, h]
theorem put_eq (a : Nat) (s : ByteArray) (ha : a < 4294967296) (hs : s.size ≤ 35184372088832) : escape_Put.f s (a : Int) = some (⟨(Esc.put a s.data.toList).toArray⟩ : ByteArray) := by
  unfold escape_Put.f
  rw [if_pos ⟨hs, by omega, by omega⟩, Int.toNat_natCast]
theorem strip_eq (a : Nat) (s : ByteArray) (ha : a < 4294967296) (hs : s.size ≤ 140737488351232) : escape_Strip.f s (a : Int) = some (⟨(Esc.strip a s.data.toList).toArray⟩ : ByteArray) := by
  unfold escape_Strip.f
  rw [if_pos ⟨hs, by omega, by omega⟩, Int.toNat_natCast]
theorem size_eq (a : Nat) (s : ByteArray) (ha : a < 4294967296) (hs : s.size ≤ 35184372088832) : escape_Size.f s (a : Int) = some (((Esc.put a s.data.toList).length : Nat) : Int) := by
  unfold escape_Size.f
  rw [put_eq a s ha hs, bs, mk_size]

theorem put_clean (a : Nat) (l : List UInt8) : ∀ b ∈ Esc.put a l, b.toNat ≠ 126 ∧ Esc.mapped a b.toNat = false := by
  intro b hb
  simp only [Esc.put, List.mem_flatMap] at hb
  obtain ⟨c, _, hc⟩ := hb
  cases hE : Esc.isE a c with
  | false =>
    rw [hE] at hc
    simp at hc
    subst hc
    simp only [Esc.isE, Bool.or_eq_false_iff, beq_eq_false_iff_ne] at hE
    exact ⟨hE.1.2, hE.2⟩
  | true =>
    rw [hE] at hc
    simp at hc
    rcases hc with rfl | rfl
    · exact ⟨by decide, by simp [Esc.mapped]⟩
    · have hx : (c ^^^ 32).toNat = c.toNat ^^^ 32 := UInt8.toNat_xor ..
      simp only [Esc.isE, Bool.or_eq_true, beq_iff_eq] at hE
      rw [hx]
      rcases hE with (h | h) | h
      · rw [h]; exact ⟨by decide, by simp [Esc.mapped]⟩
      · rw [h]; exact ⟨by decide, by simp [Esc.mapped]⟩
      · simp only [Esc.mapped, Bool.and_eq_true, decide_eq_true_eq] at h
        have h2 : ∀ n, n < 32 → n ^^^ 32 = n + 32 := by decide
        rw [h2 _ h.1]
        exact ⟨by omega, by unfold Esc.mapped; rw [decide_eq_false (by omega), Bool.false_and]⟩
theorem put_ge (a : Nat) (l : List UInt8) : l.length ≤ (Esc.put a l).length := by
  induction l with
  | nil => simp
  | cons b l ih =>
    have : Esc.put a (b :: l) = (if Esc.isE a b then [125, b ^^^ 32] else [b]) ++ Esc.put a l := by simp [Esc.put]
    rw [this, List.length_append, List.length_cons]
    split <;> simp <;> omega
theorem clean_l0 (a : Nat) (ha : a < 4294967296) (p : ByteArray) (hp : p.size ≤ 16384) (hc : ∀ b ∈ p.data.toList, b.toNat ≠ 126 ∧ Esc.mapped a b.toNat = false) (m : Nat) : ∀ (i : Nat), i + m = p.size →
    halyardlaw03_EscapeClean.l0 (m + 1) (a : Int) p (i : Int) = some true := by
  induction m with
  | zero =>
    intro i hi
    simp only [halyardlaw03_EscapeClean.l0]
    rw [if_neg (by omega), strip_eq a p ha (by omega), alive_eq]
    simp only [bs]
    rw [if_pos]
    rw [mk_list, ByteArray.toList_eq, Esc.strip, List.filter_eq_self]
    intro b hb
    rw [(hc b hb).2]; rfl
  | succ m ih =>
    intro i hi
    have hlt : i < p.size := by omega
    have hmem : p[i] ∈ p.data.toList := by rw [Array.mem_toList_iff]; exact Array.getElem_mem _
    simp only [halyardlaw03_EscapeClean.l0]
    rw [if_pos (by omega), if_pos (by omega), bt_nat p i hlt, if_neg (by have := (hc _ hmem).1; omega), mapped_eq a _ ha p[i].toNat_lt, (hc _ hmem).2]
    simp only [bs]
    rw [if_neg (by simp), show wrap64 ((i : Int) + 1) = ((i + 1 : Nat) : Int) from by unfold wrap64; omega]
    exact ih (i + 1) (by omega)

theorem EscapeClean : halyardlaw03_EscapeClean.Pure := by
  intro a0 a1 a2 h0 h1 h2
  have hb2 : 0 ≤ a2 ∧ a2 ≤ 4294967295 := by simpa [Lit.wf, IntKind.min, IntKind.max, IntKind.signed, IntKind.bits] using h2
  obtain ⟨a, rfl⟩ := Int.eq_ofNat_of_zero_le hb2.1
  have ha : a < 4294967296 := by omega
  refine ⟨(Esc.put a a0.data.toList).length + 2, ?_⟩
  unfold halyardlaw03_EscapeClean.f
  have hw : wrap64 ((a0.size : Int) + (a1.size : Int)) = (a0.size : Int) + (a1.size : Int) := by unfold wrap64; omega
  rw [hw]
  by_cases hbig : (a0.size : Int) + (a1.size : Int) > 8192
  · rw [if_pos hbig, alive_eq]; rfl
  · have hle := Esc.put_le a a0.data.toList
    have hge := put_ge a a0.data.toList
    have hle1 := Esc.put_le a a1.data.toList
    rw [data_len] at hle hge hle1
    rw [if_neg hbig, put_eq a a0 ha (by omega)]
    simp only [bs, mk_size]
    rw [if_neg (by omega), show wrap64 (2 * (a0.size : Int)) = 2 * (a0.size : Int) from by unfold wrap64; omega, if_neg (by omega), size_eq a a0 ha (by omega)]
    simp only [bs, if_true]
    rw [if_pos (by omega), put_eq a _ ha (by rw [ByteArray.size_append]; omega), put_eq a a1 ha (by omega)]
    simp only [bs, mk_size]
    rw [if_pos (by omega)]
    have e : ((⟨(Esc.put a (a0 ++ a1).data.toList).toArray⟩ : ByteArray).toList != ((⟨(Esc.put a a0.data.toList).toArray⟩ : ByteArray) ++ (⟨(Esc.put a a1.data.toList).toArray⟩ : ByteArray)).toList) = false := by
      rw [bne_eq_false_iff_eq, mk_list, ByteArray.toList_eq, ByteArray.data_append, ByteArray.data_append, Array.toList_append, Array.toList_append]
      simp [Esc.put]
    rw [e]
    simp only [halyardlaw03_EscapeClean.j0]
    rw [if_neg (by simp)]
    refine clean_l0 a ha _ (by rw [mk_size]; omega) ?_ _ 0 (by rw [mk_size]; omega)
    exact put_clean a a0.data.toList

end Go.Proofs.Ytphoemgnfmlngaa.Pure
