/-
  The pure law of FcsBack: what is sealed is good, opens as it was, nothing else is good, and a register takes two texts as one; for every two texts and register.
-/
import Derived.Test.YtphoemgnfmlngaaPFcsBackx1
import Derived.Lib.Bytes
set_option linter.unusedVariables false
set_option linter.unusedSimpArgs false
namespace Go.Proofs.Ytphoemgnfmlngaa.Pure
open Go.RowKit Go.Proofs.Ytphoemgnfmlngaa.PFcsBack Go.Proofs.YtphoemgnfmlngaaW.PrintWords Go.Proofs.YtphoemgnfmlngaaW.PrintLast

/-- Not by rfl: so the kernel is not asked to compare what is bound with what stands behind. -/
theorem bs {α β : Type} (a : α) (f : α → Option β) : (some a).bind f = f a := by rw [Option.bind_some]
theorem bytes_ext {a b : ByteArray} (h : a.data.toList = b.data.toList) : a = b := by
  cases a; cases b; simp at h; exact congrArg ByteArray.mk h
theorem more_eq (c : Nat) (s : ByteArray) (hc : c < 65536) (hs : s.size ≤ 9223372036854775807) : fcs_More.f (c : Int) s = some ((Fcs.more c (nats s.data.toList) : Nat) : Int) := by
  unfold fcs_More.f
  rw [if_pos ⟨by omega, by omega, hs⟩, Int.toNat_natCast]
theorem good_eq (s : ByteArray) (hs : s.size ≤ 9223372036854775807) : fcs_Good.f s = some (decide (2 ≤ s.size ∧ Fcs.more 65535 (nats s.data.toList) = 61624)) := by
  unfold fcs_Good.f
  by_cases h : 2 ≤ s.size
  · rw [if_pos (by omega), show (65535 : Int) = ((65535 : Nat) : Int) from rfl, more_eq _ _ (by decide) hs]
    simp only [bs, Option.some.injEq]
    rw [Bool.eq_iff_iff]
    simp only [beq_iff_eq, decide_eq_true_eq]
    constructor
    · intro e; exact ⟨h, by omega⟩
    · rintro ⟨_, e⟩; omega
  · rw [if_neg (by omega)]
    simp [h]
theorem alive_eq : halyardlaw02_alive.f = some true := by decide +kernel
theorem nats_length (l : List UInt8) : (nats l).length = l.length := by simp [nats]
theorem nats_inj {a b : List UInt8} (h : nats a = nats b) : a = b := by
  induction a generalizing b with
  | nil => cases b with
    | nil => rfl
    | cons => simp [nats] at h
  | cons x a ih => cases b with
    | nil => simp [nats] at h
    | cons y b =>
      simp only [nats, List.map_cons, List.cons.injEq] at h
      rw [ih h.2, UInt8.toNat_inj.1 h.1]
theorem data_len (s : ByteArray) : s.data.toList.length = s.size := by rw [Array.length_toList]; rfl
theorem wrap_sub (n : Nat) (h : 2 ≤ n) (h2 : n ≤ 9223372036854775807) : wrap64 ((n : Int) - 2) = ((n - 2 : Nat) : Int) := by
  unfold wrap64; omega
theorem extract_list (s : ByteArray) (n : Nat) : (s.extract 0 n).data.toList = s.data.toList.take n := by
  rw [ByteArray.data_extract, Array.toList_extract]; simp

theorem seal_list (n : Nat) (h : n < 65536) : (strOfNums [(n : Int) % 256, ((n : Int) / 256) % 256]).data.toList = [UInt8.ofNat (n % 256), UInt8.ofNat (n / 256)] := by
  rw [strOfNums_data]
  simp only [List.map_cons, List.map_nil, List.cons.injEq, and_true]
  constructor
  · congr 1
  · congr 1; omega
theorem seal_eq (s : ByteArray) (hs : s.size ≤ 9223372036854775805) : ∃ t : ByteArray, fcs_Seal.f s = some t ∧ nats t.data.toList = Fcs.sealed (nats s.data.toList) ∧ t.data.toList.take s.size = s.data.toList ∧ t.size = s.size + 2 := by
  have hlt : Fcs.sum (nats s.data.toList) < 65536 := Fcs.sum_lt _ (nats_lt _)
  unfold fcs_Seal.f fcs_Sum.f
  rw [if_pos (by omega)]
  simp only [bs]
  rw [if_pos (by rw [strOfNums_size]; simp; omega)]
  refine ⟨_, rfl, ?_, ?_, ?_⟩
  · rw [ByteArray.data_append, Array.toList_append, seal_list _ hlt]
    have e1 : (UInt8.ofNat (Fcs.sum (nats s.data.toList) % 256)).toNat = Fcs.sum (nats s.data.toList) % 256 := by
      rw [UInt8.toNat_ofNat']; omega
    have e2 : (UInt8.ofNat (Fcs.sum (nats s.data.toList) / 256)).toNat = Fcs.sum (nats s.data.toList) / 256 := by
      rw [UInt8.toNat_ofNat']; omega
    simp only [nats, List.map_append, List.map_cons, List.map_nil, Fcs.sealed] at e1 e2 ⊢
    rw [e1, e2]
  · rw [ByteArray.data_append, Array.toList_append, List.take_append_of_le_length (by rw [data_len]; omega), List.take_of_length_le (by rw [data_len]; omega)]
  · rw [ByteArray.size_append, strOfNums_size]; rfl
theorem open_bad (s : ByteArray) (hs : s.size ≤ 9223372036854775807) (h : ¬ (2 ≤ s.size ∧ Fcs.more 65535 (nats s.data.toList) = 61624)) :
    fcs_Open.f s = some ((⟨#[]⟩ : ByteArray), if s.size < 2 then 6 else 7) := by
  unfold fcs_Open.f
  by_cases h2 : s.size < 2
  · rw [if_pos (by omega), if_pos h2]
  · rw [if_neg (by omega), good_eq s hs, if_neg h2]
    simp only [bs, decide_eq_true_eq]
    rw [if_neg h]
theorem open_good (s : ByteArray) (hs : s.size ≤ 9223372036854775807) (h2 : 2 ≤ s.size) (h : Fcs.more 65535 (nats s.data.toList) = 61624) :
    fcs_Open.f s = some (s.extract 0 (s.size - 2), 0) := by
  unfold fcs_Open.f
  rw [if_neg (by omega), good_eq s hs]
  simp only [bs, decide_eq_true_eq]
  rw [if_pos ⟨h2, h⟩, wrap_sub _ h2 hs, if_pos (by omega), if_pos (by omega), Int.toNat_natCast]
theorem last_two (s : ByteArray) (h2 : 2 ≤ s.size) : ∃ x y, nats s.data.toList = nats (s.data.toList.take (s.size - 2)) ++ [x, y] ∧ x < 256 ∧ y < 256 := by
  have hl : (s.data.toList.drop (s.size - 2)).length = 2 := by rw [List.length_drop, data_len]; omega
  obtain ⟨x, y, hxy⟩ : ∃ x y, s.data.toList.drop (s.size - 2) = [x, y] := by
    match hq : s.data.toList.drop (s.size - 2), hl with
    | [x, y], _ => exact ⟨x, y, rfl⟩
  refine ⟨x.toNat, y.toNat, ?_, x.toNat_lt, y.toNat_lt⟩
  conv => lhs; rw [← List.take_append_drop (s.size - 2) s.data.toList, hxy]
  simp [nats]
/-- What is good is the seal of what it opens to. -/
theorem good_iff (s : ByteArray) (h2 : 2 ≤ s.size) : Fcs.more 65535 (nats s.data.toList) = 61624 ↔ nats s.data.toList = Fcs.sealed (nats (s.data.toList.take (s.size - 2))) := by
  obtain ⟨x, y, e, hx, hy⟩ := last_two s h2
  constructor
  · intro h
    rw [e] at h ⊢
    exact Fcs.good_seal _ x y (nats_lt _) hx hy h
  · intro h
    rw [h]
    exact Fcs.more_seal _ (nats_lt _)

theorem good_of_seal (s t : ByteArray) (hs : s.size ≤ 9223372036854775805) (h : fcs_Seal.f s = some t) : 2 ≤ t.size ∧ Fcs.more 65535 (nats t.data.toList) = 61624 ∧ t.size ≤ 9223372036854775807 ∧ t.extract 0 (t.size - 2) = s := by
  obtain ⟨t', h', e, ht, hz⟩ := seal_eq s hs
  rw [h'] at h
  obtain rfl := Option.some.inj h
  refine ⟨by omega, by rw [e]; exact Fcs.more_seal _ (nats_lt _), by omega, bytes_ext ?_⟩
  rw [extract_list, show t'.size - 2 = s.size from by omega, ht]
theorem j0_true (a1 : ByteArray) (hs : a1.size ≤ 8192) : halyardlaw02_FcsBack.j0 1 a1 false = some true := by
  simp only [halyardlaw02_FcsBack.j0]
  rw [if_neg (by simp)]
  by_cases hg : 2 ≤ a1.size ∧ Fcs.more 65535 (nats a1.data.toList) = 61624
  · obtain ⟨t, ht, e, hp, hz⟩ := seal_eq (a1.extract 0 (a1.size - 2)) (by simp [ByteArray.size_extract]; omega)
    have hta : t = a1 := by
      refine bytes_ext (nats_inj ?_)
      rw [e, extract_list]
      exact ((good_iff a1 hg.1).1 hg.2).symm
    subst hta
    rw [open_good t (by omega) hg.1 hg.2, good_eq t (by omega)]
    simp only [bs]
    rw [ht, alive_eq]
    simp [hg]
  · rw [open_bad a1 (by omega) hg, good_eq a1 (by omega)]
    simp only [bs]
    rw [if_pos (by rw [decide_eq_false hg]; split <;> rfl), if_neg (by split <;> decide), alive_eq]
    rfl

theorem FcsBack : halyardlaw02_FcsBack.Pure := by
  intro a0 a1 a2 h0 h1 h2
  have hb : 0 ≤ a2 ∧ a2 ≤ 65535 := by simpa [Lit.wf, IntKind.min, IntKind.max, IntKind.signed, IntKind.bits] using h2
  obtain ⟨c, rfl⟩ := Int.eq_ofNat_of_zero_le hb.1
  refine ⟨1, ?_⟩
  unfold halyardlaw02_FcsBack.f
  have hw : wrap64 ((a0.size : Int) + (a1.size : Int)) = (a0.size : Int) + (a1.size : Int) := by unfold wrap64; omega
  rw [hw]
  by_cases hbig : (a0.size : Int) + (a1.size : Int) > 8192
  · rw [if_pos hbig, alive_eq]; rfl
  · rw [if_neg hbig]
    obtain ⟨t, ht, e, hp, hz⟩ := seal_eq a0 (by omega)
    obtain ⟨g1, g2, g3, g4⟩ := good_of_seal a0 t (by omega) ht
    rw [ht]
    simp only [bs]
    rw [open_good t g3 g1 g2, good_eq t g3]
    simp only [bs, decide_eq_true_eq]
    rw [if_pos ⟨g1, g2⟩, if_pos (by rw [g4]), if_pos trivial, if_pos (by omega), more_eq c _ (by omega) (by rw [ByteArray.size_append]; omega), more_eq c a0 (by omega) (by omega)]
    simp only [bs]
    rw [more_eq _ a1 (Fcs.more_lt _ _ (by omega) (nats_lt _)) (by omega)]
    simp only [bs]
    have em : Fcs.more c (nats (a0 ++ a1).data.toList) = Fcs.more (Fcs.more c (nats a0.data.toList)) (nats a1.data.toList) := by
      rw [ByteArray.data_append, Array.toList_append, show nats (a0.data.toList ++ a1.data.toList) = nats a0.data.toList ++ nats a1.data.toList from List.map_append, Fcs.more_append]
    rw [em, bne_self_eq_false]
    exact j0_true a1 (by omega)

end Go.Proofs.Ytphoemgnfmlngaa.Pure
