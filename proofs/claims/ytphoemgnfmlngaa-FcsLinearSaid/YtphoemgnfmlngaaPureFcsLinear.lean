/-
  The pure law of FcsLinear: registers and texts go through each other bit by bit; for every two registers, text and turning bytes.
-/
import Derived.Test.YtphoemgnfmlngaaPFcsLinearx2
import Derived.Lib.Bytes
set_option linter.unusedVariables false
set_option linter.unusedSimpArgs false
namespace Go.Proofs.Ytphoemgnfmlngaa.Pure
open Go.RowKit Go.Proofs.Ytphoemgnfmlngaa.PFcsLinear Go.Proofs.YtphoemgnfmlngaaW.PrintWords Go.Proofs.YtphoemgnfmlngaaW.PrintLast

/-- Not by rfl: so the kernel is not asked to compare what is bound with what stands behind. -/
theorem bs {α β : Type} (a : α) (f : α → Option β) : (some a).bind f = f a := by rw [Option.bind_some]
theorem bytes_ext {a b : ByteArray} (h : a.data.toList = b.data.toList) : a = b := by
  cases a; cases b; simp at h; exact congrArg ByteArray.mk h
theorem more_eq (c : Nat) (s : ByteArray) (hc : c < 65536) (hs : s.size ≤ 9223372036854775807) : fcs_More.f (c : Int) s = some ((Fcs.more c (nats s.data.toList) : Nat) : Int) := by
  unfold fcs_More.f
  rw [if_pos ⟨by omega, by omega, hs⟩, Int.toNat_natCast]
theorem good_eq (s : ByteArray) (hs : s.size ≤ 9223372036854775807) : fcs_Good.f s = some (decide (2 ≤ s.size ∧ Fcs.more 65535 (nats s.data.toList) = 61624)) := by
  unfold fcs_Good.f
  by_cases h : 2 ≤ s.size
  · rw [if_pos (by omega), show (65535 : Int) = ((65535 : Nat) : Int) from rfl, more_eq _ _ (by decide) hs]
    simp only [bs, Option.some.injEq]
    rw [Bool.eq_iff_iff]
    simp only [beq_iff_eq, decide_eq_true_eq]
    constructor
    · intro e; exact ⟨h, by omega⟩
    · rintro ⟨_, e⟩; omega
  · rw [if_neg (by omega)]
    simp [h]
theorem alive_eq : halyardlaw02_alive.f = some true := by decide +kernel
theorem nats_length (l : List UInt8) : (nats l).length = l.length := by simp [nats]
theorem nats_inj {a b : List UInt8} (h : nats a = nats b) : a = b := by
  induction a generalizing b with
  | nil => cases b with
    | nil => rfl
    | cons => simp [nats] at h
  | cons x a ih => cases b with
    | nil => simp [nats] at h
    | cons y b =>
      simp only [nats, List.map_cons, List.cons.injEq] at h
      rw [ih h.2, UInt8.toNat_inj.1 h.1]
theorem data_len (s : ByteArray) : s.data.toList.length = s.size := by rw [Array.length_toList]; rfl
theorem wrap_sub (n : Nat) (h : 2 ≤ n) (h2 : n ≤ 9223372036854775807) : wrap64 ((n : Int) - 2) = ((n - 2 : Nat) : Int) := by
  unfold wrap64; omega
theorem extract_list (s : ByteArray) (n : Nat) : (s.extract 0 n).data.toList = s.data.toList.take n := by
  rw [ByteArray.data_extract, Array.toList_extract]; simp

theorem nums_zip : ∀ (s t : List UInt8), nats (List.zipWith (· ^^^ ·) s t) = List.zipWith (· ^^^ ·) (nats s) (nats t)
  | [], _ => by simp [nats]
  | _ :: _, [] => by simp [nats]
  | a :: s, b :: t => by
    have := nums_zip s t
    simp only [nats, List.zipWith_cons_cons, List.map_cons, UInt8.toNat_xor] at this ⊢
    rw [this]
theorem bt_nat (s : ByteArray) (i : Nat) (h : i < s.size) : bt s (i : Int) = ((s[i].toNat : Nat) : Int) := by
  unfold bt
  rw [Int.toNat_natCast, dif_pos h]
/-- A row of bytes as numbers. -/
def ints (l : List UInt8) : List Int := l.map fun b => ((b.toNat : Nat) : Int)
theorem ints_str (l : List UInt8) : (strOfNums (ints l)).data.toList = l := by
  rw [strOfNums_data, ints, List.map_map]
  conv => rhs; rw [← List.map_id l]
  apply List.map_congr_left
  intro b _
  simp
theorem ints_length (l : List UInt8) : (ints l).length = l.length := by simp [ints]
theorem ints_set (l : List UInt8) (i : Nat) (b : UInt8) : (ints l).set i ((b.toNat : Nat) : Int) = ints (l.set i b) := by
  rw [ints, ints, List.map_set]
theorem rd_ints (l : List UInt8) (i : Nat) (h : i < l.length) : rd (ints l) (i : Int) = ((l[i].toNat : Nat) : Int) := by
  rw [rd, Int.toNat_natCast, List.getD_eq_getElem?_getD, ints, List.getElem?_map, List.getElem?_eq_getElem h]
  rfl
theorem byte_xor8 (a b : UInt8) : bits .xor .u8 ((a.toNat : Nat) : Int) ((b.toNat : Nat) : Int) = (((a ^^^ b).toNat : Nat) : Int) := by
  rw [xor_u8 _ _ a.toNat_lt b.toNat_lt, UInt8.toNat_xor]
/-- The loop from place i on: t has been filled, u is the exclusive or of both, up to i. -/
theorem l0_eq (c d : Nat) (hc : c < 65536) (hd : d < 65536) (s by_ : ByteArray) (hs : s.size ≤ 4096) (hby : by_.size ≤ 140737488351232) (m : Nat) : ∀ (i : Nat) (t u : List UInt8), i + m = s.size → t.length = s.size → u.length = s.size →
    u.take i = List.zipWith (· ^^^ ·) (s.data.toList.take i) (t.take i) → halyardlaw02_FcsLinear.l0 (m + 1) c d s by_ (ints t) (ints u) (i : Int) = some true := by
  induction m with
  | zero =>
    intro i t u hi ht hu he
    simp only [halyardlaw02_FcsLinear.l0]
    rw [if_neg (by omega)]
    have hx : bits .xor .u16 (c : Int) (d : Int) = ((c ^^^ d : Nat) : Int) := xor_u16 c d hc hd
    have hcd : c ^^^ d < 65536 := Nat.xor_lt_two_pow (n := 16) hc hd
    have sz : ∀ l : List UInt8, l.length = s.size → (strOfNums (ints l)).size ≤ 9223372036854775807 := fun l hl => by rw [strOfNums_size, ints_length]; omega
    rw [hx, more_eq _ _ hcd (sz u hu), more_eq c s hc (by omega), more_eq d _ hd (sz t ht)]
    simp only [bs]
    rw [ints_str, ints_str]
    have hu2 : u = List.zipWith (· ^^^ ·) s.data.toList t := by
      rw [List.take_of_length_le (by omega), List.take_of_length_le (by rw [data_len]; omega), List.take_of_length_le (by omega)] at he
      exact he
    rw [if_pos, alive_eq]
    · rfl
    · rw [xor_u16 _ _ (Fcs.more_lt _ _ hc (nats_lt _)) (Fcs.more_lt _ _ hd (nats_lt _)), hu2, nums_zip, Fcs.more_xor _ _ (by simp [nats_length, data_len]; omega)]
  | succ m ih =>
    intro i t u hi ht hu he
    have hlt : i < s.size := by omega
    have hwr : wrap64 ((i : Int) + 1) = ((i + 1 : Nat) : Int) := by unfold wrap64; omega
    have hnext : ∀ (t' : List UInt8) (x : UInt8), t'.length = s.size → t'.take i = t.take i → t'[i]? = some x → halyardlaw02_FcsLinear.l0 (m + 1) c d s by_ (ints t') (ints (u.set i (s[i] ^^^ x))) ((i + 1 : Nat) : Int) = some true := by
      intro t' x ht' hti hx
      refine ih (i + 1) t' _ (by omega) ht' (by rw [List.length_set]; exact hu) ?_
      have h1 : i < s.data.toList.length := by rw [data_len]; exact hlt
      have h2 : i < t'.length := by omega
      have h3 : i < (u.set i (s[i] ^^^ x)).length := by rw [List.length_set]; omega
      rw [List.take_succ_eq_append_getElem h1, List.take_succ_eq_append_getElem h2, List.take_succ_eq_append_getElem h3, List.zipWith_append (by simp [data_len]; omega)]
      rw [List.take_set_of_le (Nat.le_refl i), he, hti]
      have hx2 : t'[i] = x := by rw [List.getElem?_eq_getElem h2] at hx; exact Option.some.inj hx
      have hs1 : s.data.toList[i] = s[i] := rfl
      simp only [List.getElem_set_self, List.zipWith_cons_cons, List.zipWith_nil_left, hx2, hs1]
    simp only [halyardlaw02_FcsLinear.l0]
    rw [if_pos (by omega)]
    by_cases hb : (by_.size : Int) > 0
    · have hq : Int.tmod (i : Int) (by_.size : Int) = ((i % by_.size : Nat) : Int) := by rw [Int.ofNat_tmod]
      have hqlt : i % by_.size < by_.size := Nat.mod_lt _ (by omega)
      rw [if_pos hb, if_neg (by omega), hq, if_pos (by omega), if_pos (by omega), if_pos (by omega), if_pos (by rw [ints_length]; omega)]
      simp only [bs]
      rw [if_pos (by rw [ints_length]; omega), Int.toNat_natCast, bt_nat _ _ hqlt, ints_set, bt_nat _ _ hlt, rd_ints _ _ (by rw [List.length_set]; omega), byte_xor8, ints_set, hwr]
      exact hnext (t.set i by_[i % by_.size]) _ (by rw [List.length_set]; exact ht) (by rw [List.take_set_of_le (Nat.le_refl i)]) (List.getElem?_eq_getElem _)
    · rw [if_neg hb, if_pos (by omega), if_pos (by rw [ints_length]; omega), if_pos (by rw [ints_length]; omega), Int.toNat_natCast, bt_nat _ _ hlt, rd_ints _ _ (by omega), byte_xor8, ints_set, hwr]
      exact hnext t _ ht rfl (List.getElem?_eq_getElem _)

theorem FcsLinear : halyardlaw02_FcsLinear.Pure := by
  intro a0 a1 a2 a3 h0 h1 h2 h3
  have hb0 : 0 ≤ a0 ∧ a0 ≤ 65535 := by simpa [Lit.wf, IntKind.min, IntKind.max, IntKind.signed, IntKind.bits] using h0
  have hb1 : 0 ≤ a1 ∧ a1 ≤ 65535 := by simpa [Lit.wf, IntKind.min, IntKind.max, IntKind.signed, IntKind.bits] using h1
  obtain ⟨c, rfl⟩ := Int.eq_ofNat_of_zero_le hb0.1
  obtain ⟨d, rfl⟩ := Int.eq_ofNat_of_zero_le hb1.1
  refine ⟨a2.size + 1, ?_⟩
  unfold halyardlaw02_FcsLinear.f
  by_cases hbig : (a2.size : Int) > 4096
  · rw [if_pos hbig, alive_eq]; rfl
  · rw [if_neg hbig, if_pos (by omega), if_pos (by omega), Int.toNat_natCast]
    have hz : List.replicate a2.size (0 : Int) = ints (List.replicate a2.size 0) := by simp [ints]
    rw [hz]
    exact l0_eq c d (by omega) (by omega) a2 a3 (by omega) h3 a2.size 0 _ _ (by omega) (by simp) (by simp) (by simp)

end Go.Proofs.Ytphoemgnfmlngaa.Pure
