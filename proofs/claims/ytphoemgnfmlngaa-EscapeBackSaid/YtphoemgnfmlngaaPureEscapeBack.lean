/-
  The plain law of EscapeBack: what was put is got, also with mapped bytes put in anywhere, once it is stripped.
-/
import Derived.Test.YtphoemgnfmlngaaPEscapeBackx1
import Derived.Lib.Bytes
set_option linter.unusedVariables false
set_option linter.unusedSimpArgs false
namespace Go.Proofs.Ytphoemgnfmlngaa.Pure
open Go.RowKit Go.Proofs.Ytphoemgnfmlngaa.PEscapeBack Go.Proofs.YtphoemgnfmlngaaW.PrintWords Go.Proofs.YtphoemgnfmlngaaW.PrintLast

theorem alive_eq : halyardlaw03_alive.f = some true := by decide +kernel
theorem put_clean (a : Nat) (l : List UInt8) : ∀ b ∈ Esc.put a l, b.toNat ≠ 126 ∧ Esc.mapped a b.toNat = false := by
  intro b hb
  simp only [Esc.put, List.mem_flatMap] at hb
  obtain ⟨c, _, hc⟩ := hb
  cases hE : Esc.isE a c with
  | false =>
    rw [hE] at hc
    simp at hc
    subst hc
    simp only [Esc.isE, Bool.or_eq_false_iff, beq_eq_false_iff_ne] at hE
    exact ⟨hE.1.2, hE.2⟩
  | true =>
    rw [hE] at hc
    simp at hc
    rcases hc with rfl | rfl
    · exact ⟨by decide, by simp [Esc.mapped]⟩
    · have hx : (c ^^^ 32).toNat = c.toNat ^^^ 32 := UInt8.toNat_xor ..
      simp only [Esc.isE, Bool.or_eq_true, beq_iff_eq] at hE
      rw [hx]
      rcases hE with (h | h) | h
      · rw [h]; exact ⟨by decide, by simp [Esc.mapped]⟩
      · rw [h]; exact ⟨by decide, by simp [Esc.mapped]⟩
      · simp only [Esc.mapped, Bool.and_eq_true, decide_eq_true_eq] at h
        have h2 : ∀ n, n < 32 → n ^^^ 32 = n + 32 := by decide
        rw [h2 _ h.1]
        exact ⟨by omega, by unfold Esc.mapped; rw [decide_eq_false (by omega), Bool.false_and]⟩
theorem put_cons (a : Nat) (b : UInt8) (l : List UInt8) : Esc.put a (b :: l) = (if Esc.isE a b then [125, b ^^^ 32] else [b]) ++ Esc.put a l := by simp [Esc.put]
theorem gets_put (a : Nat) (l : List UInt8) : ∀ o, (Esc.put a l).foldl Esc.gstep (o, false) = (o ++ l, false) := by
  induction l with
  | nil => intro o; simp [Esc.put]
  | cons b l ih =>
    intro o
    rw [put_cons]
    cases hE : Esc.isE a b with
    | true =>
      have hx : b ^^^ 32 ^^^ 32 = b := by rw [UInt8.xor_assoc]; simp
      simp only [if_true, List.cons_append, List.nil_append, List.foldl_cons]
      rw [show Esc.gstep (o, false) 125 = (o, true) from rfl, show Esc.gstep (o, true) (b ^^^ 32) = (o ++ [b ^^^ 32 ^^^ 32], false) from rfl, hx, ih]
      simp
    | false =>
      have hb : (b.toNat == 125) = false := by
        simp only [Esc.isE, Bool.or_eq_false_iff] at hE
        exact hE.1.1
      simp only [Bool.false_eq_true, if_false, List.cons_append, List.nil_append, List.foldl_cons]
      rw [show Esc.gstep (o, false) b = (o ++ [b], false) from by simp [Esc.gstep, hb], ih]
      simp
theorem get_put (a : Nat) (l : List UInt8) : Esc.get (Esc.put a l) = some l := by
  have h1 : Esc.flagged (Esc.put a l) = false := by
    rw [Esc.flagged, List.any_eq_false]
    intro b hb
    have := (put_clean a l b hb).1
    simpa using this
  have h2 := gets_put a l []
  rw [Esc.get, h1, Esc.gets, h2]
  simp
theorem strip_put (a : Nat) (l : List UInt8) : Esc.strip a (Esc.put a l) = Esc.put a l := by
  rw [Esc.strip, List.filter_eq_self]
  intro b hb
  rw [(put_clean a l b hb).2]; rfl
theorem strip_in_any (a : Nat) (l : List UInt8) (b : UInt8) (k : Nat) (h : Esc.mapped a b.toNat = true) : Esc.strip a (l.take k ++ [b] ++ l.drop k) = Esc.strip a l := by
  simp [Esc.strip, h]
  rw [← List.filter_append, List.take_append_drop]
end Go.Proofs.Ytphoemgnfmlngaa.Pure
