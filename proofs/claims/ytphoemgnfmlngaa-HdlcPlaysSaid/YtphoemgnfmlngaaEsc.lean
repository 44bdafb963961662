/-
  Layer 3 (escape): the small functions, walked: Mapped, turned, and the closure of Put.
-/
import Derived.Test.YtphoemgnfmlngaaIter
import Derived.Laws.BitsLemmas
import Derived.Test.YtphoemgnfmlngaaMore
set_option linter.unusedVariables false
set_option linter.unusedSimpArgs false
namespace Go.Proofs.Ytphoemgnfmlngaa
open Go.RowKit Go.Shelf

namespace Esc
def mapped (accm b : Nat) : Bool := decide (b < 32) && accm.testBit b
def isE (accm : Nat) (b : UInt8) : Bool := b.toNat == 125 || b.toNat == 126 || mapped accm b.toNat
def put (accm : Nat) (l : List UInt8) : List UInt8 := l.flatMap fun b => if isE accm b then [125, b ^^^ 32] else [b]
def strip (accm : Nat) (l : List UInt8) : List UInt8 := l.filter fun b => !mapped accm b.toNat
def gstep (q : List UInt8 × Bool) (b : UInt8) : List UInt8 × Bool := if q.2 then (q.1 ++ [b ^^^ 32], false) else if b.toNat == 125 then (q.1, true) else (q.1 ++ [b], false)
def gets (l : List UInt8) : List UInt8 × Bool := l.foldl gstep ([], false)
def flagged (l : List UInt8) : Bool := l.any fun b => b.toNat == 126
def get (l : List UInt8) : Option (List UInt8) := if flagged l then none else if (gets l).2 then none else some (gets l).1
theorem put_snoc (accm : Nat) (l : List UInt8) (b : UInt8) : put accm (l ++ [b]) = put accm l ++ (if isE accm b then [125, b ^^^ 32] else [b]) := by simp [put]
theorem strip_snoc (accm : Nat) (l : List UInt8) (b : UInt8) : strip accm (l ++ [b]) = strip accm l ++ (if mapped accm b.toNat then [] else [b]) := by
  cases h : mapped accm b.toNat <;> simp [strip, h]
theorem gets_snoc (l : List UInt8) (b : UInt8) : gets (l ++ [b]) = gstep (gets l) b := by simp [gets]
theorem flagged_snoc (l : List UInt8) (b : UInt8) : flagged (l ++ [b]) = (flagged l || b.toNat == 126) := by simp [flagged]
theorem put_le (accm : Nat) (l : List UInt8) : (put accm l).length ≤ 2 * l.length := by
  induction l with
  | nil => simp [put]
  | cons b l ih =>
    have : put accm (b :: l) = (if isE accm b then [125, b ^^^ 32] else [b]) ++ put accm l := by simp [put]
    rw [this, List.length_append, List.length_cons]
    split <;> simp <;> omega
theorem gets_le (l : List UInt8) : (gets l).1.length ≤ l.length := by
  have h : ∀ (l : List UInt8) (q : List UInt8 × Bool), (l.foldl gstep q).1.length ≤ q.1.length + l.length := by
    intro l
    induction l with
    | nil => intro q; simp
    | cons b l ih =>
      intro q
      have h1 := ih (gstep q b)
      have h2 : (gstep q b).1.length ≤ q.1.length + 1 := by
        unfold gstep
        split
        · simp
        · split <;> simp
      simp only [List.foldl_cons, List.length_cons]
      omega
  unfold gets; simpa using h l ([], false)
end Esc

theorem wrap_u32_nat (n : Nat) (h : n < 4294967296) : IntKind.u32.wrap (n : Int) = n := by rw [IntKind.wrap_u32]; omega
theorem and_one32 (v : Nat) (h : v < 4294967296) : bits .and .u32 (v : Int) 1 = ((v % 2 : Nat) : Int) := by
  have h2 := (bits_nat .u32 32 (by decide) (fun n h0 h1 => by rw [IntKind.wrap_u32]; omega) v 1 (by omega) (by decide)).1
  rw [Nat.and_one_is_mod] at h2
  exact h2

theorem mapped_calls (a b : Nat) (ha : a < 4294967296) (hb : b < 256) (w : World) :
    Calls Try.prog 29 #[.int .u32 a, .int .u8 b] w fun e w' => e = .returned (.bool (Esc.mapped a b)) ∧ w = w' := by
  by_cases h : b < 32
  · have h1 : decide ((b : Int) < 32) = true := by simp; omega
    have e : (bits BinOp.and IntKind.u32 ((a : Int) / 2 ^ b) 1 == 1) = Esc.mapped a b := by
      have hlt : a / 2 ^ b < 4294967296 := Nat.lt_of_le_of_lt (Nat.div_le_self _ _) ha
      have h3 := and_one32 (a / 2 ^ b) hlt
      have h4 : ((a / 2 ^ b : Nat) : Int) = (a : Int) / 2 ^ b := by rw [Int.natCast_ediv]; simp
      rw [h4] at h3
      rw [h3, Esc.mapped, Nat.testBit_eq_decide_div_mod_eq, decide_eq_true h, Bool.true_and, Bool.eq_iff_iff]
      simp only [beq_iff_eq, decide_eq_true_eq]
      omega
    go_enter Try.func29, Try.ntmps29
    go_wp2
    go_ret
    exact ⟨by rw [← e]; rfl, rfl⟩
  · have h1 : decide ((b : Int) < 32) = false := by simp; omega
    go_enter Try.func29, Try.ntmps29
    go_wp2
    go_ret
    exact ⟨by simp [Esc.mapped, h], rfl⟩

theorem turned_calls (b : UInt8) (w : World) :
    Calls Try.prog 54 #[.int .u8 (b.toNat : Int)] w fun e w' => e = .returned (.int .u8 (((b ^^^ 32).toNat : Nat) : Int)) ∧ w = w' := by
  have e := xor_u8 b.toNat 32 b.toNat_lt (by decide)
  go_enter Try.func54, Try.ntmps54
  go_wp2
  go_ret
  refine ⟨?_, rfl⟩
  rw [UInt8.toNat_xor]
  show Ending.returned (.int .u8 _) = Ending.returned (.int .u8 ((b.toNat ^^^ 32 : Nat) : Int))
  rw [← e]
  rfl

theorem is_calls (a : Nat) (b : UInt8) (B : Nat) (ha : a < 4294967296) (w : World) (hc : w.cell? ⟨B, 0, none⟩ = some (.int .u32 a)) :
    Calls Try.prog 56 #[.int .u8 (b.toNat : Int), .pointer (some ⟨B, 0, none⟩)] w fun e w' => e = .returned (.bool (Esc.isE a b)) ∧ w = w' := by
  have hb := b.toNat_lt
  have E : Hid (Esc.isE a b = (b.toNat == 125 || b.toNat == 126 || Esc.mapped a b.toNat)) := Lib.hid rfl
  generalize b.toNat = n at *
  by_cases h1 : n = 125
  · subst h1
    go_enter Try.func56, Try.ntmps56
    go_wp2_with fail
    go_ret
    exact ⟨by rw [E.out]; rfl, rfl⟩
  · have e1 : ((n : Int) == 125) = false := by rw [beq_eq_false_iff_ne]; omega
    by_cases h2 : n = 126
    · subst h2
      go_enter Try.func56, Try.ntmps56
      go_wp2_with fail
      go_ret
      exact ⟨by rw [E.out]; rfl, rfl⟩
    · have e2 : ((n : Int) == 126) = false := by rw [beq_eq_false_iff_ne]; omega
      go_enter Try.func56, Try.ntmps56
      go_wp2_with (go_at_call 29; refine (mapped_calls a n ha hb _).mono ?_; rintro e w' ⟨rfl, rfl⟩)
      go_ret
      exact ⟨by rw [E.out]; simp [h1, h2], rfl⟩
end Go.Proofs.Ytphoemgnfmlngaa
