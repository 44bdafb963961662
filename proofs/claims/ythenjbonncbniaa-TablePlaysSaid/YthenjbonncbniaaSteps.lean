/-
  Layer 25 (table): a script that came in; long, walked.
-/
import Derived.Test.YthenjbonncbniaaBoth
set_option linter.unusedVariables false
set_option linter.unusedSimpArgs false
namespace Go.Proofs.Ythenjbonncbniaa
open Go.RowKit Go.Proofs.YthenjbonncbniaaW.PrintWords Go.Proofs.YthenjbonncbniaaW.PrintLast

/-- What is known of a script that came in: each step's three cells. -/
def IsSteps (w : World) (a : Option Addr) (len cap : Nat) (f : Nat → Int × Int × ByteArray) : Prop :=
  (len = 0) ∨ ∃ x, a = some x ∧ len ≤ cap ∧ ∀ i, i < len → w.cell? (x.add (i * 3)) = some (.int .i64 (f i).1) ∧ w.cell? (x.add (i * 3 + 1)) = some (.int .i64 (f i).2.1) ∧ w.cell? (x.add (i * 3 + 2)) = some (.string (f i).2.2)
theorem add_field (x : Addr) (n j : Nat) (hj : j ≠ 0) : x.add (n + j) = ⟨(x.add n).block, (x.add n).off + j, none⟩ := by
  unfold Addr.add
  rw [if_neg (by omega)]
  by_cases h : n = 0
  · subst h; simp
  · rw [if_neg h]; simp; omega
theorem IsSteps.at_ {w W : World} {a : Option Addr} {len cap : Nat} {f : Nat → Int × Int × ByteArray} (h : IsSteps w a len cap f) (hb : Below w.heap.size w W) (i : Nat) (hi : i < len) :
    ∃ x, a = some x ∧ W.cell? (x.add (i * 3)) = some (.int .i64 (f i).1) ∧ W.cell? ⟨(x.add (i * 3)).block, (x.add (i * 3)).off + 1, none⟩ = some (.int .i64 (f i).2.1) ∧ W.cell? ⟨(x.add (i * 3)).block, (x.add (i * 3)).off + 2, none⟩ = some (.string (f i).2.2) := by
  rcases h with h0 | ⟨x, rfl, h1, h2⟩
  · omega
  · obtain ⟨c0, c1, c2⟩ := h2 i hi
    rw [add_field x _ 1 (by decide)] at c1
    rw [add_field x _ 2 (by decide)] at c2
    exact ⟨x, rfl, (hb.cell (cell_lt c0)).trans c0, (hb.cell (cell_lt c1)).trans c1, (hb.cell (cell_lt c2)).trans c2⟩
set_option maxRecDepth 100000 in
theorem long_calls (a : Option Addr) (len cap : Nat) (f : Nat → Int × Int × ByteArray) (w : World) (h : IsSteps w a len cap f) :
    Calls Try.prog 23 #[.slice a len cap] w fun e w' => ∃ b, e = .returned (.bool b) ∧ w' = w ∧ (b = false → len ≤ 150) := by
  go_enter Try.func23, Try.ntmps23
  go_wp2
  go_loopg [3, 4] (len + 1) (fun q n i wr => ∃ (k : Nat) (z : Int), k ≤ len ∧ k ≤ 200 ∧ q = len + 1 - k ∧ n = .int .i64 z ∧ i = .int .i64 (k : Int) ∧ wr = w)
  case atStart => exact ⟨0, 0, by omega, by omega, rfl, rfl, rfl, rfl⟩
  case round =>
    obtain ⟨k, z, hk, hk2, hq, rfl, rfl, rfl⟩ := hrel
    have A := Lib.hid hq; clear hq
    by_cases hlt : k < len
    · have h1 : decide ((k : Int) < (len : Int)) = true := by simp; omega
      by_cases hl2 : k < 200
      · have h2 : decide ((k : Int) < 200) = true := by simp; omega
        obtain ⟨x, rfl, c0, c1, c2⟩ := h.at_ (Below.refl _ _) k hlt
        go_wp2
        go_roundg (len + 1 - (k + 1))
        case measure => have := A.out; omega
        case rel => exact ⟨k + 1, _, by omega, by omega, rfl, rfl, by go_num, rfl⟩
      · obtain rfl : k = 200 := by omega
        have h3 : decide ((150 : Int) < (len : Int)) = true := by simp; omega
        have h3' : decide (150 < len) = true := by simp; omega
        go_wp2
        go_ret
        exact ⟨true, rfl, rfl, fun e => by cases e⟩
    · obtain rfl : k = len := by omega
      have h1 : decide ((k : Int) < (k : Int)) = false := by simp
      by_cases h4 : 150 < k
      · have h3 : decide ((150 : Int) < (k : Int)) = true := by simp; omega
        have h3' : decide (150 < k) = true := by simp; omega
        go_wp2
        go_ret
        exact ⟨true, rfl, rfl, fun e => by cases e⟩
      · have h3 : decide ((150 : Int) < (k : Int)) = false := by simp; omega
        have h3' : decide (150 < k) = false := by simp; omega
        go_wp2
        go_ret
        exact ⟨_, rfl, rfl, fun _ => by omega⟩
end Go.Proofs.Ythenjbonncbniaa
