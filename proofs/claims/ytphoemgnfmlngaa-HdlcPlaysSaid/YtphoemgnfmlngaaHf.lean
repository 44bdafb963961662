/-
  Layer 4 (hdlc): Same, walked.
-/
import Derived.Test.YtphoemgnfmlngaaHe
set_option linter.unusedVariables false
set_option linter.unusedSimpArgs false
namespace Go.Proofs.Ytphoemgnfmlngaa
open Go.RowKit Go.Proofs.YtphoemgnfmlngaaW.PrintWords Go.Proofs.YtphoemgnfmlngaaW.PrintLast

theorem row_form {w : World} {B n s : Nat} {e : TypeId} {v : Value} {xs : List Value} (h : w.ownsRow B e s v n xs) : ∃ a c, v = .slice a n c := by
  rcases h.2 with ⟨rfl, h0⟩ | ⟨g, cap, cur, rfl, _⟩
  · exact ⟨none, 0, by rw [h0]⟩
  · exact ⟨_, _, rfl⟩
theorem row_some {w : World} {B n s : Nat} {e : TypeId} {a : Option Addr} {c : Nat} {xs : List Value} (h : w.ownsRow B e s (.slice a n c) n xs) (hn : 0 < n) : ∃ g, a = some ⟨g, 0, none⟩ := by
  rcases h.2 with ⟨_, h0⟩ | ⟨g, cap, cur, e, _⟩
  · omega
  · cases e
    exact ⟨_, rfl⟩
theorem row_cell {w : World} {B n g c : Nat} {l : List (List UInt8)} (h : w.ownsRow B 9 1 (.slice (some ⟨g, 0, none⟩) n c) n (strs l)) (k : Nat) (hk : k < l.length) : w.cell? ⟨g, k, none⟩ = some (.string (str l[k])) := by
  have := h.cells (g := g) rfl k (.string (str l[k])) (by simp [strs, List.getElem?_eq_getElem hk])
  have ha : (⟨g, 0, none⟩ : Addr).add k = ⟨g, k, none⟩ := by unfold Addr.add; split <;> simp_all
  rw [ha] at this
  exact this
theorem toList_loop (s : ByteArray) (n : Nat) : ∀ i r, s.size - i = n → ByteArray.toList.loop s i r = r.reverse ++ s.data.toList.drop i := by
  have hl : s.data.toList.length = s.size := by rw [Array.length_toList]; rfl
  induction n with
  | zero =>
    intro i r h
    rw [ByteArray.toList.loop, if_neg (by omega), List.drop_eq_nil_of_le (by omega), List.append_nil]
  | succ n ih =>
    intro i r h
    have hi : i < s.data.toList.length := by omega
    have hd : i < s.data.size := by simpa using hi
    rw [ByteArray.toList.loop, if_pos (by omega), ih _ _ (by omega), List.reverse_cons, List.append_assoc, List.drop_eq_getElem_cons hi]
    have hg : s.get! i = s.data.toList[i] := by
      rw [show s.get! i = s.data[i]! from rfl, getElem!_pos s.data i hd, Array.getElem_toList]
    rw [hg]
    rfl
theorem toList_data (s : ByteArray) : s.toList = s.data.toList := by
  unfold ByteArray.toList
  rw [toList_loop s (s.size - 0) 0 [] rfl]
  rfl
theorem str_eq (l m : List UInt8) : (str l = str m) = (l = m) := by
  rw [eq_iff_iff]
  constructor
  · intro h
    have := congrArg (fun b : ByteArray => b.data.toList) h
    exact this
  · rintro rfl; rfl
set_option maxRecDepth 100000 in
theorem same_calls (l m : List (List UInt8)) (B1 B2 : Nat) (v u : Value) (w : World) (h1 : w.ownsRow B1 9 1 v l.length (strs l)) (h2 : w.ownsRow B2 9 1 u m.length (strs m)) (hl : l.length ≤ 1000000) (hm : m.length ≤ 1000000) :
    Calls Try.prog 41 #[v, u] w fun e w' => e = .returned (.bool (decide (l = m))) ∧ Below w.heap.size w w' := by
  obtain ⟨va, vc, rfl⟩ := row_form h1
  obtain ⟨ua, uc, rfl⟩ := row_form h2
  by_cases hlen : l.length = m.length
  · have q0 : ((l.length : Int) == (m.length : Int)) = true := by rw [hlen]; simp
    rw [← hlen] at h2
    generalize hN : m.length = N at *
    go_enter Try.func41, Try.ntmps41
    go_wp2
    go_loopg [5] l.length (fun q i wr => ∃ k : Nat, k ≤ l.length ∧ q = l.length - k ∧ i = .int .i64 (k : Int) ∧ Hid (l.take k = m.take k) ∧ Below w.heap.size w wr)
    case atStart => exact ⟨0, by omega, rfl, rfl, Lib.hid rfl, Below.refl _ _⟩
    case round =>
      obtain ⟨k, hk, hq, rfl, hT, hB⟩ := hrel
      have A := Lib.hid hq; clear hq
      by_cases hlt : k < l.length
      · have hh : decide ((k : Int) < (l.length : Int)) = true := by simp; omega
        obtain ⟨g1, rfl⟩ := row_some h1 (by omega)
        obtain ⟨g2, rfl⟩ := row_some h2 (by omega)
        have hltm : k < m.length := by omega
        have c1 := fun n => row_cell (own_below h1 (below_drewN hB n)) k hlt
        have c2 := fun n => row_cell (own_below h2 (below_drewN hB n)) k hltm
        have d1 := row_cell (own_below h1 hB) k hlt
        have d2 := row_cell (own_below h2 hB) k hltm
        by_cases he : l[k] = m[k]
        · rw [he] at c1 d1
          go_wp2
          go_quiet (fail)
          go_wp2
          go_roundg (l.length - (k + 1))
          case measure => have := A.out; omega
          case rel => exact ⟨k + 1, by omega, rfl, by go_num, Lib.hid (by rw [List.take_succ_eq_append_getElem hlt, List.take_succ_eq_append_getElem hltm, hT.out, he]), below_drewN hB _⟩
        · have he2 : ¬ str l[k] = str m[k] := by intro e; rw [str_eq] at e; exact he e
          have he3 : ((str l[k]).toList == (str m[k]).toList) = false := by rw [toList_data, toList_data, beq_eq_false_iff_ne]; exact he
          have hne : l ≠ m := by intro e; subst e; exact he rfl
          go_wp2
          go_quiet (fail)
          go_wp2
          go_ret
          exact ⟨by rw [decide_eq_false hne]; rfl, below_drewN hB _⟩
      · obtain rfl : k = l.length := by omega
        have hh : decide (((l.length : Nat) : Int) < (l.length : Int)) = false := by simp
        have hT2 := hT.out
        rw [List.take_of_length_le (Nat.le_refl _), List.take_of_length_le (by omega)] at hT2
        go_wp2
        go_ret
        exact ⟨by rw [decide_eq_true hT2]; rfl, hB⟩
  · have q0 : ((l.length : Int) == (m.length : Int)) = false := by rw [beq_eq_false_iff_ne]; omega
    have hne : l ≠ m := by rintro rfl; exact hlen rfl
    go_enter Try.func41, Try.ntmps41
    go_wp2
    go_ret
    exact ⟨by rw [decide_eq_false hne]; rfl, Below.refl _ _⟩
end Go.Proofs.Ytphoemgnfmlngaa
