/-
  Layer 8 (option): Long, Same, Equal, Alike, walked.
-/
import Derived.Test.YtlcckkdkcbelhaaDoorOpt
set_option linter.unusedVariables false
set_option linter.unusedSimpArgs false
namespace Go.Proofs.YtlcckkdkcbelhaaDoor
open Go.RowKit Go.Proofs.YtlcckkdkcbelhaaDoorW.PrintWords Go.Proofs.YtlcckkdkcbelhaaDoorW.PrintLast

theorem below_drewN {B : Nat} {a w : World} (h : Below B a w) (n : Nat) : Below B a (w.drewN n) := h.trans ⟨rfl, rfl, rfl, Nat.le_refl _, fun _ _ => rfl⟩
theorem eqA57 (d : Nat) (w : World) (x0 y0 : Int) (x1 y1 : ByteArray) :
    (Op.equalIn (d + 2) 57 (.agg #[.int .u8 x0, .string x1]) (.agg #[.int .u8 y0, .string y1])).run Tryd.prog w = .ok (x0 == y0 && (x1.toList == y1.toList)) w := by
  refine eqA_of Tryd.underlying57 (by kernel_rfl) ?_
  refine eqf_cons (by rfl) (by go_simp; rfl) (by go_simp; rfl) (by go_simp) ?_
  exact eqf_last (by rfl) (by go_simp; rfl) (by go_simp; rfl) (by go_simp)
theorem str_toList (x y : ByteArray) : (x.toList == y.toList) = decide (x = y) := by
  rw [Bool.eq_iff_iff]
  simp only [beq_iff_eq, decide_eq_true_eq]
  constructor
  · intro h
    rw [ByteArray.toList_eq, ByteArray.toList_eq] at h
    cases x; cases y; simpa using h
  · rintro rfl; rfl
/-- What '==' of two options computes. -/
theorem same_bool (o p : Opt) : (tv o.t == tv p.t && (o.d.toList == p.d.toList)) = decide (o = p) := by
  rw [str_toList, Bool.eq_iff_iff]
  simp only [Bool.and_eq_true, beq_iff_eq, decide_eq_true_eq]
  constructor
  · rintro ⟨h1, h2⟩
    cases o; cases p
    simp only at h1 h2
    rw [tv_inj h1, h2]
  · rintro rfl; simp
theorem differ_bool (o p : Opt) : (!(tv o.t == tv p.t) || !(o.d.toList == p.d.toList)) = !decide (o = p) := by
  rw [← same_bool, Bool.not_and]
theorem ti_bool (a b : UInt8) : (tv a == tv b) = decide (a = b) := by
  rw [Bool.eq_iff_iff, beq_iff_eq, decide_eq_true_eq]
  exact ⟨tv_inj, fun h => by rw [h]⟩
attribute [local go_sem high] eqA57
set_option maxRecDepth 100000 in
theorem same_calls (l m : List Opt) (a b : Option Addr) (c d : Nat) (w : World) (hl : Row w a c l) (hm : Row w b d m) (hs : l.length < 140737488355328) :
    Calls Tryd.prog 12 #[.slice a l.length c, .slice b m.length d] w fun e w' => e = .returned (.bool (decide (l = m))) ∧ Below w.heap.size w w' := by
  have hu57 := Tryd.underlying57
  have c0 := Lib.hid hl.1
  have d0 := Lib.hid hm.1
  by_cases hlen : l.length = m.length
  · have q1 : ((l.length : Int) != (m.length : Int)) = false := by simp; omega
    have q2 : (l.length == m.length) = true := by simp; omega
    have Hlen := Lib.hid hlen; clear hlen
    go_enter Tryd.func12, Tryd.ntmps12
    go_wp2
    clear q1 q2
    go_loopg [5] l.length (fun q i wr => ∃ k : Nat, k ≤ l.length ∧ q = l.length - k ∧ i = .int .i64 (k : Int) ∧ Hid (l.take k = m.take k) ∧ Below w.heap.size w wr)
    case atStart => exact ⟨0, by omega, rfl, rfl, Lib.hid (by simp), Below.refl _ _⟩
    case round =>
      obtain ⟨k, hk, hq, rfl, heq, hbel⟩ := hrel
      have A := Lib.hid hq; clear hq
      by_cases hlt : k < l.length
      · have h1 : decide ((k : Int) < (l.length : Int)) = true := by simp; omega
        have hlt2 : k < m.length := by have := Hlen.out; omega
        have h2 : decide ((k : Int) < (m.length : Int)) = true := by simp; omega
        obtain ⟨x, rfl, x0, x1⟩ := (hl.below hbel).at_ k hlt
        obtain ⟨y, rfl, y0, y1⟩ := (hm.below hbel).at_ k hlt2
        have hsn : Hid (l.take (k + 1) = l.take k ++ [l[k]] ∧ m.take (k + 1) = m.take k ++ [m[k]]) := Lib.hid ⟨List.take_succ_eq_append_getElem hlt, List.take_succ_eq_append_getElem hlt2⟩
        have hne : Hid (l[k] ≠ m[k] → l ≠ m) := Lib.hid (fun h e => h (by subst e; rfl))
        have hdf := differ_bool l[k] m[k]
        generalize l[k] = o at *
        generalize m[k] = p at *
        by_cases hop : o = p
        · have hb : (!(tv o.t == tv p.t) || !(o.d.toList == p.d.toList)) = false := by rw [hdf, decide_eq_true hop]; rfl
          clear hdf
          have Hop := Lib.hid hop; clear hop
          go_wp2
          repeat (go_quiet (fail); try go_wp2)
          go_roundg (l.length - (k + 1))
          case measure => have := A.out; omega
          case rel => exact ⟨k + 1, by omega, rfl, by go_num, Lib.hid (by rw [hsn.out.1, hsn.out.2, heq.out, Hop.out]), below_drewN hbel _⟩
        · have hb : (!(tv o.t == tv p.t) || !(o.d.toList == p.d.toList)) = true := by rw [hdf, decide_eq_false hop]; rfl
          clear hdf
          have Hop := Lib.hid hop; clear hop
          go_wp2
          repeat (go_quiet (fail); try go_wp2)
          go_ret
          exact ⟨by rw [decide_eq_false (hne.out Hop.out)]; rfl, below_drewN hbel _⟩
      · obtain rfl : k = l.length := by omega
        have h1 : decide ((l.length : Int) < (l.length : Int)) = false := by simp
        go_wp2
        go_ret
        refine ⟨?_, hbel⟩
        have := heq.out
        rw [List.take_length, Hlen.out, List.take_length] at this
        rw [decide_eq_true this]; rfl
  · have q1 : ((l.length : Int) != (m.length : Int)) = true := by simp; omega
    have q2 : (l.length == m.length) = false := by simp; omega
    have hne : l ≠ m := fun e => hlen (by rw [e])
    clear hlen
    go_enter Tryd.func12, Tryd.ntmps12
    go_wp2
    go_ret
    exact ⟨by rw [decide_eq_false hne]; rfl, Below.refl _ _⟩
set_option maxRecDepth 100000 in
theorem equal_calls (l m : List Opt) (a b : Option Addr) (c d : Nat) (w : World) (hl : Row w a c l) (hm : Row w b d m) (hs : l.length < 140737488355328) :
    Calls Tryd.prog 48 #[.slice a l.length c, .slice b m.length d] w fun e w' => e = .returned (.bool (decide (l = m))) ∧ Below w.heap.size w w' := by
  have hu57 := Tryd.underlying57
  have c0 := Lib.hid hl.1
  have d0 := Lib.hid hm.1
  by_cases hlen : l.length = m.length
  · have q1 : ((l.length : Int) != (m.length : Int)) = false := by simp; omega
    have q2 : (l.length == m.length) = true := by simp; omega
    have Hlen := Lib.hid hlen; clear hlen
    go_enter Tryd.func48, Tryd.ntmps48
    go_wp2
    clear q1 q2
    go_loopg [13] l.length (fun q i wr => ∃ k : Nat, k ≤ l.length ∧ q = l.length - k ∧ i = .int .i64 (k : Int) ∧ Hid (l.take k = m.take k) ∧ Below w.heap.size w wr)
    case atStart => exact ⟨0, by omega, rfl, rfl, Lib.hid (by simp), Below.refl _ _⟩
    case round =>
      obtain ⟨k, hk, hq, rfl, heq, hbel⟩ := hrel
      have A := Lib.hid hq; clear hq
      by_cases hlt : k < l.length
      · have h1 : decide ((k : Int) < (l.length : Int)) = true := by simp; omega
        have hlt2 : k < m.length := by have := Hlen.out; omega
        have h2 : decide ((k : Int) < (m.length : Int)) = true := by simp; omega
        obtain ⟨x, rfl, x0, x1⟩ := (hl.below hbel).at_ k hlt
        obtain ⟨y, rfl, y0, y1⟩ := (hm.below hbel).at_ k hlt2
        have hsn : Hid (l.take (k + 1) = l.take k ++ [l[k]] ∧ m.take (k + 1) = m.take k ++ [m[k]]) := Lib.hid ⟨List.take_succ_eq_append_getElem hlt, List.take_succ_eq_append_getElem hlt2⟩
        have hne : Hid (l[k] ≠ m[k] → l ≠ m) := Lib.hid (fun h e => h (by subst e; rfl))
        have hdf := differ_bool l[k] m[k]
        generalize l[k] = o at *
        generalize m[k] = p at *
        by_cases hop : o = p
        · have hb : (!(tv o.t == tv p.t) || !(o.d.toList == p.d.toList)) = false := by rw [hdf, decide_eq_true hop]; rfl
          clear hdf
          have Hop := Lib.hid hop; clear hop
          go_wp2
          repeat (go_quiet (fail); try go_wp2)
          go_roundg (l.length - (k + 1))
          case measure => have := A.out; omega
          case rel => exact ⟨k + 1, by omega, rfl, by go_num, Lib.hid (by rw [hsn.out.1, hsn.out.2, heq.out, Hop.out]), below_drewN hbel _⟩
        · have hb : (!(tv o.t == tv p.t) || !(o.d.toList == p.d.toList)) = true := by rw [hdf, decide_eq_false hop]; rfl
          clear hdf
          have Hop := Lib.hid hop; clear hop
          go_wp2
          repeat (go_quiet (fail); try go_wp2)
          go_ret
          exact ⟨by rw [decide_eq_false (hne.out Hop.out)]; rfl, below_drewN hbel _⟩
      · obtain rfl : k = l.length := by omega
        have h1 : decide ((l.length : Int) < (l.length : Int)) = false := by simp
        go_wp2
        go_ret
        refine ⟨?_, hbel⟩
        have := heq.out
        rw [List.take_length, Hlen.out, List.take_length] at this
        rw [decide_eq_true this]; rfl
  · have q1 : ((l.length : Int) != (m.length : Int)) = true := by simp; omega
    have q2 : (l.length == m.length) = false := by simp; omega
    have hne : l ≠ m := fun e => hlen (by rw [e])
    clear hlen
    go_enter Tryd.func48, Tryd.ntmps48
    go_wp2
    go_ret
    exact ⟨by rw [decide_eq_false hne]; rfl, Below.refl _ _⟩
set_option maxRecDepth 100000 in
theorem alike_calls (l m : List Opt) (a b : Option Addr) (c d : Nat) (w : World) (hl : Row w a c l) (hm : Row w b d m) (hs : l.length < 140737488355328) :
    Calls Tryd.prog 34 #[.slice a l.length c, .slice b m.length d] w fun e w' => e = .returned (.bool (decide (l = m))) ∧ Below w.heap.size w w' := by
  go_enter Tryd.func34, Tryd.ntmps34
  go_wp2_with (first
    | (go_at_call 48; with_reducible refine (equal_calls l m a b c d _ hl hm hs).mono ?_; rintro e w1 ⟨rfl, hb⟩))
  go_ret
  exact ⟨rfl, hb⟩
/-- The data of the first k options, in bytes. -/
def tot : List Opt → Nat
  | [] => 0
  | o :: l => o.d.size + tot l
theorem tot_append (l m : List Opt) : tot (l ++ m) = tot l + tot m := by
  induction l with
  | nil => simp [tot]
  | cons o l ih => simp [tot, ih]; omega
theorem tot_le (l : List Opt) (h : ∀ o ∈ l, o.d.size ≤ 140737488355328) : tot l ≤ l.length * 140737488355328 := by
  induction l with
  | nil => simp [tot]
  | cons o l ih =>
    have := ih (fun o ho => h o (List.mem_cons_of_mem _ ho))
    have := h o (List.mem_cons_self ..)
    simp only [tot, List.length_cons]; omega
theorem tot_mem (l : List Opt) (o : Opt) (h : o ∈ l) : o.d.size ≤ tot l := by
  induction l with
  | nil => simp at h
  | cons p l ih =>
    simp only [tot]
    rcases List.mem_cons.1 h with rfl | h
    · omega
    · have := ih h; omega
set_option maxRecDepth 100000 in
theorem long_calls (l : List Opt) (a : Option Addr) (c : Nat) (w : World) (h : Row w a c l) (hz : ∀ o ∈ l, o.d.size ≤ 140737488355328) :
    Calls Tryd.prog 9 #[.slice a l.length c] w fun e w' => ∃ b, e = .returned (.bool b) ∧ w' = w ∧ (b = false → l.length ≤ 70 ∧ tot l ≤ 4096) := by
  have c0 := Lib.hid h.1
  have hlc : l.length < 9223372036854775808 ∨ True := .inr trivial
  go_enter Tryd.func9, Tryd.ntmps9
  go_wp2
  go_loopg [3, 4] (l.length + 1) (fun q n i wr => ∃ (k : Nat), k ≤ l.length ∧ k ≤ 80 ∧ q = l.length + 1 - k ∧ n = .int .i64 ((tot (l.take k) : Nat) : Int) ∧ i = .int .i64 (k : Int) ∧ wr = w)
  case atStart => exact ⟨0, by omega, by omega, rfl, rfl, rfl, rfl⟩
  case round =>
    obtain ⟨k, hk, hk2, hq, rfl, rfl, rfl⟩ := hrel
    have A := Lib.hid hq; clear hq
    have htl := tot_le (l.take k) (fun o ho => hz o (List.mem_of_mem_take ho))
    rw [List.length_take, Nat.min_eq_left hk] at htl
    have htn : ((tot (l.take k) : Nat) : Int) ≤ 28147497671065600 := by omega
    by_cases hlt : k < l.length
    · have h1 : decide ((k : Int) < (l.length : Int)) = true := by simp; omega
      by_cases hl2 : k < 80
      · have h2 : decide ((k : Int) < 80) = true := by simp; omega
        obtain ⟨x, rfl, x0, x1⟩ := h.at_ k hlt
        have hdz := hz l[k] (List.getElem_mem _)
        have hdn : ((l[k].d.size : Nat) : Int) ≤ 140737488355328 := by omega
        have hnx : Hid (tot (l.take (k + 1)) = tot (l.take k) + l[k].d.size) := Lib.hid (by rw [List.take_succ_eq_append_getElem hlt, tot_append]; simp [tot])
        clear htl x0
        generalize tot (l.take k) = tk at *
        generalize l[k] = o at *
        generalize o.d = dk at *
        go_wp2
        go_roundg (l.length + 1 - (k + 1))
        case measure => have := A.out; omega
        case rel => exact ⟨k + 1, by omega, by omega, rfl, by rw [hnx.out]; rfl, by go_num, rfl⟩
      · obtain rfl : k = 80 := by omega
        have h3 : decide ((70 : Int) < (l.length : Int)) = true := by simp; omega
        have h3' : decide (70 < l.length) = true := by simp; omega
        generalize tot (l.take 80) = tk at *
        go_wp2
        go_ret
        exact ⟨true, rfl, rfl, fun e => by cases e⟩
    · obtain rfl : k = l.length := by omega
      rw [List.take_length] at *
      have h1 : decide ((l.length : Int) < (l.length : Int)) = false := by simp
      by_cases h4 : 70 < l.length
      · have h3 : decide ((70 : Int) < (l.length : Int)) = true := by simp; omega
        have h3' : decide (70 < l.length) = true := by simp; omega
        generalize tot l = tk at *
        go_wp2
        go_ret
        exact ⟨true, rfl, rfl, fun e => by cases e⟩
      · have h3 : decide ((70 : Int) < (l.length : Int)) = false := by simp; omega
        have h3' : decide (70 < l.length) = false := by simp; omega
        generalize htk : tot l = tk at *
        have Htk := Lib.hid htk; clear htk
        by_cases h5 : 4096 < tk
        · have h6 : decide ((4096 : Int) < (tk : Int)) = true := by simp; omega
          have h6' : decide (4096 < tk) = true := by simp; omega
          go_wp2
          go_ret
          exact ⟨true, rfl, rfl, fun e => by cases e⟩
        · have h6 : decide ((4096 : Int) < (tk : Int)) = false := by simp; omega
          have h6' : decide (4096 < tk) = false := by simp; omega
          go_wp2
          go_ret
          exact ⟨false, rfl, rfl, fun _ => ⟨by omega, by rw [Htk.out]; omega⟩⟩
end Go.Proofs.YtlcckkdkcbelhaaDoor
