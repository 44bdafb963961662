/-
  Layer 8 (option): Long told as a function; append of a row that came in.
-/
import Derived.Test.YtlcckkdkcbelhaaDoorRd
import Derived.Test.YtlcckkdkcbelhaaDoorFlt
import Derived.Laws.AppendOwnNone
set_option linter.unusedVariables false
set_option linter.unusedSimpArgs false
namespace Go.Proofs.YtlcckkdkcbelhaaDoor
open Go.RowKit Go.Proofs.YtlcckkdkcbelhaaDoorW.PrintWords Go.Proofs.YtlcckkdkcbelhaaDoorW.PrintLast

/-- What Long answers. -/
def longB (l : List Opt) : Bool := decide (70 < l.length ∨ 4096 < tot l)
theorem longB_len {l : List Opt} (h : 70 < l.length) : longB l = true := decide_eq_true (.inl h)
theorem longB_tot {l : List Opt} (h : 4096 < tot l) (h2 : l.length ≤ 70) : longB l = true := decide_eq_true (.inr h)
theorem longB_no {l : List Opt} (h : tot l ≤ 4096) (h2 : l.length ≤ 70) : longB l = false := decide_eq_false (by omega)
theorem longB_spec {l : List Opt} (h : longB l = false) : l.length ≤ 70 ∧ tot l ≤ 4096 := by
  have := of_decide_eq_false h
  omega
set_option maxRecDepth 100000 in
theorem long_det (l : List Opt) (a : Option Addr) (c : Nat) (w : World) (h : Row w a c l) (hz : ∀ o ∈ l, o.d.size ≤ 140737488355328) :
    Calls Tryd.prog 9 #[.slice a l.length c] w fun e w' => e = .returned (.bool (longB l)) ∧ w' = w := by
  have c0 := Lib.hid h.1
  have hlc : l.length < 9223372036854775808 ∨ True := .inr trivial
  go_enter Tryd.func9, Tryd.ntmps9
  go_wp2
  go_loopg [3, 4] (l.length + 1) (fun q n i wr => ∃ (k : Nat), k ≤ l.length ∧ k ≤ 80 ∧ q = l.length + 1 - k ∧ n = .int .i64 ((tot (l.take k) : Nat) : Int) ∧ i = .int .i64 (k : Int) ∧ wr = w)
  case atStart => exact ⟨0, by omega, by omega, rfl, rfl, rfl, rfl⟩
  case round =>
    obtain ⟨k, hk, hk2, hq, rfl, rfl, rfl⟩ := hrel
    have A := Lib.hid hq; clear hq
    have htl := tot_le (l.take k) (fun o ho => hz o (List.mem_of_mem_take ho))
    rw [List.length_take, Nat.min_eq_left hk] at htl
    have htn : ((tot (l.take k) : Nat) : Int) ≤ 28147497671065600 := by omega
    by_cases hlt : k < l.length
    · have h1 : decide ((k : Int) < (l.length : Int)) = true := by simp; omega
      by_cases hl2 : k < 80
      · have h2 : decide ((k : Int) < 80) = true := by simp; omega
        obtain ⟨x, rfl, x0, x1⟩ := h.at_ k hlt
        have hdz := hz l[k] (List.getElem_mem _)
        have hdn : ((l[k].d.size : Nat) : Int) ≤ 140737488355328 := by omega
        have hnx : Hid (tot (l.take (k + 1)) = tot (l.take k) + l[k].d.size) := Lib.hid (by rw [List.take_succ_eq_append_getElem hlt, tot_append]; simp [tot])
        clear htl x0
        generalize tot (l.take k) = tk at *
        generalize l[k] = o at *
        generalize o.d = dk at *
        go_wp2
        go_roundg (l.length + 1 - (k + 1))
        case measure => have := A.out; omega
        case rel => exact ⟨k + 1, by omega, by omega, rfl, by rw [hnx.out]; rfl, by go_num, rfl⟩
      · obtain rfl : k = 80 := by omega
        have h3 : decide ((70 : Int) < (l.length : Int)) = true := by simp; omega
        have h3' : decide (70 < l.length) = true := by simp; omega
        generalize tot (l.take 80) = tk at *
        go_wp2
        go_ret
        exact ⟨by rw [longB_len (of_decide_eq_true h3')]; rfl, rfl⟩
    · obtain rfl : k = l.length := by omega
      rw [List.take_length] at *
      have h1 : decide ((l.length : Int) < (l.length : Int)) = false := by simp
      by_cases h4 : 70 < l.length
      · have h3 : decide ((70 : Int) < (l.length : Int)) = true := by simp; omega
        have h3' : decide (70 < l.length) = true := by simp; omega
        generalize tot l = tk at *
        go_wp2
        go_ret
        exact ⟨by rw [longB_len (of_decide_eq_true h3')]; rfl, rfl⟩
      · have h3 : decide ((70 : Int) < (l.length : Int)) = false := by simp; omega
        have h3' : decide (70 < l.length) = false := by simp; omega
        generalize htk : tot l = tk at *
        have Htk := Lib.hid htk; clear htk
        have Hle : l.length ≤ 70 := by omega
        by_cases h5 : 4096 < tk
        · have h6 : decide ((4096 : Int) < (tk : Int)) = true := by simp; omega
          have h6' : decide (4096 < tk) = true := by simp; omega
          go_wp2
          go_ret
          exact ⟨by rw [longB_tot (by rw [Htk.out]; exact of_decide_eq_true h6') Hle]; rfl, rfl⟩
        · have h6 : decide ((4096 : Int) < (tk : Int)) = false := by simp; omega
          have h6' : decide (4096 < tk) = false := by simp; omega
          go_wp2
          go_ret
          exact ⟨by rw [longB_no (by rw [Htk.out]; omega) (by omega)]; rfl, rfl⟩

theorem wpList_append_row {w : World} {ops : Array Oper} {rest : List Oper} {o : Oper} {a : Act} {Q : Exit → Act → World → Prop} (hgd : o.guard = none) (s x : Operand)
    (ho : o.op = .call { callee := .builtin .append, args := #[s, x], argTypes := #[32, 32] }) (base : Nat) (v : Value) (acc l : List Opt) (n : Nat) (hn : n = acc.length) (hs : a.eval s = v) (hown : w.ownsRow base 57 2 v n (optCells acc))
    (ad : Option Addr) (c : Nat) (hx : a.eval x = .slice ad l.length c) (hr : Row w ad c l) (hnil : ad = none → c = 0 ∧ l = []) (hb1 : acc.length ≤ 1000) (hb2 : l.length ≤ 1000) (hbase : base ≤ w.heap.size)
    (h : ∀ v' w', w'.ownsRow base 57 2 v' (acc ++ l).length (optCells (acc ++ l)) → w.grownBy w' v.ownBlock → wpList Tryd.prog ops Q rest (a.put o.dst v') w') : wpList Tryd.prog ops Q (o :: rest) a w := by
  subst hn
  obtain ⟨i0, hi, hz⟩ := Option.map_eq_some_iff.1 info57
  simp only [Prod.mk.injEq] at hz
  obtain ⟨hz0, hz1, hz2⟩ := hz
  cases ad with
  | none =>
    obtain ⟨rfl, rfl⟩ := hnil rfl
    refine wpList_append_own_none hgd s x 32 ho base 57 i0 2 und32 hi v _ _ hs hown hx ?_
    refine h v w ?_ (World.grownBy.refl _ _)
    rw [List.append_nil]; exact hown
  | some ad =>
    refine wpList_append_own _ hgd s x 32 ho base 57 i0 (.agg #[.int .u8 0, .string ⟨#[]⟩]) 2 24 und32 hi hz0 hz1 hz2 rfl (by decide) v _ _ hs hown ad l.length c (optCells l) hx (by rw [optCells_length]; omega) ?_ (optCells_one l) (by unfold maxLen; omega) (by omega) hbase ?_
    · intro j u hj
      rcases hr.2 with h0 | ⟨y, e, hc⟩
      · have := (List.getElem?_eq_some_iff.1 hj).1
        rw [optCells_length] at this; omega
      · obtain rfl := Option.some.inj e
        exact hc j u hj
    · intro v' w' hown' hg _
      refine h v' w' ?_ hg
      rw [List.length_append, optCells_append]; exact hown'
end Go.Proofs.YtlcckkdkcbelhaaDoor
