/-
  Layer 25 (table): the document's answer, walked: List, and Same.
-/
import Derived.Test.YthenjbonncbniaaRT
import Derived.Test.YthenjbonncbniaaBothW
set_option linter.unusedVariables false
set_option linter.unusedSimpArgs false
namespace Go.Proofs.Ythenjbonncbniaa
open Go.RowKit Go.Proofs.YthenjbonncbniaaW.PrintWords Go.Proofs.YthenjbonncbniaaW.PrintLast

theorem own_list {s : Tab} {W : World} {b : Nat} {v : Value} (hown : W.ownsRow b 62 2 v ((bound (s.ns.take s.n) 0).length / 2) (bound (s.ns.take s.n) 0)) :
    ∃ a cap, v = .slice a s.cnt cap ∧ s.cnt ≤ cap ∧ IsList W a (ent (s.ns.take s.n) 0) := by
  rw [bound_len, show 2 * cnt (s.ns.take s.n) / 2 = s.cnt from by unfold Tab.cnt; omega] at hown
  have hc := hown
  rcases hown.2 with ⟨rfl, h0⟩ | ⟨g, cap, cur, rfl, hg, hh, hnc, _⟩
  · refine ⟨none, 0, by rw [h0], by omega, fun j p hp => ?_⟩
    have := (List.getElem?_eq_some_iff.1 hp).1
    rw [ent_len] at this
    unfold Tab.cnt at h0
    omega
  · refine ⟨_, _, rfl, hnc, fun j p hp => ⟨g, rfl, ?_, ?_⟩⟩
    · have := hc.cells (g := g) rfl (2 * j) _ (bound_at _ 0 j p hp).1
      rwa [add_zero'] at this
    · have := hc.cells (g := g) rfl (2 * j + 1) _ (bound_at _ 0 j p hp).2
      rwa [add_zero'] at this
set_option maxHeartbeats 2000000 in
set_option maxRecDepth 100000 in
theorem rlist_calls (s : Tab) (hw : s.Wf) (R : Nat) (w : World) (h : IsRT w R s) :
    Calls Try.prog 43 #[.pointer (some ⟨R, 0, none⟩)] w fun e w' => (∃ a cap, e = .returned (.slice a s.cnt cap) ∧ s.cnt ≤ cap ∧ IsList w' a (ent (s.ns.take s.n) 0)) ∧ Below w.heap.size w w' := by
  obtain ⟨gl, gt, cl, ct, h⟩ := h
  have h64 := hw.n64
  go_enter Try.func43, Try.ntmps43
  go_wp2
  go_loopg [3, 4] s.n (fun q out i wr => ∃ k : Nat, k ≤ s.n ∧ q = s.n - k ∧ i = .int .i64 (k : Int) ∧ wr.ownsRow w.heap.size 62 2 out ((bound (s.ns.take k) 0).length / 2) (bound (s.ns.take k) 0) ∧ Below w.heap.size w wr)
  case atStart => exact ⟨0, by omega, rfl, rfl, by rw [List.take_zero]; exact World.ownsRow_nil _ _ _ _, Below.refl _ _⟩
  case round =>
    obtain ⟨k, hk, hq, rfl, hrow, hB⟩ := hrel
    have A := Lib.hid hq; clear hq
    have hr : RT wr R s gl gt cl ct := h.keep (fun k hk _ => hB.block k hk)
    have c0 := hr.c0
    by_cases hlt : k < s.n
    · have hh : decide ((k : Int) < (s.n : Int)) = true := by simp; omega
      have hck := hr.name k hlt
      have hlk : k < s.ns.length := by rw [hw.ns]; omega
      have hsn : Hid (bound (s.ns.take (k + 1)) 0 = bound (s.ns.take k) 0 ++ (if s.ns.getD k ⟨#[]⟩ = ⟨#[]⟩ then [] else [.int .i64 (k : Int), .string (s.ns.getD k ⟨#[]⟩)])) := Lib.hid (by
        rw [List.take_succ_eq_append_getElem hlk, bound_snoc, List.length_take, Nat.min_eq_left (by omega), Nat.zero_add, List.getD_eq_getElem?_getD, List.getElem?_eq_getElem hlk]; rfl)
      generalize s.ns.getD k ⟨#[]⟩ = x at *
      obtain ⟨be1, be2⟩ := bound_even (s.ns.take k) 0
      rw [List.length_take] at be2
      by_cases hx : x = ⟨#[]⟩
      · have he : x.toList.isEmpty = true := by rw [hx, ByteArray.toList_eq]; rfl
        subst hx
        go_wp2
        go_roundg (s.n - (k + 1))
        case measure => have := A.out; omega
        case rel => exact ⟨k + 1, by omega, rfl, by go_num, by rw [hsn.out, if_pos trivial, List.append_nil]; exact hrow, hB⟩
      · have he := str_ne0 hx
        have he' := str_ne0' hx
        obtain ⟨i0, hi, hz⟩ := Option.map_eq_some_iff.1 info62
        simp only [Prod.mk.injEq] at hz
        obtain ⟨hz0, hz1, hz2⟩ := hz
        go_wp2_with (first
          | (at_builtin; refine wpList_append_own _ rfl _ _ 33 rfl w.heap.size 62 i0 (.agg #[.int .i64 0, .string ⟨#[]⟩]) 2 24 und33 hi hz0 hz1 hz2 rfl (by decide) _ _ _ rfl (hrow.alloc _) ⟨wr.heap.size, 0, none⟩ 1 1 [.int .i64 (k : Int), .string x] rfl rfl (cell_two _ _ _ _) (by simp [Value.oneCell']) (by unfold maxLen; omega) (by omega) (by have := hB.size; simp; omega) ?_; intro v' w1 hown' hgrow _))
        go_roundg (s.n - (k + 1))
        case measure => have := A.out; omega
        case rel =>
          refine ⟨k + 1, by omega, rfl, by go_num, ?_, (hB.alloc hB.size _).grown hgrow (by have := hB.size; simp; omega) (own_base hrow)⟩
          rw [hsn.out, if_neg hx, List.length_append]
          have e : ((bound (s.ns.take k) 0).length + [Value.int IntKind.i64 (k : Int), .string x].length) / 2 = (bound (s.ns.take k) 0).length / 2 + 1 := by simp
          rw [e]
          exact hown'
    · have hks : k = s.n := by omega
      have hh : decide ((k : Int) < (s.n : Int)) = false := by simp; omega
      rw [hks] at hrow
      have ho := own_list hrow
      go_wp2
      go_ret
      obtain ⟨a, cap, rfl, h1, h2⟩ := ho
      exact ⟨⟨a, cap, rfl, h1, h2⟩, hB⟩
set_option maxRecDepth 100000 in
theorem rsame_calls (l : List (Nat × ByteArray)) (hl : l.length ≤ 64) (a b : Option Addr) (c d : Nat) (hc : l.length ≤ c) (hd : l.length ≤ d) (w : World) (h1 : IsList w a l) (h2 : IsList w b l) :
    Calls Try.prog 42 #[.slice a l.length c, .slice b l.length d] w fun e w' => e = .returned (.bool true) ∧ ∃ n, w' = w.drewN n := by
  go_enter Try.func42, Try.ntmps42
  go_wp2
  go_loopg [5] l.length (fun q i wr => ∃ k : Nat, k ≤ l.length ∧ q = l.length - k ∧ i = .int .i64 (k : Int) ∧ ∃ n, wr = w.drewN n)
  case atStart => exact ⟨0, by omega, rfl, rfl, 0, rfl⟩
  case round =>
    obtain ⟨k, hk, hq, rfl, n, hwr⟩ := hrel
    have A := Lib.hid hq; clear hq
    have hW := Lib.hid hwr
    by_cases hlt : k < l.length
    · have hh : decide ((k : Int) < (l.length : Int)) = true := by simp; omega
      obtain ⟨p, hp⟩ : ∃ p, l[k]? = some p := ⟨_, List.getElem?_eq_getElem hlt⟩
      obtain ⟨g, rfl, q0, q1⟩ := h1 k p hp
      obtain ⟨g2, rfl, r0, r1⟩ := h2 k p hp
      have q0 : wr.cell? ⟨g, 2 * k, none⟩ = some (.int .i64 (p.1 : Int)) := by rw [hwr]; exact q0
      have q1 : wr.cell? ⟨g, 2 * k + 1, none⟩ = some (.string p.2) := by rw [hwr]; exact q1
      have r0 : wr.cell? ⟨g2, 2 * k, none⟩ = some (.int .i64 (p.1 : Int)) := by rw [hwr]; exact r0
      have r1 : wr.cell? ⟨g2, 2 * k + 1, none⟩ = some (.string p.2) := by rw [hwr]; exact r1
      rw [Nat.mul_comm 2 k] at q0 q1 r0 r1
      obtain ⟨K, x⟩ := p
      simp only at q0 q1 r0 r1
      have hltI : (k : Int) < (l.length : Int) := by omega
      clear hwr h1 h2
      go_wp2
      go_quiet (fail)
      go_wp2
      go_roundg (l.length - (k + 1))
      case measure => have := A.out; omega
      case rel => exact ⟨k + 1, by omega, rfl, by go_num, n + nq, by rw [hW.out, World.drewN_drewN]⟩
    · have hks : k = l.length := by omega
      have hh : decide ((k : Int) < (l.length : Int)) = false := by simp; omega
      clear hwr
      go_wp2
      go_ret
      exact ⟨rfl, n, hW.out⟩
end Go.Proofs.Ythenjbonncbniaa
