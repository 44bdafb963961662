/-
  Layer 25 (table): the document's answer, walked: its state, and what only reads it.
-/
import Derived.Test.YthenjbonncbniaaTabNil
import Derived.BigQuiet
import Derived.IntWalk
set_option linter.unusedVariables false
set_option linter.unusedSimpArgs false
namespace Go.Proofs.Ythenjbonncbniaa
open Go.RowKit Go.Proofs.YthenjbonncbniaaW.PrintWords Go.Proofs.YthenjbonncbniaaW.PrintLast

/-- The document's table: two rows. -/
structure RT (W : World) (R : Nat) (s : Tab) (gl gt cl ct : Nat) : Prop where
  head : W.heap[R]? = some (.cells #[.slice (some ⟨gl, 0, none⟩) s.n cl, .slice (some ⟨gt, 0, none⟩) s.n ct] 100 (0, 0))
  row : ∃ A : Array Value, W.heap[gl]? = some (.cells A 9 (0, 0)) ∧ ∀ j, j < s.n → A[j]? = some (.string (s.ns.getD j ⟨#[]⟩))
  turns : ∃ D : Array Value, W.heap[gt]? = some (.cells D 59 (0, 0)) ∧ ∀ j, j < s.n → D[j]? = some (.int .u64 ((s.ts.getD j 0 : Nat) : Int))
  capl : s.n ≤ cl
  capt : s.n ≤ ct
def IsRT (W : World) (R : Nat) (s : Tab) : Prop := ∃ gl gt cl ct, RT W R s gl gt cl ct
theorem RT.lt {W : World} {R : Nat} {s : Tab} {gl gt cl ct : Nat} (h : RT W R s gl gt cl ct) : R < W.heap.size := blk_lt h.head
theorem IsRT.lt {W : World} {R : Nat} {s : Tab} (h : IsRT W R s) : R < W.heap.size := by obtain ⟨_, _, _, _, h⟩ := h; exact h.lt
theorem RT.keep {W w : World} {R : Nat} {s : Tab} {gl gt cl ct : Nat} (h : RT W R s gl gt cl ct) (hb : ∀ k, k < W.heap.size → (∀ cs, W.heap[k]? ≠ some (.cells cs 86 (0, 0))) → w.heap[k]? = W.heap[k]?) : RT w R s gl gt cl ct := by
  obtain ⟨A, hA, hA2⟩ := h.row
  obtain ⟨D, hD, hD2⟩ := h.turns
  refine ⟨(hb R h.lt (fun cs e => by rw [h.head] at e; injection e with e; injection e with _ e; cases e)).trans h.head,
    ⟨A, (hb gl (blk_lt hA) (fun cs e => by rw [hA] at e; injection e with e; injection e with _ e; cases e)).trans hA, hA2⟩,
    ⟨D, (hb gt (blk_lt hD) (fun cs e => by rw [hD] at e; injection e with e; injection e with _ e; cases e)).trans hD, hD2⟩, h.capl, h.capt⟩
theorem IsRT.below {W w : World} {R : Nat} {s : Tab} (h : IsRT W R s) (hb : Below W.heap.size W w) : IsRT w R s := by
  obtain ⟨gl, gt, cl, ct, h⟩ := h
  exact ⟨gl, gt, cl, ct, h.keep (fun k hk _ => hb.block k hk)⟩
theorem IsRT.but {W w : World} {B R : Nat} {s z : Tab} (h : IsRT W R s) (ht : IsTab W B z) (hb : But B W w) : IsRT w R s := by
  obtain ⟨gl, gt, cl, ct, h⟩ := h
  exact ⟨gl, gt, cl, ct, h.keep (fun k hk hne => hb.block k hk (fun e => by subst e; exact hne _ ht))⟩
theorem RT.c0 {W : World} {R : Nat} {s : Tab} {gl gt cl ct : Nat} (h : RT W R s gl gt cl ct) : W.cell? ⟨R, 0, none⟩ = some (.slice (some ⟨gl, 0, none⟩) s.n cl) := blk_cell h.head 0
theorem RT.c1 {W : World} {R : Nat} {s : Tab} {gl gt cl ct : Nat} (h : RT W R s gl gt cl ct) : W.cell? ⟨R, 1, none⟩ = some (.slice (some ⟨gt, 0, none⟩) s.n ct) := blk_cell h.head 1
theorem RT.name {W : World} {R : Nat} {s : Tab} {gl gt cl ct : Nat} (h : RT W R s gl gt cl ct) (j : Nat) (hj : j < s.n) : W.cell? ⟨gl, j, none⟩ = some (.string (s.ns.getD j ⟨#[]⟩)) := by
  obtain ⟨A, hA, hA2⟩ := h.row
  rw [blk_cell hA, hA2 j hj]
theorem RT.turn {W : World} {R : Nat} {s : Tab} {gl gt cl ct : Nat} (h : RT W R s gl gt cl ct) (j : Nat) (hj : j < s.n) : W.cell? ⟨gt, j, none⟩ = some (.int .u64 ((s.ts.getD j 0 : Nat) : Int)) := by
  obtain ⟨D, hD, hD2⟩ := h.turns
  rw [blk_cell hD, hD2 j hj]
theorem take_getD (s : Tab) (j : Nat) (hj : j < s.n) : (s.ns.take s.n).getD j ⟨#[]⟩ = s.ns.getD j ⟨#[]⟩ := by
  rw [List.getD_eq_getElem?_getD, List.getElem?_take_of_lt hj, ← List.getD_eq_getElem?_getD]
theorem fnd_drop (x : ByteArray) (l : List ByteArray) (k : Nat) (hk : k < l.length) : fnd x (l.drop k) k = if x = l.getD k ⟨#[]⟩ then (k : Int) else fnd x (l.drop (k + 1)) (k + 1) := by
  rw [List.drop_eq_getElem_cons hk, fnd, List.getD_eq_getElem?_getD, List.getElem?_eq_getElem hk]
  rfl
theorem rfree_calls (s : Tab) (hw : s.Wf) (R : Nat) (w : World) (h : IsRT w R s) :
    Calls Try.prog 40 #[.pointer (some ⟨R, 0, none⟩)] w fun e w' => e = .returned (.tuple #[.int .i64 (max (fnd ⟨#[]⟩ (s.ns.take s.n) 0) 0), .bool (decide (0 ≤ fnd ⟨#[]⟩ (s.ns.take s.n) 0))]) ∧ w' = w := by
  obtain ⟨gl, gt, cl, ct, h⟩ := h
  have c0 := h.c0
  have h64 := hw.n64
  have hl : (s.ns.take s.n).length = s.n := by have := hw.ns; simp; omega
  go_enter Try.func40, Try.ntmps40
  go_wp2
  go_loopg [4] s.n (fun q i wr => ∃ k : Nat, k ≤ s.n ∧ q = s.n - k ∧ i = .int .i64 (k : Int) ∧ Hid (fnd ⟨#[]⟩ (s.ns.take s.n) 0 = fnd ⟨#[]⟩ ((s.ns.take s.n).drop k) k) ∧ wr = w)
  case atStart => exact ⟨0, by omega, rfl, rfl, Lib.hid (by rw [List.drop_zero]), rfl⟩
  case round =>
    obtain ⟨k, hk, hq, rfl, Hf, rfl⟩ := hrel
    have A := Lib.hid hq; clear hq
    by_cases hlt : k < s.n
    · have h1 : decide ((k : Int) < (s.n : Int)) = true := by simp; omega
      have cn := h.name k hlt
      have hd := Lib.hid (fnd_drop ⟨#[]⟩ (s.ns.take s.n) k (by omega))
      have he := take_getD s k hlt
      rw [he] at hd
      clear he
      generalize s.ns.getD k ⟨#[]⟩ = y at *
      by_cases e : y = ⟨#[]⟩
      · have hr : Hid (fnd ⟨#[]⟩ (s.ns.take s.n) 0 = (k : Int)) := Lib.hid (by rw [Hf.out, hd.out, if_pos e.symm])
        have hy : y.toList.isEmpty = true := by rw [e, ByteArray.toList_eq]; rfl
        subst e
        go_wp2
        go_ret2
        exact ⟨by rw [hr.out, show max (k : Int) 0 = k by omega, decide_eq_true (by omega)]; rfl, rfl⟩
      · have hne := str_ne0 e
        go_wp2
        go_roundg (s.n - (k + 1))
        case measure => have := A.out; omega
        case rel => exact ⟨k + 1, by omega, rfl, by go_num, Lib.hid (by rw [Hf.out, hd.out, if_neg (fun e' => e e'.symm)]), rfl⟩
    · have hks : k = s.n := by omega
      have h1 : decide ((k : Int) < (s.n : Int)) = false := by simp; omega
      have hr : Hid (fnd ⟨#[]⟩ (s.ns.take s.n) 0 = -1) := Lib.hid (by rw [Hf.out, List.drop_of_length_le (by omega)]; rfl)
      go_wp2
      go_ret2
      exact ⟨by rw [hr.out]; rfl, rfl⟩
theorem rof_calls (s : Tab) (hw : s.Wf) (R : Nat) (x : ByteArray) (w : World) (h : IsRT w R s) :
    Calls Try.prog 39 #[.pointer (some ⟨R, 0, none⟩), .string x] w fun e w' => e = .returned (if x = ⟨#[]⟩ then .tuple #[.int .i64 0, .bool false] else .tuple #[.int .i64 (max (fnd x (s.ns.take s.n) 0) 0), .bool (decide (0 ≤ fnd x (s.ns.take s.n) 0))]) ∧ w' = w := by
  obtain ⟨gl, gt, cl, ct, h⟩ := h
  have c0 := h.c0
  have h64 := hw.n64
  have hn1 : (1 : Int) ≤ (s.n : Int) := by have := hw.n1; omega
  have hl : (s.ns.take s.n).length = s.n := by have := hw.ns; simp; omega
  by_cases hx : x = ⟨#[]⟩
  · subst hx
    rw [if_pos rfl]
    have h1 : decide ((0 : Int) < (s.n : Int)) = true := by simp; omega
    have h1' : decide (0 < s.n) = true := by simp; omega
    go_enter Try.func39, Try.ntmps39
    go_wp2
    go_loopg [6] 1 (fun q i wr => q = 1 ∧ i = .int .i64 0 ∧ wr = w)
    case atStart => exact ⟨rfl, rfl, rfl⟩
    case round =>
      obtain ⟨rfl, rfl, rfl⟩ := hrel
      go_wp2
      go_ret2
      exact ⟨rfl, rfl⟩
  · rw [if_neg hx]
    have hx1 := str_ne0 hx
    have hx2 := str_ne0' hx
    go_enter Try.func39, Try.ntmps39
    go_wp2
    go_loopg [6] s.n (fun q i wr => ∃ k : Nat, k ≤ s.n ∧ q = s.n - k ∧ i = .int .i64 (k : Int) ∧ Hid (fnd x (s.ns.take s.n) 0 = fnd x ((s.ns.take s.n).drop k) k) ∧ wr = w)
    case atStart => exact ⟨0, by omega, rfl, rfl, Lib.hid (by rw [List.drop_zero]), rfl⟩
    case round =>
      obtain ⟨k, hk, hq, rfl, Hf, rfl⟩ := hrel
      have A := Lib.hid hq; clear hq
      by_cases hlt : k < s.n
      · have h1 : decide ((k : Int) < (s.n : Int)) = true := by simp; omega
        have cn := h.name k hlt
        have hd := Lib.hid (fnd_drop x (s.ns.take s.n) k (by omega))
        have he := take_getD s k hlt
        rw [he] at hd
        clear he
        generalize s.ns.getD k ⟨#[]⟩ = y at *
        by_cases e : y = x
        · subst e
          have hr : Hid (fnd y (s.ns.take s.n) 0 = (k : Int)) := Lib.hid (by rw [Hf.out, hd.out, if_pos rfl])
          go_wp2
          go_ret2
          exact ⟨by rw [hr.out, show max (k : Int) 0 = k by omega, decide_eq_true (by omega)]; rfl, rfl⟩
        · have hne := str_ne e
          go_wp2
          go_roundg (s.n - (k + 1))
          case measure => have := A.out; omega
          case rel => exact ⟨k + 1, by omega, rfl, by go_num, Lib.hid (by rw [Hf.out, hd.out, if_neg (fun e' => e e'.symm)]), rfl⟩
      · have hks : k = s.n := by omega
        have h1 : decide ((k : Int) < (s.n : Int)) = false := by simp; omega
        have hr : Hid (fnd x (s.ns.take s.n) 0 = -1) := Lib.hid (by rw [Hf.out, List.drop_of_length_le (by omega)]; rfl)
        go_wp2
        go_ret2
        exact ⟨by rw [hr.out]; rfl, rfl⟩
theorem rname_calls (s : Tab) (hw : s.Wf) (R : Nat) (k : Int) (w : World) (h : IsRT w R s) :
    Calls Try.prog 38 #[.pointer (some ⟨R, 0, none⟩), .int .i64 k] w fun e w' => e = .returned (.tuple #[.string (s.nameR k), .bool (!decide (s.nameR k = ⟨#[]⟩))]) ∧ ∃ n, w' = w.drewN n := by
  obtain ⟨gl, gt, cl, ct, h⟩ := h
  have c0 := h.c0
  have h64 := hw.n64
  by_cases h1 : k < 0
  · have hr : s.nameR k = ⟨#[]⟩ := by
      unfold Tab.nameR Tab.has
      rw [decide_eq_false (by omega)]; rfl
    rw [hr]
    have hd : decide (k < 0) = true := by simpa using h1
    go_enter Try.func38, Try.ntmps38
    go_wp2
    go_ret2
    exact ⟨rfl, 0, rfl⟩
  · have hd : decide (k < 0) = false := by simpa using h1
    by_cases h2 : (s.n : Int) ≤ k
    · have hr : s.nameR k = ⟨#[]⟩ := by
        unfold Tab.nameR Tab.has
        rw [decide_eq_false (p := k < (s.n : Int)) (by omega), Bool.and_false]; rfl
      rw [hr]
      have hd2 : decide ((s.n : Int) ≤ k) = true := by simpa using h2
      go_enter Try.func38, Try.ntmps38
      go_wp2
      go_ret2
      exact ⟨rfl, 0, rfl⟩
    · obtain ⟨m, rfl⟩ := Int.eq_ofNat_of_zero_le (show 0 ≤ k by omega)
      have hr : s.nameR (m : Int) = s.ns.getD m ⟨#[]⟩ := by
        unfold Tab.nameR Tab.has
        rw [decide_eq_true (by omega), decide_eq_true (by omega)]; rfl
      rw [hr]
      have hd2 : decide ((s.n : Int) ≤ (m : Int)) = false := by simpa using h2
      have hlt : (m : Int) < (s.n : Int) := by omega
      have cn := h.name m (by omega)
      generalize s.ns.getD m ⟨#[]⟩ = y at *
      by_cases e : y = ⟨#[]⟩
      · subst e
        go_enter Try.func38, Try.ntmps38
        go_wp2
        go_quiet (fail)
        go_wp2
        go_ret2
        exact ⟨rfl, _, rfl⟩
      · have e1 := str_ne0 e
        have e2 := str_ne0' e
        rw [decide_eq_false e]
        go_enter Try.func38, Try.ntmps38
        go_wp2
        go_quiet (fail)
        go_wp2
        go_ret2
        exact ⟨rfl, _, rfl⟩
theorem rturn_calls (s : Tab) (hw : s.Wf) (R : Nat) (k : Int) (w : World) (h : IsRT w R s) :
    Calls Try.prog 41 #[.pointer (some ⟨R, 0, none⟩), .int .i64 k] w fun e w' => e = .returned (.int .u64 ((s.turnR k : Nat) : Int)) ∧ w' = w := by
  obtain ⟨gl, gt, cl, ct, h⟩ := h
  have c1 := h.c1
  have h64 := hw.n64
  by_cases h1 : k < 0
  · have hr : s.turnR k = 0 := by
      unfold Tab.turnR Tab.has
      rw [decide_eq_false (by omega)]; rfl
    rw [hr]
    have hd : decide (k < 0) = true := by simpa using h1
    go_enter Try.func41, Try.ntmps41
    go_wp2
    go_ret
    exact ⟨rfl, rfl⟩
  · have hd : decide (k < 0) = false := by simpa using h1
    by_cases h2 : (s.n : Int) ≤ k
    · have hr : s.turnR k = 0 := by
        unfold Tab.turnR Tab.has
        rw [decide_eq_false (p := k < (s.n : Int)) (by omega), Bool.and_false]; rfl
      rw [hr]
      have hd2 : decide ((s.n : Int) ≤ k) = true := by simpa using h2
      go_enter Try.func41, Try.ntmps41
      go_wp2
      go_ret
      exact ⟨rfl, rfl⟩
    · obtain ⟨m, rfl⟩ := Int.eq_ofNat_of_zero_le (show 0 ≤ k by omega)
      have hr : s.turnR (m : Int) = s.ts.getD m 0 := by
        unfold Tab.turnR Tab.has
        rw [decide_eq_true (by omega), decide_eq_true (by omega)]; rfl
      rw [hr]
      have hd2 : decide ((s.n : Int) ≤ (m : Int)) = false := by simpa using h2
      have hlt : (m : Int) < (s.n : Int) := by omega
      have cn := h.turn m (by omega)
      generalize s.ts.getD m 0 = y at *
      go_enter Try.func41, Try.ntmps41
      go_wp2
      go_ret
      exact ⟨rfl, rfl⟩
end Go.Proofs.Ythenjbonncbniaa
