/-
  Layer 25 (table): the document's answer, walked: what writes.
-/
import Derived.Test.YthenjbonncbniaaRT
import Derived.Laws.AppendOwn
set_option linter.unusedVariables false
set_option linter.unusedSimpArgs false
namespace Go.Proofs.Ythenjbonncbniaa
open Go.RowKit Go.Proofs.YthenjbonncbniaaW.PrintWords Go.Proofs.YthenjbonncbniaaW.PrintLast

theorem info9' : (Try.prog.info? 9).map (fun i => (i.zero, i.size, i.bytes)) = some (some (.string ⟨#[]⟩), 1, 16) := by kernel_rfl
theorem info59' : (Try.prog.info? 59).map (fun i => (i.zero, i.size, i.bytes)) = some (some (.int .u64 0), 1, 8) := by kernel_rfl
theorem und88 : Try.prog.underlying 88 = some (.slice 9) := by kernel_rfl
theorem und98 : Try.prog.underlying 98 = some (.slice 59) := by kernel_rfl
def nlist (s : Tab) : List Value := (List.range s.n).map fun j => .string (s.ns.getD j ⟨#[]⟩)
def tlist (s : Tab) : List Value := (List.range s.n).map fun j => .int .u64 ((s.ts.getD j 0 : Nat) : Int)
theorem nlist_at (s : Tab) (j : Nat) (hj : j < s.n) : (nlist s)[j]? = some (.string (s.ns.getD j ⟨#[]⟩)) := by
  unfold nlist; rw [List.getElem?_map, List.getElem?_range hj]; rfl
theorem tlist_at (s : Tab) (j : Nat) (hj : j < s.n) : (tlist s)[j]? = some (.int .u64 ((s.ts.getD j 0 : Nat) : Int)) := by
  unfold tlist; rw [List.getElem?_map, List.getElem?_range hj]; rfl
theorem nlist_len (s : Tab) : (nlist s).length = s.n := by simp [nlist]
theorem tlist_len (s : Tab) : (tlist s).length = s.n := by simp [tlist]
/-- An own row of one-cell elements that is not empty. -/
theorem own_open {W : World} {b e n : Nat} {v : Value} {xs : List Value} (h : W.ownsRow b e 1 v n xs) (hn : 1 ≤ n) :
    ∃ (g cap : Nat) (cur : Array Value), v = .slice (some ⟨g, 0, none⟩) n cap ∧ b ≤ g ∧ W.heap[g]? = some (.cells cur e (0, 0)) ∧ n ≤ cap ∧ ∀ j, j < n → cur[j]? = xs[j]? := by
  rcases h.2 with ⟨rfl, h0⟩ | ⟨g, cap, cur, rfl, hg, hh, hnc, hcm, hcs, ht⟩
  · omega
  · refine ⟨g, cap, cur, rfl, hg, hh, hnc, fun j hj => ?_⟩
    rw [← ht, List.getElem?_take_of_lt (by omega), Array.getElem?_toList]
theorem below_grown {w w' : World} (h : w.grownBy w' none) : Below w.heap.size w w' := ⟨h.os, h.tape, h.output, h.size, fun k hk => h.block k hk (by simp)⟩
set_option maxHeartbeats 4000000 in
theorem rset_calls (s : Tab) (hw : s.Wf) (R : Nat) (k : Nat) (x : ByteArray) (w : World) (h : IsRT w R s) (hk : k < s.n) :
    Calls Try.prog 51 #[.pointer (some ⟨R, 0, none⟩), .int .i64 (k : Int), .string x] w fun e w' => e = .returned (.tuple #[]) ∧ But R w w' ∧ IsRT w' R (s.bind k x) := by
  obtain ⟨gl, gt, cl, ct, h⟩ := h
  have c0 := h.c0
  have c1 := h.c1
  have h64 := hw.n64
  have h1n := hw.n1
  have hkI : (k : Int) < (s.n : Int) := by omega
  obtain ⟨i9, hi9, hz⟩ := Option.map_eq_some_iff.1 info9'
  simp only [Prod.mk.injEq] at hz
  obtain ⟨z90, z91, z92⟩ := hz
  obtain ⟨i59, hi59, hz⟩ := Option.map_eq_some_iff.1 info59'
  simp only [Prod.mk.injEq] at hz
  obtain ⟨z50, z51, z52⟩ := hz
  have hnn : ∀ j u, (nlist s)[j]? = some u → w.cell? ((⟨gl, 0, none⟩ : Addr).add j) = some u := fun j u hj => by
    have hl := (List.getElem?_eq_some_iff.1 hj).1
    rw [nlist_len] at hl
    rw [show (⟨gl, 0, none⟩ : Addr).add j = ⟨gl, j, none⟩ from by unfold Addr.add; split <;> simp_all, h.name j hl, ← nlist_at s j hl, hj]
  have hn1 : ∀ u ∈ nlist s, u.oneCell' = true := fun u hu => by
    unfold nlist at hu
    obtain ⟨j, _, rfl⟩ := List.mem_map.1 hu
    rfl
  have ht1 : ∀ u ∈ tlist s, u.oneCell' = true := fun u hu => by
    unfold tlist at hu
    obtain ⟨j, _, rfl⟩ := List.mem_map.1 hu
    rfl
  have hsm : s.ts.getD k 0 < 18446744073709551615 := by
    have hlt : k < s.ts.length := by have := hw.ts; omega
    rw [List.getD_eq_getElem?_getD, List.getElem?_eq_getElem hlt]
    exact hw.small _ (List.getElem_mem hlt)
  obtain ⟨tk, htk⟩ : ∃ tk, s.ts.getD k 0 = tk := ⟨_, rfl⟩
  rw [htk] at hsm
  have hwr : IntKind.u64.wrap ((tk : Int) + 1) = (tk : Int) + 1 := by simp [IntKind.wrap, IntKind.bits, IntKind.signed]; omega
  have HT := Lib.hid htk
  clear htk
  go_enter Try.func51, Try.ntmps51
  go_wp2_with (first
    | (at_builtin; refine wpList_append_own _ rfl _ _ 88 rfl w.heap.size 9 i9 (.string ⟨#[]⟩) 1 16 und88 hi9 z90 z91 z92 rfl (by decide) _ 0 [] rfl (World.ownsRow_nil _ _ _ _) ⟨gl, 0, none⟩ s.n cl (nlist s) rfl (by rw [nlist_len, Nat.mul_one]) hnn hn1 (by unfold maxLen; omega) (by omega) (Nat.le_refl _) ?_
       intro v1 w1 hown1 hgrow1 _
       have hb1 := below_grown hgrow1
       have r1 : RT w1 R s gl gt cl ct := h.keep (fun k hk _ => hb1.block k hk)
       rw [Nat.zero_add] at hown1
       obtain ⟨g1, k1, A1, rfl, hg1, hh1, hk1, ha1⟩ := own_open hown1 h1n
       rw [List.nil_append] at ha1
       have c1 := r1.c1
       have htn : ∀ j u, (tlist s)[j]? = some u → w1.cell? ((⟨gt, 0, none⟩ : Addr).add j) = some u := fun j u hj => by
         have hl := (List.getElem?_eq_some_iff.1 hj).1
         rw [tlist_len] at hl
         rw [show (⟨gt, 0, none⟩ : Addr).add j = ⟨gt, j, none⟩ from by unfold Addr.add; split <;> simp_all, r1.turn j hl, ← tlist_at s j hl, hj])
    | (at_builtin; refine wpList_append_own _ rfl _ _ 98 rfl w1.heap.size 59 i59 (.int .u64 0) 1 8 und98 hi59 z50 z51 z52 rfl (by decide) _ 0 [] rfl (World.ownsRow_nil _ _ _ _) ⟨gt, 0, none⟩ s.n ct (tlist s) rfl (by rw [tlist_len, Nat.mul_one]) htn ht1 (by unfold maxLen; omega) (by omega) (Nat.le_refl _) ?_
       intro v2 w2 hown2 hgrow2 _
       have hb2 := below_grown hgrow2
       have r2 : RT w2 R s gl gt cl ct := r1.keep (fun k hk _ => hb2.block k hk)
       rw [Nat.zero_add] at hown2
       obtain ⟨g2, k2, A2, rfl, hg2, hh2, hk2, ha2⟩ := own_open hown2 h1n
       rw [List.nil_append] at ha2
       have hh1' : w2.heap[g1]? = some (.cells A1 9 (0, 0)) := (hb2.block g1 (blk_lt hh1)).trans hh1
       have e1 : w2.cell? ⟨g1, k, none⟩ = some (.string (s.ns.getD k ⟨#[]⟩)) := by rw [blk_cell hh1', ha1 k hk, nlist_at s k hk]
       have e2 : w2.cell? ⟨g2, k, none⟩ = some (.int .u64 (tk : Int)) := by rw [blk_cell hh2, ha2 k hk, tlist_at s k hk, HT.out]
       have f1 := blk_frozen hh1'
       have f2 := blk_frozen hh2
       have f3 := blk_frozen r2.head
       have c0 := r2.c0
       have c1 := r2.c1
       have hne : g1 ≠ g2 := by have := blk_lt hh1; omega
       have hR1 : R ≠ g1 := by have := h.lt; omega
       have hR2 : R ≠ g2 := by have := r1.lt; omega))
  go_end0
  have Bw := hb1.trans (hb2.mono hb1.size)
  refine ⟨rfl, ((But.of_below ((Bw.setCell (p := ⟨g1, k, none⟩) hg1 _).setCell (p := ⟨g2, k, none⟩) (Nat.le_trans hb1.size hg2) _)).set 0 _).set 1 _, g1, g2, k1, k2, ?_⟩
  refine ⟨?_, ⟨A1.setIfInBounds k (.string x), ?_, fun j hj => ?_⟩, ⟨A2.setIfInBounds k (.int .u64 ((tk : Int) + 1)), ?_, fun j hj => ?_⟩, hk1, hk2⟩
  · exact blk_set (blk_set (blk_far (blk_far r2.head hR1 _) hR2 _) 0 _) 1 _
  · exact blk_far (blk_far (blk_far (blk_set hh1' k _) hne _) (fun e => hR1 e.symm) _) (fun e => hR1 e.symm) _
  · change j < s.n at hj
    rw [Array.getElem?_setIfInBounds]
    show _ = some (Value.string ((s.ns.set k x).getD j ⟨#[]⟩))
    rw [getD_set _ _ _ _ (by have := hw.ns; omega)]
    by_cases e : k = j
    · subst e
      have := ha1 k hk
      rw [nlist_at s k hk] at this
      rw [if_pos rfl, if_pos (Array.getElem?_eq_some_iff.1 this).1, if_pos rfl]
    · rw [if_neg e, if_neg (fun e' => e e'.symm), ha1 j hj, nlist_at s j hj]
  · exact blk_far (blk_far (blk_set (blk_far hh2 (fun e => hne e.symm) _) k _) (fun e => hR2 e.symm) _) (fun e => hR2 e.symm) _
  · change j < s.n at hj
    rw [Array.getElem?_setIfInBounds]
    show _ = some (Value.int .u64 (((s.ts.set k (s.ts.getD k 0 + 1)).getD j 0 : Nat) : Int))
    rw [getN_set _ _ _ _ (by have := hw.ts; omega)]
    by_cases e : k = j
    · subst e
      have := ha2 k hk
      rw [tlist_at s k hk] at this
      rw [if_pos rfl, if_pos (Array.getElem?_eq_some_iff.1 this).1, if_pos rfl, HT.out]
      rfl
    · rw [if_neg e, if_neg (fun e' => e e'.symm), ha2 j hj, tlist_at s j hj]
theorem rbind_calls (s : Tab) (hw : s.Wf) (R : Nat) (k : Int) (y : ByteArray) (w : World) (h : IsRT w R s) :
    Calls Try.prog 36 #[.pointer (some ⟨R, 0, none⟩), .int .i64 k, .string y] w fun e w' => e = .returned (.int .i64 (s.bindR k y).1) ∧ But R w w' ∧ IsRT w' R (s.bindR k y).2 := by
  have hrt := h
  obtain ⟨gl, gt, cl, ct, h⟩ := h
  have c0 := h.c0
  have h64 := hw.n64
  unfold Tab.bindR
  by_cases h1 : k < 0 ∨ (s.n : Int) ≤ k
  · rw [if_pos h1]
    by_cases h2 : k < 0
    · have hd : decide (k < 0) = true := by simpa using h2
      go_enter Try.func36, Try.ntmps36
      go_wp2
      go_ret
      exact ⟨rfl, But.refl _ _, hrt⟩
    · have hd : decide (k < 0) = false := by simpa using h2
      have hd2 : decide ((s.n : Int) ≤ k) = true := decide_eq_true (by omega)
      go_enter Try.func36, Try.ntmps36
      go_wp2
      go_ret
      exact ⟨rfl, But.refl _ _, hrt⟩
  · rw [if_neg h1]
    obtain ⟨m, rfl⟩ := Int.eq_ofNat_of_zero_le (show 0 ≤ k by omega)
    have hm : m < s.n := by omega
    have hmI : (m : Int) < (s.n : Int) := by omega
    have hd : decide ((m : Int) < 0) = false := decide_eq_false (by omega)
    have hd2 : decide ((s.n : Int) ≤ (m : Int)) = false := decide_eq_false (by omega)
    rw [Int.toNat_natCast]
    by_cases h2 : y = ⟨#[]⟩ ∨ 32 < y.size
    · rw [if_pos h2]
      by_cases hy : y = ⟨#[]⟩
      · have hs : y.size = 0 := by rw [hy]; rfl
        have hy1 : decide ((y.size : Int) < 1) = true := by rw [hs]; rfl
        have hy2 : decide (y.size < 1) = true := by rw [hs]; rfl
        go_enter Try.func36, Try.ntmps36
        go_wp2
        go_ret
        exact ⟨rfl, But.refl _ _, hrt⟩
      · have h32 : 32 < y.size := by rcases h2 with h2 | h2; exact absurd h2 hy; exact h2
        have hy1 : decide ((y.size : Int) < 1) = false := decide_eq_false (by omega)
        have hy2 : decide (y.size < 1) = false := decide_eq_false (by omega)
        have hy3 : decide ((32 : Int) < (y.size : Int)) = true := decide_eq_true (by omega)
        have hy4 : decide (32 < y.size) = true := decide_eq_true (by omega)
        go_enter Try.func36, Try.ntmps36
        go_wp2
        go_ret
        exact ⟨rfl, But.refl _ _, hrt⟩
    · rw [if_neg h2]
      have hye : y ≠ ⟨#[]⟩ := fun e => h2 (.inl e)
      have hys : 1 ≤ y.size := by
        rcases Nat.eq_zero_or_pos y.size with e | e
        · exact absurd (by cases y; simp [ByteArray.size] at e; rw [e]) hye
        · exact e
      have hy1 : decide ((y.size : Int) < 1) = false := decide_eq_false (by omega)
      have hy2 : decide (y.size < 1) = false := decide_eq_false (by omega)
      have hy3 : decide ((32 : Int) < (y.size : Int)) = false := decide_eq_false (by omega)
      have hy4 : decide (32 < y.size) = false := decide_eq_false (by omega)
      have hof := rof_calls s hw R y w hrt
      rw [if_neg hye] at hof
      have cn := h.name m hm
      have hset := rset_calls s hw R m y w hrt hm
      by_cases h3 : s.ns.getD m ⟨#[]⟩ = ⟨#[]⟩ ∧ fnd y (s.ns.take s.n) 0 < 0
      · rw [if_pos h3]
        rw [decide_eq_false (by omega)] at hof
        have hx := h3.1
        rw [hx] at cn
        clear h3 hx
        generalize max (fnd y (s.ns.take s.n) 0) 0 = z at *
        go_enter Try.func36, Try.ntmps36
        go_wp2_with (first
          | (go_at_call 39; with_reducible refine hof.mono ?_; rintro e w1 ⟨rfl, rfl⟩)
          | (go_at_call 51; with_reducible refine hset.mono ?_; rintro e w1 ⟨rfl, hb, ht⟩))
        go_ret
        exact ⟨rfl, hb, ht⟩
      · rw [if_neg h3]
        by_cases h4 : fnd y (s.ns.take s.n) 0 < 0
        · rw [decide_eq_false (by omega)] at hof
          have hx : ¬ s.ns.getD m ⟨#[]⟩ = ⟨#[]⟩ := fun e => h3 ⟨e, h4⟩
          clear h3
          generalize s.ns.getD m ⟨#[]⟩ = x at *
          have he1 := str_ne0 hx
          have he2 := str_ne0' hx
          generalize max (fnd y (s.ns.take s.n) 0) 0 = z at *
          go_enter Try.func36, Try.ntmps36
          go_wp2_with (first
            | (go_at_call 39; with_reducible refine hof.mono ?_; rintro e w1 ⟨rfl, rfl⟩))
          go_ret
          exact ⟨rfl, But.refl _ _, hrt⟩
        · rw [decide_eq_true (by omega)] at hof
          clear h3
          generalize max (fnd y (s.ns.take s.n) 0) 0 = z at *
          go_enter Try.func36, Try.ntmps36
          go_wp2_with (first
            | (go_at_call 39; with_reducible refine hof.mono ?_; rintro e w1 ⟨rfl, rfl⟩))
          go_ret
          exact ⟨rfl, But.refl _ _, hrt⟩
theorem runbind_calls (s : Tab) (hw : s.Wf) (R : Nat) (k : Int) (w : World) (h : IsRT w R s) :
    Calls Try.prog 37 #[.pointer (some ⟨R, 0, none⟩), .int .i64 k] w fun e w' => e = .returned (.int .i64 (s.unbindR k).1) ∧ But R w w' ∧ IsRT w' R (s.unbindR k).2 := by
  have hrt := h
  obtain ⟨gl, gt, cl, ct, h⟩ := h
  have c0 := h.c0
  have h64 := hw.n64
  unfold Tab.unbindR
  by_cases h1 : k < 0 ∨ (s.n : Int) ≤ k
  · rw [if_pos h1]
    by_cases h2 : k < 0
    · have hd : decide (k < 0) = true := by simpa using h2
      go_enter Try.func37, Try.ntmps37
      go_wp2
      go_ret
      exact ⟨rfl, But.refl _ _, hrt⟩
    · have hd : decide (k < 0) = false := by simpa using h2
      have hd2 : decide ((s.n : Int) ≤ k) = true := decide_eq_true (by omega)
      go_enter Try.func37, Try.ntmps37
      go_wp2
      go_ret
      exact ⟨rfl, But.refl _ _, hrt⟩
  · rw [if_neg h1]
    obtain ⟨m, rfl⟩ := Int.eq_ofNat_of_zero_le (show 0 ≤ k by omega)
    have hm : m < s.n := by omega
    have hmI : (m : Int) < (s.n : Int) := by omega
    have hd : decide ((m : Int) < 0) = false := decide_eq_false (by omega)
    have hd2 : decide ((s.n : Int) ≤ (m : Int)) = false := decide_eq_false (by omega)
    rw [Int.toNat_natCast]
    have cn := h.name m hm
    have hset := rset_calls s hw R m ⟨#[]⟩ w hrt hm
    by_cases hx : s.ns.getD m ⟨#[]⟩ = ⟨#[]⟩
    · rw [if_pos hx]
      rw [hx] at cn
      clear hx
      go_enter Try.func37, Try.ntmps37
      go_wp2
      go_ret
      exact ⟨rfl, But.refl _ _, hrt⟩
    · rw [if_neg hx]
      generalize s.ns.getD m ⟨#[]⟩ = x at *
      have he1 := str_ne0 hx
      have he2 := str_ne0' hx
      go_enter Try.func37, Try.ntmps37
      go_wp2_with (first
        | (go_at_call 51; with_reducible refine hset.mono ?_; rintro e w1 ⟨rfl, hb, ht⟩))
      go_ret
      exact ⟨rfl, hb, ht⟩
end Go.Proofs.Ythenjbonncbniaa
