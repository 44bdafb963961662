/-
  Layer 8 (option): the document's Get, walked.
-/
import Derived.Test.YtjkhmnipffdliaaGet
import Derived.Laws.Strings2
set_option linter.unusedVariables false
set_option linter.unusedSimpArgs false
namespace Go.Proofs.Ytjkhmnipffdliaa
open Go.RowKit Go.Proofs.YtjkhmnipffdliaaW.PrintWords Go.Proofs.YtjkhmnipffdliaaW.PrintLast

theorem if_wanted {c : Bool} {p q : Prop} (hc : c = true) (h : p) : if c = true then p else q := by rw [if_pos hc]; exact h
theorem tail_data (s : ByteArray) (k : Nat) : (tail s k).data = s.data.extract k s.size := by simp [tail]
theorem tail_getD (s : ByteArray) (k i : Nat) (h : k + i < s.size) : (tail s k).data.getD i 0 = s[k + i] := by
  have h2 : k + i < s.data.size := h
  rw [tail_data, Array.getD_eq_getD_getElem?, Array.getElem?_extract, if_pos (by show i < min s.size s.data.size - k; have : s.size = s.data.size := rfl; omega), Array.getElem?_eq_getElem h2]
  rfl
theorem tail_extract (s : ByteArray) (k n : Nat) (h : k + n ≤ s.size) : (tail s k).extract 2 n = s.extract (k + 2) (k + n) := by
  apply ByteArray.ext
  simp only [tail, ByteArray.data_extract, Array.extract_extract]
  rw [Nat.min_eq_left (by omega)]
set_option maxHeartbeats 4000000 in
set_option maxRecDepth 100000 in
theorem rget_calls (s : ByteArray) (w : World) :
    Calls Try.prog 12 #[.string s] w fun e w' => ∃ v, e = .returned (.tuple #[v, .int .i64 (getS s).2.1, .int .i64 (getS s).2.2]) ∧ IsRow w' v (getS s).1 ∧ Below w.heap.size w w' := by
  obtain ⟨i0, hi, hz⟩ := Option.map_eq_some_iff.1 info32
  simp only [Prod.mk.injEq] at hz
  obtain ⟨hz0, hz1, hz2⟩ := hz
  by_cases hlong : 1496 < s.size
  · have g1 : getS s = ([], 0, 5) := if_pos hlong
    rw [g1]
    have q1 : decide ((1496 : Int) < (s.size : Int)) = true := by simp; omega
    have q1' : decide (1496 < s.size) = true := by simp; omega
    go_enter Try.func12, Try.ntmps12
    go_wp2
    go_ret3
    exact ⟨_, rfl, ⟨none, 0, rfl, row_nil _ _ _⟩, Below.refl _ _⟩
  · have g1 : getS s = fin s.size (steps s (s.size + 1) 0 0) := if_neg hlong
    rw [g1]
    have hs : s.size ≤ 1496 := by omega
    have q1 : decide ((1496 : Int) < (s.size : Int)) = false := by simp; omega
    have q1' : decide (1496 < s.size) = false := by simp; omega
    go_enter Try.func12, Try.ntmps12
    go_wp2
    clear q1 q1'
    go_loopg [5, 6, 7] (s.size) (fun q out p z wr => ∃ (at_ k f : Nat) (pre : List Stp), at_ ≤ s.size ∧ k ≤ 64 ∧ q = s.size - at_ ∧ 2 * k ≤ at_ ∧ s.size < at_ + f ∧ p = .int .i64 (at_ : Int) ∧ pre.length = k ∧ Hid (∀ x ∈ pre, x.e = 0) ∧ wr.ownsRow w.heap.size 32 2 out k (optCells (pre.map (·.o))) ∧ Hid (steps s (s.size + 1) 0 0 = pre ++ steps s f at_ k) ∧ Below w.heap.size w wr)
    case atStart => exact ⟨0, 0, s.size + 1, [], by omega, by omega, rfl, by omega, by omega, rfl, rfl, Lib.hid (fun x hx => by simp at hx), World.ownsRow_nil _ _ _ _, Lib.hid rfl, Below.refl _ _⟩
    case round =>
      obtain ⟨at_, k, f, pre, hle, hk64, hq, h2k, hf, rfl, hpl, hall, hrow, hst, hB⟩ := hrel
      have A := Lib.hid hq; clear hq
      obtain ⟨ao, cap, rfl⟩ := own_slice hrow
      by_cases hlt : at_ < s.size
      · have hh : decide ((at_ : Int) < (s.size : Int)) = true := by simp; omega
        obtain ⟨f, rfl⟩ : ∃ g, f = g + 1 := ⟨f - 1, by omega⟩
        have hrs := tail_size s at_ hle
        have HSB := Lib.hid (fun e => steps_bad (s := s) (f := f) (at_ := at_) (k := k) (e := e) hlt)
        have HSO := Lib.hid (steps_ok (s := s) (f := f) (at_ := at_) (k := k) hlt)
        have hbadf : Hid (∀ e, e ≠ 0 → bad (tail s at_) k = some e → fin s.size (steps s (s.size + 1) 0 0) = ([], (at_ : Int), e)) := Lib.hid (fun e he hb => fin_bad (x := ⟨noOpt, at_, e⟩) (by rw [hst.out, HSB.out e hb]; exact List.prefix_rfl) hall.out he)
        by_cases hk : 64 ≤ k
        · obtain rfl : k = 64 := by omega
          have hg := Lib.hid (hbadf.out 4 (by decide) (by rw [bad, if_pos hk]))
          go_wp2
          go_ret3
          exact ⟨_, by rw [hg.out]; rfl, by rw [hg.out]; exact ⟨none, 0, rfl, row_nil _ _ _⟩, hB⟩
        have q2 : ((k : Int) == 64) = false := by simp; omega
        have q2' : (k == 64) = false := by simp; omega
        by_cases h2 : s.size < at_ + 2
        · have hg := Lib.hid (hbadf.out 6 (by decide) (by rw [bad, if_neg hk, if_pos (by omega)]))
          obtain rfl : at_ = s.size - 1 := by omega
          have q3 : (((s.size - 1 : Nat) : Int) + 1 == (s.size : Int)) = true := by simp; omega
          have q3' : (s.size - 1 + 1 == s.size) = true := by simp; omega
          generalize hat : s.size - 1 = at_ at *
          have Hat := Lib.hid hat; clear hat
          go_wp2
          go_ret3
          exact ⟨_, by rw [hg.out]; rfl, by rw [hg.out]; exact ⟨none, 0, rfl, row_nil _ _ _⟩, hB⟩
        have q3 : ((at_ : Int) + 1 == (s.size : Int)) = false := by simp; omega
        have q3' : (at_ + 1 == s.size) = false := by simp; omega
        have p1 : at_ + 1 < s.size := by omega
        have p1' : (at_ : Int) + 1 < (s.size : Int) := by omega
        have p0' : (at_ : Int) < (s.size : Int) := by omega
        have hb1 : b1 (tail s at_) = s[at_ + 1] := tail_getD s at_ 1 p1
        have hbb := s[at_ + 1].toNat_lt
        have hb8 : ((s[at_ + 1].toNat : Nat) : Int) ≤ 255 := by omega
        by_cases h3 : s[at_ + 1].toNat < 2
        · have hg := Lib.hid (hbadf.out 7 (by decide) (by rw [bad, if_neg hk, if_neg (by omega), hb1, if_pos h3]))
          have q4 : decide (((s[at_ + 1].toNat : Nat) : Int) < 2) = true := by simp; omega
          have q4' : decide (s[at_ + 1].toNat < 2) = true := by simp; omega
          go_wp2
          go_ret3
          exact ⟨_, by rw [hg.out]; rfl, by rw [hg.out]; exact ⟨none, 0, rfl, row_nil _ _ _⟩, hB⟩
        have q4 : decide (((s[at_ + 1].toNat : Nat) : Int) < 2) = false := by simp; omega
        have q4' : decide (s[at_ + 1].toNat < 2) = false := by simp; omega
        by_cases h4 : s.size < at_ + s[at_ + 1].toNat
        · have hg := Lib.hid (hbadf.out 6 (by decide) (by rw [bad, if_neg hk, if_neg (by omega), hb1, if_neg h3, if_pos (by omega)]))
          have q5 : decide ((s.size : Int) < (at_ : Int) + ((s[at_ + 1].toNat : Nat) : Int)) = true := by simp; omega
          have q5' : decide (s.size < at_ + s[at_ + 1].toNat) = true := by simp; omega
          go_wp2
          go_ret3
          exact ⟨_, by rw [hg.out]; rfl, by rw [hg.out]; exact ⟨none, 0, rfl, row_nil _ _ _⟩, hB⟩
        have q5 : decide ((s.size : Int) < (at_ : Int) + ((s[at_ + 1].toNat : Nat) : Int)) = false := by simp; omega
        have q5' : decide (s.size < at_ + s[at_ + 1].toNat) = false := by simp; omega
        have Hb := Lib.hid (HSO.out (by rw [bad, if_neg hk, if_neg (by omega), hb1, if_neg h3, if_neg (by omega)]))
        have hox : optOf (tail s at_) = ⟨s[at_], s.extract (at_ + 2) (at_ + s[at_ + 1].toNat)⟩ := by
          unfold optOf
          rw [hb1, tail_extract s at_ _ (by omega), tail_getD s at_ 0 (by omega)]
          rfl
        have Hox := Lib.hid hox; clear hox
        have Hb1 := Lib.hid hb1; clear hb1
        have p2 : (2 : Int) ≤ ((s[at_ + 1].toNat : Nat) : Int) := by omega
        have p3 : (at_ : Int) + ((s[at_ + 1].toNat : Nat) : Int) ≤ (s.size : Int) := by omega
        have p4 : (at_ : Int) + 2 ≤ (at_ : Int) + ((s[at_ + 1].toNat : Nat) : Int) := by omega
        have hw1 : IntKind.i64.wrap ((at_ : Int) + 2) = (at_ : Int) + 2 := IntWalk.i64_in _ (by omega)
        have hw2 : IntKind.i64.wrap ((at_ : Int) + ((s[at_ + 1].toNat : Nat) : Int)) = (at_ : Int) + ((s[at_ + 1].toNat : Nat) : Int) := IntWalk.i64_in _ (by omega)
        have hsl : ∀ W, (Instr.slice 9 (.string s) (some (.int .i64 ((at_ : Int) + 2))) (some (.int .i64 ((at_ : Int) + ((s[at_ + 1].toNat : Nat) : Int)))) none).run Try.prog W = .ok (.string (s.extract (at_ + 2) (at_ + s[at_ + 1].toNat))) W := fun W =>
          run_slice_string W 9 s .i64 .i64 _ _ Try.underlying9 (by omega) p4 p3
        have hcl := optCells_length (pre.map (·.o))
        rw [List.length_map, hpl] at hcl
        go_wp2
        have hrowd : wr.drew.ownsRow w.heap.size 32 2 (.slice ao k cap) k (optCells (pre.map (·.o))) := hrow
        have hBd := below_drew hB
        refine start_ (n := 15) (S := fun W' => True) (ds := [13, 14]) (#[false, false, false, false, false, false, false, false, false, false, false, false, false, false, false]) (by kernel_rfl) rfl rfl (trivial) (fun hS => ?_)
        refine take_ (i := 0) (N := some 40) (v := ?_) (a' := ?_) #[true, false, false, false, false, false, false, false, false, false, false, false, false, false, false] rfl rfl (by kernel_rfl) (fun _ _ _ h => h) (.inl ⟨by rfl, fun w' hS' => ?_⟩) hS ?_ ?_
        rotate_left
        · obtain _ := hS'
          go_simp
          with_reducible rfl
        rotate_left
        · simp only [Act.put, List.setIfInBounds_toArray, List.set_cons_zero, List.set_cons_succ]
          rfl
        refine take_ (i := 1) (N := some 41) (v := ?_) (a' := ?_) #[true, true, false, false, false, false, false, false, false, false, false, false, false, false, false] rfl rfl (by kernel_rfl) (fun _ _ _ h => h) (.inl ⟨by rfl, fun w' hS' => ?_⟩) hS ?_ ?_
        rotate_left
        · obtain _ := hS'
          go_simp
          with_reducible rfl
        rotate_left
        · simp only [Act.put, List.setIfInBounds_toArray, List.set_cons_zero, List.set_cons_succ]
          rfl
        refine take_ (i := 2) (N := some 42) (v := ?_) (a' := ?_) #[true, true, true, false, false, false, false, false, false, false, false, false, false, false, false] rfl rfl (by kernel_rfl) (fun _ _ _ h => h) (.inl ⟨by rfl, fun w' hS' => ?_⟩) hS ?_ ?_
        rotate_left
        · obtain _ := hS'
          go_simp
          with_reducible rfl
        rotate_left
        · simp only [Act.put, List.setIfInBounds_toArray, List.set_cons_zero, List.set_cons_succ]
          rfl
        refine take_ (i := 3) (N := some 43) (v := ?_) (a' := ?_) #[true, true, true, true, false, false, false, false, false, false, false, false, false, false, false] rfl rfl (by kernel_rfl) (fun _ _ _ h => h) (.inl ⟨by rfl, fun w' hS' => ?_⟩) hS ?_ ?_
        rotate_left
        · obtain _ := hS'
          go_simp
          with_reducible rfl
        rotate_left
        · simp only [Act.put, List.setIfInBounds_toArray, List.set_cons_zero, List.set_cons_succ]
          rfl
        refine take_ (i := 4) (N := some 44) (v := ?_) (a' := ?_) #[true, true, true, true, true, false, false, false, false, false, false, false, false, false, false] rfl rfl (by kernel_rfl) (fun _ _ _ h => h) (.inl ⟨by rfl, fun w' hS' => ?_⟩) hS ?_ ?_
        rotate_left
        · obtain _ := hS'
          go_simp
          with_reducible rfl
        rotate_left
        · simp only [Act.put, List.setIfInBounds_toArray, List.set_cons_zero, List.set_cons_succ]
          rfl
        refine take_ (i := 5) (N := some 45) (v := ?_) (a' := ?_) #[true, true, true, true, true, true, false, false, false, false, false, false, false, false, false] rfl rfl (by kernel_rfl) (fun _ _ _ h => h) (.inl ⟨by rfl, fun w' hS' => ?_⟩) hS ?_ ?_
        rotate_left
        · obtain _ := hS'
          go_simp
          with_reducible rfl
        rotate_left
        · simp only [Act.put, List.setIfInBounds_toArray, List.set_cons_zero, List.set_cons_succ]
          rfl
        refine take_ (i := 6) (N := some 46) (v := ?_) (a' := ?_) #[true, true, true, true, true, true, true, false, false, false, false, false, false, false, false] rfl rfl (by kernel_rfl) (fun _ _ _ h => h) (.inl ⟨by rfl, fun w' hS' => ?_⟩) hS ?_ ?_
        rotate_left
        · obtain _ := hS'
          go_simp
          with_reducible rfl
        rotate_left
        · simp only [Act.put, List.setIfInBounds_toArray, List.set_cons_zero, List.set_cons_succ]
          rfl
        refine take_ (i := 7) (N := some 47) (v := ?_) (a' := ?_) #[true, true, true, true, true, true, true, true, false, false, false, false, false, false, false] rfl rfl (by kernel_rfl) (fun _ _ _ h => h) (.inl ⟨by rfl, fun w' hS' => ?_⟩) hS ?_ ?_
        rotate_left
        · obtain _ := hS'
          go_simp
          with_reducible rfl
        rotate_left
        · simp only [Act.put, List.setIfInBounds_toArray, List.set_cons_zero, List.set_cons_succ]
          rfl
        refine take_ (i := 8) (N := some 48) (v := ?_) (a' := ?_) #[true, true, true, true, true, true, true, true, true, false, false, false, false, false, false] rfl rfl (by kernel_rfl) (fun _ _ _ h => h) (.inl ⟨by rfl, fun w' hS' => ?_⟩) hS ?_ ?_
        rotate_left
        · obtain _ := hS'
          go_simp
          with_reducible rfl
        rotate_left
        · simp only [Act.put, List.setIfInBounds_toArray, List.set_cons_zero, List.set_cons_succ]
          rfl
        refine take_ (i := 9) (N := some 49) (v := ?_) (a' := ?_) #[true, true, true, true, true, true, true, true, true, true, false, false, false, false, false] rfl rfl (by kernel_rfl) (fun _ _ _ h => h) (.inl ⟨by rfl, fun w' hS' => ?_⟩) hS ?_ ?_
        rotate_left
        · obtain _ := hS'
          go_simp
          with_reducible rfl
        rotate_left
        · simp only [Act.put, List.setIfInBounds_toArray, List.set_cons_zero, List.set_cons_succ]
          rfl
        refine take_ (i := 10) (N := some 50) (v := ?_) (a' := ?_) #[true, true, true, true, true, true, true, true, true, true, true, false, false, false, false] rfl rfl (by kernel_rfl) (fun _ _ _ h => h) (.inl ⟨by rfl, fun w' hS' => ?_⟩) hS ?_ ?_
        rotate_left
        · obtain _ := hS'
          go_simp
          with_reducible rfl
        rotate_left
        · simp only [Act.put, List.setIfInBounds_toArray, List.set_cons_zero, List.set_cons_succ]
          rfl
        refine take_ (i := 11) (N := some 51) (v := ?_) (a' := ?_) #[true, true, true, true, true, true, true, true, true, true, true, true, false, false, false] rfl rfl (by kernel_rfl) (fun _ _ _ h => h) (.inl ⟨by rfl, fun w' hS' => ?_⟩) hS ?_ ?_
        rotate_left
        · obtain _ := hS'
          go_simp
          with_reducible rfl
        rotate_left
        · simp only [Act.put, List.setIfInBounds_toArray, List.set_cons_zero, List.set_cons_succ]
          rfl
        refine wpAnyLast_all (rs := [12]) (by kernel_rfl) (by simp) ?_
        intro i hi'
        obtain rfl := List.mem_singleton.1 hi'
        refine wpOp_step rfl (fun K' hK => ?_)
        go_simp
        refine hK _ _ ⟨fun _ h => h, ?_⟩
        clear hK K'
        simp only [Act.put, List.setIfInBounds_toArray, List.set_cons_zero, List.set_cons_succ]
        refine wpAnyLast_all (rs := [13]) (by kernel_rfl) (by simp) ?_
        intro i hi'
        obtain rfl := List.mem_singleton.1 hi'
        refine wpOp_step rfl (fun K' hK => ?_)
        refine if_wanted rfl ?_
        refine wp_append_own _ (.tmp 40) (.tmp 52) 22 rfl w.heap.size 32 i0 (.agg #[.int .u8 0, .string ⟨#[]⟩]) 2 24 und22 hi hz0 hz1 hz2 rfl (by decide) _ _ _ rfl (hrowd.alloc _) ⟨wr.heap.size, 0, none⟩ 1 1 [.int .u8 (((s[at_].toNat : Nat) : Int)), .string (s.extract (at_ + 2) (at_ + s[at_ + 1].toNat))] rfl rfl (cell_two _ _ _ _) (by simp [Value.oneCell']) (by unfold maxLen; omega) (by omega) (by have := hB.size; simp; omega) ?_
        intro v' w2 hown' hgrow _
        obtain ⟨g', cap', rfl⟩ := ownsRow_succ hown'
        refine hK _ _ ⟨fun h => by simp at h, ?_⟩
        clear hK K'
        simp only [Act.put, List.setIfInBounds_toArray, List.set_cons_zero, List.set_cons_succ]
        refine wpAnyLast_all (rs := [14]) (by kernel_rfl) (by simp) ?_
        intro i hi'
        obtain rfl := List.mem_singleton.1 hi'
        refine wpOp_step rfl (fun K' hK => ?_)
        go_simp
        refine hK _ _ ⟨fun _ _ => hS, ?_⟩
        clear hK K'
        refine wpAnyLast_done (by kernel_rfl) ?_ _
        go_wp2
        go_roundg (s.size - (at_ + s[at_ + 1].toNat))
        case measure => have := A.out; omega
        case rel =>
          refine ⟨at_ + s[at_ + 1].toNat, k + 1, f, pre ++ [⟨optOf (tail s at_), at_, 0⟩], by omega, by omega, rfl, by omega, by omega, by go_num, by simp [hpl], ?_, ?_, Lib.hid ?_, (hBd.alloc (by have := hB.size; exact this) _).grown hgrow (by have := hB.size; simp; omega) (own_base hrowd)⟩
          · exact Lib.hid (fun y hy => by
              rcases List.mem_append.1 hy with hy | hy
              · exact hall.out y hy
              · rw [List.mem_singleton.1 hy])
          · rw [List.map_append, List.map_cons, List.map_nil, optCells_snoc, Hox.out]
            exact hown'
          · rw [hst.out, Hb.out, Hb1.out, List.append_assoc]; rfl
      · obtain rfl : at_ = s.size := by omega
        have hh : decide ((s.size : Int) < (s.size : Int)) = false := by simp
        have hg := Lib.hid (fin_all (n := s.size) (ss := steps s (s.size + 1) 0 0) (by rw [hst.out, steps_end hlt, List.append_nil]; exact hall.out))
        have hst2 : Hid (steps s (s.size + 1) 0 0 = pre) := Lib.hid (by rw [hst.out, steps_end hlt, List.append_nil])
        go_wp2
        go_ret3
        refine ⟨_, by rw [hg.out]; rfl, ?_, hB⟩
        rw [hg.out, hst2.out]
        exact row_own_n hrow (by simp [hpl])
end Go.Proofs.Ytjkhmnipffdliaa
