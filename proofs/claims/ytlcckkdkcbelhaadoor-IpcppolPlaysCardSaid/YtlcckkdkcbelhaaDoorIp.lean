/-
  Layer 15 (ipcppol): ipcpopt's Put, and only, walked.
-/
import Derived.Test.YtlcckkdkcbelhaaDoorFk
set_option linter.unusedVariables false
set_option linter.unusedSimpArgs false
namespace Go.Proofs.YtlcckkdkcbelhaaDoor
open Go.RowKit Go.Proofs.YtlcckkdkcbelhaaDoorW.PrintWords Go.Proofs.YtlcckkdkcbelhaaDoorW.PrintLast

/-- What IPCP's options say. -/
structure Icp where
  ha : Bool
  a : UInt32
  h1 : Bool
  d1 : UInt32
  h2 : Bool
  d2 : UInt32
deriving DecidableEq
def noI : Icp := ⟨false, 0, false, 0, false, 0⟩
def Icp.cells (x : Icp) : Array Value := #[.bool x.ha, .int .u32 (nv x.a), .bool x.h1, .int .u32 (nv x.d1), .bool x.h2, .int .u32 (nv x.d2)]
def Icp.has (x : Icp) (k : Nat) : Bool := if k = 0 then x.ha else if k = 1 then x.h1 else x.h2
def Icp.val (x : Icp) (k : Nat) : UInt32 := if k = 0 then x.a else if k = 1 then x.d1 else x.d2
def putL (x : Icp) : Nat → List Opt
  | 0 => []
  | k + 1 => putL x k ++ (if x.has k = true then [⟨tk k, oct (x.val k)⟩] else [])
def okI (x : Icp) (k : Nat) : Prop := ∀ j, j < k → x.has j = true ∨ x.val j = 0
instance (x : Icp) (k : Nat) : Decidable (okI x k) := by unfold okI; exact inferInstance
/-- What Put answers. -/
def putI (x : Icp) : List Opt × Int := if okI x 3 then (putL x 3, 0) else ([], 2)
theorem putL_len (x : Icp) (k : Nat) : (putL x k).length ≤ k := by
  induction k with
  | zero => simp [putL]
  | succ k ih => simp only [putL, List.length_append]; split <;> simp <;> omega
theorem okI_succ {x : Icp} {k : Nat} (h : okI x k) (h2 : x.has k = true ∨ x.val k = 0) : okI x (k + 1) := fun j hj => by
  rcases Nat.lt_or_ge j k with h' | h'
  · exact h j h'
  · obtain rfl : j = k := by omega
    exact h2
theorem okI_not {x : Icp} {k : Nat} (hk : k < 3) (h1 : x.has k = false) (h2 : x.val k ≠ 0) : putI x = ([], 2) := by
  unfold putI
  rw [if_neg]
  intro h
  rcases h k hk with h' | h'
  · rw [h1] at h'; cases h'
  · exact h2 h'
theorem ptr0_calls (g : Nat) (w : World) : Calls Tryd.prog 89 #[.pointer (some ⟨g, 0, none⟩)] w fun e w' => e = .returned (.tuple #[.pointer (some ⟨g, 0, none⟩), .pointer (some ⟨g, 1, none⟩)]) ∧ Below w.heap.size w w' := by
  go_enter Tryd.func89, Tryd.ntmps89
  go_wp2
  go_quiet (fail)
  go_wp2
  go_ret2
  exact ⟨rfl, below_drewN (Below.refl _ _) _⟩
theorem ptr1_calls (g : Nat) (w : World) : Calls Tryd.prog 90 #[.pointer (some ⟨g, 0, none⟩)] w fun e w' => e = .returned (.tuple #[.pointer (some ⟨g, 2, none⟩), .pointer (some ⟨g, 3, none⟩)]) ∧ Below w.heap.size w w' := by
  go_enter Tryd.func90, Tryd.ntmps90
  go_wp2
  go_quiet (fail)
  go_wp2
  go_ret2
  exact ⟨rfl, below_drewN (Below.refl _ _) _⟩
theorem ptr2_calls (g : Nat) (w : World) : Calls Tryd.prog 91 #[.pointer (some ⟨g, 0, none⟩)] w fun e w' => e = .returned (.tuple #[.pointer (some ⟨g, 4, none⟩), .pointer (some ⟨g, 5, none⟩)]) ∧ Below w.heap.size w w' := by
  go_enter Tryd.func91, Tryd.ntmps91
  go_wp2
  go_quiet (fail)
  go_wp2
  go_ret2
  exact ⟨rfl, below_drewN (Below.refl _ _) _⟩
attribute [local go_sem] idx0 idx1 idx2 fv
set_option maxHeartbeats 8000000 in
set_option maxRecDepth 100000 in
theorem puti_calls (x : Icp) (w : World) (hK : K w) :
    Calls Tryd.prog 33 #[.agg x.cells] w fun e w' => ∃ v, e = .returned (.tuple #[v, .int .i64 (putI x).2]) ∧ w'.ownsRow w.heap.size 57 2 v (putI x).1.length (optCells (putI x).1) ∧ Below w.heap.size w w' := by
  have L : ∀ o1, K (w.alloc o1) := fun o1 => hK.below ((Below.refl _ _).alloc (Nat.le_refl _) _)
  have u0 := fun o1 => (L o1).c0
  have u1 := fun o1 => (L o1).c1
  have u2 := fun o1 => (L o1).c2
  have u3 := fun o1 => (L o1).c3
  have u4' := fun o1 => (L o1).c4
  have u5' := fun o1 => (L o1).c5
  clear L hK
  obtain ⟨i0, hi, hz⟩ := Option.map_eq_some_iff.1 info57
  simp only [Prod.mk.injEq] at hz
  obtain ⟨hz0, hz1, hz2⟩ := hz
  have hxc : x.cells = #[.bool x.ha, .int .u32 (nv x.a), .bool x.h1, .int .u32 (nv x.d1), .bool x.h2, .int .u32 (nv x.d2)] := rfl
  rw [hxc]
  obtain ⟨ha, a, h1, d1, h2, d2⟩ := x
  simp only at hxc
  clear hxc
  go_enter Tryd.func33, Tryd.ntmps33
  go_wp2
  go_loopg [2, 3, 9] 3 (fun q l e i wr => ∃ k : Nat, k ≤ 3 ∧ q = 3 - k ∧ i = .int .i64 (k : Int) ∧ e = .int .i64 0 ∧ Hid (okI ⟨ha, a, h1, d1, h2, d2⟩ k) ∧ wr.ownsRow w.heap.size 57 2 l (putL ⟨ha, a, h1, d1, h2, d2⟩ k).length (optCells (putL ⟨ha, a, h1, d1, h2, d2⟩ k)) ∧
    wr.heap[w.heap.size]? = some (.cells #[.bool ha, .int .u32 (nv a), .bool h1, .int .u32 (nv d1), .bool h2, .int .u32 (nv d2)] 36 (0, 0)) ∧ Below w.heap.size w wr)
  case atStart => exact ⟨0, by omega, rfl, rfl, rfl, Lib.hid (fun j hj => by omega), World.ownsRow_nil _ _ _ _, alloc_new _ _ _ rfl, (Below.refl _ _).alloc (Nat.le_refl _) _⟩
  case round =>
    obtain ⟨k, hk, hq, rfl, rfl, hok, hrow, b0, hB⟩ := hrel
    have A := Lib.hid hq; clear hq
    have hsz := hB.size
    have z0 := (Array.getElem?_eq_some_iff.1 b0).1
    by_cases hlt : k < 3
    · rcases (show k = 0 ∨ k = 1 ∨ k = 2 by omega) with rfl | rfl | rfl
      · cases ha with
        | true =>
          have hlen := putL_len ⟨true, a, h1, d1, h2, d2⟩ 0
          have hsucc : putL ⟨true, a, h1, d1, h2, d2⟩ 1 = putL ⟨true, a, h1, d1, h2, d2⟩ 0 ++ [⟨3, oct a⟩] := rfl
          have Hs := Lib.hid hsucc; clear hsucc
          have hokn := Lib.hid (okI_succ hok.out (.inl (rfl : Icp.has ⟨true, a, h1, d1, h2, d2⟩ 0 = true)))
          generalize putL ⟨true, a, h1, d1, h2, d2⟩ 0 = acc at *
          have hal := optCells_length acc
          go_wp2_with (first
            | (go_at_call 89; with_reducible refine (ptr0_calls w.heap.size _).mono ?_; rintro e w1 ⟨rfl, hb1⟩
               have b1 : w1.heap[w.heap.size]? = some (.cells #[.bool true, .int .u32 (nv a), .bool h1, .int .u32 (nv d1), .bool h2, .int .u32 (nv d2)] 36 (0, 0)) := (hb1.block _ (by simp; omega)).trans ((Lib.alloc_old _ _ _ z0).trans b0)
               have r1 : w1.ownsRow w.heap.size 57 2 _ _ _ := own_below (hrow.alloc _) hb1
               have kb : w1.heap[wr.heap.size]? = some (.cells #[.int .u8 3, .func (.func 89) #[] #[]] 73 (0, 0)) := (hb1.block _ (by simp)).trans (alloc_new _ _ _ rfl)
               have hB1 := (hB.alloc hsz (.cells #[.int .u8 3, .func (.func 89) #[] #[]] 73)).trans (hb1.mono (by simp; omega))
               have c0 := blk_cell b1 0
               have c1 := blk_cell b1 1))
          have hS0 : w1.drew.cell? ⟨wr.heap.size, 0, none⟩ = some (.int .u8 3) ∧ w1.drew.cell? ⟨w.heap.size, 1, none⟩ = some (.int .u32 (nv a)) := ⟨by rw [World.cell?_drew, blk_cell kb 0]; rfl, by rw [World.cell?_drew, blk_cell b1 1]; rfl⟩
          have r1' : w1.drew.ownsRow w.heap.size 57 2 _ _ _ := own_below r1 (below_drew (Below.refl _ _))
          have hB1' := below_drew hB1
          have b1' : w1.drew.heap[w.heap.size]? = some (.cells #[.bool true, .int .u32 (nv a), .bool h1, .int .u32 (nv d1), .bool h2, .int .u32 (nv d2)] 36 (0, 0)) := b1
          have zw : wr.heap.size < w1.drew.heap.size := (Array.getElem?_eq_some_iff.1 kb).1
          have zg := Lib.hid z0
          clear kb r1 hB1 b1 b0 c0 c1 hrow
          refine start_ (n := 11) (S := fun W' => W'.cell? ⟨wr.heap.size, 0, none⟩ = some (.int .u8 3) ∧ W'.cell? ⟨w.heap.size, 1, none⟩ = some (.int .u32 (nv a))) (ds := [9, 10]) (#[false, false, false, false, false, false, false, false, false, false, false]) (by kernel_rfl) rfl rfl hS0 (fun hS => ?_)
          clear hS0
          generalize w1.drew = w2 at *
          refine take_ (i := 0) (N := some 22) (v := ?_) (a' := ?_) #[true, false, false, false, false, false, false, false, false, false, false] rfl rfl (by kernel_rfl) (fun _ _ _ h => h) (.inl ⟨by rfl, fun w' hS' => ?_⟩) hS ?_ ?_
          rotate_left
          · obtain ⟨s1, s2⟩ := hS'
            go_simp
            with_reducible rfl
          rotate_left
          · simp only [Act.put, List.setIfInBounds_toArray, List.set_cons_zero, List.set_cons_succ]
            rfl
          refine take_ (i := 1) (N := some 23) (v := ?_) (a' := ?_) #[true, true, false, false, false, false, false, false, false, false, false] rfl rfl (by kernel_rfl) (fun _ _ _ h => h) (.inl ⟨by rfl, fun w' hS' => ?_⟩) hS ?_ ?_
          rotate_left
          · obtain ⟨s1, s2⟩ := hS'
            go_simp
            with_reducible rfl
          rotate_left
          · simp only [Act.put, List.setIfInBounds_toArray, List.set_cons_zero, List.set_cons_succ]
            rfl
          refine take_ (i := 2) (N := some 24) (v := ?_) (a' := ?_) #[true, true, true, false, false, false, false, false, false, false, false] rfl rfl (by kernel_rfl) (fun _ _ _ h => h) (.inl ⟨by rfl, fun w' hS' => ?_⟩) hS ?_ ?_
          rotate_left
          · obtain ⟨s1, s2⟩ := hS'
            go_simp
            with_reducible rfl
          rotate_left
          · simp only [Act.put, List.setIfInBounds_toArray, List.set_cons_zero, List.set_cons_succ]
            rfl
          refine take_ (i := 3) (N := some 25) (v := ?_) (a' := ?_) #[true, true, true, true, false, false, false, false, false, false, false] rfl rfl (by kernel_rfl) (fun _ _ _ h => h) (.inl ⟨by rfl, fun w' hS' => ?_⟩) hS ?_ ?_
          rotate_left
          · obtain ⟨s1, s2⟩ := hS'
            go_simp
            with_reducible rfl
          rotate_left
          · simp only [Act.put, List.setIfInBounds_toArray, List.set_cons_zero, List.set_cons_succ]
            rfl
          refine take_ (i := 4) (N := some 26) (v := ?_) (a' := ?_) #[true, true, true, true, true, false, false, false, false, false, false] rfl rfl (by kernel_rfl) (fun _ _ _ h => h) (.inl ⟨by rfl, fun w' hS' => ?_⟩) hS ?_ ?_
          rotate_left
          · obtain ⟨s1, s2⟩ := hS'
            go_simp
            with_reducible rfl
          rotate_left
          · simp only [Act.put, List.setIfInBounds_toArray, List.set_cons_zero, List.set_cons_succ]
            rfl
          refine take_ (i := 5) (N := some 27) (v := ?_) (a' := ?_) #[true, true, true, true, true, true, false, false, false, false, false] rfl rfl (by kernel_rfl) (fun _ _ _ h => h) (.inl ⟨by rfl, fun w' hS' => ?_⟩) hS ?_ ?_
          rotate_left
          · obtain ⟨s1, s2⟩ := hS'
            go_simp
            with_reducible rfl
          rotate_left
          · simp only [Act.put, List.setIfInBounds_toArray, List.set_cons_zero, List.set_cons_succ]
            rfl
          refine wpAnyLast_all (rs := [6]) (by kernel_rfl) (by simp) ?_
          intro i hi'
          obtain rfl := List.mem_singleton.1 hi'
          refine wpOp_step rfl (fun K' hK => ?_)
          go_simp
          go_at_call 47
          with_reducible refine (put32_calls a _).mono ?_
          rintro e w3 ⟨rfl, hb3⟩
          have hT : w3.cell? ⟨wr.heap.size, 0, none⟩ = some (.int .u8 3) ∧ w3.cell? ⟨w.heap.size, 1, none⟩ = some (.int .u32 (nv a)) := ⟨(hb3.cell (p := ⟨wr.heap.size, 0, none⟩) (cell_lt hS.1)).trans hS.1, (hb3.cell (p := ⟨w.heap.size, 1, none⟩) (cell_lt hS.2)).trans hS.2⟩
          refine hK _ _ ⟨fun _ _ => hT, ?_⟩
          clear hK K' hS
          simp only [Act.put, List.setIfInBounds_toArray, List.set_cons_zero, List.set_cons_succ]
          have hS := hT
          clear hT
          have r3 : w3.ownsRow w.heap.size 57 2 _ _ _ := own_below r1' hb3
          have hB3 := hB1'.trans (hb3.mono hB1'.size)
          have b3 := (hb3.block _ (by omega)).trans b1'
          clear r1' hB1' b1' hb3
          refine take_ (i := 7) (N := some 29) (v := ?_) (a' := ?_) #[true, true, true, true, true, true, true, true, false, false, false] rfl rfl (by kernel_rfl) (fun _ _ _ h => h) (.inl ⟨by rfl, fun w' hS' => ?_⟩) hS ?_ ?_
          rotate_left
          · obtain ⟨s1, s2⟩ := hS'
            go_simp
            with_reducible rfl
          rotate_left
          · simp only [Act.put, List.setIfInBounds_toArray, List.set_cons_zero, List.set_cons_succ]
            rfl
          refine wpAnyLast_all (rs := [8]) (by kernel_rfl) (by simp) ?_
          intro i hi'
          obtain rfl := List.mem_singleton.1 hi'
          refine wpOp_step rfl (fun K' hK => ?_)
          go_simp
          refine hK _ _ ⟨fun _ h => ⟨(((Below.refl w3.heap.size w3).alloc (Nat.le_refl _) _).cell (p := ⟨wr.heap.size, 0, none⟩) (cell_lt h.1)).trans h.1, (((Below.refl w3.heap.size w3).alloc (Nat.le_refl _) _).cell (p := ⟨w.heap.size, 1, none⟩) (cell_lt h.2)).trans h.2⟩, ?_⟩
          clear hK K'
          simp only [Act.put, List.setIfInBounds_toArray, List.set_cons_zero, List.set_cons_succ]
          refine wpAnyLast_all (rs := [9]) (by kernel_rfl) (by simp) ?_
          intro i hi'
          obtain rfl := List.mem_singleton.1 hi'
          refine wpOp_step rfl (fun K' hK => ?_)
          rw [if_pos (by rfl)]
          refine wp_append_own _ (.tmp 22) (.tmp 30) 32 rfl w.heap.size 57 i0 (.agg #[.int .u8 0, .string ⟨#[]⟩]) 2 24 und32 hi hz0 hz1 hz2 rfl (by decide) _ _ _ rfl (r3.alloc _) ⟨w3.heap.size, 0, none⟩ 1 1 [.int .u8 3, .string (oct a)] rfl rfl (cell_two _ _ _ _) (by simp [Value.oneCell']) (by unfold maxLen; omega) (by omega) (by have := hB3.size; simp; omega) ?_
          intro v5 w5 hown5 hg5 _
          have b3a := (Lib.alloc_old w3 (.cells #[.int .u8 3, .string (oct a)] 57) _ ((Array.getElem?_eq_some_iff.1 b3).1)).trans b3
          have b5 := (hg5.block w.heap.size ((Array.getElem?_eq_some_iff.1 b3a).1) (own_ne (r3.alloc _) b3a (by decide))).trans b3a
          have hB5 := (hB3.alloc hB3.size (.cells #[.int .u8 3, .string (oct a)] 57)).grown hg5 (by have := hB3.size; simp; omega) (own_base r3)
          refine hK _ _ ⟨fun h => by simp at h, ?_⟩
          clear hK K' hg5 r3 b3 b3a hB3
          simp only [Act.put, List.setIfInBounds_toArray, List.set_cons_zero, List.set_cons_succ]
          refine wpAnyLast_all (rs := [10]) (by kernel_rfl) (by simp) ?_
          intro i hi'
          obtain rfl := List.mem_singleton.1 hi'
          refine wpOp_step rfl (fun K' hK => ?_)
          go_simp
          refine hK _ _ ⟨fun h => by simp at h, ?_⟩
          clear hK K'
          simp only [Act.put, List.setIfInBounds_toArray, List.set_cons_zero, List.set_cons_succ]
          refine wpAnyLast_done (by kernel_rfl) ?_ _
          go_wp2
          go_roundg 2
          case measure => have := A.out; omega
          case rel =>
            refine ⟨1, by omega, rfl, rfl, rfl, hokn, ?_, b5, hB5⟩
            rw [Hs.out, List.length_append, optCells_append]
            exact hown5
        | false =>
          have hsucc : putL ⟨false, a, h1, d1, h2, d2⟩ 1 = putL ⟨false, a, h1, d1, h2, d2⟩ 0 := by simp [putL, Icp.has]
          have Hs := Lib.hid hsucc; clear hsucc
          by_cases hz0 : a = 0
          · subst hz0
            have hokn := Lib.hid (okI_succ hok.out (.inr (rfl : Icp.val ⟨false, 0, h1, d1, h2, d2⟩ 0 = 0)))
            have n0 : nv 0 = 0 := rfl
            generalize hacc : putL ⟨false, 0, h1, d1, h2, d2⟩ 0 = acc at *
            have Hacc := Lib.hid hacc; clear hacc
            go_wp2_with (first
              | (go_at_call 89; with_reducible refine (ptr0_calls w.heap.size _).mono ?_; rintro e w1 ⟨rfl, hb1⟩
                 have b1 : w1.heap[w.heap.size]? = some (.cells #[.bool false, .int .u32 (nv 0), .bool h1, .int .u32 (nv d1), .bool h2, .int .u32 (nv d2)] 36 (0, 0)) := (hb1.block _ (by simp; omega)).trans ((Lib.alloc_old _ _ _ z0).trans b0)
                 have r1 : w1.ownsRow w.heap.size 57 2 _ _ _ := own_below (hrow.alloc _) hb1
                 have kb : w1.heap[wr.heap.size]? = some (.cells #[.int .u8 3, .func (.func 89) #[] #[]] 73 (0, 0)) := (hb1.block _ (by simp)).trans (alloc_new _ _ _ rfl)
                 have hB1 := (hB.alloc hsz (.cells #[.int .u8 3, .func (.func 89) #[] #[]] 73)).trans (hb1.mono (by simp; omega))
                 have c0 := blk_cell b1 0
                 have c1 := blk_cell b1 1))
            go_roundg 2
            case measure => have := A.out; omega
            case rel => exact ⟨1, by omega, rfl, rfl, rfl, hokn, by rw [Hs.out]; exact r1, b1, hB1⟩
          · have hne : (nv a != 0) = true := by
              rw [bne, show (0 : Int) = nv 0 from rfl, ni_bool, decide_eq_false hz0]; rfl
            have hbad := Lib.hid (okI_not (x := ⟨false, a, h1, d1, h2, d2⟩) (k := 0) (by omega) rfl hz0)
            clear hz0
            generalize hacc : putL ⟨false, a, h1, d1, h2, d2⟩ 0 = acc at *
            have Hacc := Lib.hid hacc; clear hacc
            go_wp2_with (first
              | (go_at_call 89; with_reducible refine (ptr0_calls w.heap.size _).mono ?_; rintro e w1 ⟨rfl, hb1⟩
                 have b1 : w1.heap[w.heap.size]? = some (.cells #[.bool false, .int .u32 (nv a), .bool h1, .int .u32 (nv d1), .bool h2, .int .u32 (nv d2)] 36 (0, 0)) := (hb1.block _ (by simp; omega)).trans ((Lib.alloc_old _ _ _ z0).trans b0)
                 have r1 : w1.ownsRow w.heap.size 57 2 _ _ _ := own_below (hrow.alloc _) hb1
                 have kb : w1.heap[wr.heap.size]? = some (.cells #[.int .u8 3, .func (.func 89) #[] #[]] 73 (0, 0)) := (hb1.block _ (by simp)).trans (alloc_new _ _ _ rfl)
                 have hB1 := (hB.alloc hsz (.cells #[.int .u8 3, .func (.func 89) #[] #[]] 73)).trans (hb1.mono (by simp; omega))
                 have c0 := blk_cell b1 0
                 have c1 := blk_cell b1 1))
            go_ret2
            rw [hbad.out]
            exact ⟨_, rfl, World.ownsRow_nil _ _ _ _, hB1⟩
      · cases h1 with
        | true =>
          have hlen := putL_len ⟨ha, a, true, d1, h2, d2⟩ 1
          have hsucc : putL ⟨ha, a, true, d1, h2, d2⟩ 2 = putL ⟨ha, a, true, d1, h2, d2⟩ 1 ++ [⟨129, oct d1⟩] := rfl
          have Hs := Lib.hid hsucc; clear hsucc
          have hokn := Lib.hid (okI_succ hok.out (.inl (rfl : Icp.has ⟨ha, a, true, d1, h2, d2⟩ 1 = true)))
          generalize putL ⟨ha, a, true, d1, h2, d2⟩ 1 = acc at *
          have hal := optCells_length acc
          go_wp2_with (first
            | (go_at_call 90; with_reducible refine (ptr1_calls w.heap.size _).mono ?_; rintro e w1 ⟨rfl, hb1⟩
               have b1 : w1.heap[w.heap.size]? = some (.cells #[.bool ha, .int .u32 (nv a), .bool true, .int .u32 (nv d1), .bool h2, .int .u32 (nv d2)] 36 (0, 0)) := (hb1.block _ (by simp; omega)).trans ((Lib.alloc_old _ _ _ z0).trans b0)
               have r1 : w1.ownsRow w.heap.size 57 2 _ _ _ := own_below (hrow.alloc _) hb1
               have kb : w1.heap[wr.heap.size]? = some (.cells #[.int .u8 129, .func (.func 90) #[] #[]] 73 (0, 0)) := (hb1.block _ (by simp)).trans (alloc_new _ _ _ rfl)
               have hB1 := (hB.alloc hsz (.cells #[.int .u8 129, .func (.func 90) #[] #[]] 73)).trans (hb1.mono (by simp; omega))
               have c0 := blk_cell b1 2
               have c1 := blk_cell b1 3))
          have hS0 : w1.drew.cell? ⟨wr.heap.size, 0, none⟩ = some (.int .u8 129) ∧ w1.drew.cell? ⟨w.heap.size, 3, none⟩ = some (.int .u32 (nv d1)) := ⟨by rw [World.cell?_drew, blk_cell kb 0]; rfl, by rw [World.cell?_drew, blk_cell b1 3]; rfl⟩
          have r1' : w1.drew.ownsRow w.heap.size 57 2 _ _ _ := own_below r1 (below_drew (Below.refl _ _))
          have hB1' := below_drew hB1
          have b1' : w1.drew.heap[w.heap.size]? = some (.cells #[.bool ha, .int .u32 (nv a), .bool true, .int .u32 (nv d1), .bool h2, .int .u32 (nv d2)] 36 (0, 0)) := b1
          have zw : wr.heap.size < w1.drew.heap.size := (Array.getElem?_eq_some_iff.1 kb).1
          have zg := Lib.hid z0
          clear kb r1 hB1 b1 b0 c0 c1 hrow
          refine start_ (n := 11) (S := fun W' => W'.cell? ⟨wr.heap.size, 0, none⟩ = some (.int .u8 129) ∧ W'.cell? ⟨w.heap.size, 3, none⟩ = some (.int .u32 (nv d1))) (ds := [9, 10]) (#[false, false, false, false, false, false, false, false, false, false, false]) (by kernel_rfl) rfl rfl hS0 (fun hS => ?_)
          clear hS0
          generalize w1.drew = w2 at *
          refine take_ (i := 0) (N := some 22) (v := ?_) (a' := ?_) #[true, false, false, false, false, false, false, false, false, false, false] rfl rfl (by kernel_rfl) (fun _ _ _ h => h) (.inl ⟨by rfl, fun w' hS' => ?_⟩) hS ?_ ?_
          rotate_left
          · obtain ⟨s1, s2⟩ := hS'
            go_simp
            with_reducible rfl
          rotate_left
          · simp only [Act.put, List.setIfInBounds_toArray, List.set_cons_zero, List.set_cons_succ]
            rfl
          refine take_ (i := 1) (N := some 23) (v := ?_) (a' := ?_) #[true, true, false, false, false, false, false, false, false, false, false] rfl rfl (by kernel_rfl) (fun _ _ _ h => h) (.inl ⟨by rfl, fun w' hS' => ?_⟩) hS ?_ ?_
          rotate_left
          · obtain ⟨s1, s2⟩ := hS'
            go_simp
            with_reducible rfl
          rotate_left
          · simp only [Act.put, List.setIfInBounds_toArray, List.set_cons_zero, List.set_cons_succ]
            rfl
          refine take_ (i := 2) (N := some 24) (v := ?_) (a' := ?_) #[true, true, true, false, false, false, false, false, false, false, false] rfl rfl (by kernel_rfl) (fun _ _ _ h => h) (.inl ⟨by rfl, fun w' hS' => ?_⟩) hS ?_ ?_
          rotate_left
          · obtain ⟨s1, s2⟩ := hS'
            go_simp
            with_reducible rfl
          rotate_left
          · simp only [Act.put, List.setIfInBounds_toArray, List.set_cons_zero, List.set_cons_succ]
            rfl
          refine take_ (i := 3) (N := some 25) (v := ?_) (a' := ?_) #[true, true, true, true, false, false, false, false, false, false, false] rfl rfl (by kernel_rfl) (fun _ _ _ h => h) (.inl ⟨by rfl, fun w' hS' => ?_⟩) hS ?_ ?_
          rotate_left
          · obtain ⟨s1, s2⟩ := hS'
            go_simp
            with_reducible rfl
          rotate_left
          · simp only [Act.put, List.setIfInBounds_toArray, List.set_cons_zero, List.set_cons_succ]
            rfl
          refine take_ (i := 4) (N := some 26) (v := ?_) (a' := ?_) #[true, true, true, true, true, false, false, false, false, false, false] rfl rfl (by kernel_rfl) (fun _ _ _ h => h) (.inl ⟨by rfl, fun w' hS' => ?_⟩) hS ?_ ?_
          rotate_left
          · obtain ⟨s1, s2⟩ := hS'
            go_simp
            with_reducible rfl
          rotate_left
          · simp only [Act.put, List.setIfInBounds_toArray, List.set_cons_zero, List.set_cons_succ]
            rfl
          refine take_ (i := 5) (N := some 27) (v := ?_) (a' := ?_) #[true, true, true, true, true, true, false, false, false, false, false] rfl rfl (by kernel_rfl) (fun _ _ _ h => h) (.inl ⟨by rfl, fun w' hS' => ?_⟩) hS ?_ ?_
          rotate_left
          · obtain ⟨s1, s2⟩ := hS'
            go_simp
            with_reducible rfl
          rotate_left
          · simp only [Act.put, List.setIfInBounds_toArray, List.set_cons_zero, List.set_cons_succ]
            rfl
          refine wpAnyLast_all (rs := [6]) (by kernel_rfl) (by simp) ?_
          intro i hi'
          obtain rfl := List.mem_singleton.1 hi'
          refine wpOp_step rfl (fun K' hK => ?_)
          go_simp
          go_at_call 47
          with_reducible refine (put32_calls d1 _).mono ?_
          rintro e w3 ⟨rfl, hb3⟩
          have hT : w3.cell? ⟨wr.heap.size, 0, none⟩ = some (.int .u8 129) ∧ w3.cell? ⟨w.heap.size, 3, none⟩ = some (.int .u32 (nv d1)) := ⟨(hb3.cell (p := ⟨wr.heap.size, 0, none⟩) (cell_lt hS.1)).trans hS.1, (hb3.cell (p := ⟨w.heap.size, 3, none⟩) (cell_lt hS.2)).trans hS.2⟩
          refine hK _ _ ⟨fun _ _ => hT, ?_⟩
          clear hK K' hS
          simp only [Act.put, List.setIfInBounds_toArray, List.set_cons_zero, List.set_cons_succ]
          have hS := hT
          clear hT
          have r3 : w3.ownsRow w.heap.size 57 2 _ _ _ := own_below r1' hb3
          have hB3 := hB1'.trans (hb3.mono hB1'.size)
          have b3 := (hb3.block _ (by omega)).trans b1'
          clear r1' hB1' b1' hb3
          refine take_ (i := 7) (N := some 29) (v := ?_) (a' := ?_) #[true, true, true, true, true, true, true, true, false, false, false] rfl rfl (by kernel_rfl) (fun _ _ _ h => h) (.inl ⟨by rfl, fun w' hS' => ?_⟩) hS ?_ ?_
          rotate_left
          · obtain ⟨s1, s2⟩ := hS'
            go_simp
            with_reducible rfl
          rotate_left
          · simp only [Act.put, List.setIfInBounds_toArray, List.set_cons_zero, List.set_cons_succ]
            rfl
          refine wpAnyLast_all (rs := [8]) (by kernel_rfl) (by simp) ?_
          intro i hi'
          obtain rfl := List.mem_singleton.1 hi'
          refine wpOp_step rfl (fun K' hK => ?_)
          go_simp
          refine hK _ _ ⟨fun _ h => ⟨(((Below.refl w3.heap.size w3).alloc (Nat.le_refl _) _).cell (p := ⟨wr.heap.size, 0, none⟩) (cell_lt h.1)).trans h.1, (((Below.refl w3.heap.size w3).alloc (Nat.le_refl _) _).cell (p := ⟨w.heap.size, 3, none⟩) (cell_lt h.2)).trans h.2⟩, ?_⟩
          clear hK K'
          simp only [Act.put, List.setIfInBounds_toArray, List.set_cons_zero, List.set_cons_succ]
          refine wpAnyLast_all (rs := [9]) (by kernel_rfl) (by simp) ?_
          intro i hi'
          obtain rfl := List.mem_singleton.1 hi'
          refine wpOp_step rfl (fun K' hK => ?_)
          rw [if_pos (by rfl)]
          refine wp_append_own _ (.tmp 22) (.tmp 30) 32 rfl w.heap.size 57 i0 (.agg #[.int .u8 0, .string ⟨#[]⟩]) 2 24 und32 hi hz0 hz1 hz2 rfl (by decide) _ _ _ rfl (r3.alloc _) ⟨w3.heap.size, 0, none⟩ 1 1 [.int .u8 129, .string (oct d1)] rfl rfl (cell_two _ _ _ _) (by simp [Value.oneCell']) (by unfold maxLen; omega) (by omega) (by have := hB3.size; simp; omega) ?_
          intro v5 w5 hown5 hg5 _
          have b3a := (Lib.alloc_old w3 (.cells #[.int .u8 129, .string (oct d1)] 57) _ ((Array.getElem?_eq_some_iff.1 b3).1)).trans b3
          have b5 := (hg5.block w.heap.size ((Array.getElem?_eq_some_iff.1 b3a).1) (own_ne (r3.alloc _) b3a (by decide))).trans b3a
          have hB5 := (hB3.alloc hB3.size (.cells #[.int .u8 129, .string (oct d1)] 57)).grown hg5 (by have := hB3.size; simp; omega) (own_base r3)
          refine hK _ _ ⟨fun h => by simp at h, ?_⟩
          clear hK K' hg5 r3 b3 b3a hB3
          simp only [Act.put, List.setIfInBounds_toArray, List.set_cons_zero, List.set_cons_succ]
          refine wpAnyLast_all (rs := [10]) (by kernel_rfl) (by simp) ?_
          intro i hi'
          obtain rfl := List.mem_singleton.1 hi'
          refine wpOp_step rfl (fun K' hK => ?_)
          go_simp
          refine hK _ _ ⟨fun h => by simp at h, ?_⟩
          clear hK K'
          simp only [Act.put, List.setIfInBounds_toArray, List.set_cons_zero, List.set_cons_succ]
          refine wpAnyLast_done (by kernel_rfl) ?_ _
          go_wp2
          go_roundg 1
          case measure => have := A.out; omega
          case rel =>
            refine ⟨2, by omega, rfl, rfl, rfl, hokn, ?_, b5, hB5⟩
            rw [Hs.out, List.length_append, optCells_append]
            exact hown5
        | false =>
          have hsucc : putL ⟨ha, a, false, d1, h2, d2⟩ 2 = putL ⟨ha, a, false, d1, h2, d2⟩ 1 := by simp [putL, Icp.has]
          have Hs := Lib.hid hsucc; clear hsucc
          by_cases hz0 : d1 = 0
          · subst hz0
            have hokn := Lib.hid (okI_succ hok.out (.inr (rfl : Icp.val ⟨ha, a, false, 0, h2, d2⟩ 1 = 0)))
            have n0 : nv 0 = 0 := rfl
            generalize hacc : putL ⟨ha, a, false, 0, h2, d2⟩ 1 = acc at *
            have Hacc := Lib.hid hacc; clear hacc
            go_wp2_with (first
              | (go_at_call 90; with_reducible refine (ptr1_calls w.heap.size _).mono ?_; rintro e w1 ⟨rfl, hb1⟩
                 have b1 : w1.heap[w.heap.size]? = some (.cells #[.bool ha, .int .u32 (nv a), .bool false, .int .u32 (nv 0), .bool h2, .int .u32 (nv d2)] 36 (0, 0)) := (hb1.block _ (by simp; omega)).trans ((Lib.alloc_old _ _ _ z0).trans b0)
                 have r1 : w1.ownsRow w.heap.size 57 2 _ _ _ := own_below (hrow.alloc _) hb1
                 have kb : w1.heap[wr.heap.size]? = some (.cells #[.int .u8 129, .func (.func 90) #[] #[]] 73 (0, 0)) := (hb1.block _ (by simp)).trans (alloc_new _ _ _ rfl)
                 have hB1 := (hB.alloc hsz (.cells #[.int .u8 129, .func (.func 90) #[] #[]] 73)).trans (hb1.mono (by simp; omega))
                 have c0 := blk_cell b1 2
                 have c1 := blk_cell b1 3))
            go_roundg 1
            case measure => have := A.out; omega
            case rel => exact ⟨2, by omega, rfl, rfl, rfl, hokn, by rw [Hs.out]; exact r1, b1, hB1⟩
          · have hne : (nv d1 != 0) = true := by
              rw [bne, show (0 : Int) = nv 0 from rfl, ni_bool, decide_eq_false hz0]; rfl
            have hbad := Lib.hid (okI_not (x := ⟨ha, a, false, d1, h2, d2⟩) (k := 1) (by omega) rfl hz0)
            clear hz0
            generalize hacc : putL ⟨ha, a, false, d1, h2, d2⟩ 1 = acc at *
            have Hacc := Lib.hid hacc; clear hacc
            go_wp2_with (first
              | (go_at_call 90; with_reducible refine (ptr1_calls w.heap.size _).mono ?_; rintro e w1 ⟨rfl, hb1⟩
                 have b1 : w1.heap[w.heap.size]? = some (.cells #[.bool ha, .int .u32 (nv a), .bool false, .int .u32 (nv d1), .bool h2, .int .u32 (nv d2)] 36 (0, 0)) := (hb1.block _ (by simp; omega)).trans ((Lib.alloc_old _ _ _ z0).trans b0)
                 have r1 : w1.ownsRow w.heap.size 57 2 _ _ _ := own_below (hrow.alloc _) hb1
                 have kb : w1.heap[wr.heap.size]? = some (.cells #[.int .u8 129, .func (.func 90) #[] #[]] 73 (0, 0)) := (hb1.block _ (by simp)).trans (alloc_new _ _ _ rfl)
                 have hB1 := (hB.alloc hsz (.cells #[.int .u8 129, .func (.func 90) #[] #[]] 73)).trans (hb1.mono (by simp; omega))
                 have c0 := blk_cell b1 2
                 have c1 := blk_cell b1 3))
            go_ret2
            rw [hbad.out]
            exact ⟨_, rfl, World.ownsRow_nil _ _ _ _, hB1⟩
      · cases h2 with
        | true =>
          have hlen := putL_len ⟨ha, a, h1, d1, true, d2⟩ 2
          have hsucc : putL ⟨ha, a, h1, d1, true, d2⟩ 3 = putL ⟨ha, a, h1, d1, true, d2⟩ 2 ++ [⟨131, oct d2⟩] := rfl
          have Hs := Lib.hid hsucc; clear hsucc
          have hokn := Lib.hid (okI_succ hok.out (.inl (rfl : Icp.has ⟨ha, a, h1, d1, true, d2⟩ 2 = true)))
          generalize putL ⟨ha, a, h1, d1, true, d2⟩ 2 = acc at *
          have hal := optCells_length acc
          go_wp2_with (first
            | (go_at_call 91; with_reducible refine (ptr2_calls w.heap.size _).mono ?_; rintro e w1 ⟨rfl, hb1⟩
               have b1 : w1.heap[w.heap.size]? = some (.cells #[.bool ha, .int .u32 (nv a), .bool h1, .int .u32 (nv d1), .bool true, .int .u32 (nv d2)] 36 (0, 0)) := (hb1.block _ (by simp; omega)).trans ((Lib.alloc_old _ _ _ z0).trans b0)
               have r1 : w1.ownsRow w.heap.size 57 2 _ _ _ := own_below (hrow.alloc _) hb1
               have kb : w1.heap[wr.heap.size]? = some (.cells #[.int .u8 131, .func (.func 91) #[] #[]] 73 (0, 0)) := (hb1.block _ (by simp)).trans (alloc_new _ _ _ rfl)
               have hB1 := (hB.alloc hsz (.cells #[.int .u8 131, .func (.func 91) #[] #[]] 73)).trans (hb1.mono (by simp; omega))
               have c0 := blk_cell b1 4
               have c1 := blk_cell b1 5))
          have hS0 : w1.drew.cell? ⟨wr.heap.size, 0, none⟩ = some (.int .u8 131) ∧ w1.drew.cell? ⟨w.heap.size, 5, none⟩ = some (.int .u32 (nv d2)) := ⟨by rw [World.cell?_drew, blk_cell kb 0]; rfl, by rw [World.cell?_drew, blk_cell b1 5]; rfl⟩
          have r1' : w1.drew.ownsRow w.heap.size 57 2 _ _ _ := own_below r1 (below_drew (Below.refl _ _))
          have hB1' := below_drew hB1
          have b1' : w1.drew.heap[w.heap.size]? = some (.cells #[.bool ha, .int .u32 (nv a), .bool h1, .int .u32 (nv d1), .bool true, .int .u32 (nv d2)] 36 (0, 0)) := b1
          have zw : wr.heap.size < w1.drew.heap.size := (Array.getElem?_eq_some_iff.1 kb).1
          have zg := Lib.hid z0
          clear kb r1 hB1 b1 b0 c0 c1 hrow
          refine start_ (n := 11) (S := fun W' => W'.cell? ⟨wr.heap.size, 0, none⟩ = some (.int .u8 131) ∧ W'.cell? ⟨w.heap.size, 5, none⟩ = some (.int .u32 (nv d2))) (ds := [9, 10]) (#[false, false, false, false, false, false, false, false, false, false, false]) (by kernel_rfl) rfl rfl hS0 (fun hS => ?_)
          clear hS0
          generalize w1.drew = w2 at *
          refine take_ (i := 0) (N := some 22) (v := ?_) (a' := ?_) #[true, false, false, false, false, false, false, false, false, false, false] rfl rfl (by kernel_rfl) (fun _ _ _ h => h) (.inl ⟨by rfl, fun w' hS' => ?_⟩) hS ?_ ?_
          rotate_left
          · obtain ⟨s1, s2⟩ := hS'
            go_simp
            with_reducible rfl
          rotate_left
          · simp only [Act.put, List.setIfInBounds_toArray, List.set_cons_zero, List.set_cons_succ]
            rfl
          refine take_ (i := 1) (N := some 23) (v := ?_) (a' := ?_) #[true, true, false, false, false, false, false, false, false, false, false] rfl rfl (by kernel_rfl) (fun _ _ _ h => h) (.inl ⟨by rfl, fun w' hS' => ?_⟩) hS ?_ ?_
          rotate_left
          · obtain ⟨s1, s2⟩ := hS'
            go_simp
            with_reducible rfl
          rotate_left
          · simp only [Act.put, List.setIfInBounds_toArray, List.set_cons_zero, List.set_cons_succ]
            rfl
          refine take_ (i := 2) (N := some 24) (v := ?_) (a' := ?_) #[true, true, true, false, false, false, false, false, false, false, false] rfl rfl (by kernel_rfl) (fun _ _ _ h => h) (.inl ⟨by rfl, fun w' hS' => ?_⟩) hS ?_ ?_
          rotate_left
          · obtain ⟨s1, s2⟩ := hS'
            go_simp
            with_reducible rfl
          rotate_left
          · simp only [Act.put, List.setIfInBounds_toArray, List.set_cons_zero, List.set_cons_succ]
            rfl
          refine take_ (i := 3) (N := some 25) (v := ?_) (a' := ?_) #[true, true, true, true, false, false, false, false, false, false, false] rfl rfl (by kernel_rfl) (fun _ _ _ h => h) (.inl ⟨by rfl, fun w' hS' => ?_⟩) hS ?_ ?_
          rotate_left
          · obtain ⟨s1, s2⟩ := hS'
            go_simp
            with_reducible rfl
          rotate_left
          · simp only [Act.put, List.setIfInBounds_toArray, List.set_cons_zero, List.set_cons_succ]
            rfl
          refine take_ (i := 4) (N := some 26) (v := ?_) (a' := ?_) #[true, true, true, true, true, false, false, false, false, false, false] rfl rfl (by kernel_rfl) (fun _ _ _ h => h) (.inl ⟨by rfl, fun w' hS' => ?_⟩) hS ?_ ?_
          rotate_left
          · obtain ⟨s1, s2⟩ := hS'
            go_simp
            with_reducible rfl
          rotate_left
          · simp only [Act.put, List.setIfInBounds_toArray, List.set_cons_zero, List.set_cons_succ]
            rfl
          refine take_ (i := 5) (N := some 27) (v := ?_) (a' := ?_) #[true, true, true, true, true, true, false, false, false, false, false] rfl rfl (by kernel_rfl) (fun _ _ _ h => h) (.inl ⟨by rfl, fun w' hS' => ?_⟩) hS ?_ ?_
          rotate_left
          · obtain ⟨s1, s2⟩ := hS'
            go_simp
            with_reducible rfl
          rotate_left
          · simp only [Act.put, List.setIfInBounds_toArray, List.set_cons_zero, List.set_cons_succ]
            rfl
          refine wpAnyLast_all (rs := [6]) (by kernel_rfl) (by simp) ?_
          intro i hi'
          obtain rfl := List.mem_singleton.1 hi'
          refine wpOp_step rfl (fun K' hK => ?_)
          go_simp
          go_at_call 47
          with_reducible refine (put32_calls d2 _).mono ?_
          rintro e w3 ⟨rfl, hb3⟩
          have hT : w3.cell? ⟨wr.heap.size, 0, none⟩ = some (.int .u8 131) ∧ w3.cell? ⟨w.heap.size, 5, none⟩ = some (.int .u32 (nv d2)) := ⟨(hb3.cell (p := ⟨wr.heap.size, 0, none⟩) (cell_lt hS.1)).trans hS.1, (hb3.cell (p := ⟨w.heap.size, 5, none⟩) (cell_lt hS.2)).trans hS.2⟩
          refine hK _ _ ⟨fun _ _ => hT, ?_⟩
          clear hK K' hS
          simp only [Act.put, List.setIfInBounds_toArray, List.set_cons_zero, List.set_cons_succ]
          have hS := hT
          clear hT
          have r3 : w3.ownsRow w.heap.size 57 2 _ _ _ := own_below r1' hb3
          have hB3 := hB1'.trans (hb3.mono hB1'.size)
          have b3 := (hb3.block _ (by omega)).trans b1'
          clear r1' hB1' b1' hb3
          refine take_ (i := 7) (N := some 29) (v := ?_) (a' := ?_) #[true, true, true, true, true, true, true, true, false, false, false] rfl rfl (by kernel_rfl) (fun _ _ _ h => h) (.inl ⟨by rfl, fun w' hS' => ?_⟩) hS ?_ ?_
          rotate_left
          · obtain ⟨s1, s2⟩ := hS'
            go_simp
            with_reducible rfl
          rotate_left
          · simp only [Act.put, List.setIfInBounds_toArray, List.set_cons_zero, List.set_cons_succ]
            rfl
          refine wpAnyLast_all (rs := [8]) (by kernel_rfl) (by simp) ?_
          intro i hi'
          obtain rfl := List.mem_singleton.1 hi'
          refine wpOp_step rfl (fun K' hK => ?_)
          go_simp
          refine hK _ _ ⟨fun _ h => ⟨(((Below.refl w3.heap.size w3).alloc (Nat.le_refl _) _).cell (p := ⟨wr.heap.size, 0, none⟩) (cell_lt h.1)).trans h.1, (((Below.refl w3.heap.size w3).alloc (Nat.le_refl _) _).cell (p := ⟨w.heap.size, 5, none⟩) (cell_lt h.2)).trans h.2⟩, ?_⟩
          clear hK K'
          simp only [Act.put, List.setIfInBounds_toArray, List.set_cons_zero, List.set_cons_succ]
          refine wpAnyLast_all (rs := [9]) (by kernel_rfl) (by simp) ?_
          intro i hi'
          obtain rfl := List.mem_singleton.1 hi'
          refine wpOp_step rfl (fun K' hK => ?_)
          rw [if_pos (by rfl)]
          refine wp_append_own _ (.tmp 22) (.tmp 30) 32 rfl w.heap.size 57 i0 (.agg #[.int .u8 0, .string ⟨#[]⟩]) 2 24 und32 hi hz0 hz1 hz2 rfl (by decide) _ _ _ rfl (r3.alloc _) ⟨w3.heap.size, 0, none⟩ 1 1 [.int .u8 131, .string (oct d2)] rfl rfl (cell_two _ _ _ _) (by simp [Value.oneCell']) (by unfold maxLen; omega) (by omega) (by have := hB3.size; simp; omega) ?_
          intro v5 w5 hown5 hg5 _
          have b3a := (Lib.alloc_old w3 (.cells #[.int .u8 131, .string (oct d2)] 57) _ ((Array.getElem?_eq_some_iff.1 b3).1)).trans b3
          have b5 := (hg5.block w.heap.size ((Array.getElem?_eq_some_iff.1 b3a).1) (own_ne (r3.alloc _) b3a (by decide))).trans b3a
          have hB5 := (hB3.alloc hB3.size (.cells #[.int .u8 131, .string (oct d2)] 57)).grown hg5 (by have := hB3.size; simp; omega) (own_base r3)
          refine hK _ _ ⟨fun h => by simp at h, ?_⟩
          clear hK K' hg5 r3 b3 b3a hB3
          simp only [Act.put, List.setIfInBounds_toArray, List.set_cons_zero, List.set_cons_succ]
          refine wpAnyLast_all (rs := [10]) (by kernel_rfl) (by simp) ?_
          intro i hi'
          obtain rfl := List.mem_singleton.1 hi'
          refine wpOp_step rfl (fun K' hK => ?_)
          go_simp
          refine hK _ _ ⟨fun h => by simp at h, ?_⟩
          clear hK K'
          simp only [Act.put, List.setIfInBounds_toArray, List.set_cons_zero, List.set_cons_succ]
          refine wpAnyLast_done (by kernel_rfl) ?_ _
          go_wp2
          go_roundg 0
          case measure => have := A.out; omega
          case rel =>
            refine ⟨3, by omega, rfl, rfl, rfl, hokn, ?_, b5, hB5⟩
            rw [Hs.out, List.length_append, optCells_append]
            exact hown5
        | false =>
          have hsucc : putL ⟨ha, a, h1, d1, false, d2⟩ 3 = putL ⟨ha, a, h1, d1, false, d2⟩ 2 := by simp [putL, Icp.has]
          have Hs := Lib.hid hsucc; clear hsucc
          by_cases hz0 : d2 = 0
          · subst hz0
            have hokn := Lib.hid (okI_succ hok.out (.inr (rfl : Icp.val ⟨ha, a, h1, d1, false, 0⟩ 2 = 0)))
            have n0 : nv 0 = 0 := rfl
            generalize hacc : putL ⟨ha, a, h1, d1, false, 0⟩ 2 = acc at *
            have Hacc := Lib.hid hacc; clear hacc
            go_wp2_with (first
              | (go_at_call 91; with_reducible refine (ptr2_calls w.heap.size _).mono ?_; rintro e w1 ⟨rfl, hb1⟩
                 have b1 : w1.heap[w.heap.size]? = some (.cells #[.bool ha, .int .u32 (nv a), .bool h1, .int .u32 (nv d1), .bool false, .int .u32 (nv 0)] 36 (0, 0)) := (hb1.block _ (by simp; omega)).trans ((Lib.alloc_old _ _ _ z0).trans b0)
                 have r1 : w1.ownsRow w.heap.size 57 2 _ _ _ := own_below (hrow.alloc _) hb1
                 have kb : w1.heap[wr.heap.size]? = some (.cells #[.int .u8 131, .func (.func 91) #[] #[]] 73 (0, 0)) := (hb1.block _ (by simp)).trans (alloc_new _ _ _ rfl)
                 have hB1 := (hB.alloc hsz (.cells #[.int .u8 131, .func (.func 91) #[] #[]] 73)).trans (hb1.mono (by simp; omega))
                 have c0 := blk_cell b1 4
                 have c1 := blk_cell b1 5))
            go_roundg 0
            case measure => have := A.out; omega
            case rel => exact ⟨3, by omega, rfl, rfl, rfl, hokn, by rw [Hs.out]; exact r1, b1, hB1⟩
          · have hne : (nv d2 != 0) = true := by
              rw [bne, show (0 : Int) = nv 0 from rfl, ni_bool, decide_eq_false hz0]; rfl
            have hbad := Lib.hid (okI_not (x := ⟨ha, a, h1, d1, false, d2⟩) (k := 2) (by omega) rfl hz0)
            clear hz0
            generalize hacc : putL ⟨ha, a, h1, d1, false, d2⟩ 2 = acc at *
            have Hacc := Lib.hid hacc; clear hacc
            go_wp2_with (first
              | (go_at_call 91; with_reducible refine (ptr2_calls w.heap.size _).mono ?_; rintro e w1 ⟨rfl, hb1⟩
                 have b1 : w1.heap[w.heap.size]? = some (.cells #[.bool ha, .int .u32 (nv a), .bool h1, .int .u32 (nv d1), .bool false, .int .u32 (nv d2)] 36 (0, 0)) := (hb1.block _ (by simp; omega)).trans ((Lib.alloc_old _ _ _ z0).trans b0)
                 have r1 : w1.ownsRow w.heap.size 57 2 _ _ _ := own_below (hrow.alloc _) hb1
                 have kb : w1.heap[wr.heap.size]? = some (.cells #[.int .u8 131, .func (.func 91) #[] #[]] 73 (0, 0)) := (hb1.block _ (by simp)).trans (alloc_new _ _ _ rfl)
                 have hB1 := (hB.alloc hsz (.cells #[.int .u8 131, .func (.func 91) #[] #[]] 73)).trans (hb1.mono (by simp; omega))
                 have c0 := blk_cell b1 4
                 have c1 := blk_cell b1 5))
            go_ret2
            rw [hbad.out]
            exact ⟨_, rfl, World.ownsRow_nil _ _ _ _, hB1⟩
    · obtain rfl : k = 3 := by omega
      have hput : putI ⟨ha, a, h1, d1, h2, d2⟩ = (putL ⟨ha, a, h1, d1, h2, d2⟩ 3, 0) := if_pos hok.out
      have Hp := Lib.hid hput; clear hput
      generalize putL ⟨ha, a, h1, d1, h2, d2⟩ 3 = acc at *
      go_wp2
      go_ret2
      rw [Hp.out]
      exact ⟨_, rfl, hrow, hB⟩
end Go.Proofs.YtlcckkdkcbelhaaDoor
