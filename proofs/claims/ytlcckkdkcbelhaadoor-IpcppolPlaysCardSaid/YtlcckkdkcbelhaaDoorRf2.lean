/-
  Layer 15 (ipcppol), the document's policy: its Get, Acked, Naked, Rejected, walked.
-/
import Derived.Test.YtlcckkdkcbelhaaDoorRf1
import Derived.Test.YtlcckkdkcbelhaaDoorPureOnly
set_option linter.unusedVariables false
set_option linter.unusedSimpArgs false
namespace Go.Proofs.YtlcckkdkcbelhaaDoor
open Go.RowKit Go.Proofs.YtlcckkdkcbelhaaDoorW.PrintWords Go.Proofs.YtlcckkdkcbelhaaDoorW.PrintLast

/-- Which kinds came so far. -/
def came (l : List Opt) (x : Icp) : Prop := ∀ k, k < 3 → (x.has k = true ↔ ∃ p ∈ l, goodO p = true ∧ kof p = k)
theorem came_nil : came [] noI := fun k hk => by
  rcases (show k = 0 ∨ k = 1 ∨ k = 2 by omega) with rfl | rfl | rfl <;> simp [noI, Icp.has]
theorem came_bad {l : List Opt} {x : Icp} {o : Opt} (h : came l x) (hg : goodO o = false) : came (l ++ [o]) x := fun k hk => by
  rw [h k hk]
  constructor
  · rintro ⟨p, hp, r⟩; exact ⟨p, by simp [hp], r⟩
  · rintro ⟨p, hp, r1, r2⟩
    rcases List.mem_append.1 hp with hp | hp
    · exact ⟨p, hp, r1, r2⟩
    · rw [List.mem_singleton.1 hp, hg] at r1; cases r1
theorem came_good {l : List Opt} {x : Icp} {o : Opt} (h : came l x) (hg : goodO o = true) (u : UInt32) : came (l ++ [o]) (x.set (kof o) u) := fun k hk => by
  have hko := (good_kof hg).1
  rw [has_set x (kof o) k hko hk]
  by_cases e : k = kof o
  · rw [if_pos e]
    exact ⟨fun _ => ⟨o, by simp, hg, e.symm⟩, fun _ => rfl⟩
  · rw [if_neg e, h k hk]
    constructor
    · rintro ⟨p, hp, r⟩; exact ⟨p, by simp [hp], r⟩
    · rintro ⟨p, hp, r1, r2⟩
      rcases List.mem_append.1 hp with hp | hp
      · exact ⟨p, hp, r1, r2⟩
      · rw [List.mem_singleton.1 hp] at r2; exact absurd r2.symm e
theorem kof_type {p o : Opt} (hp : goodO p = true) (ho : goodO o = true) : kof p = kof o ↔ p.t = o.t := by
  have h1 := (good_kof hp).2.1
  have h2 := (good_kof ho).2.1
  constructor
  · intro e; rw [h1, h2, e]
  · intro e; exact tk_inj (good_kof hp).1 (good_kof ho).1 (by rw [← h1, ← h2, e])
theorem size36 : (Tryd.prog.info? 36).map (·.size) = some 6 := by kernel_rfl
set_option maxHeartbeats 16000000 in
set_option maxRecDepth 100000 in
theorem rget_calls (l : List Opt) (a : Option Addr) (c : Nat) (w : World) (h : Row w a c l) (hs : l.length < 1000000) :
    Calls Tryd.prog 52 #[.slice a l.length c] w fun e w' => ∃ v, e = .returned (.tuple #[.agg (getI l).1.cells, v, .int .i64 (getI l).2.2]) ∧ Below w.heap.size w w' := by
  have hu57 := Tryd.underlying57
  have c0 := Lib.hid h.1
  obtain ⟨i0, hi, hz⟩ := Option.map_eq_some_iff.1 info57
  simp only [Prod.mk.injEq] at hz
  obtain ⟨hz0, hz1, hz2⟩ := hz
  have hfin : Hid (getI l = getL (l.drop 0) noI []) := Lib.hid rfl
  generalize getI l = G at *
  go_enter Tryd.func52, Tryd.ntmps52
  go_upto_region 2 with fail
  have B1 := ((Below.refl w.heap.size w).alloc (Nat.le_refl _) (.cells #[.bool false, .int .u32 0, .bool false, .int .u32 0, .bool false, .int .u32 0] 36)).alloc (by simp) (.cells #[.bool false, .int .u32 0, .bool false, .int .u32 0, .bool false, .int .u32 0] 36)
  have hcl : (w.alloc (.cells #[.bool false, .int .u32 0, .bool false, .int .u32 0, .bool false, .int .u32 0] 36)).heap.size = w.heap.size + 1 := by simp
  have rb := (Lib.alloc_old _ (.cells #[.bool false, .int .u32 0, .bool false, .int .u32 0, .bool false, .int .u32 0] 36) _ (show w.heap.size < (w.alloc (.cells #[.bool false, .int .u32 0, .bool false, .int .u32 0, .bool false, .int .u32 0] 36)).heap.size by simp)).trans (alloc_new w _ (.cells #[.bool false, .int .u32 0, .bool false, .int .u32 0, .bool false, .int .u32 0] 36) rfl)
  have xb := alloc_new (w.alloc (.cells #[.bool false, .int .u32 0, .bool false, .int .u32 0, .bool false, .int .u32 0] 36)) (w.heap.size + 1) (.cells #[.bool false, .int .u32 0, .bool false, .int .u32 0, .bool false, .int .u32 0] 36) hcl.symm
  generalize (w.alloc (.cells #[.bool false, .int .u32 0, .bool false, .int .u32 0, .bool false, .int .u32 0] 36)).alloc (.cells #[.bool false, .int .u32 0, .bool false, .int .u32 0, .bool false, .int .u32 0] 36) = wA at *
  clear hcl
  go_wp2
  go_loopg [6, 7] l.length (fun q v i wr => ∃ (k : Nat) (x : Icp) (odd : List Opt), k ≤ l.length ∧ q = l.length - k ∧ i = .int .i64 (k : Int) ∧ Hid (G = getL (l.drop k) x odd) ∧ Hid (came (l.take k) x) ∧ OwnL wr w.heap.size v odd ∧ odd.length ≤ k ∧
    wr.heap[w.heap.size]? = some (.cells #[.bool false, .int .u32 0, .bool false, .int .u32 0, .bool false, .int .u32 0] 36 (0, 0)) ∧ wr.heap[w.heap.size + 1]? = some (.cells x.cells 36 (0, 0)) ∧ Below w.heap.size w wr)
  case atStart => exact ⟨0, noI, [], by omega, rfl, rfl, hfin, Lib.hid came_nil, World.ownsRow_nil _ _ _ _, Nat.le_refl _, rb, xb, B1⟩
  case round =>
    obtain ⟨k, x, odd, hk, hq, rfl, heq, hcm, hown, hol, rb, xb, hB⟩ := hrel
    have A := Lib.hid hq; clear hq
    have hsz := hB.size
    have rl := (Array.getElem?_eq_some_iff.1 rb).1
    have xl := (Array.getElem?_eq_some_iff.1 xb).1
    by_cases hlt : k < l.length
    · have h1 : decide ((k : Int) < (l.length : Int)) = true := by simp; omega
      have hr := h.below hB
      obtain ⟨xa, rfl, x0, x1⟩ := hr.at_ k hlt
      have hdr : Hid (l.drop k = l[k] :: l.drop (k + 1)) := Lib.hid (List.drop_eq_getElem_cons hlt)
      have htk : Hid (l.take (k + 1) = l.take k ++ [l[k]]) := Lib.hid (List.take_succ_eq_append_getElem hlt)
      generalize l[k] = o at *
      have hG := fun W => rgood_calls o W
      cases hg : goodO o with
      | false =>
        rw [hg] at hG
        have hn1 : Hid (G = getL (l.drop (k + 1)) x (odd ++ [o])) := Lib.hid (by rw [heq.out, hdr.out, get_odd hg])
        have hn2 : Hid (came (l.take (k + 1)) x) := Lib.hid (by rw [htk.out]; exact came_bad hcm.out hg)
        have hal := optCells_length odd
        clear hg
        go_wp2_with (first
          | (go_at_call 57; with_reducible refine (hG _).mono ?_; rintro e w1 ⟨rfl, hb1⟩
             have oA := OwnL.below hown hb1
             have rbA := (hb1.block _ rl).trans rb
             have xbA := (hb1.block _ xl).trans xb
             have BA := hB.trans (hb1.mono hB.size)
             have x0A := (hb1.cell (cell_lt x0)).trans x0
             have x1A := (hb1.cell (cell_lt x1)).trans x1)
          | (at_builtin; refine wpList_append_own _ rfl _ _ 32 rfl w.heap.size 57 i0 (.agg #[.int .u8 0, .string ⟨#[]⟩]) 2 24 und32 hi hz0 hz1 hz2 rfl (by decide) _ odd.length (optCells odd) rfl (oA.alloc (.cells #[.int .u8 (tv o.t), .string o.d] 57)) ⟨w1.heap.size, 0, none⟩ 1 1 [.int .u8 (tv o.t), .string o.d] rfl rfl (cell_two _ _ _ _) (by simp [Value.oneCell']) (by unfold maxLen; omega) (by omega) (by have := BA.size; simp; omega) ?_
             intro v5 w5 hown5 hg5 _
             have rb3 := (Lib.alloc_old w1 (.cells #[.int .u8 (tv o.t), .string o.d] 57) _ ((Array.getElem?_eq_some_iff.1 rbA).1)).trans rbA
             have xb3 := (Lib.alloc_old w1 (.cells #[.int .u8 (tv o.t), .string o.d] 57) _ ((Array.getElem?_eq_some_iff.1 xbA).1)).trans xbA
             have rb5 := (hg5.block w.heap.size ((Array.getElem?_eq_some_iff.1 rb3).1) (own_ne (oA.alloc _) rb3 (by decide))).trans rb3
             have xb5 := (hg5.block (w.heap.size + 1) ((Array.getElem?_eq_some_iff.1 xb3).1) (own_ne (oA.alloc _) xb3 (by decide))).trans xb3
             have B5 := (BA.alloc BA.size (.cells #[.int .u8 (tv o.t), .string o.d] 57)).grown hg5 (by have := BA.size; simp; omega) (own_base oA)))
        go_roundg (l.length - (k + 1))
        case measure => have := A.out; omega
        case rel =>
          refine ⟨k + 1, x, odd ++ [o], by omega, rfl, by go_num, hn1, hn2, ?_, by simp; omega, rb5, xb5, B5⟩
          unfold OwnL
          rw [List.length_append, optCells_append]
          exact hown5
      | true =>
        rw [hg] at hG
        have HG := Lib.hid hg
        clear hg
        go_upto_region 8 with (first
          | (go_at_call 57; with_reducible refine (hG _).mono ?_; rintro e w1 ⟨rfl, hb1⟩
             have oA := OwnL.below hown hb1
             have rbA := (hb1.block _ rl).trans rb
             have xbA := (hb1.block _ xl).trans xb
             have BA := hB.trans (hb1.mono hB.size)
             have x0A := (hb1.cell (cell_lt x0)).trans x0
             have x1A := (hb1.cell (cell_lt x1)).trans x1))
        clear hown rb xb hB x0 x1 hb1 hr rl xl hsz hG
        go_wp2
        go_loopg [8] k (fun q2 i2 wr2 => ∃ (m : Nat), m ≤ k ∧ q2 = k - m ∧ i2 = .int .i64 (m : Int) ∧ Hid (∀ p ∈ l.take m, goodO p = true → p.t ≠ o.t) ∧ Below w1.heap.size w1 wr2)
        case atStart => exact ⟨0, by omega, rfl, rfl, Lib.hid (by simp), Below.refl _ _⟩
        case round =>
          obtain ⟨m, hmk, hq2, rfl, hno, hbw⟩ := hrel
          have A2 := Lib.hid hq2; clear hq2
          have B2 := BA.trans (hbw.mono BA.size)
          have rb2 := (hbw.block _ ((Array.getElem?_eq_some_iff.1 rbA).1)).trans rbA
          have xb2 := (hbw.block _ ((Array.getElem?_eq_some_iff.1 xbA).1)).trans xbA
          have oA2 := OwnL.below oA hbw
          have y0 := (hbw.cell (cell_lt x0A)).trans x0A
          have y1 := (hbw.cell (cell_lt x1A)).trans x1A
          by_cases hm : m < k
          · have h2 : decide ((m : Int) < (k : Int)) = true := by simp; omega
            have hml : m < l.length := by omega
            obtain ⟨xa', e', p0, p1⟩ := (h.below B2).at_ m hml
            obtain rfl := Option.some.inj e'
            clear e'
            have htm : Hid (l.take (m + 1) = l.take m ++ [l[m]]) := Lib.hid (List.take_succ_eq_append_getElem hml)
            have hmem : Hid (l[m] ∈ l.take k) := Lib.hid (List.mem_take_iff_getElem.2 ⟨m, by omega, rfl⟩)
            have hpt : ∀ W, Below w1.heap.size w1 W → W.cell? (xa.add (m * 2)) = some (.int .u8 (tv l[m].t)) ∧ W.cell? ⟨(xa.add (m * 2)).block, (xa.add (m * 2)).off + 1, none⟩ = some (.string l[m].d) := fun W hW => by
              obtain ⟨xa', e', q0, q1⟩ := (h.below (BA.trans (hW.mono BA.size))).at_ m hml
              obtain rfl := Option.some.inj e'
              exact ⟨q0, q1⟩
            have hp0 := hpt
            clear hpt p0 p1
            generalize l[m] = p at *
            have hGp := fun W => rgood_calls p W
            cases hgp : goodO p with
            | false =>
              rw [hgp] at hGp
              have hno1 : Hid (∀ p ∈ l.take (m + 1), goodO p = true → p.t ≠ o.t) := Lib.hid (by
                rw [htm.out]
                intro q hq hgq
                rcases List.mem_append.1 hq with hq | hq
                · exact hno.out q hq hgq
                · rw [List.mem_singleton.1 hq, hgp] at hgq; cases hgq)
              clear hgp
              go_upto_region 11 with fail
              refine start_ (n := 18) (S := fun W' => Below w1.heap.size w1 W') (ds := []) (#[false, false, false, false, false, false, false, false, false, false, false, false, false, false, false, false, false, false]) (by kernel_rfl) rfl rfl (below_drew hbw) (fun hS => ?_)
              generalize wr.drew = wB at *
              refine take_ (i := 0) (N := some 35) (v := ?_) (a' := ?_) #[true, false, false, false, false, false, false, false, false, false, false, false, false, false, false, false, false, false] rfl rfl (by kernel_rfl) (fun _ _ _ h => h) (.inl ⟨by rfl, fun w' hS' => ?_⟩) hS ?_ ?_
              rotate_left
              · go_simp
                with_reducible rfl
              rotate_left
              · simp only [Act.put, List.setIfInBounds_toArray, List.set_cons_zero, List.set_cons_succ]
                rfl
              refine take_ (i := 1) (N := some 36) (v := ?_) (a' := ?_) #[true, true, false, false, false, false, false, false, false, false, false, false, false, false, false, false, false, false] rfl rfl (by kernel_rfl) (fun _ _ _ h => h) (.inl ⟨by rfl, fun w' hS' => ?_⟩) hS ?_ ?_
              rotate_left
              · go_simp
                with_reducible rfl
              rotate_left
              · simp only [Act.put, List.setIfInBounds_toArray, List.set_cons_zero, List.set_cons_succ]
                rfl
              refine take_ (i := 2) (N := some 37) (v := ?_) (a' := ?_) #[true, true, true, false, false, false, false, false, false, false, false, false, false, false, false, false, false, false] rfl rfl (by kernel_rfl) (fun _ _ _ h => h) (.inl ⟨by rfl, fun w' hS' => ?_⟩) hS ?_ ?_
              rotate_left
              · go_simp
                with_reducible rfl
              rotate_left
              · simp only [Act.put, List.setIfInBounds_toArray, List.set_cons_zero, List.set_cons_succ]
                rfl
              refine take_ (i := 3) (N := some 38) (v := ?_) (a' := ?_) #[true, true, true, true, false, false, false, false, false, false, false, false, false, false, false, false, false, false] rfl rfl (by kernel_rfl) (fun _ _ _ h => h) (.inl ⟨by rfl, fun w' hS' => ?_⟩) hS ?_ ?_
              rotate_left
              · have u0 := (hp0 _ hS').1
                have u1 := (hp0 _ hS').2
                have u2 := (hS'.cell (cell_lt x0A)).trans x0A
                go_simp
                with_reducible rfl
              rotate_left
              · simp only [Act.put, List.setIfInBounds_toArray, List.set_cons_zero, List.set_cons_succ]
                rfl
              refine wpAnyLast_all (rs := [4]) (by kernel_rfl) (by simp) ?_
              intro i hi'
              obtain rfl := List.mem_singleton.1 hi'
              refine wpOp_step rfl (fun K' hK' => ?_)
              go_simp
              go_at_call 57
              with_reducible refine (hGp _).mono ?_
              rintro e w6 ⟨rfl, hb6⟩
              have hT := hS.trans (hb6.mono hS.size)
              refine hK' _ _ ⟨fun _ _ => hT, ?_⟩
              clear hK' K' hS
              simp only [Act.put, List.setIfInBounds_toArray, List.set_cons_zero, List.set_cons_succ]
              have hS := hT
              clear hT
              refine take_ (i := 5) (N := some 40) (v := ?_) (a' := ?_) #[true, true, true, true, true, true, false, false, false, false, false, false, false, false, false, false, false, false] rfl rfl (by kernel_rfl) (fun _ _ _ h => h) (.inl ⟨by rfl, fun w' hS' => ?_⟩) hS ?_ ?_
              rotate_left
              · go_simp
                with_reducible rfl
              rotate_left
              · simp only [Act.put, List.setIfInBounds_toArray, List.set_cons_zero, List.set_cons_succ]
                rfl
              refine take_ (i := 6) (N := some 41) (v := undef) (a' := ?_) #[true, true, true, true, true, true, true, false, false, false, false, false, false, false, false, false, false, false] rfl rfl (by kernel_rfl) (fun _ _ _ h => h) (.inr ⟨by rfl, rfl⟩) hS ?_ ?_
              rotate_left
              · simp only [Act.put, List.setIfInBounds_toArray, List.set_cons_zero, List.set_cons_succ]
                rfl
              refine take_ (i := 7) (N := some 42) (v := undef) (a' := ?_) #[true, true, true, true, true, true, true, true, false, false, false, false, false, false, false, false, false, false] rfl rfl (by kernel_rfl) (fun _ _ _ h => h) (.inr ⟨by rfl, rfl⟩) hS ?_ ?_
              rotate_left
              · simp only [Act.put, List.setIfInBounds_toArray, List.set_cons_zero, List.set_cons_succ]
                rfl
              refine take_ (i := 8) (N := some 43) (v := undef) (a' := ?_) #[true, true, true, true, true, true, true, true, true, false, false, false, false, false, false, false, false, false] rfl rfl (by kernel_rfl) (fun _ _ _ h => h) (.inr ⟨by rfl, rfl⟩) hS ?_ ?_
              rotate_left
              · simp only [Act.put, List.setIfInBounds_toArray, List.set_cons_zero, List.set_cons_succ]
                rfl
              refine take_ (i := 9) (N := some 44) (v := undef) (a' := ?_) #[true, true, true, true, true, true, true, true, true, true, false, false, false, false, false, false, false, false] rfl rfl (by kernel_rfl) (fun _ _ _ h => h) (.inr ⟨by rfl, rfl⟩) hS ?_ ?_
              rotate_left
              · simp only [Act.put, List.setIfInBounds_toArray, List.set_cons_zero, List.set_cons_succ]
                rfl
              refine take_ (i := 10) (N := some 45) (v := undef) (a' := ?_) #[true, true, true, true, true, true, true, true, true, true, true, false, false, false, false, false, false, false] rfl rfl (by kernel_rfl) (fun _ _ _ h => h) (.inr ⟨by rfl, rfl⟩) hS ?_ ?_
              rotate_left
              · simp only [Act.put, List.setIfInBounds_toArray, List.set_cons_zero, List.set_cons_succ]
                rfl
              refine take_ (i := 11) (N := some 46) (v := undef) (a' := ?_) #[true, true, true, true, true, true, true, true, true, true, true, true, false, false, false, false, false, false] rfl rfl (by kernel_rfl) (fun _ _ _ h => h) (.inr ⟨by rfl, rfl⟩) hS ?_ ?_
              rotate_left
              · simp only [Act.put, List.setIfInBounds_toArray, List.set_cons_zero, List.set_cons_succ]
                rfl
              refine take_ (i := 12) (N := some 47) (v := undef) (a' := ?_) #[true, true, true, true, true, true, true, true, true, true, true, true, true, false, false, false, false, false] rfl rfl (by kernel_rfl) (fun _ _ _ h => h) (.inr ⟨by rfl, rfl⟩) hS ?_ ?_
              rotate_left
              · simp only [Act.put, List.setIfInBounds_toArray, List.set_cons_zero, List.set_cons_succ]
                rfl
              refine take_ (i := 13) (N := some 48) (v := undef) (a' := ?_) #[true, true, true, true, true, true, true, true, true, true, true, true, true, true, false, false, false, false] rfl rfl (by kernel_rfl) (fun _ _ _ h => h) (.inr ⟨by rfl, rfl⟩) hS ?_ ?_
              rotate_left
              · simp only [Act.put, List.setIfInBounds_toArray, List.set_cons_zero, List.set_cons_succ]
                rfl
              refine take_ (i := 14) (N := some 49) (v := undef) (a' := ?_) #[true, true, true, true, true, true, true, true, true, true, true, true, true, true, true, false, false, false] rfl rfl (by kernel_rfl) (fun _ _ _ h => h) (.inr ⟨by rfl, rfl⟩) hS ?_ ?_
              rotate_left
              · simp only [Act.put, List.setIfInBounds_toArray, List.set_cons_zero, List.set_cons_succ]
                rfl
              refine take_ (i := 15) (N := some 50) (v := undef) (a' := ?_) #[true, true, true, true, true, true, true, true, true, true, true, true, true, true, true, true, false, false] rfl rfl (by kernel_rfl) (fun _ _ _ h => h) (.inr ⟨by rfl, rfl⟩) hS ?_ ?_
              rotate_left
              · simp only [Act.put, List.setIfInBounds_toArray, List.set_cons_zero, List.set_cons_succ]
                rfl
              refine take_ (i := 16) (N := some 51) (v := undef) (a' := ?_) #[true, true, true, true, true, true, true, true, true, true, true, true, true, true, true, true, true, false] rfl rfl (by kernel_rfl) (fun _ _ _ h => h) (.inr ⟨by rfl, rfl⟩) hS ?_ ?_
              rotate_left
              · simp only [Act.put, List.setIfInBounds_toArray, List.set_cons_zero, List.set_cons_succ]
                rfl
              refine wpAnyLast_all (rs := [17]) (by kernel_rfl) (by simp) ?_
              intro i hi'
              obtain rfl := List.mem_singleton.1 hi'
              refine wpOp_step rfl (fun K' hK' => ?_)
              go_simp
              refine hK' _ _ ⟨fun _ h => h, ?_⟩
              clear hK' K'
              simp only [Act.put, List.setIfInBounds_toArray, List.set_cons_zero, List.set_cons_succ]
              refine wpAnyLast_done (by kernel_rfl) ?_ _
              have hbx := hS
              go_wp2
              go_roundg (k - (m + 1))
              case measure => have := A2.out; omega
              case rel => exact ⟨m + 1, by omega, rfl, by go_num, hno1, hbx⟩
            | true =>
              rw [hgp] at hGp
              have htt : (tv p.t == tv o.t) = decide (p.t = o.t) := ti_bool p.t o.t
              by_cases ht : p.t = o.t
              · rw [decide_eq_true ht] at htt
                have hGo : Hid (G = (noI, [], 9)) := Lib.hid (by
                  have hko := (kof_type hgp HG.out).2 ht
                  have := (hcm.out (kof o) (good_kof HG.out).1).2 ⟨p, hmem.out, hgp, hko⟩
                  rw [heq.out, hdr.out, getL, if_pos HG.out, if_pos this])
                have HT := Lib.hid ht
                clear hgp ht
                go_upto_region 11 with fail
                refine start_ (n := 18) (S := fun W' => Below w1.heap.size w1 W') (ds := []) (#[false, false, false, false, false, false, false, false, false, false, false, false, false, false, false, false, false, false]) (by kernel_rfl) rfl rfl (below_drew hbw) (fun hS => ?_)
                generalize wr.drew = wB at *
                refine take_ (i := 0) (N := some 35) (v := ?_) (a' := ?_) #[true, false, false, false, false, false, false, false, false, false, false, false, false, false, false, false, false, false] rfl rfl (by kernel_rfl) (fun _ _ _ h => h) (.inl ⟨by rfl, fun w' hS' => ?_⟩) hS ?_ ?_
                rotate_left
                · go_simp
                  with_reducible rfl
                rotate_left
                · simp only [Act.put, List.setIfInBounds_toArray, List.set_cons_zero, List.set_cons_succ]
                  rfl
                refine take_ (i := 1) (N := some 36) (v := ?_) (a' := ?_) #[true, true, false, false, false, false, false, false, false, false, false, false, false, false, false, false, false, false] rfl rfl (by kernel_rfl) (fun _ _ _ h => h) (.inl ⟨by rfl, fun w' hS' => ?_⟩) hS ?_ ?_
                rotate_left
                · go_simp
                  with_reducible rfl
                rotate_left
                · simp only [Act.put, List.setIfInBounds_toArray, List.set_cons_zero, List.set_cons_succ]
                  rfl
                refine take_ (i := 2) (N := some 37) (v := ?_) (a' := ?_) #[true, true, true, false, false, false, false, false, false, false, false, false, false, false, false, false, false, false] rfl rfl (by kernel_rfl) (fun _ _ _ h => h) (.inl ⟨by rfl, fun w' hS' => ?_⟩) hS ?_ ?_
                rotate_left
                · go_simp
                  with_reducible rfl
                rotate_left
                · simp only [Act.put, List.setIfInBounds_toArray, List.set_cons_zero, List.set_cons_succ]
                  rfl
                refine take_ (i := 3) (N := some 38) (v := ?_) (a' := ?_) #[true, true, true, true, false, false, false, false, false, false, false, false, false, false, false, false, false, false] rfl rfl (by kernel_rfl) (fun _ _ _ h => h) (.inl ⟨by rfl, fun w' hS' => ?_⟩) hS ?_ ?_
                rotate_left
                · have u0 := (hp0 _ hS').1
                  have u1 := (hp0 _ hS').2
                  have u2 := (hS'.cell (cell_lt x0A)).trans x0A
                  go_simp
                  with_reducible rfl
                rotate_left
                · simp only [Act.put, List.setIfInBounds_toArray, List.set_cons_zero, List.set_cons_succ]
                  rfl
                refine wpAnyLast_all (rs := [4]) (by kernel_rfl) (by simp) ?_
                intro i hi'
                obtain rfl := List.mem_singleton.1 hi'
                refine wpOp_step rfl (fun K' hK' => ?_)
                go_simp
                go_at_call 57
                with_reducible refine (hGp _).mono ?_
                rintro e w6 ⟨rfl, hb6⟩
                have hT := hS.trans (hb6.mono hS.size)
                refine hK' _ _ ⟨fun _ _ => hT, ?_⟩
                clear hK' K' hS
                simp only [Act.put, List.setIfInBounds_toArray, List.set_cons_zero, List.set_cons_succ]
                have hS := hT
                clear hT
                refine take_ (i := 5) (N := some 40) (v := ?_) (a' := ?_) #[true, true, true, true, true, true, false, false, false, false, false, false, false, false, false, false, false, false] rfl rfl (by kernel_rfl) (fun _ _ _ h => h) (.inl ⟨by rfl, fun w' hS' => ?_⟩) hS ?_ ?_
                rotate_left
                · go_simp
                  with_reducible rfl
                rotate_left
                · simp only [Act.put, List.setIfInBounds_toArray, List.set_cons_zero, List.set_cons_succ]
                  rfl
                refine take_ (i := 6) (N := some 41) (v := ?_) (a' := ?_) #[true, true, true, true, true, true, true, false, false, false, false, false, false, false, false, false, false, false] rfl rfl (by kernel_rfl) (fun _ _ _ h => h) (.inl ⟨by rfl, fun w' hS' => ?_⟩) hS ?_ ?_
                rotate_left
                · go_simp
                  with_reducible rfl
                rotate_left
                · simp only [Act.put, List.setIfInBounds_toArray, List.set_cons_zero, List.set_cons_succ]
                  rfl
                refine take_ (i := 7) (N := some 42) (v := ?_) (a' := ?_) #[true, true, true, true, true, true, true, true, false, false, false, false, false, false, false, false, false, false] rfl rfl (by kernel_rfl) (fun _ _ _ h => h) (.inl ⟨by rfl, fun w' hS' => ?_⟩) hS ?_ ?_
                rotate_left
                · go_simp
                  with_reducible rfl
                rotate_left
                · simp only [Act.put, List.setIfInBounds_toArray, List.set_cons_zero, List.set_cons_succ]
                  rfl
                refine take_ (i := 8) (N := some 43) (v := ?_) (a' := ?_) #[true, true, true, true, true, true, true, true, true, false, false, false, false, false, false, false, false, false] rfl rfl (by kernel_rfl) (fun _ _ _ h => h) (.inl ⟨by rfl, fun w' hS' => ?_⟩) hS ?_ ?_
                rotate_left
                · go_simp
                  with_reducible rfl
                rotate_left
                · simp only [Act.put, List.setIfInBounds_toArray, List.set_cons_zero, List.set_cons_succ]
                  rfl
                refine take_ (i := 9) (N := some 44) (v := ?_) (a' := ?_) #[true, true, true, true, true, true, true, true, true, true, false, false, false, false, false, false, false, false] rfl rfl (by kernel_rfl) (fun _ _ _ h => h) (.inl ⟨by rfl, fun w' hS' => ?_⟩) hS ?_ ?_
                rotate_left
                · go_simp
                  with_reducible rfl
                rotate_left
                · simp only [Act.put, List.setIfInBounds_toArray, List.set_cons_zero, List.set_cons_succ]
                  rfl
                refine take_ (i := 10) (N := some 45) (v := ?_) (a' := ?_) #[true, true, true, true, true, true, true, true, true, true, true, false, false, false, false, false, false, false] rfl rfl (by kernel_rfl) (fun _ _ _ h => h) (.inl ⟨by rfl, fun w' hS' => ?_⟩) hS ?_ ?_
                rotate_left
                · have u0 := (hp0 _ hS').1
                  have u1 := (hp0 _ hS').2
                  have u2 := (hS'.cell (cell_lt x0A)).trans x0A
                  go_simp
                  with_reducible rfl
                rotate_left
                · simp only [Act.put, List.setIfInBounds_toArray, List.set_cons_zero, List.set_cons_succ]
                  rfl
                refine take_ (i := 11) (N := some 46) (v := ?_) (a' := ?_) #[true, true, true, true, true, true, true, true, true, true, true, true, false, false, false, false, false, false] rfl rfl (by kernel_rfl) (fun _ _ _ h => h) (.inl ⟨by rfl, fun w' hS' => ?_⟩) hS ?_ ?_
                rotate_left
                · go_simp
                  with_reducible rfl
                rotate_left
                · simp only [Act.put, List.setIfInBounds_toArray, List.set_cons_zero, List.set_cons_succ]
                  rfl
                refine take_ (i := 12) (N := some 47) (v := ?_) (a' := ?_) #[true, true, true, true, true, true, true, true, true, true, true, true, true, false, false, false, false, false] rfl rfl (by kernel_rfl) (fun _ _ _ h => h) (.inl ⟨by rfl, fun w' hS' => ?_⟩) hS ?_ ?_
                rotate_left
                · go_simp
                  with_reducible rfl
                rotate_left
                · simp only [Act.put, List.setIfInBounds_toArray, List.set_cons_zero, List.set_cons_succ]
                  rfl
                refine take_ (i := 13) (N := some 48) (v := ?_) (a' := ?_) #[true, true, true, true, true, true, true, true, true, true, true, true, true, true, false, false, false, false] rfl rfl (by kernel_rfl) (fun _ _ _ h => h) (.inl ⟨by rfl, fun w' hS' => ?_⟩) hS ?_ ?_
                rotate_left
                · go_simp
                  with_reducible rfl
                rotate_left
                · simp only [Act.put, List.setIfInBounds_toArray, List.set_cons_zero, List.set_cons_succ]
                  rfl
                refine take_ (i := 14) (N := some 49) (v := ?_) (a' := ?_) #[true, true, true, true, true, true, true, true, true, true, true, true, true, true, true, false, false, false] rfl rfl (by kernel_rfl) (fun _ _ _ h => h) (.inl ⟨by rfl, fun w' hS' => ?_⟩) hS ?_ ?_
                rotate_left
                · go_simp
                  with_reducible rfl
                rotate_left
                · simp only [Act.put, List.setIfInBounds_toArray, List.set_cons_zero, List.set_cons_succ]
                  rfl
                refine take_ (i := 15) (N := some 50) (v := ?_) (a' := ?_) #[true, true, true, true, true, true, true, true, true, true, true, true, true, true, true, true, false, false] rfl rfl (by kernel_rfl) (fun _ _ _ h => h) (.inl ⟨by rfl, fun w' hS' => ?_⟩) hS ?_ ?_
                rotate_left
                · have u0 := (hp0 _ hS').1
                  have u1 := (hp0 _ hS').2
                  have u2 := (hS'.cell (cell_lt x0A)).trans x0A
                  go_simp
                  with_reducible rfl
                rotate_left
                · simp only [Act.put, List.setIfInBounds_toArray, List.set_cons_zero, List.set_cons_succ]
                  rfl
                refine take_ (i := 16) (N := some 51) (v := ?_) (a' := ?_) #[true, true, true, true, true, true, true, true, true, true, true, true, true, true, true, true, true, false] rfl rfl (by kernel_rfl) (fun _ _ _ h => h) (.inl ⟨by rfl, fun w' hS' => ?_⟩) hS ?_ ?_
                rotate_left
                · go_simp
                  with_reducible rfl
                rotate_left
                · simp only [Act.put, List.setIfInBounds_toArray, List.set_cons_zero, List.set_cons_succ]
                  rfl
                refine wpAnyLast_all (rs := [17]) (by kernel_rfl) (by simp) ?_
                intro i hi'
                obtain rfl := List.mem_singleton.1 hi'
                refine wpOp_step rfl (fun K' hK' => ?_)
                go_simp
                refine hK' _ _ ⟨fun _ h => h, ?_⟩
                clear hK' K'
                simp only [Act.put, List.setIfInBounds_toArray, List.set_cons_zero, List.set_cons_succ]
                refine wpAnyLast_done (by kernel_rfl) ?_ _
                have rb3 := (hS.block _ ((Array.getElem?_eq_some_iff.1 rbA).1)).trans rbA
                have B3 := BA.trans (hS.mono BA.size)
                go_wp2_with (first
                  | (refine wpList_store_row rfl 36 (.tmp 2) (.tmp 53) rfl w.heap.size noI.cells rfl rfl 36 _ rb3 size36 rfl (by simp [noI, Icp.cells, Value.oneCell']) ?_))
                (try simp only [Exit.inBlock, Exit.then])
                refine bodyPost_ret (v := .tuple #[.agg noI.cells, .slice none 0 0, .int .i64 9]) ?_ rfl ⟨_, by rw [hGo.out], below_row B3 _ (Nat.le_refl _) _⟩
                exact results_cell_tt rfl _ _ _ rfl rfl rfl (run_loadVar_row _ _ 36 36 noI.cells (0, 0) _ (setRow_heap _ _ _ _ _ _ rb3) Tryd.underlying36 rfl size36)
              · rw [decide_eq_false ht] at htt
                have hno1 : Hid (∀ p ∈ l.take (m + 1), goodO p = true → p.t ≠ o.t) := Lib.hid (by
                  rw [htm.out]
                  intro q hq hgq
                  rcases List.mem_append.1 hq with hq | hq
                  · exact hno.out q hq hgq
                  · rw [List.mem_singleton.1 hq]; exact ht)
                clear hgp ht
                go_upto_region 11 with fail
                refine start_ (n := 18) (S := fun W' => Below w1.heap.size w1 W') (ds := []) (#[false, false, false, false, false, false, false, false, false, false, false, false, false, false, false, false, false, false]) (by kernel_rfl) rfl rfl (below_drew hbw) (fun hS => ?_)
                generalize wr.drew = wB at *
                refine take_ (i := 0) (N := some 35) (v := ?_) (a' := ?_) #[true, false, false, false, false, false, false, false, false, false, false, false, false, false, false, false, false, false] rfl rfl (by kernel_rfl) (fun _ _ _ h => h) (.inl ⟨by rfl, fun w' hS' => ?_⟩) hS ?_ ?_
                rotate_left
                · go_simp
                  with_reducible rfl
                rotate_left
                · simp only [Act.put, List.setIfInBounds_toArray, List.set_cons_zero, List.set_cons_succ]
                  rfl
                refine take_ (i := 1) (N := some 36) (v := ?_) (a' := ?_) #[true, true, false, false, false, false, false, false, false, false, false, false, false, false, false, false, false, false] rfl rfl (by kernel_rfl) (fun _ _ _ h => h) (.inl ⟨by rfl, fun w' hS' => ?_⟩) hS ?_ ?_
                rotate_left
                · go_simp
                  with_reducible rfl
                rotate_left
                · simp only [Act.put, List.setIfInBounds_toArray, List.set_cons_zero, List.set_cons_succ]
                  rfl
                refine take_ (i := 2) (N := some 37) (v := ?_) (a' := ?_) #[true, true, true, false, false, false, false, false, false, false, false, false, false, false, false, false, false, false] rfl rfl (by kernel_rfl) (fun _ _ _ h => h) (.inl ⟨by rfl, fun w' hS' => ?_⟩) hS ?_ ?_
                rotate_left
                · go_simp
                  with_reducible rfl
                rotate_left
                · simp only [Act.put, List.setIfInBounds_toArray, List.set_cons_zero, List.set_cons_succ]
                  rfl
                refine take_ (i := 3) (N := some 38) (v := ?_) (a' := ?_) #[true, true, true, true, false, false, false, false, false, false, false, false, false, false, false, false, false, false] rfl rfl (by kernel_rfl) (fun _ _ _ h => h) (.inl ⟨by rfl, fun w' hS' => ?_⟩) hS ?_ ?_
                rotate_left
                · have u0 := (hp0 _ hS').1
                  have u1 := (hp0 _ hS').2
                  have u2 := (hS'.cell (cell_lt x0A)).trans x0A
                  go_simp
                  with_reducible rfl
                rotate_left
                · simp only [Act.put, List.setIfInBounds_toArray, List.set_cons_zero, List.set_cons_succ]
                  rfl
                refine wpAnyLast_all (rs := [4]) (by kernel_rfl) (by simp) ?_
                intro i hi'
                obtain rfl := List.mem_singleton.1 hi'
                refine wpOp_step rfl (fun K' hK' => ?_)
                go_simp
                go_at_call 57
                with_reducible refine (hGp _).mono ?_
                rintro e w6 ⟨rfl, hb6⟩
                have hT := hS.trans (hb6.mono hS.size)
                refine hK' _ _ ⟨fun _ _ => hT, ?_⟩
                clear hK' K' hS
                simp only [Act.put, List.setIfInBounds_toArray, List.set_cons_zero, List.set_cons_succ]
                have hS := hT
                clear hT
                refine take_ (i := 5) (N := some 40) (v := ?_) (a' := ?_) #[true, true, true, true, true, true, false, false, false, false, false, false, false, false, false, false, false, false] rfl rfl (by kernel_rfl) (fun _ _ _ h => h) (.inl ⟨by rfl, fun w' hS' => ?_⟩) hS ?_ ?_
                rotate_left
                · go_simp
                  with_reducible rfl
                rotate_left
                · simp only [Act.put, List.setIfInBounds_toArray, List.set_cons_zero, List.set_cons_succ]
                  rfl
                refine take_ (i := 6) (N := some 41) (v := ?_) (a' := ?_) #[true, true, true, true, true, true, true, false, false, false, false, false, false, false, false, false, false, false] rfl rfl (by kernel_rfl) (fun _ _ _ h => h) (.inl ⟨by rfl, fun w' hS' => ?_⟩) hS ?_ ?_
                rotate_left
                · go_simp
                  with_reducible rfl
                rotate_left
                · simp only [Act.put, List.setIfInBounds_toArray, List.set_cons_zero, List.set_cons_succ]
                  rfl
                refine take_ (i := 7) (N := some 42) (v := ?_) (a' := ?_) #[true, true, true, true, true, true, true, true, false, false, false, false, false, false, false, false, false, false] rfl rfl (by kernel_rfl) (fun _ _ _ h => h) (.inl ⟨by rfl, fun w' hS' => ?_⟩) hS ?_ ?_
                rotate_left
                · go_simp
                  with_reducible rfl
                rotate_left
                · simp only [Act.put, List.setIfInBounds_toArray, List.set_cons_zero, List.set_cons_succ]
                  rfl
                refine take_ (i := 8) (N := some 43) (v := ?_) (a' := ?_) #[true, true, true, true, true, true, true, true, true, false, false, false, false, false, false, false, false, false] rfl rfl (by kernel_rfl) (fun _ _ _ h => h) (.inl ⟨by rfl, fun w' hS' => ?_⟩) hS ?_ ?_
                rotate_left
                · go_simp
                  with_reducible rfl
                rotate_left
                · simp only [Act.put, List.setIfInBounds_toArray, List.set_cons_zero, List.set_cons_succ]
                  rfl
                refine take_ (i := 9) (N := some 44) (v := ?_) (a' := ?_) #[true, true, true, true, true, true, true, true, true, true, false, false, false, false, false, false, false, false] rfl rfl (by kernel_rfl) (fun _ _ _ h => h) (.inl ⟨by rfl, fun w' hS' => ?_⟩) hS ?_ ?_
                rotate_left
                · go_simp
                  with_reducible rfl
                rotate_left
                · simp only [Act.put, List.setIfInBounds_toArray, List.set_cons_zero, List.set_cons_succ]
                  rfl
                refine take_ (i := 10) (N := some 45) (v := ?_) (a' := ?_) #[true, true, true, true, true, true, true, true, true, true, true, false, false, false, false, false, false, false] rfl rfl (by kernel_rfl) (fun _ _ _ h => h) (.inl ⟨by rfl, fun w' hS' => ?_⟩) hS ?_ ?_
                rotate_left
                · have u0 := (hp0 _ hS').1
                  have u1 := (hp0 _ hS').2
                  have u2 := (hS'.cell (cell_lt x0A)).trans x0A
                  go_simp
                  with_reducible rfl
                rotate_left
                · simp only [Act.put, List.setIfInBounds_toArray, List.set_cons_zero, List.set_cons_succ]
                  rfl
                refine take_ (i := 11) (N := some 46) (v := ?_) (a' := ?_) #[true, true, true, true, true, true, true, true, true, true, true, true, false, false, false, false, false, false] rfl rfl (by kernel_rfl) (fun _ _ _ h => h) (.inl ⟨by rfl, fun w' hS' => ?_⟩) hS ?_ ?_
                rotate_left
                · go_simp
                  with_reducible rfl
                rotate_left
                · simp only [Act.put, List.setIfInBounds_toArray, List.set_cons_zero, List.set_cons_succ]
                  rfl
                refine take_ (i := 12) (N := some 47) (v := ?_) (a' := ?_) #[true, true, true, true, true, true, true, true, true, true, true, true, true, false, false, false, false, false] rfl rfl (by kernel_rfl) (fun _ _ _ h => h) (.inl ⟨by rfl, fun w' hS' => ?_⟩) hS ?_ ?_
                rotate_left
                · go_simp
                  with_reducible rfl
                rotate_left
                · simp only [Act.put, List.setIfInBounds_toArray, List.set_cons_zero, List.set_cons_succ]
                  rfl
                refine take_ (i := 13) (N := some 48) (v := ?_) (a' := ?_) #[true, true, true, true, true, true, true, true, true, true, true, true, true, true, false, false, false, false] rfl rfl (by kernel_rfl) (fun _ _ _ h => h) (.inl ⟨by rfl, fun w' hS' => ?_⟩) hS ?_ ?_
                rotate_left
                · go_simp
                  with_reducible rfl
                rotate_left
                · simp only [Act.put, List.setIfInBounds_toArray, List.set_cons_zero, List.set_cons_succ]
                  rfl
                refine take_ (i := 14) (N := some 49) (v := ?_) (a' := ?_) #[true, true, true, true, true, true, true, true, true, true, true, true, true, true, true, false, false, false] rfl rfl (by kernel_rfl) (fun _ _ _ h => h) (.inl ⟨by rfl, fun w' hS' => ?_⟩) hS ?_ ?_
                rotate_left
                · go_simp
                  with_reducible rfl
                rotate_left
                · simp only [Act.put, List.setIfInBounds_toArray, List.set_cons_zero, List.set_cons_succ]
                  rfl
                refine take_ (i := 15) (N := some 50) (v := ?_) (a' := ?_) #[true, true, true, true, true, true, true, true, true, true, true, true, true, true, true, true, false, false] rfl rfl (by kernel_rfl) (fun _ _ _ h => h) (.inl ⟨by rfl, fun w' hS' => ?_⟩) hS ?_ ?_
                rotate_left
                · have u0 := (hp0 _ hS').1
                  have u1 := (hp0 _ hS').2
                  have u2 := (hS'.cell (cell_lt x0A)).trans x0A
                  go_simp
                  with_reducible rfl
                rotate_left
                · simp only [Act.put, List.setIfInBounds_toArray, List.set_cons_zero, List.set_cons_succ]
                  rfl
                refine take_ (i := 16) (N := some 51) (v := ?_) (a' := ?_) #[true, true, true, true, true, true, true, true, true, true, true, true, true, true, true, true, true, false] rfl rfl (by kernel_rfl) (fun _ _ _ h => h) (.inl ⟨by rfl, fun w' hS' => ?_⟩) hS ?_ ?_
                rotate_left
                · go_simp
                  with_reducible rfl
                rotate_left
                · simp only [Act.put, List.setIfInBounds_toArray, List.set_cons_zero, List.set_cons_succ]
                  rfl
                refine wpAnyLast_all (rs := [17]) (by kernel_rfl) (by simp) ?_
                intro i hi'
                obtain rfl := List.mem_singleton.1 hi'
                refine wpOp_step rfl (fun K' hK' => ?_)
                go_simp
                refine hK' _ _ ⟨fun _ h => h, ?_⟩
                clear hK' K'
                simp only [Act.put, List.setIfInBounds_toArray, List.set_cons_zero, List.set_cons_succ]
                refine wpAnyLast_done (by kernel_rfl) ?_ _
                have hbx := hS
                go_wp2
                go_roundg (k - (m + 1))
                case measure => have := A2.out; omega
                case rel => exact ⟨m + 1, by omega, rfl, by go_num, hno1, hbx⟩
          · obtain rfl : m = k := by omega
            have h2 : decide ((m : Int) < (m : Int)) = false := by simp
            have hkg := good_kof HG.out
            have hsz4 : o.d.size = 4 := hkg.2.2
            have hnx : x.has (kof o) = false := by
              cases e : x.has (kof o) with
              | false => rfl
              | true =>
                obtain ⟨p, hp, hg1, hk1⟩ := (hcm.out (kof o) hkg.1).1 e
                exact absurd ((kof_type hg1 HG.out).1 hk1) (hno.out p hp hg1)
            have hnew : Hid (G = getL (l.drop (m + 1)) (x.set (kof o) (ad4 o.d)) odd) := Lib.hid (by rw [heq.out, hdr.out, getL, if_pos HG.out, if_neg (by rw [hnx]; simp)])
            have hv := fun W => rvalue_calls o.d hsz4 W
            obtain ⟨ha, va, hh1, v1, hh2, v2⟩ := x
            have xb2' : wr.heap[w.heap.size + 1]? = some (.cells #[.bool ha, .int .u32 (nv va), .bool hh1, .int .u32 (nv v1), .bool hh2, .int .u32 (nv v2)] 36 (0, 0)) := xb2
            obtain ⟨kk, hko, hkk⟩ : ∃ kk, kof o = kk ∧ kk < 3 := ⟨_, rfl, hkg.1⟩
            have ht' : o.t = tk kk := by rw [← hko]; exact hkg.2.1
            clear hkg hsz4 hnx xb2
            rcases (show kk = 0 ∨ kk = 1 ∨ kk = 2 by omega) with rfl | rfl | rfl
            · have b3 : (tv o.t == 3) = true := by rw [show (3 : Int) = tv 3 from rfl, ti_bool, ht']; rfl
              have b129 : (tv o.t == 129) = false := by rw [show (129 : Int) = tv 129 from rfl, ti_bool, ht']; rfl
              have hx' : Hid (Icp.set ⟨ha, va, hh1, v1, hh2, v2⟩ 0 (ad4 o.d) = Icp.set ⟨ha, va, hh1, v1, hh2, v2⟩ (kof o) (ad4 o.d)) := Lib.hid (by rw [hko])
              clear hko ht'
              go_wp2_with (first
                | (go_at_call 59; with_reducible refine (hv _).mono ?_; rintro e w4 ⟨rfl, hb4⟩
                   have z0 := (hb4.cell (cell_lt y0)).trans y0
                   have xb4 := (hb4.block _ ((Array.getElem?_eq_some_iff.1 xb2').1)).trans xb2'
                   have rb4 := (hb4.block _ ((Array.getElem?_eq_some_iff.1 rb2).1)).trans rb2
                   have oA4 := OwnL.below oA2 hb4
                   have B4 := B2.trans (hb4.mono B2.size)
                   have s0 := fun i => blk_cell xb4 i
                   have s1 := fun i => blk_frozen xb4 i
                   have s2 := fun u i => blk_cell (blk_set xb4 0 u) i
                   have s3 := fun u i => blk_frozen (blk_set xb4 0 u) i))
              go_roundg (l.length - (m + 1))
              case measure => have := A.out; omega
              case rel =>
                refine ⟨m + 1, Icp.set ⟨ha, va, hh1, v1, hh2, v2⟩ 0 (ad4 o.d), odd, by omega, rfl, by go_num, ?_, ?_, ?_, by omega, ?_, blk_set (blk_set xb4 0 _) 1 _, ?_⟩
                · exact Lib.hid (by rw [hx'.out]; exact hnew.out)
                · exact Lib.hid (by rw [hx'.out, htk.out]; exact came_good hcm.out HG.out _)
                · exact own_one (own_one oA4 xb4 0 _) (blk_set xb4 0 _) 1 _
                · exact (Below.heap_setCell _ ⟨w.heap.size + 1, 1, none⟩ _ _ (by simp only; omega)).trans ((Below.heap_setCell _ ⟨w.heap.size + 1, 0, none⟩ _ _ (by simp only; omega)).trans rb4)
                · exact (B4.setCell (p := ⟨w.heap.size + 1, 0, none⟩) (by simp only; omega) _).setCell (p := ⟨w.heap.size + 1, 1, none⟩) (by simp only; omega) _
            · have b3 : (tv o.t == 3) = false := by rw [show (3 : Int) = tv 3 from rfl, ti_bool, ht']; rfl
              have b129 : (tv o.t == 129) = true := by rw [show (129 : Int) = tv 129 from rfl, ti_bool, ht']; rfl
              have hx' : Hid (Icp.set ⟨ha, va, hh1, v1, hh2, v2⟩ 1 (ad4 o.d) = Icp.set ⟨ha, va, hh1, v1, hh2, v2⟩ (kof o) (ad4 o.d)) := Lib.hid (by rw [hko])
              clear hko ht'
              go_wp2_with (first
                | (go_at_call 59; with_reducible refine (hv _).mono ?_; rintro e w4 ⟨rfl, hb4⟩
                   have z0 := (hb4.cell (cell_lt y0)).trans y0
                   have xb4 := (hb4.block _ ((Array.getElem?_eq_some_iff.1 xb2').1)).trans xb2'
                   have rb4 := (hb4.block _ ((Array.getElem?_eq_some_iff.1 rb2).1)).trans rb2
                   have oA4 := OwnL.below oA2 hb4
                   have B4 := B2.trans (hb4.mono B2.size)
                   have s0 := fun i => blk_cell xb4 i
                   have s1 := fun i => blk_frozen xb4 i
                   have s2 := fun u i => blk_cell (blk_set xb4 2 u) i
                   have s3 := fun u i => blk_frozen (blk_set xb4 2 u) i))
              go_roundg (l.length - (m + 1))
              case measure => have := A.out; omega
              case rel =>
                refine ⟨m + 1, Icp.set ⟨ha, va, hh1, v1, hh2, v2⟩ 1 (ad4 o.d), odd, by omega, rfl, by go_num, ?_, ?_, ?_, by omega, ?_, blk_set (blk_set xb4 2 _) 3 _, ?_⟩
                · exact Lib.hid (by rw [hx'.out]; exact hnew.out)
                · exact Lib.hid (by rw [hx'.out, htk.out]; exact came_good hcm.out HG.out _)
                · exact own_one (own_one oA4 xb4 2 _) (blk_set xb4 2 _) 3 _
                · exact (Below.heap_setCell _ ⟨w.heap.size + 1, 3, none⟩ _ _ (by simp only; omega)).trans ((Below.heap_setCell _ ⟨w.heap.size + 1, 2, none⟩ _ _ (by simp only; omega)).trans rb4)
                · exact (B4.setCell (p := ⟨w.heap.size + 1, 2, none⟩) (by simp only; omega) _).setCell (p := ⟨w.heap.size + 1, 3, none⟩) (by simp only; omega) _
            · have b3 : (tv o.t == 3) = false := by rw [show (3 : Int) = tv 3 from rfl, ti_bool, ht']; rfl
              have b129 : (tv o.t == 129) = false := by rw [show (129 : Int) = tv 129 from rfl, ti_bool, ht']; rfl
              have hx' : Hid (Icp.set ⟨ha, va, hh1, v1, hh2, v2⟩ 2 (ad4 o.d) = Icp.set ⟨ha, va, hh1, v1, hh2, v2⟩ (kof o) (ad4 o.d)) := Lib.hid (by rw [hko])
              clear hko ht'
              go_wp2_with (first
                | (go_at_call 59; with_reducible refine (hv _).mono ?_; rintro e w4 ⟨rfl, hb4⟩
                   have z0 := (hb4.cell (cell_lt y0)).trans y0
                   have xb4 := (hb4.block _ ((Array.getElem?_eq_some_iff.1 xb2').1)).trans xb2'
                   have rb4 := (hb4.block _ ((Array.getElem?_eq_some_iff.1 rb2).1)).trans rb2
                   have oA4 := OwnL.below oA2 hb4
                   have B4 := B2.trans (hb4.mono B2.size)
                   have s0 := fun i => blk_cell xb4 i
                   have s1 := fun i => blk_frozen xb4 i
                   have s2 := fun u i => blk_cell (blk_set xb4 4 u) i
                   have s3 := fun u i => blk_frozen (blk_set xb4 4 u) i))
              go_roundg (l.length - (m + 1))
              case measure => have := A.out; omega
              case rel =>
                refine ⟨m + 1, Icp.set ⟨ha, va, hh1, v1, hh2, v2⟩ 2 (ad4 o.d), odd, by omega, rfl, by go_num, ?_, ?_, ?_, by omega, ?_, blk_set (blk_set xb4 4 _) 5 _, ?_⟩
                · exact Lib.hid (by rw [hx'.out]; exact hnew.out)
                · exact Lib.hid (by rw [hx'.out, htk.out]; exact came_good hcm.out HG.out _)
                · exact own_one (own_one oA4 xb4 4 _) (blk_set xb4 4 _) 5 _
                · exact (Below.heap_setCell _ ⟨w.heap.size + 1, 5, none⟩ _ _ (by simp only; omega)).trans ((Below.heap_setCell _ ⟨w.heap.size + 1, 4, none⟩ _ _ (by simp only; omega)).trans rb4)
                · exact (B4.setCell (p := ⟨w.heap.size + 1, 4, none⟩) (by simp only; omega) _).setCell (p := ⟨w.heap.size + 1, 5, none⟩) (by simp only; omega) _
    · obtain rfl : k = l.length := by omega
      have h1 : decide ((l.length : Int) < (l.length : Int)) = false := by simp
      have hG : Hid (G = (x, odd, 0)) := Lib.hid (by rw [heq.out, List.drop_length]; rfl)
      go_wp2_with (first
        | (refine wpList_load_row rfl 36 (.tmp 5) rfl (w.heap.size + 1) rfl 36 x.cells (0, 0) _ xb Tryd.underlying36 rfl size36 ?_)
        | (refine wpList_store_row rfl 36 (.tmp 2) (.tmp 78) rfl w.heap.size x.cells rfl rfl 36 _ rb size36 rfl (by simp [Icp.cells, Value.oneCell']) ?_))
      (try simp only [Exit.inBlock, Exit.then])
      refine bodyPost_ret (v := .tuple #[.agg x.cells, u6, .int .i64 0]) ?_ rfl ⟨_, by rw [hG.out], below_row hB _ (Nat.le_refl _) _⟩
      exact results_cell_tt rfl _ _ _ rfl rfl rfl (run_loadVar_row _ _ 36 36 x.cells (0, 0) _ (setRow_heap _ _ _ _ _ _ rb) Tryd.underlying36 rfl size36)
end Go.Proofs.YtlcckkdkcbelhaaDoor
namespace Go.Proofs.YtlcckkdkcbelhaaDoor
open Go.RowKit Go.Proofs.YtlcckkdkcbelhaaDoorW.PrintWords Go.Proofs.YtlcckkdkcbelhaaDoorW.PrintLast

theorem isRef_mine {w : World} {b : Nat} {s : Pol} (h : IsRef w b s) (x : Icp) : IsRef ((((((w.setCell ⟨b, 12, none⟩ (.bool x.ha)).setCell ⟨b, 13, none⟩ (.int .u32 (nv x.a))).setCell ⟨b, 14, none⟩ (.bool x.h1)).setCell ⟨b, 15, none⟩ (.int .u32 (nv x.d1))).setCell ⟨b, 16, none⟩ (.bool x.h2)).setCell ⟨b, 17, none⟩ (.int .u32 (nv x.d2))) b { s with mine := x } :=
  blk_set (blk_set (blk_set (blk_set (blk_set (blk_set h 12 _) 13 _) 14 _) 15 _) 16 _) 17 _
set_option maxHeartbeats 4000000 in
set_option maxRecDepth 100000 in
theorem racked_calls (s : Pol) (pb : Nat) (l : List Opt) (a : Option Addr) (c : Nat) (w : World) (h : Row w a c l) (hs : l.length < 1000000) (hp : IsRef w pb s) :
    Calls Tryd.prog 39 #[.pointer (some ⟨pb, 0, none⟩), .slice a l.length c] w fun e w' => e = .returned (.bool (decide (l = putL s.w 3))) ∧ But pb w w' ∧ IsRef w' pb (if l = putL s.w 3 then { s with mine := s.w } else s) := by
  have hR := fun W h1 => rreq_calls s pb W h1
  generalize hq : putL s.w 3 = q at *
  have hA := fun (x : Option Addr) (d : Nat) W h1 h2 => same_calls l q a x c d W h1 h2 (by omega)
  by_cases e : l = q
  · rw [decide_eq_true e] at hA ⊢
    rw [if_pos e]
    clear e
    go_enter Tryd.func39, Tryd.ntmps39
    go_upto_region 3 with (first
      | (go_at_call 28; with_reducible refine (hR _ hp).mono ?_; rintro e w1 ⟨v, rfl, ho, hb1⟩
         obtain ⟨xa, xc, rfl, r1⟩ := row_own ho)
      | (go_at_call 12; with_reducible refine (hA _ _ _ (h.below hb1) r1).mono ?_; rintro e w2 ⟨rfl, hb2⟩))
    have hp2 := (hp.below hb1).below hb2
    have B2 := hb1.trans (hb2.mono hb1.size)
    have t1 := fun i => blk_cell hp2 i
    have t2 := fun i => blk_frozen hp2 i
    simp only [Pol.rcells] at t1
    go_wp2
    go_ret
    exact ⟨rfl, ((((((But.of_below B2).set 12 _).set 13 _).set 14 _).set 15 _).set 16 _).set 17 _, isRef_mine hp2 s.w⟩
  · rw [decide_eq_false e] at hA ⊢
    rw [if_neg e]
    clear e
    go_enter Tryd.func39, Tryd.ntmps39
    go_wp2_with (first
      | (go_at_call 28; with_reducible refine (hR _ hp).mono ?_; rintro e w1 ⟨v, rfl, ho, hb1⟩
         obtain ⟨xa, xc, rfl, r1⟩ := row_own ho)
      | (go_at_call 12; with_reducible refine (hA _ _ _ (h.below hb1) r1).mono ?_; rintro e w2 ⟨rfl, hb2⟩))
    go_ret
    exact ⟨rfl, But.of_below (hb1.trans (hb2.mono hb1.size)), (hp.below hb1).below hb2⟩
/-- What a Nak makes of a wish, by the document. -/
def rtook (c : Conf) (w x : Icp) : Icp := ((w.tA ((x.ha && (nv x.a != 0)) && w.ha && (nv c.addr == 0)) x.a).t1 ((x.h1 && (nv x.d1 != 0)) && w.h1) x.d1).t2 ((x.h2 && (nv x.d2 != 0)) && w.h2) x.d2
def rnakP (s : Pol) (l : List Opt) : Bool × Pol := if l = [] ∨ (getI l).2.2 ≠ 0 then (false, s) else (true, { s with w := rtook s.c s.w (getI l).1 })
set_option maxRecDepth 100000 in
theorem rnaked_bad (s : Pol) (pb : Nat) (l : List Opt) (a : Option Addr) (c : Nat) (w : World) (h : Row w a c l) (hs : l.length < 1000000) (hp : IsRef w pb s) (hb : l = [] ∨ (getI l).2.2 ≠ 0) :
    Calls Tryd.prog 40 #[.pointer (some ⟨pb, 0, none⟩), .slice a l.length c] w fun e w' => e = .returned (.bool false) ∧ Below w.heap.size w w' := by
  have hG := fun W hr => rget_calls l a c W hr hs
  obtain ⟨⟨b1, z1, b2, z2, b3, z3⟩, hx⟩ : ∃ x, (getI l).1 = x := ⟨_, rfl⟩
  generalize hge : (getI l).2.2 = ge at *
  have hG2 : ∀ W, Row W a c l → Calls Tryd.prog 52 #[.slice a l.length c] W fun e w' => ∃ v, e = .returned (.tuple #[.agg #[.bool b1, .int .u32 (nv z1), .bool b2, .int .u32 (nv z2), .bool b3, .int .u32 (nv z3)], v, .int .i64 ge]) ∧ Below W.heap.size W w' := fun W hr => by
    have := hG W hr
    rw [hx] at this
    exact this
  clear hG hx hge
  by_cases h0 : l = []
  · subst h0
    simp only [List.length_nil] at hG2
    go_enter Tryd.func40, Tryd.ntmps40
    go_wp2_with (first
      | (go_at_call 52; with_reducible refine (hG2 _ h).mono ?_; rintro e w1 ⟨v, rfl, hb1⟩))
    go_ret
    exact ⟨rfl, hb1.alloc hb1.size _⟩
  · have hl0 : 0 < l.length := List.length_pos_iff.2 h0
    have n1 : ((l.length : Int) == 0) = false := by simp; omega
    have n2 : (l.length == 0) = false := by simp; omega
    have n3 : (ge != 0) = true := by simpa using hb.resolve_left h0
    clear hb
    go_enter Tryd.func40, Tryd.ntmps40
    go_wp2_with (first
      | (go_at_call 52; with_reducible refine (hG2 _ h).mono ?_; rintro e w1 ⟨v, rfl, hb1⟩))
    go_ret
    exact ⟨rfl, hb1.alloc hb1.size _⟩
set_option maxHeartbeats 16000000 in
set_option maxRecDepth 100000 in
theorem rnaked_good (s : Pol) (pb : Nat) (l : List Opt) (a : Option Addr) (c : Nat) (w : World) (h : Row w a c l) (hs : l.length < 1000000) (hp : IsRef w pb s) (h0 : l ≠ []) (hge : (getI l).2.2 = 0) :
    Calls Tryd.prog 40 #[.pointer (some ⟨pb, 0, none⟩), .slice a l.length c] w fun e w' => e = .returned (.bool true) ∧ But pb w w' ∧ IsRef w' pb { s with w := rtook s.c s.w (getI l).1 } := by
  have hG := fun W hr => rget_calls l a c W hr hs
  obtain ⟨⟨b1, z1, b2, z2, b3, z3⟩, hx⟩ : ∃ x, (getI l).1 = x := ⟨_, rfl⟩
  rw [hge] at hG
  have hG2 : ∀ W, Row W a c l → Calls Tryd.prog 52 #[.slice a l.length c] W fun e w' => ∃ v, e = .returned (.tuple #[.agg #[.bool b1, .int .u32 (nv z1), .bool b2, .int .u32 (nv z2), .bool b3, .int .u32 (nv z3)], v, .int .i64 0]) ∧ Below W.heap.size W w' := fun W hr => by
    have := hG W hr
    rw [hx] at this
    exact this
  rw [hx]
  clear hG hx hge
  have hl0 : 0 < l.length := List.length_pos_iff.2 h0
  have n1 : ((l.length : Int) == 0) = false := by simp; omega
  have n2 : (l.length == 0) = false := by simp; omega
  clear h0 hl0
  have hpl := hp.lt
  obtain ⟨x1, hx1⟩ : ∃ b, (nv z1 != 0) = b := ⟨_, rfl⟩
  obtain ⟨x2, hx2⟩ : ∃ b, (nv z2 != 0) = b := ⟨_, rfl⟩
  obtain ⟨x3, hx3⟩ : ∃ b, (nv z3 != 0) = b := ⟨_, rfl⟩
  obtain ⟨x4, hx4⟩ : ∃ b, (nv s.c.addr == 0) = b := ⟨_, rfl⟩
  obtain ⟨q, hq⟩ : ∃ q, s.w.tA ((b1 && x1) && s.w.ha && x4) z1 = q := ⟨_, rfl⟩
  obtain ⟨r, hr⟩ : ∃ r, q.t1 ((b2 && x2) && q.h1) z2 = r := ⟨_, rfl⟩
  obtain ⟨u, hu⟩ : ∃ u, r.t2 ((b3 && x3) && r.h2) z3 = u := ⟨_, rfl⟩
  have hh1 : s.w.h1 = q.h1 := by rw [← hq]; exact (tA_h1 _ _ _).1.symm
  have hh2 : s.w.h2 = r.h2 := by rw [← hr, t1_h2, ← hq]; exact (tA_h1 _ _ _).2.symm
  have hres : rtook s.c s.w ⟨b1, z1, b2, z2, b3, z3⟩ = u := by unfold rtook; rw [hx1, hx2, hx3, hx4, hq, hh1, hr, hh2, hu]
  rw [hres]
  clear hres hh1 hh2
  -- what a store does
  have k1 : (((b1 && x1) && s.w.ha && x4) = true → q = { s.w with a := z1 }) ∧ (((b1 && x1) && s.w.ha && x4) = false → q = s.w) := by
    rw [← hq]
    unfold Icp.tA
    refine ⟨fun e => if_pos ⟨e, fun e2 => ?_⟩, fun e => if_neg (by rw [e]; simp)⟩
    rw [e2, show (nv 0 != 0) = false from rfl] at hx1
    rw [← hx1] at e
    simp at e
  have k2 : (((b2 && x2) && q.h1) = true → r = { q with d1 := z2 }) ∧ (((b2 && x2) && q.h1) = false → r = q) := by
    rw [← hr]
    unfold Icp.t1
    refine ⟨fun e => if_pos ⟨e, fun e2 => ?_⟩, fun e => if_neg (by rw [e]; simp)⟩
    rw [e2, show (nv 0 != 0) = false from rfl] at hx2
    rw [← hx2] at e
    simp at e
  have k3 : (((b3 && x3) && r.h2) = true → u = { r with d2 := z3 }) ∧ (((b3 && x3) && r.h2) = false → u = r) := by
    rw [← hu]
    unfold Icp.t2
    refine ⟨fun e => if_pos ⟨e, fun e2 => ?_⟩, fun e => if_neg (by rw [e]; simp)⟩
    rw [e2, show (nv 0 != 0) = false from rfl] at hx3
    rw [← hx3] at e
    simp at e
  clear hq hr hu
  replace k1 := Lib.hid k1
  replace k2 := Lib.hid k2
  replace k3 := Lib.hid k3
  go_enter Tryd.func40, Tryd.ntmps40
  go_upto_region 4 with (first
    | (go_at_call 52; with_reducible refine (hG2 _ h).mono ?_; rintro e w1 ⟨v, rfl, hb1⟩))
  have B1 : But pb w (w1.alloc (.cells #[.bool b1, .int .u32 (nv z1), .bool b2, .int .u32 (nv z2), .bool b3, .int .u32 (nv z3)] 36)) := But.of_below (hb1.alloc hb1.size _)
  have hp1 := (hp.below hb1).below ((Below.refl _ _).alloc (Nat.le_refl _) (.cells #[.bool b1, .int .u32 (nv z1), .bool b2, .int .u32 (nv z2), .bool b3, .int .u32 (nv z3)] 36))
  have nx := alloc_new w1 _ (.cells #[.bool b1, .int .u32 (nv z1), .bool b2, .int .u32 (nv z2), .bool b3, .int .u32 (nv z3)] 36) rfl
  have nlt : w1.heap.size < (w1.alloc (.cells #[.bool b1, .int .u32 (nv z1), .bool b2, .int .u32 (nv z2), .bool b3, .int .u32 (nv z3)] 36)).heap.size := by simp
  have ne : w1.heap.size ≠ pb := by have := hb1.size; omega
  clear hb1 hp h hG2 n1 n2
  generalize w1.alloc (.cells #[.bool b1, .int .u32 (nv z1), .bool b2, .int .u32 (nv z2), .bool b3, .int .u32 (nv z3)] 36) = wA at *
  generalize w1.heap.size = xb at *
  go_cut [42] from 21 to 41 (fun sx wx => sx = .bool ((b1 && x1) && s.w.ha && x4) ∧ wx = wA)
  case first =>
    have t1 := fun i => blk_cell hp1 i
    have t2 := fun i => blk_cell nx i
    simp only [Pol.rcells] at t1
    obtain ⟨hw, hhw⟩ : ∃ b, s.w.ha = b := ⟨_, rfl⟩
    cases b1 <;> cases x1 <;> cases hw <;> cases x4 <;> (go_wp2; go_meet; exact ⟨by simp [hhw], rfl⟩)
  case rest =>
    obtain ⟨rfl, hwx⟩ := hcut
    obtain rfl := hwx.symm
    generalize ((b1 && x1) && s.w.ha && x4) = P1 at *
    go_upto_if 42 with fail
    go_cut [] from 43 to 48 (fun wx => But pb w wx ∧ IsRef wx pb { s with w := q } ∧ wx.heap[xb]? = some (.cells #[.bool b1, .int .u32 (nv z1), .bool b2, .int .u32 (nv z2), .bool b3, .int .u32 (nv z3)] 36 (0, 0)))
    case first =>
      have t1 := fun i => blk_cell hp1 i
      have t2 := fun i => blk_cell nx i
      have t3 := fun i => blk_frozen hp1 i
      simp only [Pol.rcells] at t1
      cases P1 with
      | false =>
        have hv := Lib.hid (k1.out.2 rfl)
        go_wp2
        go_meet
        exact ⟨B1, by rw [hv.out]; exact hp1, nx⟩
      | true =>
        have hv := Lib.hid (k1.out.1 rfl)
        go_wp2
        go_meet
        exact ⟨B1.set 7 _, by rw [hv.out]; exact blk_set hp1 7 _, (Below.heap_setCell _ ⟨pb, 7, none⟩ _ _ ne).trans nx⟩
    case rest =>
      obtain ⟨B2, hp2, nx1⟩ := hcut
      clear B1 hp1 nx k1
      obtain ⟨wD1, hwd⟩ : ∃ W, W = wc := ⟨_, rfl⟩
      obtain rfl := hwd
      go_upto_region 6 with fail
      go_cut [62] from 49 to 61 (fun sx wx => sx = .bool ((b2 && x2) && q.h1) ∧ wx = wD1)
      case first =>
        have t1 := fun i => blk_cell hp2 i
        have t2 := fun i => blk_cell nx1 i
        simp only [Pol.rcells] at t1
        obtain ⟨hw, hhw⟩ : ∃ b, q.h1 = b := ⟨_, rfl⟩
        cases b2 <;> cases x2 <;> cases hw <;> (go_wp2; go_meet; exact ⟨by simp [hhw], rfl⟩)
      case rest =>
        obtain ⟨rfl, hwx⟩ := hcut
        obtain rfl := hwx.symm
        generalize ((b2 && x2) && q.h1) = P2 at *
        go_upto_if 62 with fail
        go_cut [] from 63 to 68 (fun wx => But pb w wx ∧ IsRef wx pb { s with w := r } ∧ wx.heap[xb]? = some (.cells #[.bool b1, .int .u32 (nv z1), .bool b2, .int .u32 (nv z2), .bool b3, .int .u32 (nv z3)] 36 (0, 0)))
        case first =>
          have t1 := fun i => blk_cell hp2 i
          have t2 := fun i => blk_cell nx1 i
          have t3 := fun i => blk_frozen hp2 i
          simp only [Pol.rcells] at t1
          cases P2 with
          | false =>
            have hv := Lib.hid (k2.out.2 rfl)
            go_wp2
            go_meet
            exact ⟨B2, by rw [hv.out]; exact hp2, nx1⟩
          | true =>
            have hv := Lib.hid (k2.out.1 rfl)
            go_wp2
            go_meet
            exact ⟨B2.set 9 _, by rw [hv.out]; exact blk_set hp2 9 _, (Below.heap_setCell _ ⟨pb, 9, none⟩ _ _ ne).trans nx1⟩
        case rest =>
          obtain ⟨B3, hp3, nx2⟩ := hcut
          clear B2 hp2 nx1 k2
          obtain ⟨wD2, hwd⟩ : ∃ W, W = wc := ⟨_, rfl⟩
          obtain rfl := hwd
          go_upto_region 8 with fail
          go_cut [82] from 69 to 81 (fun sx wx => sx = .bool ((b3 && x3) && r.h2) ∧ wx = wD2)
          case first =>
            have t1 := fun i => blk_cell hp3 i
            have t2 := fun i => blk_cell nx2 i
            simp only [Pol.rcells] at t1
            obtain ⟨hw, hhw⟩ : ∃ b, r.h2 = b := ⟨_, rfl⟩
            cases b3 <;> cases x3 <;> cases hw <;> (go_wp2; go_meet; exact ⟨by simp [hhw], rfl⟩)
          case rest =>
            obtain ⟨rfl, hwx⟩ := hcut
            obtain rfl := hwx.symm
            generalize ((b3 && x3) && r.h2) = P3 at *
            go_upto_if 82 with fail
            go_cut [] from 83 to 88 (fun wx => But pb w wx ∧ IsRef wx pb { s with w := u } ∧ wx.heap[xb]? = some (.cells #[.bool b1, .int .u32 (nv z1), .bool b2, .int .u32 (nv z2), .bool b3, .int .u32 (nv z3)] 36 (0, 0)))
            case first =>
              have t1 := fun i => blk_cell hp3 i
              have t2 := fun i => blk_cell nx2 i
              have t3 := fun i => blk_frozen hp3 i
              simp only [Pol.rcells] at t1
              cases P3 with
              | false =>
                have hv := Lib.hid (k3.out.2 rfl)
                go_wp2
                go_meet
                exact ⟨B3, by rw [hv.out]; exact hp3, nx2⟩
              | true =>
                have hv := Lib.hid (k3.out.1 rfl)
                go_wp2
                go_meet
                exact ⟨B3.set 11 _, by rw [hv.out]; exact blk_set hp3 11 _, (Below.heap_setCell _ ⟨pb, 11, none⟩ _ _ ne).trans nx2⟩
            case rest =>
              obtain ⟨B4, hp4, nx3⟩ := hcut
              go_wp2
              go_ret
              exact ⟨rfl, B4, hp4⟩
theorem rnaked_calls (s : Pol) (pb : Nat) (l : List Opt) (a : Option Addr) (c : Nat) (w : World) (h : Row w a c l) (hs : l.length < 1000000) (hp : IsRef w pb s) :
    Calls Tryd.prog 40 #[.pointer (some ⟨pb, 0, none⟩), .slice a l.length c] w fun e w' => e = .returned (.bool (rnakP s l).1) ∧ But pb w w' ∧ IsRef w' pb (rnakP s l).2 := by
  by_cases hb : l = [] ∨ (getI l).2.2 ≠ 0
  · rw [show rnakP s l = (false, s) from if_pos hb]
    exact (rnaked_bad s pb l a c w h hs hp hb).mono fun e w' ⟨he, hbl⟩ => ⟨he, But.of_below hbl, hp.below hbl⟩
  · rw [show rnakP s l = (true, { s with w := rtook s.c s.w (getI l).1 }) from if_neg hb]
    exact rnaked_good s pb l a c w h hs hp (fun e => hb (.inl e)) (Classical.not_not.1 fun e => hb (.inr e))
end Go.Proofs.YtlcckkdkcbelhaaDoor
namespace Go.Proofs.YtlcckkdkcbelhaaDoor
open Go.RowKit Go.Proofs.YtlcckkdkcbelhaaDoorW.PrintWords Go.Proofs.YtlcckkdkcbelhaaDoorW.PrintLast

theorem sub_cons (o y : Opt) (l m : List Opt) : subB (o :: l) (y :: m) = if o = y then subB l m else subB (o :: l) m := by
  rw [subB, idxN]
  by_cases e : o = y
  · rw [if_pos e, if_pos e]; rfl
  · rw [if_neg e, if_neg e, subB]
    cases idxN m o with
    | none => rfl
    | some k => simp
theorem sub_none (o : Opt) (l : List Opt) : subB (o :: l) [] = false := rfl
theorem rpol_notU8 (s : Pol) : s.rcells.all notU8 = true := by simp [Pol.rcells, notU8]
theorem rpol_cell {w : World} {b : Nat} {s : Pol} (h : IsRef w b s) {x : Addr} {v : Value} (hx : w.cell? x = some v) (hv : notU8 v = false) : x.block ≠ b := fun e => by
  have hs := World.cell?_spot hx
  obtain ⟨xb, xo, xs⟩ := x
  simp only at e hs
  subst e hs
  rw [blk_cell h] at hx
  have := Array.all_eq_true_iff_forall_mem.1 (rpol_notU8 s) v (Array.mem_of_getElem? hx)
  rw [hv] at this
  cases this
theorem Row.butR {w W : World} {b : Nat} {s : Pol} {a : Option Addr} {c : Nat} {l : List Opt} (h : Row w a c l) (hb : But b w W) (hp : IsRef w b s) : Row W a c l := by
  refine ⟨h.1, ?_⟩
  rcases h.2 with h0 | ⟨x, e, hc⟩
  · exact .inl h0
  · refine .inr ⟨x, e, fun j u hj => ?_⟩
    cases l with
    | nil => simp [optCells] at hj
    | cons o l =>
      have h1 := hc 0 _ rfl
      have hne : x.block ≠ b := by
        rw [show x.add 0 = x from if_pos rfl] at h1
        exact rpol_cell hp h1 rfl
      refine hb.cell (hc j u hj) ?_
      unfold Addr.add
      split <;> exact hne
theorem K.butR {w W : World} {b : Nat} {s : Pol} (h : K w) (hb : But b w W) (hp : IsRef w b s) : K W := by
  have n0 : (1 : Nat) ≠ b := rpol_cell hp h.c0 rfl
  have g : ∀ {i : Nat} {v : Value}, w.cell? ⟨1, i, none⟩ = some v → W.cell? ⟨1, i, none⟩ = some v := fun hx => hb.cell hx n0
  obtain ⟨bm, o, m0, m1, m2⟩ := h.map
  have n1 : (0 : Nat) ≠ b := rpol_cell hp m0 rfl
  have n2 : bm ≠ b := fun e => by
    subst e
    have hp' : w.heap[bm]? = some (.cells s.rcells 61 (0, 0)) := hp
    have := m2 w m1 3 ⟨by decide, by decide⟩
    exact look_map hp' this
  exact ⟨g h.c0, g h.c1, g h.c2, g h.c3, g h.c4, g h.c5, bm, o, hb.cell m0 n1, (hb.block bm ((Array.getElem?_eq_some_iff.1 m1).1) n2).trans m1, m2⟩
/-- What the document's Rejected answers, and leaves. -/
def rrejP (s : Pol) (l : List Opt) : Bool × Pol := if subB l (putL s.w 3) = false ∨ l = [] then (false, s) else (true, { s with w := clrs l s.w })
attribute [local go_sem high] eqA57
set_option maxHeartbeats 16000000 in
set_option maxRecDepth 100000 in
theorem rrej_calls (s : Pol) (pb : Nat) (l : List Opt) (a : Option Addr) (c : Nat) (w : World) (h : Row w a c l) (hs : l.length < 1000000) (hp : IsRef w pb s) :
    Calls Tryd.prog 41 #[.pointer (some ⟨pb, 0, none⟩), .slice a l.length c] w fun e w' => e = .returned (.bool (rrejP s l).1) ∧ But pb w w' ∧ IsRef w' pb (rrejP s l).2 := by
  have hu57 := Tryd.underlying57
  have c0 := Lib.hid h.1
  have hR := fun W h1 => rreq_calls s pb W h1
  have hql := putL_le s.w 3 (Nat.le_refl _)
  have hrj : Hid (rrejP s l = if subB l (putL s.w 3) = false ∨ l = [] then (false, s) else (true, { s with w := clrs l s.w })) := Lib.hid rfl
  generalize rrejP s l = R at *
  generalize putL s.w 3 = q at *
  go_enter Tryd.func41, Tryd.ntmps41
  go_upto_region 2 with (first
    | (go_at_call 28; with_reducible refine (hR _ hp).mono ?_; rintro e w1 ⟨v, rfl, ho, hb1⟩
       obtain ⟨xa, xc, rfl, r1⟩ := row_own ho))
  have h1 := h.below hb1
  have hp1 := hp.below hb1
  have d0 := Lib.hid r1.1
  clear ho hR
  go_wp2
  go_loopg [6, 7] l.length (fun qn k i wr => ∃ (m j : Nat), j ≤ l.length ∧ m ≤ q.length ∧ qn = l.length - j ∧ k = .int .i64 (m : Int) ∧ i = .int .i64 (j : Int) ∧ Hid (subB l q = subB (l.drop j) (q.drop m)) ∧ Below w1.heap.size w1 wr)
  case atStart => exact ⟨0, 0, by omega, by omega, rfl, rfl, rfl, Lib.hid rfl, Below.refl _ _⟩
  case round =>
    obtain ⟨m, j, hj, hm, hq, rfl, rfl, heq, hB⟩ := hrel
    have A := Lib.hid hq; clear hq
    by_cases hlt : j < l.length
    · have q1 : decide ((j : Int) < (l.length : Int)) = true := by simp; omega
      have hdr : Hid (l.drop j = l[j] :: l.drop (j + 1)) := Lib.hid (List.drop_eq_getElem_cons hlt)
      have hot : ∀ W, Below w1.heap.size w1 W → ∃ x, a = some x ∧ W.cell? (x.add (j * 2)) = some (.int .u8 (tv l[j].t)) ∧ W.cell? ⟨(x.add (j * 2)).block, (x.add (j * 2)).off + 1, none⟩ = some (.string l[j].d) := fun W hW => (h1.below hW).at_ j hlt
      generalize l[j] = o at *
      have heq2 : Hid (subB l q = subB (o :: l.drop (j + 1)) (q.drop m)) := Lib.hid (by rw [heq.out, hdr.out])
      clear heq
      obtain ⟨ya, rfl, _, _⟩ := hot _ hB
      have hot2 : ∀ W, Below w1.heap.size w1 W → W.cell? (ya.add (j * 2)) = some (.int .u8 (tv o.t)) ∧ W.cell? ⟨(ya.add (j * 2)).block, (ya.add (j * 2)).off + 1, none⟩ = some (.string o.d) := fun W hW => by
        obtain ⟨y, e, g1, g2⟩ := hot W hW
        obtain rfl := Option.some.inj e
        exact ⟨g1, g2⟩
      clear hot
      go_wp2
      go_loopg [6] (q.length - m) (fun q2 k2 wr => ∃ m : Nat, m ≤ q.length ∧ q2 = q.length - m ∧ k2 = .int .i64 (m : Int) ∧ Hid (subB l q = subB (o :: l.drop (j + 1)) (q.drop m)) ∧ Below w1.heap.size w1 wr)
      case atStart => exact ⟨m, hm, rfl, rfl, heq2, hB⟩
      case round =>
        clear hB heq2 hm
        obtain ⟨m, hm, hq2, rfl, heq, hB⟩ := hrel
        have A2 := Lib.hid hq2; clear hq2
        obtain ⟨y0, y1⟩ := hot2 _ hB
        by_cases hlm : m < q.length
        · have q2 : decide ((m : Int) < (q.length : Int)) = true := by simp; omega
          obtain ⟨za, rfl, z0, z1⟩ := (r1.below hB).at_ m hlm
          have hdq : Hid (q.drop m = q[m] :: q.drop (m + 1)) := Lib.hid (List.drop_eq_getElem_cons hlm)
          have q3 : ((m : Int) == (q.length : Int)) = false := by simp; omega
          have q3' : (m == q.length) = false := by simp; omega
          generalize q[m] = p at *
          have hdf := same_bool p o
          by_cases e : o = p
          · rw [decide_eq_true e.symm] at hdf
            have hn := Lib.hid (show subB l q = subB (l.drop (j + 1)) (q.drop (m + 1)) by rw [heq.out, hdq.out, sub_cons, if_pos e])
            have E := Lib.hid e
            clear e
            go_wp2
            go_quiet (fail)
            go_wp2
            go_roundg (l.length - (j + 1))
            case measure => have := A.out; omega
            case rel => exact ⟨m + 1, j + 1, by omega, by omega, rfl, by go_num, by go_num, hn, below_drewN hB _⟩
          · rw [decide_eq_false (fun x => e x.symm)] at hdf
            have hn := Lib.hid (show subB l q = subB (o :: l.drop (j + 1)) (q.drop (m + 1)) by rw [heq.out, hdq.out, sub_cons, if_neg e])
            have E := Lib.hid e
            clear e
            go_wp2
            go_quiet (fail)
            go_wp2
            go_roundg (q.length - (m + 1))
            case measure => have := A2.out; omega
            case rel => exact ⟨m + 1, by omega, rfl, by go_num, hn, below_drewN hB _⟩
        · obtain rfl : m = q.length := by omega
          have q2 : decide ((q.length : Int) < (q.length : Int)) = false := by simp
          have q3 : ((q.length : Int) == (q.length : Int)) = true := by simp
          have hRR := Lib.hid (show R = (false, s) by rw [hrj.out, if_pos (.inl (by rw [heq.out, List.drop_length]; rfl))])
          go_wp2
          go_quiet (fail)
          go_wp2
          go_ret
          rw [hRR.out]
          exact ⟨rfl, But.of_below (hb1.trans ((below_drewN hB _).mono hb1.size)), hp1.below (below_drewN hB _)⟩
    · obtain rfl : j = l.length := by omega
      have q1 : decide ((l.length : Int) < (l.length : Int)) = false := by simp
      have hsub : subB l q = true := by rw [heq.out, List.drop_length]; rfl
      by_cases h0 : l = []
      · have hRR := Lib.hid (show R = (false, s) by rw [hrj.out, if_pos (.inr h0)])
        have n1 : ((l.length : Int) == 0) = true := by rw [h0]; rfl
        have n2 : (l.length == 0) = true := by rw [h0]; rfl
        have n3 : l.length = 0 := by rw [h0]; rfl
        clear hsub h0
        replace n3 := Lib.hid n3
        go_wp2
        go_ret
        rw [hRR.out]
        exact ⟨rfl, But.of_below (hb1.trans (hB.mono hb1.size)), hp1.below hB⟩
      · have hRR := Lib.hid (show R = (true, { s with w := clrs l s.w }) by rw [hrj.out, if_neg (by rintro (e | e); rw [hsub] at e; cases e; exact h0 e)])
        have hl0 : 0 < l.length := List.length_pos_iff.2 h0
        have n1 : ((l.length : Int) == 0) = false := by simp; omega
        have n2 : (l.length == 0) = false := by simp; omega
        have Bw : But pb w wr := But.of_below (hb1.trans (hB.mono hb1.size))
        have hpw := hp1.below hB
        clear hsub h0 heq hB hp1
        go_wp2
        go_loopg [8] l.length (fun qn i wr => ∃ n : Nat, n ≤ l.length ∧ qn = l.length - n ∧ i = .int .i64 (n : Int) ∧ But pb w wr ∧ IsRef wr pb { s with w := clrs (l.take n) s.w })
        case atStart => exact ⟨0, by omega, rfl, rfl, Bw, hpw⟩
        case round =>
          clear Bw hpw n1 n2
          obtain ⟨n, hn, hq, rfl, hB, hpr⟩ := hrel
          have A := Lib.hid hq; clear hq
          by_cases hln : n < l.length
          · have q4 : decide ((n : Int) < (l.length : Int)) = true := by simp; omega
            obtain ⟨ya, rfl, y0, y1⟩ := (h.butR hB hp).at_ n hln
            have hsn : Hid (clrs (l.take (n + 1)) s.w = (clrs (l.take n) s.w).clr (kof l[n])) := Lib.hid (by rw [List.take_succ_eq_append_getElem hln, clrs_snoc])
            generalize l[n] = o at *
            by_cases e3 : o.t = 3
            · have hko : kof o = 0 := by unfold kof; rw [if_pos e3]
              have b3 : (tv o.t == 3) = true := by rw [show (3 : Int) = tv 3 from rfl, ti_bool]; exact decide_eq_true e3
              have b129 : (tv o.t == 129) = false := by rw [show (129 : Int) = tv 129 from rfl, ti_bool]; rw [e3]; rfl
              have hcl : Hid (Icp.clr (clrs (l.take n) s.w) 0 = clrs (l.take (n + 1)) s.w) := Lib.hid (by rw [hsn.out, hko])
              clear hko e3
              have t1 := fun i => blk_cell hpr i
              have t2 := fun i => blk_frozen hpr i
              have t3 := fun u i => blk_cell (blk_set hpr 6 u) i
              have t4 := fun u i => blk_frozen (blk_set hpr 6 u) i
              simp only [Pol.rcells] at t1 t3
              go_wp2
              go_roundg (l.length - (n + 1))
              case measure => have := A.out; omega
              case rel => exact ⟨n + 1, by omega, rfl, by go_num, (hB.set 6 _).set 7 _, by rw [← hcl.out]; exact blk_set (blk_set hpr 6 (.bool false)) 7 (.int .u32 0)⟩
            · by_cases e129 : o.t = 129
              · have hko : kof o = 1 := by unfold kof; rw [if_neg e3, if_pos e129]
                have b3 : (tv o.t == 3) = false := by rw [show (3 : Int) = tv 3 from rfl, ti_bool]; exact decide_eq_false e3
                have b129 : (tv o.t == 129) = true := by rw [show (129 : Int) = tv 129 from rfl, ti_bool]; exact decide_eq_true e129
                have hcl : Hid (Icp.clr (clrs (l.take n) s.w) 1 = clrs (l.take (n + 1)) s.w) := Lib.hid (by rw [hsn.out, hko])
                clear hko e3 e129
                have t1 := fun i => blk_cell hpr i
                have t2 := fun i => blk_frozen hpr i
                have t3 := fun u i => blk_cell (blk_set hpr 8 u) i
                have t4 := fun u i => blk_frozen (blk_set hpr 8 u) i
                simp only [Pol.rcells] at t1 t3
                go_wp2
                go_roundg (l.length - (n + 1))
                case measure => have := A.out; omega
                case rel => exact ⟨n + 1, by omega, rfl, by go_num, (hB.set 8 _).set 9 _, by rw [← hcl.out]; exact blk_set (blk_set hpr 8 (.bool false)) 9 (.int .u32 0)⟩
              · have hko : kof o = 2 := by unfold kof; rw [if_neg e3, if_neg e129]
                have b3 : (tv o.t == 3) = false := by rw [show (3 : Int) = tv 3 from rfl, ti_bool]; exact decide_eq_false e3
                have b129 : (tv o.t == 129) = false := by rw [show (129 : Int) = tv 129 from rfl, ti_bool]; exact decide_eq_false e129
                have hcl : Hid (Icp.clr (clrs (l.take n) s.w) 2 = clrs (l.take (n + 1)) s.w) := Lib.hid (by rw [hsn.out, hko])
                clear hko e3 e129
                have t1 := fun i => blk_cell hpr i
                have t2 := fun i => blk_frozen hpr i
                have t3 := fun u i => blk_cell (blk_set hpr 10 u) i
                have t4 := fun u i => blk_frozen (blk_set hpr 10 u) i
                simp only [Pol.rcells] at t1 t3
                go_wp2
                go_roundg (l.length - (n + 1))
                case measure => have := A.out; omega
                case rel => exact ⟨n + 1, by omega, rfl, by go_num, (hB.set 10 _).set 11 _, by rw [← hcl.out]; exact blk_set (blk_set hpr 10 (.bool false)) 11 (.int .u32 0)⟩
          · obtain rfl : n = l.length := by omega
            have q4 : decide ((l.length : Int) < (l.length : Int)) = false := by simp
            rw [List.take_length] at hpr
            go_wp2
            go_ret
            rw [hRR.out]
            exact ⟨rfl, hB, hpr⟩
end Go.Proofs.YtlcckkdkcbelhaaDoor
