/-
  Layer 15 (ipcppol): Rejected, walked.
-/
import Derived.Test.YtlcckkdkcbelhaaDoorWi
import Derived.Test.YtlcckkdkcbelhaaDoorLf
set_option linter.unusedVariables false
set_option linter.unusedSimpArgs false
namespace Go.Proofs.YtlcckkdkcbelhaaDoor
open Go.RowKit Go.Proofs.YtlcckkdkcbelhaaDoorW.PrintWords Go.Proofs.YtlcckkdkcbelhaaDoorW.PrintLast

theorem idx_mem : ∀ {m : List Opt} {o : Opt} {k : Nat}, idxN m o = some k → o ∈ m
  | x :: m, o, k, h => by
    rw [idxN] at h
    split at h
    · rename_i e; subst e; exact List.mem_cons_self ..
    · cases e : idxN m o with
      | none => rw [e] at h; cases h
      | some j => exact List.mem_cons_of_mem _ (idx_mem e)
theorem sub_mem : ∀ {l m : List Opt}, subB l m = true → ∀ o ∈ l, o ∈ m
  | [], m, _, o, ho => by simp at ho
  | x :: l, m, h, o, ho => by
    rw [subB] at h
    cases e : idxN m x with
    | none => rw [e] at h; cases h
    | some k =>
      rw [e] at h
      rcases List.mem_cons.1 ho with rfl | ho
      · exact idx_mem e
      · exact List.mem_of_mem_drop (sub_mem h o ho)
theorem putL_mem {x : Icp} {o : Opt} : ∀ {k : Nat}, o ∈ putL x k → ∃ j, j < k ∧ o = ⟨tk j, oct (x.val j)⟩ ∧ x.has j = true
  | 0, h => by simp [putL] at h
  | k + 1, h => by
    rw [putL] at h
    rcases List.mem_append.1 h with h | h
    · obtain ⟨j, hj, r⟩ := putL_mem h
      exact ⟨j, by omega, r⟩
    · split at h
      · rename_i e
        exact ⟨k, by omega, List.mem_singleton.1 h, e⟩
      · simp at h
theorem putI_mem {x : Icp} {o : Opt} (h : o ∈ (putI x).1) : ∃ j, j < 3 ∧ o = ⟨tk j, oct (x.val j)⟩ ∧ x.has j = true := by
  unfold putI at h
  split at h
  · exact putL_mem h
  · simp at h
theorem puti_len (x : Icp) : (putI x).1.length ≤ 3 := by
  unfold putI
  split
  · exact putL_len x 3
  · exact Nat.zero_le _
theorem kof_of {o : Opt} {k : Nat} (hk : k < 3) (h : o.t = tk k) : kof o = k := by
  unfold kof
  rw [h]
  rcases (show k = 0 ∨ k = 1 ∨ k = 2 by omega) with rfl | rfl | rfl <;> rfl
def clrs (l : List Opt) (x : Icp) : Icp := l.foldl (fun x o => x.clr (kof o)) x
/-- What Rejected answers, and leaves. -/
def rejd (s : Pol) (l : List Opt) : Bool × Pol := if l = [] ∨ subB l (putI s.w).1 = false then (false, s) else (true, { s with w := clrs l s.w })
theorem clrs_snoc (l : List Opt) (o : Opt) (x : Icp) : clrs (l ++ [o]) x = (clrs l x).clr (kof o) := by unfold clrs; rw [List.foldl_append]; rfl
theorem en80 : En 80 := en_of Tryd.func80 (by kernel_rfl) rfl
theorem en84 : En 84 := en_of Tryd.func84 (by kernel_rfl) rfl
theorem en88 : En 88 := en_of Tryd.func88 (by kernel_rfl) rfl
theorem kind_drop (kk : Nat) (h : kk < 3) : ∃ f1 f2 f3 f4 : FuncId, kindV (tv (tk kk)) = .tuple #[.agg #[.func (.func f1) #[] #[], .func (.func f2) #[] #[], .func (.func f3) #[] #[], .func (.func f4) #[] #[]], .bool true] ∧ En f4 ∧
    ∀ (s : Pol) (pb : Nat) (w : World), IsPol w pb s → Calls Tryd.prog f4 #[.pointer (some ⟨pb, 0, none⟩)] w fun e w' => e = .returned (.tuple #[]) ∧ But pb w w' ∧ IsPol w' pb { s with w := s.w.clr kk } := by
  rcases (show kk = 0 ∨ kk = 1 ∨ kk = 2 by omega) with rfl | rfl | rfl
  · exact ⟨77, 78, 79, 80, rfl, en80, forget0_calls⟩
  · exact ⟨81, 82, 83, 84, rfl, en84, forget1_calls⟩
  · exact ⟨85, 86, 87, 88, rfl, en88, forget2_calls⟩
theorem field90_3 (W : World) (a1 a2 a3 : Value) (f : FuncId) : (Instr.field 90 (.agg #[a1, a2, a3, .func (.func f) #[] #[]]) 3).run Tryd.prog W = .ok (.func (.func f) #[] #[]) W := by kernel_rfl
attribute [local go_sem high] field90_3
set_option maxHeartbeats 16000000 in
set_option maxRecDepth 100000 in
theorem rejected_calls (s : Pol) (pb : Nat) (l : List Opt) (a : Option Addr) (c : Nat) (w : World) (h : Row w a c l) (hs : l.length < 1000000) (hK : K w) (hp : IsPol w pb s) :
    Calls Tryd.prog 18 #[.pointer (some ⟨pb, 0, none⟩), .slice a l.length c] w fun e w' => e = .returned (.bool (rejd s l).1) ∧ But pb w w' ∧ IsPol w' pb (rejd s l).2 := by
  by_cases h0 : l = []
  · subst h0
    rw [show rejd s [] = (false, s) from rfl]
    go_enter Tryd.func18, Tryd.ntmps18
    go_wp2
    go_ret
    exact ⟨rfl, But.refl _ _, hp⟩
  have hR := fun W h1 h2 => request_calls s pb W h1 h2
  have hl0 : 0 < l.length := List.length_pos_iff.2 h0
  have n1 : ((l.length : Int) == 0) = false := by simp; omega
  have n2 : (l.length == 0) = false := by simp; omega
  cases hsb : subB l (putI s.w).1 with
  | false =>
    have hrj : rejd s l = (false, s) := by unfold rejd; rw [if_pos (.inr hsb)]
    rw [hrj]
    have hqs : (putI s.w).1.length < 1000000 := by have := puti_len s.w; omega
    have hW := fun (x : Option Addr) (d : Nat) W h1 h2 => within_calls l (putI s.w).1 a x c d W h1 h2 hs hqs
    simp only [hsb] at hW
    generalize (putI s.w).1 = q at *
    go_enter Tryd.func18, Tryd.ntmps18
    go_wp2_with (first
      | (go_at_call 15; with_reducible refine (hR _ hK hp).mono ?_; rintro e w1 ⟨v, rfl, ho, hb1⟩
         obtain ⟨xa, xc, rfl, r1⟩ := row_own ho)
      | (go_at_call 36; with_reducible refine (hW _ _ _ (h.below hb1) r1).mono ?_; rintro e w2 ⟨rfl, hb2⟩))
    go_ret
    exact ⟨rfl, But.of_below (hb1.trans (hb2.mono hb1.size)), (hp.below hb1).below hb2⟩
  | true =>
    have hrj : Hid (rejd s l = (true, { s with w := clrs l s.w })) := Lib.hid (by unfold rejd; rw [if_neg (by rintro (e | e); exact h0 e; rw [hsb] at e; cases e)])
    have hmem : ∀ o ∈ l, ∃ k, k < 3 ∧ o.t = tk k := fun o ho => by
      obtain ⟨j, hj, e, _⟩ := putI_mem (sub_mem hsb o ho)
      exact ⟨j, hj, by rw [e]⟩
    have hqs : (putI s.w).1.length < 1000000 := by have := puti_len s.w; omega
    have hW := fun (x : Option Addr) (d : Nat) W h1 h2 => within_calls l (putI s.w).1 a x c d W h1 h2 hs hqs
    simp only [hsb] at hW
    clear hsb
    replace hmem := Lib.hid hmem
    generalize (putI s.w).1 = q at *
    have c0 := Lib.hid h.1
    have hu57 := Tryd.underlying57
    go_enter Tryd.func18, Tryd.ntmps18
    go_wp2_with (first
      | (go_at_call 15; with_reducible refine (hR _ hK hp).mono ?_; rintro e w1 ⟨v, rfl, ho, hb1⟩
         obtain ⟨xa, xc, rfl, r1⟩ := row_own ho)
      | (go_at_call 36; with_reducible refine (hW _ _ _ (h.below hb1) r1).mono ?_; rintro e w2 ⟨rfl, hb2⟩))
    have B2 : But pb w w2 := But.of_below (hb1.trans (hb2.mono hb1.size))
    have hp2 := (hp.below hb1).below hb2
    clear hb1 hb2 r1 hR hW n1 n2
    go_loopg [23] l.length (fun q i wr => ∃ k : Nat, k ≤ l.length ∧ q = l.length - k ∧ i = .int .i64 (k : Int) ∧ But pb w wr ∧ IsPol wr pb { s with w := clrs (l.take k) s.w })
    case atStart => exact ⟨0, by omega, rfl, rfl, B2, hp2⟩
    case round =>
      obtain ⟨k, hk, hq, rfl, hB, hpr⟩ := hrel
      have A := Lib.hid hq; clear hq
      clear B2 hp2
      by_cases hlt : k < l.length
      · have h1 : decide ((k : Int) < (l.length : Int)) = true := by simp; omega
        have hr := h.but hB hp
        have hKr := hK.but hB hp
        obtain ⟨x, rfl, x0, x1⟩ := hr.at_ k hlt
        obtain ⟨kk, hkk, ht⟩ := hmem.out l[k] (List.getElem_mem _)
        have hsn : Hid (clrs (l.take (k + 1)) s.w = (clrs (l.take k) s.w).clr (kof l[k])) := Lib.hid (by rw [List.take_succ_eq_append_getElem hlt, clrs_snoc])
        generalize l[k] = o at *
        have hko := Lib.hid (kof_of hkk ht)
        obtain ⟨f1, f2, f3, f4, hkv, en4, hdrop⟩ := kind_drop kk hkk
        unfold En at en4
        obtain ⟨bm, mo, m0, m1, mlk⟩ := hKr.map
        have mlk1 : ∀ W' : World, W'.heap[bm]? = some mo → (Instr.lookup 91 (.map (some bm)) (.int .u8 (tv o.t)) false).run Tryd.prog W' = .ok (.agg #[.func (.func f1) #[] #[], .func (.func f2) #[] #[], .func (.func f3) #[] #[], .func (.func f4) #[] #[]]) W' := fun W' hW' => by
          have := mlk W' hW' (tv o.t) (tv_range _)
          rw [ht, hkv, ← ht] at this
          exact look_false this
        clear mlk hkv
        have hdr := hdrop { s with w := clrs (l.take k) s.w } pb
        replace ht := Lib.hid ht
        have hba := (Below.refl wr.heap.size wr).alloc (Nat.le_refl _) (.cells #[.int .u8 (tv o.t), .string o.d] 57)
        have nb := alloc_new wr _ (.cells #[.int .u8 (tv o.t), .string o.d] 57) rfl
        have nl : wr.heap.size < (wr.alloc (.cells #[.int .u8 (tv o.t), .string o.d] 57)).heap.size := by simp
        have hBa : But pb w (wr.alloc (.cells #[.int .u8 (tv o.t), .string o.d] 57)) := hB.trans (But.of_below hba)
        have hpa := hpr.below hba
        have m0a := (hba.cell (cell_lt m0)).trans m0
        have m1a := (hba.block _ ((Array.getElem?_eq_some_iff.1 m1).1)).trans m1
        go_upto_region 6 with fail
        clear hba hr hKr x0 x1 m0 m1 hB hpr
        generalize wr.alloc (.cells #[.int .u8 (tv o.t), .string o.d] 57) = wA at *
        generalize wr.heap.size = ob at *
        refine start_ (n := 10) (S := fun W' => Below wA.heap.size wA W') (ds := [9]) (#[false, false, false, false, false, false, false, false, false, false]) (by kernel_rfl) rfl rfl (below_drew (Below.refl _ _)) (fun hS => ?_)
        generalize wA.drew = wB at *
        refine take_ (i := 0) (N := some 27) (v := ?_) (a' := ?_) #[true, false, false, false, false, false, false, false, false, false] rfl rfl (by kernel_rfl) (fun _ _ _ h => h) (.inl ⟨by rfl, fun w' hS' => ?_⟩) hS ?_ ?_
        rotate_left
        · have t0 := (hS'.cell (cell_lt m0a)).trans m0a
          have t1 := mlk1 w' ((hS'.block _ ((Array.getElem?_eq_some_iff.1 m1a).1)).trans m1a)
          have t2 := fun i => blk_cell ((hS'.block _ nl).trans nb) i
          go_simp
          with_reducible rfl
        rotate_left
        · simp only [Act.put, List.setIfInBounds_toArray, List.set_cons_zero, List.set_cons_succ]
          rfl
        refine take_ (i := 1) (N := some 28) (v := ?_) (a' := ?_) #[true, true, false, false, false, false, false, false, false, false] rfl rfl (by kernel_rfl) (fun _ _ _ h => h) (.inl ⟨by rfl, fun w' hS' => ?_⟩) hS ?_ ?_
        rotate_left
        · have t0 := (hS'.cell (cell_lt m0a)).trans m0a
          have t1 := mlk1 w' ((hS'.block _ ((Array.getElem?_eq_some_iff.1 m1a).1)).trans m1a)
          have t2 := fun i => blk_cell ((hS'.block _ nl).trans nb) i
          go_simp
          with_reducible rfl
        rotate_left
        · simp only [Act.put, List.setIfInBounds_toArray, List.set_cons_zero, List.set_cons_succ]
          rfl
        refine take_ (i := 2) (N := some 29) (v := ?_) (a' := ?_) #[true, true, true, false, false, false, false, false, false, false] rfl rfl (by kernel_rfl) (fun _ _ _ h => h) (.inl ⟨by rfl, fun w' hS' => ?_⟩) hS ?_ ?_
        rotate_left
        · have t0 := (hS'.cell (cell_lt m0a)).trans m0a
          have t1 := mlk1 w' ((hS'.block _ ((Array.getElem?_eq_some_iff.1 m1a).1)).trans m1a)
          have t2 := fun i => blk_cell ((hS'.block _ nl).trans nb) i
          go_simp
          with_reducible rfl
        rotate_left
        · simp only [Act.put, List.setIfInBounds_toArray, List.set_cons_zero, List.set_cons_succ]
          rfl
        refine take_ (i := 3) (N := some 30) (v := ?_) (a' := ?_) #[true, true, true, true, false, false, false, false, false, false] rfl rfl (by kernel_rfl) (fun _ _ _ h => h) (.inl ⟨by rfl, fun w' hS' => ?_⟩) hS ?_ ?_
        rotate_left
        · have t0 := (hS'.cell (cell_lt m0a)).trans m0a
          have t1 := mlk1 w' ((hS'.block _ ((Array.getElem?_eq_some_iff.1 m1a).1)).trans m1a)
          have t2 := fun i => blk_cell ((hS'.block _ nl).trans nb) i
          go_simp
          with_reducible rfl
        rotate_left
        · simp only [Act.put, List.setIfInBounds_toArray, List.set_cons_zero, List.set_cons_succ]
          rfl
        refine take_ (i := 4) (N := some 31) (v := ?_) (a' := ?_) #[true, true, true, true, true, false, false, false, false, false] rfl rfl (by kernel_rfl) (fun _ _ _ h => h) (.inl ⟨by rfl, fun w' hS' => ?_⟩) hS ?_ ?_
        rotate_left
        · have t0 := (hS'.cell (cell_lt m0a)).trans m0a
          have t1 := mlk1 w' ((hS'.block _ ((Array.getElem?_eq_some_iff.1 m1a).1)).trans m1a)
          have t2 := fun i => blk_cell ((hS'.block _ nl).trans nb) i
          go_simp
          with_reducible rfl
        rotate_left
        · simp only [Act.put, List.setIfInBounds_toArray, List.set_cons_zero, List.set_cons_succ]
          rfl
        refine take_ (i := 5) (N := some 32) (v := ?_) (a' := ?_) #[true, true, true, true, true, true, false, false, false, false] rfl rfl (by kernel_rfl) (fun _ _ _ h => h) (.inl ⟨by rfl, fun w' hS' => ?_⟩) hS ?_ ?_
        rotate_left
        · have t0 := (hS'.cell (cell_lt m0a)).trans m0a
          have t1 := mlk1 w' ((hS'.block _ ((Array.getElem?_eq_some_iff.1 m1a).1)).trans m1a)
          have t2 := fun i => blk_cell ((hS'.block _ nl).trans nb) i
          go_simp
          with_reducible rfl
        rotate_left
        · simp only [Act.put, List.setIfInBounds_toArray, List.set_cons_zero, List.set_cons_succ]
          rfl
        refine take_ (i := 6) (N := some 33) (v := ?_) (a' := ?_) #[true, true, true, true, true, true, true, false, false, false] rfl rfl (by kernel_rfl) (fun _ _ _ h => h) (.inl ⟨by rfl, fun w' hS' => ?_⟩) hS ?_ ?_
        rotate_left
        · have t0 := (hS'.cell (cell_lt m0a)).trans m0a
          have t1 := mlk1 w' ((hS'.block _ ((Array.getElem?_eq_some_iff.1 m1a).1)).trans m1a)
          have t2 := fun i => blk_cell ((hS'.block _ nl).trans nb) i
          go_simp
          with_reducible rfl
        rotate_left
        · simp only [Act.put, List.setIfInBounds_toArray, List.set_cons_zero, List.set_cons_succ]
          rfl
        refine take_ (i := 7) (N := some 34) (v := ?_) (a' := ?_) #[true, true, true, true, true, true, true, true, false, false] rfl rfl (by kernel_rfl) (fun _ _ _ h => h) (.inl ⟨by rfl, fun w' hS' => ?_⟩) hS ?_ ?_
        rotate_left
        · have t0 := (hS'.cell (cell_lt m0a)).trans m0a
          have t1 := mlk1 w' ((hS'.block _ ((Array.getElem?_eq_some_iff.1 m1a).1)).trans m1a)
          have t2 := fun i => blk_cell ((hS'.block _ nl).trans nb) i
          go_simp
          with_reducible rfl
        rotate_left
        · simp only [Act.put, List.setIfInBounds_toArray, List.set_cons_zero, List.set_cons_succ]
          rfl
        refine take_ (i := 8) (N := some 35) (v := ?_) (a' := ?_) #[true, true, true, true, true, true, true, true, true, false] rfl rfl (by kernel_rfl) (fun _ _ _ h => h) (.inl ⟨by rfl, fun w' hS' => ?_⟩) hS ?_ ?_
        rotate_left
        · have t0 := (hS'.cell (cell_lt m0a)).trans m0a
          have t1 := mlk1 w' ((hS'.block _ ((Array.getElem?_eq_some_iff.1 m1a).1)).trans m1a)
          have t2 := fun i => blk_cell ((hS'.block _ nl).trans nb) i
          go_simp
          with_reducible rfl
        rotate_left
        · simp only [Act.put, List.setIfInBounds_toArray, List.set_cons_zero, List.set_cons_succ]
          rfl
        refine wpAnyLast_all (rs := [9]) (by kernel_rfl) (by simp) ?_
        intro i hi'
        obtain rfl := List.mem_singleton.1 hi'
        refine wpOp_step rfl (fun K' hK' => ?_)
        go_simp
        with_reducible refine (hdr _ (hpa.below hS)).mono ?_
        rintro e w3 ⟨rfl, hb3, hp3⟩
        have hBf := (hBa.trans (But.of_below hS)).trans hb3
        have hpf := hp3
        refine hK' _ _ ⟨fun h => by simp at h, ?_⟩
        clear hK' K'
        simp only [Act.put, List.setIfInBounds_toArray, List.set_cons_zero, List.set_cons_succ]
        refine wpAnyLast_done (by kernel_rfl) ?_ _
        go_wp2
        go_roundg (l.length - (k + 1))
        case measure => have := A.out; omega
        case rel => exact ⟨k + 1, by omega, rfl, by go_num, hBf, by rw [hsn.out, hko.out]; exact hpf⟩
      · obtain rfl : k = l.length := by omega
        have h1 : decide ((l.length : Int) < (l.length : Int)) = false := by simp
        rw [List.take_length] at hpr
        go_wp2
        go_ret
        rw [hrj.out]
        exact ⟨rfl, hB, hpr⟩
end Go.Proofs.YtlcckkdkcbelhaaDoor
