/-
  Layer 15 (ipcppol): which kind an option is (ipcpopt's find, Good), walked.
-/
import Derived.Test.YtlcckkdkcbelhaaDoorNum
import Derived.Laws.Rows
import Derived.Laws.EntriesVeiled
import Derived.WideLaws
set_option linter.unusedVariables false
set_option linter.unusedSimpArgs false
namespace Go.Proofs.YtlcckkdkcbelhaaDoor
open Go.RowKit Go.Proofs.YtlcckkdkcbelhaaDoorW.PrintWords Go.Proofs.YtlcckkdkcbelhaaDoorW.PrintLast

theorem results_cell1 {fn : Func} {p : Tmp} {tp : TypeId} (h : fn.results = #[.cell p tp]) (tmps : Array Value) (P : Program) (w : World) {a : Addr} {u : Value}
    (ha : tmps.getD p undef = .pointer (some a)) (la : (loadVar tp a).run P w = .ok u w) : (results fn tmps).run P w = .ok u w := by
  simp only [Array.getD_eq_getD_getElem?] at ha
  simp only [results, h]
  simp [Sem.run_bind, Result.andThen, ha, la, asAddr]
theorem results_cell_tt {fn : Func} {p q r : Tmp} {tp : TypeId} (h : fn.results = #[.cell p tp, .tmp q, .tmp r]) (tmps : Array Value) (P : Program) (w : World) {a : Addr} {u x y : Value}
    (ha : tmps.getD p undef = .pointer (some a)) (hx : tmps.getD q undef = x) (hy : tmps.getD r undef = y) (la : (loadVar tp a).run P w = .ok u w) : (results fn tmps).run P w = .ok (.tuple #[u, x, y]) w := by
  subst hx hy
  simp only [Array.getD_eq_getD_getElem?] at ha
  simp only [results, h]
  simp [Sem.run_bind, Result.andThen, ha, la, asAddr]
theorem idx0 (w : World) : (Instr.index 102 (.agg #[.int .u8 3, .func (.func 89) #[] #[], .int .u8 129, .func (.func 90) #[] #[], .int .u8 131, .func (.func 91) #[] #[]]) (.int .i64 0)).run Tryd.prog w = .ok (.agg #[.int .u8 3, .func (.func 89) #[] #[]]) w := by kernel_rfl
theorem idx1 (w : World) : (Instr.index 102 (.agg #[.int .u8 3, .func (.func 89) #[] #[], .int .u8 129, .func (.func 90) #[] #[], .int .u8 131, .func (.func 91) #[] #[]]) (.int .i64 1)).run Tryd.prog w = .ok (.agg #[.int .u8 129, .func (.func 90) #[] #[]]) w := by kernel_rfl
theorem idx2 (w : World) : (Instr.index 102 (.agg #[.int .u8 3, .func (.func 89) #[] #[], .int .u8 129, .func (.func 90) #[] #[], .int .u8 131, .func (.func 91) #[] #[]]) (.int .i64 2)).run Tryd.prog w = .ok (.agg #[.int .u8 131, .func (.func 91) #[] #[]]) w := by kernel_rfl
attribute [local go_sem] idx0 idx1 idx2 fv
/-- The types of the three kinds. -/
def tk (k : Nat) : UInt8 := if k = 0 then 3 else if k = 1 then 129 else 131
def isK (k : Nat) (o : Opt) : Prop := o.t = tk k ∧ o.d.size = 4
instance (k : Nat) (o : Opt) : Decidable (isK k o) := by unfold isK; exact inferInstance
/-- An option that is good. -/
def goodO (o : Opt) : Bool := decide ((o.t = 3 ∨ o.t = 129 ∨ o.t = 131) ∧ o.d.size = 4)
def findV (o : Opt) : Value := if isK 0 o then .tuple #[.agg #[.int .u8 3, fv 89], .int .u32 (nv (ad4 o.d)), .bool true] else if isK 1 o then .tuple #[.agg #[.int .u8 129, fv 90], .int .u32 (nv (ad4 o.d)), .bool true] else
  if isK 2 o then .tuple #[.agg #[.int .u8 131, fv 91], .int .u32 (nv (ad4 o.d)), .bool true] else .tuple #[.agg #[.int .u8 0, .nilFunc], .int .u32 0, .bool false]
theorem num32_four {s : ByteArray} (h : s.size = 4) : num32 s = (ad4 s, 0) := by unfold num32; rw [if_neg (by omega), if_neg (by omega)]
theorem num32_bad {s : ByteArray} (h : s.size ≠ 4) : ((num32 s).2 == 0) = false := by
  unfold num32
  by_cases h1 : s.size < 4
  · rw [if_pos h1]; rfl
  · rw [if_neg h1, if_pos (by omega)]; rfl
set_option maxHeartbeats 2000000 in
set_option maxRecDepth 100000 in
theorem find_k (o : Opt) (w : World) (hK : K w) :
    Calls Tryd.prog 31 #[.agg #[.int .u8 (tv o.t), .string o.d]] w fun e w' => e = .returned (findV o) ∧ Below w.heap.size w w' := by
  have hN := fun w => get32_calls o.d w
  have L : ∀ o1 o2, K ((w.alloc o1).alloc o2) := fun o1 o2 => hK.below (((Below.refl _ _).alloc (Nat.le_refl _) _).alloc (by simp) _)
  have u0 := fun o1 o2 => (L o1 o2).c0
  have u1 := fun o1 o2 => (L o1 o2).c1
  have u2 := fun o1 o2 => (L o1 o2).c2
  have u3 := fun o1 o2 => (L o1 o2).c3
  have ad4' := fun o1 o2 => (L o1 o2).c4
  have u5 := fun o1 o2 => (L o1 o2).c5
  clear L hK
  have n4 : Hid (o.d.size = 4 → num32 o.d = (ad4 o.d, 0)) := Lib.hid num32_four
  have nb : Hid (o.d.size ≠ 4 → ((num32 o.d).2 == 0) = false) := Lib.hid num32_bad
  generalize hnn : num32 o.d = p at *
  obtain ⟨pv, pe⟩ := p
  clear hnn
  go_enter Tryd.func31, Tryd.ntmps31
  go_wp2_with (first
    | (go_at_call 46; with_reducible refine (hN _).mono ?_; rintro e w1 ⟨rfl, h⟩; obtain rfl := h.symm))
  go_loopg [3, 15] 3 (fun q v i wr => ∃ k : Nat, k ≤ 3 ∧ q = 3 - k ∧ v = .int .u32 (nv pv) ∧ i = .int .i64 (k : Int) ∧ Hid (∀ j, j < k → ¬ isK j o) ∧ wr.heap[w.heap.size]? = some (.cells #[.int .u8 (tv o.t), .string o.d] 57 (0, 0)) ∧ wr.heap[w.heap.size + 1]? = some (.cells #[.int .u8 0, .nilFunc] 73 (0, 0)) ∧ Below w.heap.size w wr)
  case atStart => exact ⟨0, by omega, rfl, rfl, rfl, Lib.hid (fun j hj => by omega), by rw [Lib.alloc_old _ _ _ (by simp)]; exact alloc_new _ _ _ rfl, alloc_new _ _ _ (by simp), ((Below.refl _ _).alloc (Nat.le_refl _) _).alloc (by simp) _⟩
  case round =>
    obtain ⟨k, hk, hq, rfl, rfl, hno, b0, b1, hB⟩ := hrel
    have A := Lib.hid hq; clear hq
    have z0 := (Array.getElem?_eq_some_iff.1 b0).1
    have z1 := (Array.getElem?_eq_some_iff.1 b1).1
    have c0 : ∀ ob, (wr.alloc ob).cell? ⟨w.heap.size, 0, none⟩ = some (.int .u8 (tv o.t)) := fun ob => by rw [Lib.cell_of_heap ((Lib.alloc_old wr ob _ z0).trans b0)]; rfl
    have d1 : ∀ ob, (wr.alloc ob).heap[w.heap.size + 1]? = some (.cells #[.int .u8 0, .nilFunc] 73 (0, 0)) := fun ob => (Lib.alloc_old wr ob _ z1).trans b1
    have e0 := fun ob => blk_cell (d1 ob) 0
    have e1 := fun ob => blk_cell (d1 ob) 1
    have ef := fun ob i => blk_frozen (d1 ob) i
    have d2 : ∀ v ob, ((wr.setCell ⟨w.heap.size + 1, 0, none⟩ v).alloc ob).heap[w.heap.size + 1]? = some (.cells #[v, .nilFunc] 73 (0, 0)) := fun v ob => (Lib.alloc_old _ ob _ (by simpa [World.setCell] using z1)).trans (blk_set b1 0 v)
    have d3 : ∀ v u ob, (((wr.setCell ⟨w.heap.size + 1, 0, none⟩ v).setCell ⟨w.heap.size + 1, 1, none⟩ u).alloc ob).heap[w.heap.size + 1]? = some (.cells #[v, u] 73 (0, 0)) := fun v u ob => (Lib.alloc_old _ ob _ (by simpa [World.setCell] using z1)).trans (blk_set (blk_set b1 0 v) 1 u)
    have e2 := fun v ob => blk_cell (d2 v ob) 1
    have ef2 := fun v ob => blk_frozen (d2 v ob) 1
    have e3 := fun v u ob => blk_cell (d3 v u ob) 0
    have e4 := fun v u ob => blk_cell (d3 v u ob) 1
    clear d2 d3
    have B0 := Lib.hid b0
    have B1 := Lib.hid b1
    have hsz := hB.size
    clear b0 b1 d1
    by_cases hlt : k < 3
    · rcases (show k = 0 ∨ k = 1 ∨ k = 2 by omega) with rfl | rfl | rfl
      · by_cases hs : isK 0 o
        · obtain ⟨ht, h4⟩ := hs
          have hE := n4.out h4
          simp only [Prod.mk.injEq] at hE
          obtain ⟨rfl, rfl⟩ := hE
          have ht' : ((3 : Int) == tv o.t) = true := by rw [ht]; rfl
          have Ht := Lib.hid ht; clear ht
          have H4 := Lib.hid h4; clear h4
          clear n4 nb
          go_wp2
          (try simp only [Exit.inBlock, Exit.then])
          refine bodyPost_ret (v := .tuple #[.agg #[.int .u8 3, fv 89], .int .u32 (nv (ad4 o.d)), .bool true]) ?_ rfl ⟨?_, ?_⟩
          · exact results_cell_tt rfl _ _ _ rfl rfl rfl (by go_simp)
          · unfold findV
            rw [if_pos ⟨Ht.out, H4.out⟩]
          · exact ((hB.setCell (p := ⟨w.heap.size + 1, 0, none⟩) (by simp) _).setCell (p := ⟨w.heap.size + 1, 1, none⟩) (by simp) _).alloc (by simp [World.setCell]; exact hsz) _
        · have hno' : Hid (∀ j, j < 1 → ¬ isK j o) := Lib.hid (fun j hj => by
            rcases Nat.lt_or_ge j 0 with h | h
            · exact hno.out j h
            · obtain rfl : j = 0 := by omega
              exact hs)
          by_cases ht : o.t = tk 0
          · have h4 : o.d.size ≠ 4 := fun h => hs ⟨ht, h⟩
            have he := nb.out h4
            have ht' : ((3 : Int) == tv o.t) = true := by rw [ht]; rfl
            clear ht h4 hs
            go_wp2
            go_roundg 2
            case measure => have := A.out; omega
            case rel => exact ⟨1, by omega, rfl, rfl, rfl, hno', (Lib.alloc_old _ _ _ z0).trans B0.out, (Lib.alloc_old _ _ _ z1).trans B1.out, hB.alloc hsz _⟩
          · have ht' : ((3 : Int) == tv o.t) = false := by
              rw [show (3 : Int) = tv (tk 0) from rfl, ti_bool, decide_eq_false (fun h => ht h.symm)]
            clear ht hs
            go_wp2
            go_roundg 2
            case measure => have := A.out; omega
            case rel => exact ⟨1, by omega, rfl, rfl, rfl, hno', (Lib.alloc_old _ _ _ z0).trans B0.out, (Lib.alloc_old _ _ _ z1).trans B1.out, hB.alloc hsz _⟩
      · by_cases hs : isK 1 o
        · obtain ⟨ht, h4⟩ := hs
          have hE := n4.out h4
          simp only [Prod.mk.injEq] at hE
          obtain ⟨rfl, rfl⟩ := hE
          have ht' : ((129 : Int) == tv o.t) = true := by rw [ht]; rfl
          have Ht := Lib.hid ht; clear ht
          have H4 := Lib.hid h4; clear h4
          clear n4 nb
          go_wp2
          (try simp only [Exit.inBlock, Exit.then])
          refine bodyPost_ret (v := .tuple #[.agg #[.int .u8 129, fv 90], .int .u32 (nv (ad4 o.d)), .bool true]) ?_ rfl ⟨?_, ?_⟩
          · exact results_cell_tt rfl _ _ _ rfl rfl rfl (by go_simp)
          · unfold findV
            rw [if_neg (hno.out 0 (by omega)), if_pos ⟨Ht.out, H4.out⟩]
          · exact ((hB.setCell (p := ⟨w.heap.size + 1, 0, none⟩) (by simp) _).setCell (p := ⟨w.heap.size + 1, 1, none⟩) (by simp) _).alloc (by simp [World.setCell]; exact hsz) _
        · have hno' : Hid (∀ j, j < 2 → ¬ isK j o) := Lib.hid (fun j hj => by
            rcases Nat.lt_or_ge j 1 with h | h
            · exact hno.out j h
            · obtain rfl : j = 1 := by omega
              exact hs)
          by_cases ht : o.t = tk 1
          · have h4 : o.d.size ≠ 4 := fun h => hs ⟨ht, h⟩
            have he := nb.out h4
            have ht' : ((129 : Int) == tv o.t) = true := by rw [ht]; rfl
            clear ht h4 hs
            go_wp2
            go_roundg 1
            case measure => have := A.out; omega
            case rel => exact ⟨2, by omega, rfl, rfl, rfl, hno', (Lib.alloc_old _ _ _ z0).trans B0.out, (Lib.alloc_old _ _ _ z1).trans B1.out, hB.alloc hsz _⟩
          · have ht' : ((129 : Int) == tv o.t) = false := by
              rw [show (129 : Int) = tv (tk 1) from rfl, ti_bool, decide_eq_false (fun h => ht h.symm)]
            clear ht hs
            go_wp2
            go_roundg 1
            case measure => have := A.out; omega
            case rel => exact ⟨2, by omega, rfl, rfl, rfl, hno', (Lib.alloc_old _ _ _ z0).trans B0.out, (Lib.alloc_old _ _ _ z1).trans B1.out, hB.alloc hsz _⟩
      · by_cases hs : isK 2 o
        · obtain ⟨ht, h4⟩ := hs
          have hE := n4.out h4
          simp only [Prod.mk.injEq] at hE
          obtain ⟨rfl, rfl⟩ := hE
          have ht' : ((131 : Int) == tv o.t) = true := by rw [ht]; rfl
          have Ht := Lib.hid ht; clear ht
          have H4 := Lib.hid h4; clear h4
          clear n4 nb
          go_wp2
          (try simp only [Exit.inBlock, Exit.then])
          refine bodyPost_ret (v := .tuple #[.agg #[.int .u8 131, fv 91], .int .u32 (nv (ad4 o.d)), .bool true]) ?_ rfl ⟨?_, ?_⟩
          · exact results_cell_tt rfl _ _ _ rfl rfl rfl (by go_simp)
          · unfold findV
            rw [if_neg (hno.out 0 (by omega)), if_neg (hno.out 1 (by omega)), if_pos ⟨Ht.out, H4.out⟩]
          · exact ((hB.setCell (p := ⟨w.heap.size + 1, 0, none⟩) (by simp) _).setCell (p := ⟨w.heap.size + 1, 1, none⟩) (by simp) _).alloc (by simp [World.setCell]; exact hsz) _
        · have hno' : Hid (∀ j, j < 3 → ¬ isK j o) := Lib.hid (fun j hj => by
            rcases Nat.lt_or_ge j 2 with h | h
            · exact hno.out j h
            · obtain rfl : j = 2 := by omega
              exact hs)
          by_cases ht : o.t = tk 2
          · have h4 : o.d.size ≠ 4 := fun h => hs ⟨ht, h⟩
            have he := nb.out h4
            have ht' : ((131 : Int) == tv o.t) = true := by rw [ht]; rfl
            clear ht h4 hs
            go_wp2
            go_roundg 0
            case measure => have := A.out; omega
            case rel => exact ⟨3, by omega, rfl, rfl, rfl, hno', (Lib.alloc_old _ _ _ z0).trans B0.out, (Lib.alloc_old _ _ _ z1).trans B1.out, hB.alloc hsz _⟩
          · have ht' : ((131 : Int) == tv o.t) = false := by
              rw [show (131 : Int) = tv (tk 2) from rfl, ti_bool, decide_eq_false (fun h => ht h.symm)]
            clear ht hs
            go_wp2
            go_roundg 0
            case measure => have := A.out; omega
            case rel => exact ⟨3, by omega, rfl, rfl, rfl, hno', (Lib.alloc_old _ _ _ z0).trans B0.out, (Lib.alloc_old _ _ _ z1).trans B1.out, hB.alloc hsz _⟩
    · obtain rfl : k = 3 := by omega
      have f0 := blk_cell B1.out 0
      have f1 := blk_cell B1.out 1
      have ff := fun i => blk_frozen B1.out i
      go_wp2
      (try simp only [Exit.inBlock, Exit.then])
      refine bodyPost_ret (v := .tuple #[.agg #[.int .u8 0, .nilFunc], .int .u32 0, .bool false]) ?_ rfl ⟨?_, ?_⟩
      · exact results_cell_tt rfl _ _ _ rfl rfl rfl (by go_simp)
      · unfold findV
        rw [if_neg (hno.out 0 (by omega)), if_neg (hno.out 1 (by omega)), if_neg (hno.out 2 (by omega))]
      · exact (hB.setCell (p := ⟨w.heap.size + 1, 0, none⟩) (by simp) _).setCell (p := ⟨w.heap.size + 1, 1, none⟩) (by simp) _
theorem isK_any (o : Opt) : goodO o = decide (isK 0 o ∨ isK 1 o ∨ isK 2 o) := by
  unfold goodO isK tk
  simp only [Nat.one_ne_zero, if_true, if_false, decide_eq_decide]
  constructor
  · rintro ⟨h1 | h1 | h1, h2⟩
    · exact .inl ⟨h1, h2⟩
    · exact .inr (.inl ⟨h1, h2⟩)
    · exact .inr (.inr ⟨h1, h2⟩)
  · rintro (⟨h1, h2⟩ | ⟨h1, h2⟩ | ⟨h1, h2⟩)
    · exact ⟨.inl h1, h2⟩
    · exact ⟨.inr (.inl h1), h2⟩
    · exact ⟨.inr (.inr h1), h2⟩
theorem find_form (o : Opt) : ∃ (t : Int) (f : Value) (v : Int), findV o = .tuple #[.agg #[.int .u8 t, f], .int .u32 v, .bool (goodO o)] ∧ (f = .nilFunc ∨ ∃ n, f = .func (.func n) #[] #[]) := by
  rw [isK_any]
  unfold findV
  by_cases h0 : isK 0 o
  · rw [if_pos h0, decide_eq_true (.inl h0)]; exact ⟨_, _, _, rfl, .inr ⟨_, rfl⟩⟩
  · by_cases h1 : isK 1 o
    · rw [if_neg h0, if_pos h1, decide_eq_true (.inr (.inl h1))]; exact ⟨_, _, _, rfl, .inr ⟨_, rfl⟩⟩
    · by_cases h2 : isK 2 o
      · rw [if_neg h0, if_neg h1, if_pos h2, decide_eq_true (.inr (.inr h2))]; exact ⟨_, _, _, rfl, .inr ⟨_, rfl⟩⟩
      · rw [if_neg h0, if_neg h1, if_neg h2, decide_eq_false (by simp [h0, h1, h2])]; exact ⟨_, _, _, rfl, .inl rfl⟩
theorem good_calls (o : Opt) (w : World) (hK : K w) :
    Calls Tryd.prog 44 #[.agg #[.int .u8 (tv o.t), .string o.d]] w fun e w' => e = .returned (.bool (goodO o)) ∧ Below w.heap.size w w' := by
  have hF := fun w => find_k o w
  obtain ⟨t, f, v, hf, hff⟩ := find_form o
  rw [hf] at hF
  have L : ∀ o1, K (w.alloc o1) := fun o1 => hK.below ((Below.refl _ _).alloc (Nat.le_refl _) _)
  clear hf
  generalize goodO o = b at *
  rcases hff with rfl | ⟨n, rfl⟩
  · go_enter Tryd.func44, Tryd.ntmps44
    go_wp2_with (first
      | (go_at_call 31; with_reducible refine (hF _ (L _)).mono ?_; rintro e w1 ⟨rfl, hb⟩))
    go_ret
    exact ⟨rfl, (((Below.refl _ _).alloc (Nat.le_refl _) _).trans (hb.mono (by simp))).alloc (by have := hb.size; simp at this; omega) _⟩
  · go_enter Tryd.func44, Tryd.ntmps44
    go_wp2_with (first
      | (go_at_call 31; with_reducible refine (hF _ (L _)).mono ?_; rintro e w1 ⟨rfl, hb⟩))
    go_ret
    exact ⟨rfl, (((Below.refl _ _).alloc (Nat.le_refl _) _).trans (hb.mono (by simp))).alloc (by have := hb.size; simp at this; omega) _⟩
end Go.Proofs.YtlcckkdkcbelhaaDoor
