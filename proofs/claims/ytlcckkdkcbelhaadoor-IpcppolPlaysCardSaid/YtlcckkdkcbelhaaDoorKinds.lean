/-
  Layer 15 (ipcppol): the two tables of kinds: what the condition gives the walks.
-/
import Derived.Test.YtlcckkdkcbelhaaDoorKin
set_option linter.unusedVariables false
set_option linter.unusedSimpArgs false
namespace Go.Proofs.YtlcckkdkcbelhaaDoor
open Go.ChangeShapes Go.WideShapes Go.ChangeAt Go.WideElems Go.Maps Go.RowKit

def fv (f : FuncId) : Value := .func (.func f) #[] #[]
def kindV (k : Int) : Value :=
  if k = 3 then .tuple #[.agg #[fv 77, fv 78, fv 79, fv 80], .bool true] else if k = 129 then .tuple #[.agg #[fv 81, fv 82, fv 83, fv 84], .bool true] else
  if k = 131 then .tuple #[.agg #[fv 85, fv 86, fv 87, fv 88], .bool true] else .tuple #[.agg #[.nilFunc, .nilFunc, .nilFunc, .nilFunc], .bool false]
/-- The two tables lie as the program's text lays them. -/
structure K (W : World) : Prop where
  c0 : W.cell? ⟨1, 0, none⟩ = some (.int .u8 3)
  c1 : W.cell? ⟨1, 1, none⟩ = some (fv 89)
  c2 : W.cell? ⟨1, 2, none⟩ = some (.int .u8 129)
  c3 : W.cell? ⟨1, 3, none⟩ = some (fv 90)
  c4 : W.cell? ⟨1, 4, none⟩ = some (.int .u8 131)
  c5 : W.cell? ⟨1, 5, none⟩ = some (fv 91)
  map : ∃ bm o, W.cell? ⟨0, 0, none⟩ = some (.map (some bm)) ∧ W.heap[bm]? = some o ∧ ∀ W' : World, W'.heap[bm]? = some o → ∀ k : Int, 0 ≤ k ∧ k ≤ 255 →
    (Instr.lookup 91 (.map (some bm)) (.int .u8 k) true).run Tryd.prog W' = .ok (kindV k) W'
theorem cell_lt {W : World} {a : Addr} {v : Value} (h : W.cell? a = some v) : a.block < W.heap.size := by
  unfold World.cell? at h
  cases hb : W.heap[a.block]? with
  | none => simp [hb] at h
  | some o => exact (Array.getElem?_eq_some_iff.1 hb).1
theorem K.below {w W : World} (h : K w) (hb : Below w.heap.size w W) : K W := by
  have g : ∀ {a : Addr} {v : Value}, w.cell? a = some v → W.cell? a = some v := fun hc => (hb.cell (cell_lt hc)).trans hc
  obtain ⟨bm, o, h1, h2, h3⟩ := h.map
  exact ⟨g h.c0, g h.c1, g h.c2, g h.c3, g h.c4, g h.c5, bm, o, g h1, (hb.block bm ((Array.getElem?_eq_some_iff.1 h2).1)).trans h2, h3⟩
theorem polData : ∃ a1 a2 a3 a4 a5 a6 a7 a8 a9 a10 a11 a12 : UInt8, ∃ r1 r2 r3 r4 r5 r6 r7 r8 r9 r10 r11 r12 : List UInt8,
    (Rows.laid_halyard_ipcppol_kinds : DataW Unit) = DataW.iface "func table" (.map [(.int .u8 3, .agg [.iface "func" (.lit (.string (a1 :: r1))), .iface "func" (.lit (.string (a2 :: r2))), .iface "func" (.lit (.string (a3 :: r3))), .iface "func" (.lit (.string (a4 :: r4)))]),
      (.int .u8 129, .agg [.iface "func" (.lit (.string (a5 :: r5))), .iface "func" (.lit (.string (a6 :: r6))), .iface "func" (.lit (.string (a7 :: r7))), .iface "func" (.lit (.string (a8 :: r8)))]),
      (.int .u8 131, .agg [.iface "func" (.lit (.string (a9 :: r9))), .iface "func" (.lit (.string (a10 :: r10))), .iface "func" (.lit (.string (a11 :: r11))), .iface "func" (.lit (.string (a12 :: r12)))])]) ∧
    One a1 r1 77 ∧ One a2 r2 78 ∧ One a3 r3 79 ∧ One a4 r4 80 ∧ One a5 r5 81 ∧ One a6 r6 82 ∧ One a7 r7 83 ∧ One a8 r8 84 ∧ One a9 r9 85 ∧ One a10 r10 86 ∧ One a11 r11 87 ∧ One a12 r12 88 :=
  ⟨_, _, _, _, _, _, _, _, _, _, _, _, _, _, _, _, _, _, _, _, _, _, _, _, rfl, by unfold One; kernel_rfl, by unfold One; kernel_rfl, by unfold One; kernel_rfl, by unfold One; kernel_rfl, by unfold One; kernel_rfl, by unfold One; kernel_rfl, by unfold One; kernel_rfl, by unfold One; kernel_rfl, by unfold One; kernel_rfl, by unfold One; kernel_rfl, by unfold One; kernel_rfl, by unfold One; kernel_rfl⟩
theorem optData : ∃ a1 a2 a3 : UInt8, ∃ r1 r2 r3 : List UInt8,
    (Rows.laid_halyard_ipcpopt_kinds : DataW Unit) = DataW.iface "func table" (.agg [.agg [.lit (.int .u8 3), .iface "func" (.lit (.string (a1 :: r1)))], .agg [.lit (.int .u8 129), .iface "func" (.lit (.string (a2 :: r2)))], .agg [.lit (.int .u8 131), .iface "func" (.lit (.string (a3 :: r3)))]]) ∧
    One a1 r1 89 ∧ One a2 r2 90 ∧ One a3 r3 91 :=
  ⟨_, _, _, _, _, _, rfl, by unfold One; kernel_rfl, by unfold One; kernel_rfl, by unfold One; kernel_rfl⟩
def laids : List (String × DataW Unit) := [("halyard/ipcpopt.kinds", Rows.laid_halyard_ipcpopt_kinds), ("halyard/ipcppol.kinds", Rows.laid_halyard_ipcppol_kinds)]
theorem elem_kind {W : World} {sp : Nat → Bool} {n : Nat} {v : Value} {y : DataW (List UInt8) × List MemPlace} {b1 b2 b3 b4 : UInt8} {r1 r2 r3 r4 : List UInt8} {f1 f2 f3 f4 : FuncId}
    (h : elemAt (funcToken Tryd.prog) Tryd.prog W 0 sp true n 90 v = some y) (hy : y.1 = .agg [.held (b1 :: r1), .held (b2 :: r2), .held (b3 :: r3), .held (b4 :: r4)]) (o1 : One b1 r1 f1) (o2 : One b2 r2 f2) (o3 : One b3 r3 f3) (o4 : One b4 r4 f4) :
    v = .agg #[fv f1, fv f2, fv f3, fv f4] := by
  unfold elemAt at h
  split at h
  · rename_i hfm
    cases v with
    | agg cs =>
      obtain ⟨ys, m, _, hD, hcl, hyl, hf⟩ := DataW.trod_struct und90 h
      rw [cells90] at hcl
      rw [hD] at hy
      simp only [DataW.agg.injEq] at hy
      have := pol_cells fields90 hcl hyl hf hy o1 o2 o3 o4
      obtain ⟨l⟩ := cs
      simp [Value.cells] at this
      subst this
      rfl
    | _ => simp [Value.formed, und90] at hfm
  · cases h
theorem sk (a k : Int) (h : ¬ k = a) : (Lit.int .u8 a).sameKey (.int .u8 k) = false := by
  simp [Lit.sameKey, Ne.symm h]
theorem look_kind {W : World} {bm : Nat} {es : Array MapEntry} {clock : Nat} {sp : Nat → Bool} {n : Nat} (F : Fit Tryd.prog 5 (elemAt (funcToken Tryd.prog) Tryd.prog W 0 sp true n 90) es clock)
    {a1 a2 a3 a4 a5 a6 a7 a8 a9 a10 a11 a12 : UInt8} {r1 r2 r3 r4 r5 r6 r7 r8 r9 r10 r11 r12 : List UInt8}
    (hD : (DataW.map ((es.toList.map (rg Tryd.prog 5 (elemAt (funcToken Tryd.prog) Tryd.prog W 0 sp true n 90))).foldr DataW.insert []) : DataW (List UInt8)) = .map [(.int .u8 3, .agg [.held (a1 :: r1), .held (a2 :: r2), .held (a3 :: r3), .held (a4 :: r4)]), (.int .u8 129, .agg [.held (a5 :: r5), .held (a6 :: r6), .held (a7 :: r7), .held (a8 :: r8)]), (.int .u8 131, .agg [.held (a9 :: r9), .held (a10 :: r10), .held (a11 :: r11), .held (a12 :: r12)])])
    (o : One a1 r1 77 ∧ One a2 r2 78 ∧ One a3 r3 79 ∧ One a4 r4 80 ∧ One a5 r5 81 ∧ One a6 r6 82 ∧ One a7 r7 83 ∧ One a8 r8 84 ∧ One a9 r9 85 ∧ One a10 r10 86 ∧ One a11 r11 87 ∧ One a12 r12 88)
    (W' : World) (hb : W'.heap[bm]? = some (.map es clock)) (k : Int) (hk : 0 ≤ k ∧ k ≤ 255) : (Instr.lookup 91 (.map (some bm)) (.int .u8 k) true).run Tryd.prog W' = .ok (kindV k) W' := by
  obtain ⟨o1, o2, o3, o4, o5, o6, o7, o8, o9, o10, o11, o12⟩ := o
  have hkey : keyOf Tryd.prog 5 (.int .u8 k) = some (.int .u8 k) := keyOf_int_mk und5 (by simp [Lit.wf, IntKind.min, IntKind.max, IntKind.signed, IntKind.bits]; exact hk)
  unfold kindV
  rcases fit_look true (int_keyed und5) und91 (zero90 W') hb F hkey with ⟨h1, _, h3⟩ | ⟨e0, y, _, _, h1, h2, h3, _⟩
  · rw [hD] at h3
    have h4 := h3 .nil
    by_cases e3 : k = 3
    · subst e3; cases h4
    · by_cases e129 : k = 129
      · subst e129; cases h4
      · by_cases e131 : k = 131
        · subst e131; cases h4
        · rw [if_neg e3, if_neg e129, if_neg e131]; exact h1
  · rw [hD] at h3
    have h4 := h3 .nil
    have h5 := h3 (.lit (.bool true))
    by_cases e3 : k = 3
    · subst e3
      rw [if_pos rfl]
      have := elem_kind h2 h4.symm o1 o2 o3 o4
      rw [this] at h1; exact h1
    · by_cases e129 : k = 129
      · subst e129
        rw [if_neg (by decide), if_pos rfl]
        have := elem_kind h2 h4.symm o5 o6 o7 o8
        rw [this] at h1; exact h1
      · by_cases e131 : k = 131
        · subst e131
          rw [if_neg (by decide), if_neg (by decide), if_pos rfl]
          have := elem_kind h2 h4.symm o9 o10 o11 o12
          rw [this] at h1; exact h1
        · have z1 : (DataW.map [(.int .u8 3, .agg [.held (a1 :: r1), .held (a2 :: r2), .held (a3 :: r3), .held (a4 :: r4)]), (.int .u8 129, .agg [.held (a5 :: r5), .held (a6 :: r6), .held (a7 :: r7), .held (a8 :: r8)]), (.int .u8 131, .agg [.held (a9 :: r9), .held (a10 :: r10), .held (a11 :: r11), .held (a12 :: r12)])] : DataW (List UInt8)).atKey (.int .u8 k) .nil = .nil := by
            simp [DataW.atKey, List.find?, sk _ _ e3, sk _ _ e129, sk _ _ e131]
          have z2 : (DataW.map [(.int .u8 3, .agg [.held (a1 :: r1), .held (a2 :: r2), .held (a3 :: r3), .held (a4 :: r4)]), (.int .u8 129, .agg [.held (a5 :: r5), .held (a6 :: r6), .held (a7 :: r7), .held (a8 :: r8)]), (.int .u8 131, .agg [.held (a9 :: r9), .held (a10 :: r10), .held (a11 :: r11), .held (a12 :: r12)])] : DataW (List UInt8)).atKey (.int .u8 k) (.lit (.bool true)) = .lit (.bool true) := by
            simp [DataW.atKey, List.find?, sk _ _ e3, sk _ _ e129, sk _ _ e131]
          rw [z1] at h4
          rw [z2] at h5
          rw [← h4] at h5
          cases h5
theorem of_laid {W : World} (h : laidMetH Tryd.prog laids W) : K W := by
  obtain ⟨a1, a2, a3, a4, a5, a6, a7, a8, a9, a10, a11, a12, r1, r2, r3, r4, r5, r6, r7, r8, r9, r10, r11, r12, eP, oP⟩ := polData
  obtain ⟨b1, b2, b3, s1, s2, s3, eO, o1, o2, o3⟩ := optData
  obtain ⟨g, t, cs, fuel, p, hg, ht, hv, hd⟩ := h.funcs (n := "halyard/ipcppol.kinds") (by rw [← eP]; exact List.mem_cons_of_mem _ (List.mem_cons_self ..))
  obtain ⟨g', t', cs', fuel', p', hg', ht', hv', hd'⟩ := h.funcs (n := "halyard/ipcpopt.kinds") (by rw [← eO]; exact List.mem_cons_self ..)
  obtain rfl := Option.some.inj (gPol.symm.trans hg)
  obtain rfl := Option.some.inj (tPol.symm.trans ht)
  obtain rfl := Option.some.inj (gOpt.symm.trans hg')
  obtain rfl := Option.some.inj (tOpt.symm.trans ht')
  obtain ⟨xs, m1, _, hx1, hcl, hn3, hel⟩ := DataW.trod_array und102 hd'
  rw [cells102] at hcl
  obtain ⟨x0, x1, x2, rfl⟩ := list3 xs hn3
  have hx2 := congrArg Prod.fst hx1
  simp only [DataW.funcsOut, DataW.funcsOutAll, List.map_cons, List.map_nil, DataW.agg.injEq, List.cons.injEq, and_true] at hx2
  obtain ⟨q0, q1, q2⟩ := hx2
  have h0 := hel 0 (by decide)
  have h1 := hel 1 (by decide)
  have h2 := hel 2 (by decide)
  rw [cells73] at h0 h1 h2
  obtain ⟨l⟩ := cs'
  obtain ⟨u0, u1, u2, u3, u4, u5, rfl⟩ := list6 l hcl
  obtain ⟨y0, n0, _, d0, c0, z0, k0⟩ := DataW.trod_struct und73 (show DataW.trod _ Tryd.prog W 0 _ true m1 73 [u0, u1] = some x0 from h0)
  obtain ⟨y1, n1, _, d1, c1, z1, k1⟩ := DataW.trod_struct und73 (show DataW.trod _ Tryd.prog W 0 _ true m1 73 [u2, u3] = some x1 from h1)
  obtain ⟨y2, n2, _, d2, c2, z2, k2⟩ := DataW.trod_struct und73 (show DataW.trod _ Tryd.prog W 0 _ true m1 73 [u4, u5] = some x2 from h2)
  rw [d0] at q0
  rw [d1] at q1
  rw [d2] at q2
  simp only [DataW.agg.injEq] at q0 q1 q2
  have f0 := opt_cells fields73 rfl z0 k0 q0.symm o1
  have f1 := opt_cells fields73 rfl z1 k1 q1.symm o2
  have f2 := opt_cells fields73 rfl z2 k2 q2.symm o3
  simp only [List.cons.injEq, and_true] at f0 f1 f2
  obtain ⟨rfl, rfl⟩ := f0
  obtain ⟨rfl, rfl⟩ := f1
  obtain ⟨rfl, rfl⟩ := f2
  have hc := World.var?_cell hg' hv'
  rcases open_map und91 hd with ⟨_, hx⟩ | ⟨bm, es, clock, m, _, hcs, hb, _, F, hx⟩
  · exact absurd (congrArg Prod.fst hx) (by simp [DataW.funcsOut])
  · have hx3 := (congrArg Prod.fst hx).symm
    simp only [DataW.funcsOut, DataW.funcsOutAll, DataW.funcsOutEntries] at hx3
    have hcell : W.cell? ⟨0, 0, none⟩ = some (.map (some bm)) := by
      have := World.var?_cell hg hv 0
      rw [Array.eq_one_of_toList hcs] at this
      simpa using this
    exact ⟨hc 0, hc 1, hc 2, hc 3, hc 4, hc 5, bm, _, hcell, hb, fun W' hb' k hk => look_kind F hx3 oP W' hb' k hk⟩
/-- The door's own heap meets the condition. -/
theorem door_met (os : Os) (args : Array Value) : laidMetH Tryd.prog laids ((World.doorLaid Tryd.prog 40 os).forCall (fun _ _ => 0) ⟨#[], args, []⟩).memory :=
  laidMetH_of_parts3 (fuel := 8) (laidMet_of_run' 8 (by kernel_rfl) (by kernel_rfl)) (by kernel_rfl) (by kernel_rfl)
end Go.Proofs.YtlcckkdkcbelhaaDoor
