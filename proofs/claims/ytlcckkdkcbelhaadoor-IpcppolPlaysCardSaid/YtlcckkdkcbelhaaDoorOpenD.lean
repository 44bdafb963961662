/-
  Layer 15 (ipcppol): a row of options that came in, as the row has it.
-/
import Derived.Test.YtlcckkdkcbelhaaDoorOnlyW
import Derived.Deep.Slices
import Derived.Deep.Fields
import Derived.ChangeSame
import Derived.SizedLaws
set_option linter.unusedVariables false
namespace Go.Proofs.YtlcckkdkcbelhaaDoor
open Go.ChangeShapes Go.WideShapes Go.Deep Go.RowKit

theorem und32o : Tryd.prog.underlying 32 = some (.slice 57) := by kernel_rfl
theorem undQ : Tryd.prog.underlying 57 = some (.struct (Tryd.prog.fieldsOf 57)) := by kernel_rfl
theorem cellsQ : Tryd.prog.cellsOf 57 = 2 := by kernel_rfl
theorem fieldsQ : (Tryd.prog.fieldsOf 57).toList.map (fun f => (f.type, f.offset, Tryd.prog.cellsOf f.type)) = [(5, 0, 1), (9, 1, 1)] := by kernel_rfl
theorem typesQ : (Tryd.prog.fieldsOf 57).toList.map (·.type) = [5, 9] := by kernel_rfl
theorem und5o : Tryd.prog.underlying 5 = some (.int .u8) := by kernel_rfl
theorem und9o : Tryd.prog.underlying 9 = some .string := by kernel_rfl
theorem opt_cells2 {H : Type} {enc : TypeId × Value → H} {W : World} {spare : Nat → Bool} {held : Bool} {n : Nat} {fs : Array Field} {cs : List Value} {ys : List (DataW H × List MemPlace)}
    (hfs : fs.toList.map (fun f => (f.type, f.offset, Tryd.prog.cellsOf f.type)) = [(5, 0, 1), (9, 1, 1)]) (hcl : cs.length = 2) (hyl : ys.length = fs.size)
    (hf : ∀ (i : Nat) (f : Field), fs[i]? = some f → DataW.trod enc Tryd.prog W 0 spare held n f.type ((cs.drop f.offset).take (Tryd.prog.cellsOf f.type)) = ys[i]?) :
    ∃ (z0 : UInt8) (z1 : ByteArray) (y0 : DataW H × List MemPlace), cs = [.int .u8 (tv z0), .string z1] ∧ ys = [y0, (.lit (.string z1.data.toList), [])] := by
  obtain ⟨l⟩ := fs
  obtain ⟨f0, f1, rfl⟩ := list2 l (by have := congrArg List.length hfs; simpa using this)
  simp only [List.map_cons, List.map_nil, List.cons.injEq, Prod.mk.injEq, and_true] at hfs
  obtain ⟨⟨t0, o0, k0⟩, t1, o1, k1⟩ := hfs
  have e0 := hf 0 f0 rfl
  have e1 := hf 1 f1 rfl
  rw [k0, o0, t0] at e0
  rw [k1, o1, t1] at e1
  obtain ⟨v0, v1, rfl⟩ := list2 cs hcl
  obtain ⟨y0, y1, rfl⟩ := list2 ys hyl
  obtain ⟨z0, h0, _, hw0⟩ := DataW.trod_int und5o e0
  obtain ⟨z1, h1, hy1, _⟩ := DataW.trod_string und9o e1
  simp at h0 h1
  subst h0 h1 hy1
  have hb : 0 ≤ z0 ∧ z0 ≤ 255 := by simpa [Lit.wf, IntKind.min, IntKind.max, IntKind.signed, IntKind.bits] using hw0
  obtain ⟨k, rfl⟩ := Int.eq_ofNat_of_zero_le hb.1
  refine ⟨UInt8.ofNat k, z1, y0, ?_, rfl⟩
  rw [show tv (UInt8.ofNat k) = (k : Int) from by unfold tv; simp; omega]
theorem mem_all {H : Type} {P : Program} {e : TypeId} {d : DataW H} {n : Nat} (hn : n ∈ d.weights P e) : ∀ {l : List (DataW H)}, d ∈ l → n ∈ DataW.weightsAll P e l
  | [], h => by simp at h
  | x :: l, h => by
    rw [DataW.weightsAll, List.mem_append]
    rcases List.mem_cons.1 h with rfl | h
    · exact .inl hn
    · exact .inr (mem_all hn h)
theorem optCells_of (f : Nat → Opt) : ∀ (n s : Nat) (j : Nat) (u : Value), (optCells ((List.range' s n).map f))[j]? = some u → ∃ i, s ≤ i ∧ i < s + n ∧ ((j = (i - s) * 2 ∧ u = .int .u8 (tv (f i).t)) ∨ (j = (i - s) * 2 + 1 ∧ u = .string (f i).d)) := by
  intro n
  induction n with
  | zero => intro s j u h; simp [optCells] at h
  | succ n ih =>
    intro s j u h
    simp only [List.range'_succ, List.map_cons, optCells] at h
    match j, h with
    | 0, h => exact ⟨s, by omega, by omega, .inl ⟨by omega, by simpa using h.symm⟩⟩
    | 1, h => exact ⟨s, by omega, by omega, .inr ⟨by omega, by simpa using h.symm⟩⟩
    | j + 2, h =>
      obtain ⟨i, h1, h2, h3⟩ := ih (s + 1) j u h
      refine ⟨i, by omega, by omega, ?_⟩
      rcases h3 with ⟨h3, h4⟩ | ⟨h3, h4⟩
      · exact .inl ⟨by omega, h4⟩
      · exact .inr ⟨by omega, h4⟩
theorem open_opts {H : Type} {enc : TypeId × Value → H} {W : World} {spare : Nat → Bool} {held : Bool} {fuel : Nat} {a : Option Addr} {len cap : Nat} {x : DataW H × List MemPlace} (h : DataW.trod enc Tryd.prog W 0 spare held fuel 32 (Value.slice a len cap).cells.toList = some x)
    (hw : ∀ n ∈ x.1.weights Tryd.prog 32, n ≤ reachBytes) : ∃ l : List Opt, l.length = len ∧ Row W a cap l ∧ (a = none → cap = 0 ∧ l = []) ∧ ∀ o ∈ l, o.d.size ≤ 140737488355328 := by
  rcases open_slice und32o h with ⟨hcs, _⟩ | ⟨b, l, c, m, n, D, Pl, hcs, _, hl, hm, hmm, hx, hi⟩
  · simp [Value.cells] at hcs
    obtain ⟨rfl, rfl, rfl⟩ := hcs
    exact ⟨[], rfl, row_nil _ _ _, fun _ => ⟨rfl, rfl⟩, fun o ho => by simp at ho⟩
  · simp [Value.cells] at hcs
    obtain ⟨rfl, rfl, rfl⟩ := hcs
    have hle : len ≤ m := by rw [hmm]; split <;> omega
    have key : ∀ i, ∃ p : Opt, p.d.size ≤ 140737488355328 ∧ (i < len → W.cell? (b.add (i * 2)) = some (.int .u8 (tv p.t)) ∧ W.cell? (b.add (i * 2 + 1)) = some (.string p.d)) := by
      intro i
      by_cases hil : i < len
      · obtain ⟨cs', hc, ht⟩ := hi i (by omega)
        rw [cellsQ] at hc
        obtain ⟨ys, n', _, hD, hlen, hyl, hf⟩ := DataW.trod_struct undQ ht
        obtain ⟨_, hcl, hat⟩ := World.cells?_some hc
        obtain ⟨z0, z1, y0, rfl, rfl⟩ := opt_cells2 fieldsQ hcl hyl hf
        have hDi : D i = .agg [y0.1, .lit (.string z1.data.toList)] := by
          simp only [Prod.mk.injEq] at hD
          exact hD.1
        have hz : z1.size ≤ reachBytes := by
          have hmem : z1.size ∈ (D i).weights Tryd.prog 57 := by
            rw [hDi, DataW.weights, undQ]
            simp only [typesQ, DataW.weightsEach, DataW.weights, List.mem_append, List.mem_cons]
            refine .inr (.inl (.inl ?_))
            rw [Array.length_toList]; rfl
          refine hw _ ?_
          rw [hx, DataW.weights, und32o]
          simp only [List.mem_cons, List.mem_append]
          exact .inr (.inl (mem_all hmem (List.mem_map.2 ⟨i, List.mem_range.2 hil, rfl⟩)))
        refine ⟨⟨z0, z1⟩, by unfold reachBytes at hz; exact Nat.le_trans hz (by decide), fun _ => ⟨?_, ?_⟩⟩
        · have := hat 0 (by omega); rw [show (b.add (i * 2)).add 0 = b.add (i * 2) from if_pos rfl] at this; exact this
        · have := hat 1 (by omega); rw [← Go.Deep.add_add, this]; rfl
      · exact ⟨noOpt, by decide, fun h => absurd h hil⟩
    refine ⟨(List.range' 0 len).map fun i => Classical.choose (key i), by simp, ⟨by simpa using hl, .inr ⟨b, rfl, fun j u hj => ?_⟩⟩, (fun e => nomatch e), fun o ho => ?_⟩
    · obtain ⟨i, _, h2, h3⟩ := optCells_of _ _ _ _ _ hj
      have := (Classical.choose_spec (key i)).2 (by omega)
      rcases h3 with ⟨h3, h4⟩ | ⟨h3, h4⟩
      · rw [h3, h4]; exact this.1
      · rw [h3, h4]; exact this.2
    · obtain ⟨i, _, rfl⟩ := List.mem_map.1 ho
      exact (Classical.choose_spec (key i)).1
theorem und25o : Tryd.prog.underlying 25 = some (.slice 32) := by kernel_rfl
theorem cells32d : Tryd.prog.cellsOf 32 = 1 := by kernel_rfl
theorem open_rows {H : Type} {enc : TypeId × Value → H} {W : World} {spare : Nat → Bool} {held : Bool} {fuel : Nat} {a : Option Addr} {len cap : Nat} {x : DataW H × List MemPlace} (h : DataW.trod enc Tryd.prog W 0 spare held fuel 25 (Value.slice a len cap).cells.toList = some x)
    (hw : ∀ n ∈ x.1.weights Tryd.prog 25, n ≤ reachBytes) : ∃ f, Rows2 W a cap len f := by
  rcases open_slice1 und25o cells32d h with ⟨hcs, _⟩ | ⟨b, l, c, m, n, V, D, Pl, hcs, _, hl, hm, hmm, hx, hi⟩
  · simp [Value.cells] at hcs
    obtain ⟨rfl, rfl, rfl⟩ := hcs
    exact ⟨fun _ => [], Nat.le_refl _, fun i hi => absurd hi (Nat.not_lt_zero _), fun i hi => absurd hi (Nat.not_lt_zero _)⟩
  · simp [Value.cells] at hcs
    obtain ⟨rfl, rfl, rfl⟩ := hcs
    have hle : len ≤ m := by rw [hmm]; split <;> omega
    have key : ∀ i, ∃ p : List Opt, i < len → (∃ a c, W.cell? (b.add i) = some (.slice a p.length c) ∧ Row W a c p ∧ (a = none → c = 0 ∧ p = [])) ∧ ∀ o ∈ p, o.d.size ≤ 140737488355328 := by
      intro i
      by_cases hil : i < len
      · obtain ⟨hc, ht⟩ := hi i (by omega)
        obtain ⟨a1, l1, c1, hv⟩ : ∃ a1 l1 c1, V i = .slice a1 l1 c1 := by
          rcases open_slice und32o ht with ⟨h0, _⟩ | ⟨b1, l1, c1, _, _, _, _, h0, _⟩
          · exact ⟨_, _, _, (List.cons.inj h0).1⟩
          · exact ⟨_, _, _, (List.cons.inj h0).1⟩
        rw [hv] at ht hc
        have ht' : DataW.trod enc Tryd.prog W 0 spare held n 32 (Value.slice a1 l1 c1).cells.toList = some (D i, Pl i) := ht
        obtain ⟨p, hp, hr, hn, hz⟩ := open_opts ht' (fun k hk => by
          refine hw _ ?_
          rw [hx, DataW.weights, und25o]
          simp only [List.mem_cons, List.mem_append]
          exact .inr (.inl (mem_all hk (List.mem_map.2 ⟨i, List.mem_range.2 hil, rfl⟩))))
        subst hp
        exact ⟨p, fun _ => ⟨⟨a1, c1, hc, hr, hn⟩, hz⟩⟩
      · exact ⟨[], fun h => absurd h hil⟩
    refine ⟨fun i => Classical.choose (key i), hl, fun i hil => ?_, fun i hil => (Classical.choose_spec (key i) hil).2⟩
    obtain ⟨⟨a1, c1, h1, h2, h3⟩, _⟩ := Classical.choose_spec (key i) hil
    exact ⟨b, a1, c1, rfl, h1, h2, h3⟩
theorem und24o : Tryd.prog.underlying 24 = some (.struct (Tryd.prog.fieldsOf 24)) := by kernel_rfl
theorem cells24 : Tryd.prog.cellsOf 24 = 6 := by kernel_rfl
theorem fields24 : (Tryd.prog.fieldsOf 24).toList.map (fun f => (f.type, f.offset, Tryd.prog.cellsOf f.type)) = [(22, 0, 1), (22, 1, 1), (22, 2, 1), (22, 3, 1), (4, 4, 1), (3, 5, 1)] := by kernel_rfl
theorem und22c : Tryd.prog.underlying 22 = some (.int .u32) := by kernel_rfl
theorem und4c : Tryd.prog.underlying 4 = some .bool := by kernel_rfl
theorem und3c : Tryd.prog.underlying 3 = some (.int .i64) := by kernel_rfl
theorem u32_of {H : Type} {enc : TypeId × Value → H} {W : World} {spare : Nat → Bool} {held : Bool} {n : Nat} {v : Value} {y : DataW H × List MemPlace} (h : DataW.trod enc Tryd.prog W 0 spare held n 22 [v] = some y) : ∃ u : UInt32, v = .int .u32 (nv u) := by
  obtain ⟨z, h0, _, hw⟩ := DataW.trod_int und22c h
  simp at h0
  subst h0
  have hb : 0 ≤ z ∧ z ≤ 4294967295 := by simpa [Lit.wf, IntKind.min, IntKind.max, IntKind.signed, IntKind.bits] using hw
  obtain ⟨k, rfl⟩ := Int.eq_ofNat_of_zero_le hb.1
  refine ⟨UInt32.ofNat k, ?_⟩
  rw [show nv (UInt32.ofNat k) = (k : Int) from by unfold nv; simp; omega]
theorem conf_cells {H : Type} {enc : TypeId × Value → H} {W : World} {spare : Nat → Bool} {held : Bool} {n : Nat} {fs : Array Field} {cs : List Value} {ys : List (DataW H × List MemPlace)}
    (hfs : fs.toList.map (fun f => (f.type, f.offset, Tryd.prog.cellsOf f.type)) = [(22, 0, 1), (22, 1, 1), (22, 2, 1), (22, 3, 1), (4, 4, 1), (3, 5, 1)]) (hcl : cs.length = 6) (hyl : ys.length = fs.size)
    (hf : ∀ (i : Nat) (f : Field), fs[i]? = some f → DataW.trod enc Tryd.prog W 0 spare held n f.type ((cs.drop f.offset).take (Tryd.prog.cellsOf f.type)) = ys[i]?) :
    ∃ c : Conf, cs = c.cells.toList := by
  obtain ⟨l⟩ := fs
  obtain ⟨f0, f1, f2, f3, f4, f5, rfl⟩ := list6 l (by have := congrArg List.length hfs; simpa using this)
  simp only [List.map_cons, List.map_nil, List.cons.injEq, Prod.mk.injEq, and_true] at hfs
  obtain ⟨⟨t0, o0, k0⟩, ⟨t1, o1, k1⟩, ⟨t2, o2, k2⟩, ⟨t3, o3, k3⟩, ⟨t4, o4, k4⟩, t5, o5, k5⟩ := hfs
  have e0 := hf 0 f0 rfl
  have e1 := hf 1 f1 rfl
  have e2 := hf 2 f2 rfl
  have e3 := hf 3 f3 rfl
  have e4 := hf 4 f4 rfl
  have e5 := hf 5 f5 rfl
  rw [k0, o0, t0] at e0
  rw [k1, o1, t1] at e1
  rw [k2, o2, t2] at e2
  rw [k3, o3, t3] at e3
  rw [k4, o4, t4] at e4
  rw [k5, o5, t5] at e5
  obtain ⟨v0, v1, v2, v3, v4, v5, rfl⟩ := list6 cs hcl
  obtain ⟨y0, y1, y2, y3, y4, y5, rfl⟩ := list6 ys hyl
  obtain ⟨u0, rfl⟩ := u32_of e0
  obtain ⟨u1, rfl⟩ := u32_of e1
  obtain ⟨u2, rfl⟩ := u32_of e2
  obtain ⟨u3, rfl⟩ := u32_of e3
  obtain ⟨b, h4, _⟩ := DataW.trod_bool und4c e4
  obtain ⟨z, h5, _⟩ := DataW.trod_int und3c e5
  simp at h4 h5
  subst h4 h5
  exact ⟨⟨u0, u1, u2, u3, b, z⟩, rfl⟩
set_option maxRecDepth 100000 in
theorem open_conf {H : Type} {enc : TypeId × Value → H} {W : World} {r : Reach} {b0 : Nat} {spare : Nat → Bool} {held : Bool} {v : Value} {d : DataW H} {p : List MemPlace} (hv : Value.okWide Tryd.prog W r b0 24 v) (h : DataW.Trod enc Tryd.prog W 0 spare held 24 v d p) :
    ∃ c : Conf, v = .agg c.cells := by
  obtain ⟨cs, rfl, hsz⟩ := okWide_struct und24o hv
  obtain ⟨fuel, hf⟩ := h
  obtain ⟨xs, n, _, _, hcl, hxl, hg⟩ := DataW.trod_struct und24o hf
  rw [cells24] at hcl
  obtain ⟨c, hz⟩ := conf_cells fields24 hcl hxl hg
  obtain ⟨l⟩ := cs
  simp [Value.cells] at hz
  subst hz
  exact ⟨c, rfl⟩
end Go.Proofs.YtlcckkdkcbelhaaDoor
