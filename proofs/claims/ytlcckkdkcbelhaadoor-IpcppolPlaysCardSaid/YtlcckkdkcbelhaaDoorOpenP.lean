/-
  Layer 15 (ipcppol): the steps that came in, as the row has them.
-/
import Derived.Test.YtlcckkdkcbelhaaDoorOpenD
import Derived.Test.YtlcckkdkcbelhaaDoorRf4
set_option linter.unusedVariables false
set_option linter.unusedSimpArgs false
namespace Go.Proofs.YtlcckkdkcbelhaaDoor
open Go.ChangeShapes Go.WideShapes Go.Deep Go.RowKit

theorem und47o : Tryd.prog.underlying 47 = some (.slice 55) := by kernel_rfl
theorem und55o : Tryd.prog.underlying 55 = some (.struct (Tryd.prog.fieldsOf 55)) := by kernel_rfl
theorem cells55o : Tryd.prog.cellsOf 55 = 4 := by kernel_rfl
theorem fields55o : (Tryd.prog.fieldsOf 55).toList.map (fun f => (f.type, f.offset, Tryd.prog.cellsOf f.type)) = [(3, 0, 1), (32, 1, 1), (4, 2, 1), (5, 3, 1)] := by kernel_rfl
theorem types55o : (Tryd.prog.fieldsOf 55).toList.map (·.type) = [3, 32, 4, 5] := by kernel_rfl
theorem step_cells {H : Type} {enc : TypeId × Value → H} {W : World} {spare : Nat → Bool} {held : Bool} {n : Nat} {fs : Array Field} {cs : List Value} {ys : List (DataW H × List MemPlace)}
    (hfs : fs.toList.map (fun f => (f.type, f.offset, Tryd.prog.cellsOf f.type)) = [(3, 0, 1), (32, 1, 1), (4, 2, 1), (5, 3, 1)]) (hcl : cs.length = 4) (hyl : ys.length = fs.size)
    (hf : ∀ (i : Nat) (f : Field), fs[i]? = some f → DataW.trod enc Tryd.prog W 0 spare held n f.type ((cs.drop f.offset).take (Tryd.prog.cellsOf f.type)) = ys[i]?) :
    ∃ (z0 : Int) (v : Value) (b : Bool) (u : UInt8) (y0 y1 y2 y3 : DataW H × List MemPlace), cs = [.int .i64 z0, v, .bool b, .int .u8 (tv u)] ∧ ys = [y0, y1, y2, y3] ∧ DataW.trod enc Tryd.prog W 0 spare held n 32 [v] = some y1 := by
  obtain ⟨l⟩ := fs
  obtain ⟨f0, f1, f2, f3, rfl⟩ := list4 l (by have := congrArg List.length hfs; simpa using this)
  simp only [List.map_cons, List.map_nil, List.cons.injEq, Prod.mk.injEq, and_true] at hfs
  obtain ⟨⟨t0, o0, k0⟩, ⟨t1, o1, k1⟩, ⟨t2, o2, k2⟩, t3, o3, k3⟩ := hfs
  have e0 := hf 0 f0 rfl
  have e1 := hf 1 f1 rfl
  have e2 := hf 2 f2 rfl
  have e3 := hf 3 f3 rfl
  rw [k0, o0, t0] at e0
  rw [k1, o1, t1] at e1
  rw [k2, o2, t2] at e2
  rw [k3, o3, t3] at e3
  obtain ⟨v0, v1, v2, v3, rfl⟩ := list4 cs hcl
  obtain ⟨y0, y1, y2, y3, rfl⟩ := list4 ys hyl
  obtain ⟨z0, h0, _, _⟩ := DataW.trod_int und3c e0
  obtain ⟨b, h2, _⟩ := DataW.trod_bool und4c e2
  obtain ⟨z3, h3, _, hw3⟩ := DataW.trod_int und5o e3
  simp at h0 h2 h3
  subst h0 h2 h3
  have hb : 0 ≤ z3 ∧ z3 ≤ 255 := by simpa [Lit.wf, IntKind.min, IntKind.max, IntKind.signed, IntKind.bits] using hw3
  obtain ⟨k, rfl⟩ := Int.eq_ofNat_of_zero_le hb.1
  refine ⟨z0, v1, b, UInt8.ofNat k, y0, y1, y2, y3, ?_, rfl, e1⟩
  rw [show tv (UInt8.ofNat k) = (k : Int) from by unfold tv; simp; omega]
theorem open_steps {H : Type} {enc : TypeId × Value → H} {W : World} {spare : Nat → Bool} {held : Bool} {fuel : Nat} {a : Option Addr} {len cap : Nat} {x : DataW H × List MemPlace} (h : DataW.trod enc Tryd.prog W 0 spare held fuel 47 (Value.slice a len cap).cells.toList = some x)
    (hw : ∀ n ∈ x.1.weights Tryd.prog 47, n ≤ reachBytes) : ∃ f, Steps W a cap len f := by
  rcases open_slice und47o h with ⟨hcs, _⟩ | ⟨b, l, c, m, n, D, Pl, hcs, _, hl, hm, hmm, hx, hi⟩
  · simp [Value.cells] at hcs
    obtain ⟨rfl, rfl, rfl⟩ := hcs
    exact ⟨fun _ => ⟨0, [], false, 0⟩, Nat.le_refl _, fun i hi => absurd hi (Nat.not_lt_zero _), fun i hi => absurd hi (Nat.not_lt_zero _)⟩
  · simp [Value.cells] at hcs
    obtain ⟨rfl, rfl, rfl⟩ := hcs
    have hle : len ≤ m := by rw [hmm]; split <;> omega
    have key : ∀ i, ∃ p : Stp, i < len → (∃ a c, W.cell? (b.add (i * 4)) = some (.int .i64 p.doo) ∧ W.cell? ⟨(b.add (i * 4)).block, (b.add (i * 4)).off + 1, none⟩ = some (.slice a p.l.length c) ∧ W.cell? ⟨(b.add (i * 4)).block, (b.add (i * 4)).off + 2, none⟩ = some (.bool p.own) ∧
        W.cell? ⟨(b.add (i * 4)).block, (b.add (i * 4)).off + 3, none⟩ = some (.int .u8 (tv p.n)) ∧ Row W a c p.l ∧ (a = none → c = 0 ∧ p.l = [])) ∧ ∀ o ∈ p.l, o.d.size ≤ 140737488355328 := by
      intro i
      by_cases hil : i < len
      · obtain ⟨cs', hc, ht⟩ := hi i (by omega)
        rw [cells55o] at hc
        obtain ⟨ys, n', _, hD, hlen, hyl, hf⟩ := DataW.trod_struct und55o ht
        obtain ⟨_, hcl, hat⟩ := World.cells?_some hc
        obtain ⟨z0, v, bo, u, y0, y1, y2, y3, rfl, rfl, ht1⟩ := step_cells fields55o hcl hyl hf
        obtain ⟨a1, l1, c1, hv⟩ : ∃ a1 l1 c1, v = .slice a1 l1 c1 := by
          rcases open_slice und32o ht1 with ⟨h0, _⟩ | ⟨b1, l1, c1, _, _, _, _, h0, _⟩
          · exact ⟨_, _, _, (List.cons.inj h0).1⟩
          · exact ⟨_, _, _, (List.cons.inj h0).1⟩
        subst hv
        have hDi : D i = .agg [y0.1, y1.1, y2.1, y3.1] := by
          simp only [Prod.mk.injEq] at hD
          exact hD.1
        have ht' : DataW.trod enc Tryd.prog W 0 spare held n' 32 (Value.slice a1 l1 c1).cells.toList = some y1 := ht1
        obtain ⟨p, hp, hr, hn, hz⟩ := open_opts ht' (fun k hk => by
          have hmem : k ∈ (D i).weights Tryd.prog 55 := by
            rw [hDi, DataW.weights, und55o]
            simp only [types55o, DataW.weightsEach, List.mem_append, List.mem_cons]
            exact .inr (.inl hk)
          refine hw _ ?_
          rw [hx, DataW.weights, und47o]
          simp only [List.mem_cons, List.mem_append]
          exact .inr (.inl (mem_all hmem (List.mem_map.2 ⟨i, List.mem_range.2 hil, rfl⟩))))
        subst hp
        have g0 := hat 0 (by omega)
        have g1 := hat 1 (by omega)
        have g2 := hat 2 (by omega)
        have g3 := hat 3 (by omega)
        have ad : ∀ k, 0 < k → (b.add (i * 4)).add k = ⟨(b.add (i * 4)).block, (b.add (i * 4)).off + k, none⟩ := fun k hk => by
          unfold Addr.add
          split <;> rename_i h1
          · omega
          · rfl
        rw [show (b.add (i * 4)).add 0 = b.add (i * 4) from if_pos rfl] at g0
        rw [ad 1 (by omega)] at g1
        rw [ad 2 (by omega)] at g2
        rw [ad 3 (by omega)] at g3
        exact ⟨⟨z0, p, bo, u⟩, fun _ => ⟨⟨a1, c1, g0, g1, g2, g3, hr, hn⟩, hz⟩⟩
      · exact ⟨⟨0, [], false, 0⟩, fun h => absurd h hil⟩
    refine ⟨fun i => Classical.choose (key i), hl, fun i hil => ?_, fun i hil => (Classical.choose_spec (key i) hil).2⟩
    obtain ⟨⟨a1, c1, h1, h2, h3, h4, h5, h6⟩, _⟩ := Classical.choose_spec (key i) hil
    exact ⟨b, a1, c1, rfl, h1, h2, h3, h4, h5, h6⟩
end Go.Proofs.YtlcckkdkcbelhaaDoor
