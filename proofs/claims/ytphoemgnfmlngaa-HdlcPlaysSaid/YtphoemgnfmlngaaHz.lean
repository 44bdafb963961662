/-
  Layer 4 (hdlc): the steps that came in, as the row has them.
-/
import Derived.Test.YtphoemgnfmlngaaHx
import Derived.Deep.Strs
import Derived.SizedLaws
set_option linter.unusedVariables false
namespace Go.Proofs.Ytphoemgnfmlngaa
open Go.ChangeShapes Go.WideShapes Go.Deep Go.RowKit

theorem u58_ : Try.prog.underlying 58 = some (.slice 67) := by kernel_rfl
theorem u67_ : Try.prog.underlying 67 = some (.struct (Try.prog.fieldsOf 67)) := by kernel_rfl
theorem u9_ : Try.prog.underlying 9 = some .string := by kernel_rfl
theorem u4_ : Try.prog.underlying 4 = some .bool := by kernel_rfl
theorem u3_ : Try.prog.underlying 3 = some (.int .i64) := by kernel_rfl
theorem u37_ : Try.prog.underlying 37 = some (.int .u32) := by kernel_rfl
theorem cells67_ : Try.prog.cellsOf 67 = 5 := by kernel_rfl
theorem fields67_ : (Try.prog.fieldsOf 67).toList.map (fun f => (f.type, f.offset, Try.prog.cellsOf f.type)) = [(9, 0, 1), (4, 1, 1), (3, 2, 1), (37, 3, 1), (4, 4, 1)] := by kernel_rfl
theorem types67_ : (Try.prog.fieldsOf 67).toList.map (·.type) = [9, 4, 3, 37, 4] := by kernel_rfl
theorem list5_ {α : Type} (l : List α) (h : l.length = 5) : ∃ a b c d e, l = [a, b, c, d, e] := by
  match l, h with
  | [a, b, c, d, e], _ => exact ⟨a, b, c, d, e, rfl⟩
theorem hst_cells {H : Type} {enc : TypeId × Value → H} {W : World} {spare : Nat → Bool} {held : Bool} {n : Nat} {fs : Array Field} {cs : List Value} {ys : List (DataW H × List MemPlace)}
    (hfs : fs.toList.map (fun f => (f.type, f.offset, Try.prog.cellsOf f.type)) = [(9, 0, 1), (4, 1, 1), (3, 2, 1), (37, 3, 1), (4, 4, 1)]) (hcl : cs.length = 5) (hyl : ys.length = fs.size)
    (hf : ∀ (i : Nat) (f : Field), fs[i]? = some f → DataW.trod enc Try.prog W 0 spare held n f.type ((cs.drop f.offset).take (Try.prog.cellsOf f.type)) = ys[i]?) :
    ∃ (z0 : ByteArray) (b1 : Bool) (z2 z3 : Int) (b4 : Bool) (y1 y2 y3 y4 : DataW H × List MemPlace), 0 ≤ z3 ∧ z3 ≤ 4294967295 ∧ cs = [.string z0, .bool b1, .int .i64 z2, .int .u32 z3, .bool b4] ∧ ys = [(.lit (.string z0.data.toList), []), y1, y2, y3, y4] := by
  obtain ⟨l⟩ := fs
  obtain ⟨f0, f1, f2, f3, f4, rfl⟩ := list5_ l (by have := congrArg List.length hfs; simpa using this)
  simp only [List.map_cons, List.map_nil, List.cons.injEq, Prod.mk.injEq, and_true] at hfs
  obtain ⟨⟨t0, o0, k0⟩, ⟨t1, o1, k1⟩, ⟨t2, o2, k2⟩, ⟨t3, o3, k3⟩, t4, o4, k4⟩ := hfs
  have e0 := hf 0 f0 rfl
  have e1 := hf 1 f1 rfl
  have e2 := hf 2 f2 rfl
  have e3 := hf 3 f3 rfl
  have e4 := hf 4 f4 rfl
  rw [k0, o0, t0] at e0
  rw [k1, o1, t1] at e1
  rw [k2, o2, t2] at e2
  rw [k3, o3, t3] at e3
  rw [k4, o4, t4] at e4
  obtain ⟨v0, v1, v2, v3, v4, rfl⟩ := list5_ cs hcl
  obtain ⟨y0, y1, y2, y3, y4, rfl⟩ := list5_ ys hyl
  obtain ⟨z0, h0, hy0, _⟩ := DataW.trod_string u9_ e0
  obtain ⟨z1, h1, _⟩ := DataW.trod_bool u4_ e1
  obtain ⟨z2, h2, _⟩ := DataW.trod_int u3_ e2
  obtain ⟨z3, h3, _, hw3⟩ := DataW.trod_int u37_ e3
  obtain ⟨z4, h4, _⟩ := DataW.trod_bool u4_ e4
  simp at h0 h1 h2 h3 h4
  subst h0 h1 h2 h3 h4 hy0
  have hb : 0 ≤ z3 ∧ z3 ≤ 4294967295 := by simpa [Lit.wf, IntKind.min, IntKind.max, IntKind.signed, IntKind.bits] using hw3
  exact ⟨_, _, _, _, _, _, _, _, _, hb.1, hb.2, rfl, rfl⟩
theorem mem_all_ {H : Type} {P : Program} {e : TypeId} {d : DataW H} {n : Nat} (hn : n ∈ d.weights P e) : ∀ {l : List (DataW H)}, d ∈ l → n ∈ DataW.weightsAll P e l
  | [], h => by simp at h
  | x :: l, h => by
    rw [DataW.weightsAll, List.mem_append]
    rcases List.mem_cons.1 h with rfl | h
    · exact .inl hn
    · exact .inr (mem_all_ hn h)
theorem open_hst {H : Type} {enc : TypeId × Value → H} {W : World} {spare : Nat → Bool} {held : Bool} {fuel : Nat} {a : Option Addr} {len cap : Nat} {x : DataW H × List MemPlace} (h : DataW.trod enc Try.prog W 0 spare held fuel 58 (Value.slice a len cap).cells.toList = some x)
    (hw : ∀ n ∈ x.1.weights Try.prog 58, n ≤ reachBytes) : ∃ f, HSteps W a len f ∧ len ≤ maxLen := by
  rcases open_slice u58_ h with ⟨hcs, _⟩ | ⟨b, l, c, m, n, D, Pl, hcs, _, hl, hm, hmm, hx, hi⟩
  · simp [Value.cells] at hcs
    obtain ⟨rfl, rfl, rfl⟩ := hcs
    exact ⟨fun _ => noHStp, fun i hi => absurd hi (Nat.not_lt_zero _), Nat.zero_le _⟩
  · simp [Value.cells] at hcs
    obtain ⟨rfl, rfl, rfl⟩ := hcs
    have hle : len ≤ m := by rw [hmm]; split <;> omega
    have key : ∀ i, ∃ p : HStp, i < len → W.cell? (b.add (i * 5)) = some (.string (str p.s)) ∧ W.cell? ⟨(b.add (i * 5)).block, (b.add (i * 5)).off + 1, none⟩ = some (.bool p.set) ∧
        W.cell? ⟨(b.add (i * 5)).block, (b.add (i * 5)).off + 2, none⟩ = some (.int .i64 p.most) ∧ W.cell? ⟨(b.add (i * 5)).block, (b.add (i * 5)).off + 3, none⟩ = some (.int .u32 (p.accm : Int)) ∧
        W.cell? ⟨(b.add (i * 5)).block, (b.add (i * 5)).off + 4, none⟩ = some (.bool p.cp) := by
      intro i
      by_cases hil : i < len
      · obtain ⟨cs', hc, ht⟩ := hi i (by omega)
        rw [cells67_] at hc
        obtain ⟨ys, n', _, hD, hlen, hyl, hf⟩ := DataW.trod_struct u67_ ht
        obtain ⟨_, hcl, hat⟩ := World.cells?_some hc
        obtain ⟨z0, b1, z2, z3, b4, y1, y2, y3, y4, hb0, hb1, rfl, rfl⟩ := hst_cells fields67_ hcl hyl hf
        obtain ⟨k, rfl⟩ := Int.eq_ofNat_of_zero_le hb0
        have hDi : D i = .agg [.lit (.string z0.data.toList), y1.1, y2.1, y3.1, y4.1] := by
          simp only [Prod.mk.injEq] at hD
          exact hD.1
        have hz : z0.data.toList.length ≤ reachBytes := by
          have hmem : z0.data.toList.length ∈ (D i).weights Try.prog 67 := by
            rw [hDi, DataW.weights, u67_]
            simp only [types67_, DataW.weightsEach, DataW.weights, List.mem_append, List.mem_cons]
            exact .inl (.inl trivial)
          refine hw _ ?_
          rw [hx, DataW.weights, u58_]
          simp only [List.mem_cons, List.mem_append]
          exact .inr (.inl (mem_all_ hmem (List.mem_map.2 ⟨i, List.mem_range.2 hil, rfl⟩)))
        have g0 := hat 0 (by omega)
        have g1 := hat 1 (by omega)
        have g2 := hat 2 (by omega)
        have g3 := hat 3 (by omega)
        have g4 := hat 4 (by omega)
        have ad : ∀ k, 0 < k → (b.add (i * 5)).add k = ⟨(b.add (i * 5)).block, (b.add (i * 5)).off + k, none⟩ := fun k hk => by
          unfold Addr.add
          split <;> rename_i h1
          · omega
          · rfl
        rw [show (b.add (i * 5)).add 0 = b.add (i * 5) from if_pos rfl] at g0
        rw [ad 1 (by omega)] at g1
        rw [ad 2 (by omega)] at g2
        rw [ad 3 (by omega)] at g3
        rw [ad 4 (by omega)] at g4
        refine ⟨⟨z0.data.toList, b1, z2, k, b4, by omega, by unfold reachBytes at hz; omega⟩, fun _ => ⟨?_, g1, g2, g3, g4⟩⟩
        rw [str_of]
        exact g0
      · exact ⟨noHStp, fun h => absurd h hil⟩
    refine ⟨fun i => Classical.choose (key i), fun i hil => ?_, by omega⟩
    obtain ⟨h0, h1, h2, h3, h4⟩ := Classical.choose_spec (key i) hil
    exact ⟨b, rfl, h0, h1, h2, h3, h4⟩
end Go.Proofs.Ytphoemgnfmlngaa
