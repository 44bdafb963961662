/-
  Layer 8 (option): a row of options that came in, as the row has it.
-/
import Derived.Test.YtjkhmnipffdliaaOpt
import Derived.Deep.Slices
import Derived.Deep.Fields
import Derived.ChangeSame
import Derived.SizedLaws
set_option linter.unusedVariables false
namespace Go.Proofs.Ytjkhmnipffdliaa
open Go.ChangeShapes Go.WideShapes Go.Deep Go.RowKit

theorem und22o : Try.prog.underlying 22 = some (.slice 32) := by kernel_rfl
theorem und32o : Try.prog.underlying 32 = some (.struct (Try.prog.fieldsOf 32)) := by kernel_rfl
theorem cells32o : Try.prog.cellsOf 32 = 2 := by kernel_rfl
theorem fields32o : (Try.prog.fieldsOf 32).toList.map (fun f => (f.type, f.offset, Try.prog.cellsOf f.type)) = [(5, 0, 1), (9, 1, 1)] := by kernel_rfl
theorem types32o : (Try.prog.fieldsOf 32).toList.map (·.type) = [5, 9] := by kernel_rfl
theorem und5o : Try.prog.underlying 5 = some (.int .u8) := by kernel_rfl
theorem und9o : Try.prog.underlying 9 = some .string := by kernel_rfl
theorem list2 {α : Type} (l : List α) (h : l.length = 2) : ∃ a b, l = [a, b] := by
  match l, h with
  | [a, b], _ => exact ⟨a, b, rfl⟩
theorem opt_cells {H : Type} {enc : TypeId × Value → H} {W : World} {spare : Nat → Bool} {held : Bool} {n : Nat} {fs : Array Field} {cs : List Value} {ys : List (DataW H × List MemPlace)}
    (hfs : fs.toList.map (fun f => (f.type, f.offset, Try.prog.cellsOf f.type)) = [(5, 0, 1), (9, 1, 1)]) (hcl : cs.length = 2) (hyl : ys.length = fs.size)
    (hf : ∀ (i : Nat) (f : Field), fs[i]? = some f → DataW.trod enc Try.prog W 0 spare held n f.type ((cs.drop f.offset).take (Try.prog.cellsOf f.type)) = ys[i]?) :
    ∃ (z0 : UInt8) (z1 : ByteArray) (y0 : DataW H × List MemPlace), cs = [.int .u8 (tv z0), .string z1] ∧ ys = [y0, (.lit (.string z1.data.toList), [])] := by
  obtain ⟨l⟩ := fs
  obtain ⟨f0, f1, rfl⟩ := list2 l (by have := congrArg List.length hfs; simpa using this)
  simp only [List.map_cons, List.map_nil, List.cons.injEq, Prod.mk.injEq, and_true] at hfs
  obtain ⟨⟨t0, o0, k0⟩, t1, o1, k1⟩ := hfs
  have e0 := hf 0 f0 rfl
  have e1 := hf 1 f1 rfl
  rw [k0, o0, t0] at e0
  rw [k1, o1, t1] at e1
  obtain ⟨v0, v1, rfl⟩ := list2 cs hcl
  obtain ⟨y0, y1, rfl⟩ := list2 ys hyl
  obtain ⟨z0, h0, _, hw0⟩ := DataW.trod_int und5o e0
  obtain ⟨z1, h1, hy1, _⟩ := DataW.trod_string und9o e1
  simp at h0 h1
  subst h0 h1 hy1
  have hb : 0 ≤ z0 ∧ z0 ≤ 255 := by simpa [Lit.wf, IntKind.min, IntKind.max, IntKind.signed, IntKind.bits] using hw0
  obtain ⟨k, rfl⟩ := Int.eq_ofNat_of_zero_le hb.1
  refine ⟨UInt8.ofNat k, z1, y0, ?_, rfl⟩
  rw [show tv (UInt8.ofNat k) = (k : Int) from by unfold tv; simp; omega]
theorem mem_all {H : Type} {P : Program} {e : TypeId} {d : DataW H} {n : Nat} (hn : n ∈ d.weights P e) : ∀ {l : List (DataW H)}, d ∈ l → n ∈ DataW.weightsAll P e l
  | [], h => by simp at h
  | x :: l, h => by
    rw [DataW.weightsAll, List.mem_append]
    rcases List.mem_cons.1 h with rfl | h
    · exact .inl hn
    · exact .inr (mem_all hn h)
theorem optCells_of (f : Nat → Opt) : ∀ (n s : Nat) (j : Nat) (u : Value), (optCells ((List.range' s n).map f))[j]? = some u → ∃ i, s ≤ i ∧ i < s + n ∧ ((j = (i - s) * 2 ∧ u = .int .u8 (tv (f i).t)) ∨ (j = (i - s) * 2 + 1 ∧ u = .string (f i).d)) := by
  intro n
  induction n with
  | zero => intro s j u h; simp [optCells] at h
  | succ n ih =>
    intro s j u h
    simp only [List.range'_succ, List.map_cons, optCells] at h
    match j, h with
    | 0, h => exact ⟨s, by omega, by omega, .inl ⟨by omega, by simpa using h.symm⟩⟩
    | 1, h => exact ⟨s, by omega, by omega, .inr ⟨by omega, by simpa using h.symm⟩⟩
    | j + 2, h =>
      obtain ⟨i, h1, h2, h3⟩ := ih (s + 1) j u h
      refine ⟨i, by omega, by omega, ?_⟩
      rcases h3 with ⟨h3, h4⟩ | ⟨h3, h4⟩
      · exact .inl ⟨by omega, h4⟩
      · exact .inr ⟨by omega, h4⟩
theorem open_opts {H : Type} {enc : TypeId × Value → H} {W : World} {spare : Nat → Bool} {held : Bool} {fuel : Nat} {a : Option Addr} {len cap : Nat} {x : DataW H × List MemPlace} (h : DataW.trod enc Try.prog W 0 spare held fuel 22 (Value.slice a len cap).cells.toList = some x)
    (hw : ∀ n ∈ x.1.weights Try.prog 22, n ≤ reachBytes) : ∃ l : List Opt, l.length = len ∧ Row W a cap l ∧ (a = none → cap = 0 ∧ l = []) ∧ ∀ o ∈ l, o.d.size ≤ 140737488355328 := by
  rcases open_slice und22o h with ⟨hcs, _⟩ | ⟨b, l, c, m, n, D, Pl, hcs, _, hl, hm, hmm, hx, hi⟩
  · simp [Value.cells] at hcs
    obtain ⟨rfl, rfl, rfl⟩ := hcs
    exact ⟨[], rfl, row_nil _ _ _, fun _ => ⟨rfl, rfl⟩, fun o ho => by simp at ho⟩
  · simp [Value.cells] at hcs
    obtain ⟨rfl, rfl, rfl⟩ := hcs
    have hle : len ≤ m := by rw [hmm]; split <;> omega
    have key : ∀ i, ∃ p : Opt, p.d.size ≤ 140737488355328 ∧ (i < len → W.cell? (b.add (i * 2)) = some (.int .u8 (tv p.t)) ∧ W.cell? (b.add (i * 2 + 1)) = some (.string p.d)) := by
      intro i
      by_cases hil : i < len
      · obtain ⟨cs', hc, ht⟩ := hi i (by omega)
        rw [cells32o] at hc
        obtain ⟨ys, n', _, hD, hlen, hyl, hf⟩ := DataW.trod_struct und32o ht
        obtain ⟨_, hcl, hat⟩ := World.cells?_some hc
        obtain ⟨z0, z1, y0, rfl, rfl⟩ := opt_cells fields32o hcl hyl hf
        have hDi : D i = .agg [y0.1, .lit (.string z1.data.toList)] := by
          simp only [Prod.mk.injEq] at hD
          exact hD.1
        have hz : z1.size ≤ reachBytes := by
          have hmem : z1.size ∈ (D i).weights Try.prog 32 := by
            rw [hDi, DataW.weights, und32o]
            simp only [types32o, DataW.weightsEach, DataW.weights, List.mem_append, List.mem_cons]
            refine .inr (.inl (.inl ?_))
            rw [Array.length_toList]; rfl
          refine hw _ ?_
          rw [hx, DataW.weights, und22o]
          simp only [List.mem_cons, List.mem_append]
          exact .inr (.inl (mem_all hmem (List.mem_map.2 ⟨i, List.mem_range.2 hil, rfl⟩)))
        refine ⟨⟨z0, z1⟩, by unfold reachBytes at hz; exact Nat.le_trans hz (by decide), fun _ => ⟨?_, ?_⟩⟩
        · have := hat 0 (by omega); rw [show (b.add (i * 2)).add 0 = b.add (i * 2) from if_pos rfl] at this; exact this
        · have := hat 1 (by omega); rw [← Go.Deep.add_add, this]; rfl
      · exact ⟨noOpt, by decide, fun h => absurd h hil⟩
    refine ⟨(List.range' 0 len).map fun i => Classical.choose (key i), by simp, ⟨by simpa using hl, .inr ⟨b, rfl, fun j u hj => ?_⟩⟩, (fun e => nomatch e), fun o ho => ?_⟩
    · obtain ⟨i, _, h2, h3⟩ := optCells_of _ _ _ _ _ hj
      have := (Classical.choose_spec (key i)).2 (by omega)
      rcases h3 with ⟨h3, h4⟩ | ⟨h3, h4⟩
      · rw [h3, h4]; exact this.1
      · rw [h3, h4]; exact this.2
    · obtain ⟨i, _, rfl⟩ := List.mem_map.1 ho
      exact (Classical.choose_spec (key i)).1
end Go.Proofs.Ytjkhmnipffdliaa
