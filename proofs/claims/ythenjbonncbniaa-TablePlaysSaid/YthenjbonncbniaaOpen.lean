/-
  Layer 25 (table): a script that came in, as the row has it.
-/
import Derived.Test.YthenjbonncbniaaSteps
import Derived.Deep.Slices
import Derived.Deep.Fields
import Derived.ChangeSame
set_option linter.unusedVariables false
namespace Go.Proofs.Ythenjbonncbniaa
open Go.ChangeShapes Go.WideShapes Go.Deep Go.RowKit

theorem und53 : Try.prog.underlying 53 = some (.slice 56) := by kernel_rfl
theorem und56 : Try.prog.underlying 56 = some (.struct (Try.prog.fieldsOf 56)) := by kernel_rfl
theorem cells56 : Try.prog.cellsOf 56 = 3 := by kernel_rfl
theorem fields56 : (Try.prog.fieldsOf 56).toList.map (fun f => (f.type, f.offset, Try.prog.cellsOf f.type)) = [(3, 0, 1), (3, 1, 1), (9, 2, 1)] := by kernel_rfl
theorem und3 : Try.prog.underlying 3 = some (.int .i64) := by kernel_rfl
theorem und9s : Try.prog.underlying 9 = some .string := by kernel_rfl
theorem list3 {α : Type} (l : List α) (h : l.length = 3) : ∃ a b c, l = [a, b, c] := by
  match l, h with
  | [a, b, c], _ => exact ⟨a, b, c, rfl⟩
theorem step_cells {H : Type} {enc : TypeId × Value → H} {W : World} {spare : Nat → Bool} {held : Bool} {n : Nat} {fs : Array Field} {cs : List Value} {ys : List (DataW H × List MemPlace)}
    (hfs : fs.toList.map (fun f => (f.type, f.offset, Try.prog.cellsOf f.type)) = [(3, 0, 1), (3, 1, 1), (9, 2, 1)]) (hcl : cs.length = 3) (hyl : ys.length = fs.size)
    (hf : ∀ (i : Nat) (f : Field), fs[i]? = some f → DataW.trod enc Try.prog W 0 spare held n f.type ((cs.drop f.offset).take (Try.prog.cellsOf f.type)) = ys[i]?) :
    ∃ z0 z1 z2, cs = [.int .i64 z0, .int .i64 z1, .string z2] := by
  obtain ⟨l⟩ := fs
  obtain ⟨f0, f1, f2, rfl⟩ := list3 l (by have := congrArg List.length hfs; simpa using this)
  simp only [List.map_cons, List.map_nil, List.cons.injEq, Prod.mk.injEq, and_true] at hfs
  obtain ⟨⟨t0, o0, k0⟩, ⟨t1, o1, k1⟩, t2, o2, k2⟩ := hfs
  have e0 := hf 0 f0 rfl
  have e1 := hf 1 f1 rfl
  have e2 := hf 2 f2 rfl
  rw [k0, o0, t0] at e0
  rw [k1, o1, t1] at e1
  rw [k2, o2, t2] at e2
  obtain ⟨v0, v1, v2, rfl⟩ := list3 cs hcl
  obtain ⟨y0, y1, y2, rfl⟩ := list3 ys hyl
  obtain ⟨z0, h0, _⟩ := DataW.trod_int und3 e0
  obtain ⟨z1, h1, _⟩ := DataW.trod_int und3 e1
  obtain ⟨z2, h2, _⟩ := DataW.trod_string und9s e2
  simp at h0 h1 h2
  subst h0 h1 h2
  exact ⟨_, _, _, rfl⟩
theorem open_steps {H : Type} {enc : TypeId × Value → H} {W : World} {spare : Nat → Bool} {held : Bool} {fuel : Nat} {a : Option Addr} {len cap : Nat} {x : DataW H × List MemPlace} (h : DataW.trod enc Try.prog W 0 spare held fuel 53 (Value.slice a len cap).cells.toList = some x) : ∃ f, IsSteps W a len cap f := by
  rcases open_slice und53 h with ⟨hcs, _⟩ | ⟨b, l, c, m, n, D, Pl, hcs, _, hl, hm, hmm, _, hi⟩
  · simp [Value.cells] at hcs
    exact ⟨fun _ => (0, 0, ⟨#[]⟩), .inl hcs.2.1⟩
  · simp [Value.cells] at hcs
    obtain ⟨rfl, rfl, rfl⟩ := hcs
    have hle : len ≤ m := by rw [hmm]; split <;> omega
    have key : ∀ i, ∃ p : Int × Int × ByteArray, i < len → W.cell? (b.add (i * 3)) = some (.int .i64 p.1) ∧ W.cell? (b.add (i * 3 + 1)) = some (.int .i64 p.2.1) ∧ W.cell? (b.add (i * 3 + 2)) = some (.string p.2.2) := by
      intro i
      by_cases hil : i < len
      · obtain ⟨cs', hc, ht⟩ := hi i (by omega)
        rw [cells56] at hc
        obtain ⟨ys, n', _, _, hlen, hyl, hf⟩ := DataW.trod_struct und56 ht
        obtain ⟨_, hcl, hat⟩ := World.cells?_some hc
        obtain ⟨z0, z1, z2, rfl⟩ := step_cells fields56 hcl hyl hf
        refine ⟨(z0, z1, z2), fun _ => ⟨?_, ?_, ?_⟩⟩
        · have := hat 0 (by omega); rw [show (b.add (i * 3)).add 0 = b.add (i * 3) from if_pos rfl] at this; exact this
        · have := hat 1 (by omega)
          rw [← Go.Deep.add_add, this]; rfl
        · have := hat 2 (by omega)
          rw [← Go.Deep.add_add, this]; rfl
      · exact ⟨(0, 0, ⟨#[]⟩), fun h => absurd h hil⟩
    exact ⟨fun i => Classical.choose (key i), .inr ⟨b, rfl, hl, fun i hil => Classical.choose_spec (key i) hil⟩⟩
end Go.Proofs.Ythenjbonncbniaa
