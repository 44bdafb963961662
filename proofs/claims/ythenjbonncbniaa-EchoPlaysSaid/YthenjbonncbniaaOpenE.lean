/-
  Layer 17 (echo): a script that came in, as the row has it.
-/
import Derived.Test.YthenjbonncbniaaStepsE
import Derived.Test.YthenjbonncbniaaOpen
import Derived.SizedLaws
set_option linter.unusedVariables false
namespace Go.Proofs.Ythenjbonncbniaa
open Go.ChangeShapes Go.WideShapes Go.Deep Go.RowKit

theorem und64 : Try.prog.underlying 64 = some (.slice 72) := by kernel_rfl
theorem und72 : Try.prog.underlying 72 = some (.struct (Try.prog.fieldsOf 72)) := by kernel_rfl
theorem und48 : Try.prog.underlying 48 = some (.struct (Try.prog.fieldsOf 48)) := by kernel_rfl
theorem cells72 : Try.prog.cellsOf 72 = 6 := by kernel_rfl
theorem fields72 : (Try.prog.fieldsOf 72).toList.map (fun f => (f.type, f.offset, Try.prog.cellsOf f.type)) = [(3, 0, 1), (2, 1, 1), (48, 2, 3), (41, 5, 1)] := by kernel_rfl
theorem fields48 : (Try.prog.fieldsOf 48).toList.map (fun f => (f.type, f.offset, Try.prog.cellsOf f.type)) = [(5, 0, 1), (5, 1, 1), (9, 2, 1)] := by kernel_rfl
theorem types72 : (Try.prog.fieldsOf 72).toList.map (·.type) = [3, 2, 48, 41] := by kernel_rfl
theorem types48 : (Try.prog.fieldsOf 48).toList.map (·.type) = [5, 5, 9] := by kernel_rfl
theorem und2 : Try.prog.underlying 2 = some (.int .i64) := by kernel_rfl
theorem und41 : Try.prog.underlying 41 = some (.int .u32) := by kernel_rfl
theorem und5' : Try.prog.underlying 5 = some (.int .u8) := by kernel_rfl
theorem list4 {α : Type} (l : List α) (h : l.length = 4) : ∃ a b c d, l = [a, b, c, d] := by
  match l, h with
  | [a, b, c, d], _ => exact ⟨a, b, c, d, rfl⟩
theorem list6 {α : Type} (l : List α) (h : l.length = 6) : ∃ a b c d e f, l = [a, b, c, d, e, f] := by
  match l, h with
  | [a, b, c, d, e, f], _ => exact ⟨a, b, c, d, e, f, rfl⟩
theorem pkt_cells {H : Type} {enc : TypeId × Value → H} {W : World} {spare : Nat → Bool} {held : Bool} {n : Nat} {fs : Array Field} {cs : List Value} {ys : List (DataW H × List MemPlace)}
    (hfs : fs.toList.map (fun f => (f.type, f.offset, Try.prog.cellsOf f.type)) = [(5, 0, 1), (5, 1, 1), (9, 2, 1)]) (hcl : cs.length = 3) (hyl : ys.length = fs.size)
    (hf : ∀ (i : Nat) (f : Field), fs[i]? = some f → DataW.trod enc Try.prog W 0 spare held n f.type ((cs.drop f.offset).take (Try.prog.cellsOf f.type)) = ys[i]?) :
    ∃ z0 z1 z2 y0 y1, cs = [.int .u8 z0, .int .u8 z1, .string z2] ∧ ys = [y0, y1, (.lit (.string z2.data.toList), [])] := by
  obtain ⟨l⟩ := fs
  obtain ⟨f0, f1, f2, rfl⟩ := list3 l (by have := congrArg List.length hfs; simpa using this)
  simp only [List.map_cons, List.map_nil, List.cons.injEq, Prod.mk.injEq, and_true] at hfs
  obtain ⟨⟨t0, o0, k0⟩, ⟨t1, o1, k1⟩, t2, o2, k2⟩ := hfs
  have e0 := hf 0 f0 rfl
  have e1 := hf 1 f1 rfl
  have e2 := hf 2 f2 rfl
  rw [k0, o0, t0] at e0
  rw [k1, o1, t1] at e1
  rw [k2, o2, t2] at e2
  obtain ⟨v0, v1, v2, rfl⟩ := list3 cs hcl
  obtain ⟨y0, y1, y2, rfl⟩ := list3 ys hyl
  obtain ⟨z0, h0, _⟩ := DataW.trod_int und5' e0
  obtain ⟨z1, h1, _⟩ := DataW.trod_int und5' e1
  obtain ⟨z2, h2, hy2, _⟩ := DataW.trod_string und9s e2
  simp at h0 h1 h2
  subst h0 h1 h2 hy2
  exact ⟨_, _, _, _, _, rfl, rfl⟩
theorem st_cells {H : Type} {enc : TypeId × Value → H} {W : World} {spare : Nat → Bool} {held : Bool} {n : Nat} {fs : Array Field} {cs : List Value} {ys : List (DataW H × List MemPlace)}
    (hfs : fs.toList.map (fun f => (f.type, f.offset, Try.prog.cellsOf f.type)) = [(3, 0, 1), (2, 1, 1), (48, 2, 3), (41, 5, 1)]) (hcl : cs.length = 6) (hyl : ys.length = fs.size)
    (hf : ∀ (i : Nat) (f : Field), fs[i]? = some f → DataW.trod enc Try.prog W 0 spare held n f.type ((cs.drop f.offset).take (Try.prog.cellsOf f.type)) = ys[i]?) :
    ∃ (z0 z1 z2 z3 : Int) (z4 : ByteArray) (z5 : Int) (y0 y1 y3 : DataW H × List MemPlace) (d0 d1 : DataW H) (p : List MemPlace), 0 ≤ z5 ∧ z5 ≤ 4294967295 ∧ cs = [.int .i64 z0, .int .i64 z1, .int .u8 z2, .int .u8 z3, .string z4, .int .u32 z5] ∧
      ys = [y0, y1, (.agg [d0, d1, .lit (.string z4.data.toList)], p), y3] := by
  obtain ⟨l⟩ := fs
  obtain ⟨f0, f1, f2, f3, rfl⟩ := list4 l (by have := congrArg List.length hfs; simpa using this)
  simp only [List.map_cons, List.map_nil, List.cons.injEq, Prod.mk.injEq, and_true] at hfs
  obtain ⟨⟨t0, o0, k0⟩, ⟨t1, o1, k1⟩, ⟨t2, o2, k2⟩, t3, o3, k3⟩ := hfs
  have e0 := hf 0 f0 rfl
  have e1 := hf 1 f1 rfl
  have e2 := hf 2 f2 rfl
  have e3 := hf 3 f3 rfl
  rw [k0, o0, t0] at e0
  rw [k1, o1, t1] at e1
  rw [k2, o2, t2] at e2
  rw [k3, o3, t3] at e3
  obtain ⟨v0, v1, v2, v3, v4, v5, rfl⟩ := list6 cs hcl
  obtain ⟨y0, y1, y2, y3, rfl⟩ := list4 ys hyl
  obtain ⟨z0, h0, _⟩ := DataW.trod_int und3 e0
  obtain ⟨z1, h1, _⟩ := DataW.trod_int und2 e1
  obtain ⟨z5, h5, _, hw5⟩ := DataW.trod_int und41 e3
  obtain ⟨xs, n', _, hx, hcl2, hxl, hf2⟩ := DataW.trod_struct und48 e2
  obtain ⟨z2, z3, z4, d0, d1, hcs2, hys2⟩ := pkt_cells fields48 rfl hxl hf2
  simp at h0 h1 h5 hcs2
  obtain ⟨q2, q3, q4⟩ := hcs2
  subst h0 h1 h5 q2 q3 q4 hx hys2
  have hb : 0 ≤ z5 ∧ z5 ≤ 4294967295 := by simpa [Lit.wf, IntKind.min, IntKind.max, IntKind.signed, IntKind.bits] using hw5
  exact ⟨_, _, _, _, _, _, _, _, _, _, _, _, hb.1, hb.2, rfl, rfl⟩
theorem und40 : Try.prog.underlying 40 = some (.struct (Try.prog.fieldsOf 40)) := by kernel_rfl
theorem cells40 : Try.prog.cellsOf 40 = 2 := by kernel_rfl
theorem fields40 : (Try.prog.fieldsOf 40).toList.map (fun f => (f.type, f.offset, Try.prog.cellsOf f.type)) = [(3, 0, 1), (3, 1, 1)] := by kernel_rfl
theorem list2 {α : Type} (l : List α) (h : l.length = 2) : ∃ a b, l = [a, b] := by
  match l, h with
  | [a, b], _ => exact ⟨a, b, rfl⟩
theorem conf_cells {H : Type} {enc : TypeId × Value → H} {W : World} {spare : Nat → Bool} {held : Bool} {n : Nat} {fs : Array Field} {cs : List Value} {ys : List (DataW H × List MemPlace)}
    (hfs : fs.toList.map (fun f => (f.type, f.offset, Try.prog.cellsOf f.type)) = [(3, 0, 1), (3, 1, 1)]) (hcl : cs.length = 2) (hyl : ys.length = fs.size)
    (hf : ∀ (i : Nat) (f : Field), fs[i]? = some f → DataW.trod enc Try.prog W 0 spare held n f.type ((cs.drop f.offset).take (Try.prog.cellsOf f.type)) = ys[i]?) :
    ∃ z0 z1, cs = [.int .i64 z0, .int .i64 z1] := by
  obtain ⟨l⟩ := fs
  obtain ⟨f0, f1, rfl⟩ := list2 l (by have := congrArg List.length hfs; simpa using this)
  simp only [List.map_cons, List.map_nil, List.cons.injEq, Prod.mk.injEq, and_true] at hfs
  obtain ⟨⟨t0, o0, k0⟩, t1, o1, k1⟩ := hfs
  have e0 := hf 0 f0 rfl
  have e1 := hf 1 f1 rfl
  rw [k0, o0, t0] at e0
  rw [k1, o1, t1] at e1
  obtain ⟨v0, v1, rfl⟩ := list2 cs hcl
  obtain ⟨y0, y1, rfl⟩ := list2 ys hyl
  obtain ⟨z0, h0, _⟩ := DataW.trod_int und3 e0
  obtain ⟨z1, h1, _⟩ := DataW.trod_int und3 e1
  simp at h0 h1
  subst h0 h1
  exact ⟨_, _, rfl⟩
theorem open_conf {H : Type} {enc : TypeId × Value → H} {W : World} {r : Reach} {b0 : Nat} {spare : Nat → Bool} {held : Bool} {v : Value} {d : DataW H} {p : List MemPlace} (hv : Value.okWide Try.prog W r b0 40 v) (h : DataW.Trod enc Try.prog W 0 spare held 40 v d p) :
    ∃ e m, v = .agg #[.int .i64 e, .int .i64 m] := by
  obtain ⟨cs, rfl, hsz⟩ := okWide_struct und40 hv
  obtain ⟨fuel, hf⟩ := h
  obtain ⟨xs, n, _, _, hcl, hxl, hg⟩ := DataW.trod_struct und40 hf
  rw [cells40] at hcl
  obtain ⟨z0, z1, hz⟩ := conf_cells fields40 hcl hxl hg
  obtain ⟨l⟩ := cs
  simp [Value.cells] at hz
  subst hz
  exact ⟨z0, z1, rfl⟩
theorem mem_all {H : Type} {P : Program} {e : TypeId} {d : DataW H} {n : Nat} (hn : n ∈ d.weights P e) : ∀ {l : List (DataW H)}, d ∈ l → n ∈ DataW.weightsAll P e l
  | [], h => by simp at h
  | x :: l, h => by
    rw [DataW.weightsAll, List.mem_append]
    rcases List.mem_cons.1 h with rfl | h
    · exact .inl hn
    · exact .inr (mem_all hn h)
theorem open_st {H : Type} {enc : TypeId × Value → H} {W : World} {spare : Nat → Bool} {held : Bool} {fuel : Nat} {a : Option Addr} {len cap : Nat} {x : DataW H × List MemPlace} (h : DataW.trod enc Try.prog W 0 spare held fuel 64 (Value.slice a len cap).cells.toList = some x)
    (hw : ∀ n ∈ x.1.weights Try.prog 64, n ≤ reachBytes) : ∃ f, IsSt W a len cap f := by
  rcases open_slice und64 h with ⟨hcs, _⟩ | ⟨b, l, c, m, n, D, Pl, hcs, _, hl, hm, hmm, hx, hi⟩
  · simp [Value.cells] at hcs
    exact ⟨fun _ => noStp, .inl hcs.2.1⟩
  · simp [Value.cells] at hcs
    obtain ⟨rfl, rfl, rfl⟩ := hcs
    have hle : len ≤ m := by rw [hmm]; split <;> omega
    have key : ∀ i, ∃ p : Stp, i < len → W.cell? (b.add (i * 6)) = some (.int .i64 p.what) ∧ W.cell? (b.add (i * 6 + 1)) = some (.int .i64 p.after) ∧ W.cell? (b.add (i * 6 + 2)) = some (.int .u8 p.code) ∧
        W.cell? (b.add (i * 6 + 3)) = some (.int .u8 p.id) ∧ W.cell? (b.add (i * 6 + 4)) = some (.string p.data) ∧ W.cell? (b.add (i * 6 + 5)) = some (.int .u32 (p.magic : Int)) := by
      intro i
      by_cases hil : i < len
      · obtain ⟨cs', hc, ht⟩ := hi i (by omega)
        rw [cells72] at hc
        obtain ⟨ys, n', _, hD, hlen, hyl, hf⟩ := DataW.trod_struct und72 ht
        obtain ⟨_, hcl, hat⟩ := World.cells?_some hc
        obtain ⟨z0, z1, z2, z3, z4, z5, y0, y1, y3, d0, d1, p, hb0, hb1, rfl, rfl⟩ := st_cells fields72 hcl hyl hf
        obtain ⟨k, rfl⟩ := Int.eq_ofNat_of_zero_le hb0
        have hDi : D i = .agg [y0.1, y1.1, .agg [d0, d1, .lit (.string z4.data.toList)], y3.1] := by
          simp only [Prod.mk.injEq] at hD
          exact hD.1
        have hz : z4.size ≤ reachBytes := by
          have hmem : z4.size ∈ (D i).weights Try.prog 72 := by
            rw [hDi, DataW.weights, und72]
            simp only [types72, DataW.weightsEach, DataW.weights, und48, types48, List.mem_append, List.mem_cons]
            refine .inr (.inr (.inl (.inr (.inr (.inl (.inl ?_))))))
            rw [Array.length_toList]; rfl
          refine hw _ ?_
          rw [hx, DataW.weights, und64]
          simp only [List.mem_cons, List.mem_append]
          exact .inr (.inl (mem_all hmem (List.mem_map.2 ⟨i, List.mem_range.2 hil, rfl⟩)))
        refine ⟨⟨z0, z1, z2, z3, z4, k, by omega, by unfold reachBytes at hz; omega⟩, fun _ => ⟨?_, ?_, ?_, ?_, ?_, ?_⟩⟩
        · have := hat 0 (by omega); rw [show (b.add (i * 6)).add 0 = b.add (i * 6) from if_pos rfl] at this; exact this
        · have := hat 1 (by omega); rw [← Go.Deep.add_add, this]; rfl
        · have := hat 2 (by omega); rw [← Go.Deep.add_add, this]; rfl
        · have := hat 3 (by omega); rw [← Go.Deep.add_add, this]; rfl
        · have := hat 4 (by omega); rw [← Go.Deep.add_add, this]; rfl
        · have := hat 5 (by omega); rw [← Go.Deep.add_add, this]; rfl
      · exact ⟨noStp, fun h => absurd h hil⟩
    exact ⟨fun i => Classical.choose (key i), .inr ⟨b, rfl, hl, fun i hil => Classical.choose_spec (key i) hil⟩⟩
end Go.Proofs.Ythenjbonncbniaa
