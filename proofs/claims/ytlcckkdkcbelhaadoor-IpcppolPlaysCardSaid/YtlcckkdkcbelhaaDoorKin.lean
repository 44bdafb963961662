/-
  Layer 15 (ipcppol): the two tables of kinds, as the card's laid data give them to the walks.
-/
import Derived.Test.YtlcckkdkcbelhaaDoorRows
import Derived.LaidMore
import Derived.OpenShut
import Derived.ProofKit
import Derived.Maps.Keyed
import Derived.Lib.Hide
import Derived.Below
import Derived.KernelRfl
set_option linter.unusedVariables false
set_option linter.unusedSimpArgs false
namespace Go.Proofs.YtlcckkdkcbelhaaDoor
open Go.ChangeShapes Go.WideShapes Go.ChangeAt Go.WideElems Go.Maps Go.RowKit

theorem gPol : Tryd.prog.globalNamed "halyard/ipcppol.kinds" = some 0 := by kernel_rfl
theorem gOpt : Tryd.prog.globalNamed "halyard/ipcpopt.kinds" = some 1 := by kernel_rfl
theorem tPol : (Tryd.prog.globals[0]?).map (·.type) = some 91 := by kernel_rfl
theorem tOpt : (Tryd.prog.globals[1]?).map (·.type) = some 102 := by kernel_rfl
theorem und91 : Tryd.prog.underlying 91 = some (.map 5 90) := by kernel_rfl
theorem und90 : Tryd.prog.underlying 90 = some (.struct (Tryd.prog.fieldsOf 90)) := by kernel_rfl
theorem und73 : Tryd.prog.underlying 73 = some (.struct (Tryd.prog.fieldsOf 73)) := by kernel_rfl
theorem und102 : Tryd.prog.underlying 102 = some (.array 3 73) := by kernel_rfl
theorem und5 : Tryd.prog.underlying 5 = some (.int .u8) := by kernel_rfl
theorem cells90 : Tryd.prog.cellsOf 90 = 4 := by kernel_rfl
theorem cells73 : Tryd.prog.cellsOf 73 = 2 := by kernel_rfl
theorem cells102 : Tryd.prog.cellsOf 102 = 6 := by kernel_rfl
theorem fields90 : (Tryd.prog.fieldsOf 90).toList.map (fun f => (f.type, f.offset, Tryd.prog.cellsOf f.type)) = [(85, 0, 1), (86, 1, 1), (87, 2, 1), (88, 3, 1)] := by kernel_rfl
theorem fields73 : (Tryd.prog.fieldsOf 73).toList.map (fun f => (f.type, f.offset, Tryd.prog.cellsOf f.type)) = [(5, 0, 1), (71, 1, 1)] := by kernel_rfl
theorem info90 : (Tryd.prog.info? 90).map (·.zero) = some (some (.agg #[.nilFunc, .nilFunc, .nilFunc, .nilFunc])) := by kernel_rfl
theorem zero90 (w : World) : (zeroValue 90).run Tryd.prog w = .ok (.agg #[.nilFunc, .nilFunc, .nilFunc, .nilFunc]) w := by
  obtain ⟨i, hi, hz⟩ := Option.map_eq_some_iff.1 info90
  simp [zeroValue, typeInfo, hi, hz]
theorem list2 {α : Type} (l : List α) (h : l.length = 2) : ∃ a b, l = [a, b] := by
  match l, h with
  | [a, b], _ => exact ⟨a, b, rfl⟩
theorem list4 {α : Type} (l : List α) (h : l.length = 4) : ∃ a b c d, l = [a, b, c, d] := by
  match l, h with
  | [a, b, c, d], _ => exact ⟨a, b, c, d, rfl⟩
theorem list6 {α : Type} (l : List α) (h : l.length = 6) : ∃ a b c d e f, l = [a, b, c, d, e, f] := by
  match l, h with
  | [a, b, c, d, e, f], _ => exact ⟨a, b, c, d, e, f, rfl⟩
theorem list3 {α : Type} (l : List α) (h : l.length = 3) : ∃ a b c, l = [a, b, c] := by
  match l, h with
  | [a, b, c], _ => exact ⟨a, b, c, rfl⟩
/-- The one function of a name. -/
def One (b : UInt8) (r : List UInt8) (f : FuncId) : Prop := ((List.range Tryd.prog.funcs.size).filter fun f => (Tryd.prog.funcs[f]?).any (·.name.toUTF8.data.toList == b :: r)) = [f]
theorem fu85 : ∃ ps rs va, Tryd.prog.underlying 85 = some (.func ps rs va) := ⟨_, _, _, Tryd.underlying85⟩
theorem fu86 : ∃ ps rs va, Tryd.prog.underlying 86 = some (.func ps rs va) := ⟨_, _, _, Tryd.underlying86⟩
theorem fu87 : ∃ ps rs va, Tryd.prog.underlying 87 = some (.func ps rs va) := ⟨_, _, _, Tryd.underlying87⟩
theorem fu88 : ∃ ps rs va, Tryd.prog.underlying 88 = some (.func ps rs va) := ⟨_, _, _, Tryd.underlying88⟩
theorem fu71 : ∃ ps rs va, Tryd.prog.underlying 71 = some (.func ps rs va) := ⟨_, _, _, Tryd.underlying71⟩
theorem fn_is {W : World} {sp : Nat → Bool} {t : TypeId} {n : Nat} {v : Value} {y : DataW (List UInt8) × List MemPlace} {b : UInt8} {r : List UInt8} {f : FuncId} (ht : ∃ ps rs va, Tryd.prog.underlying t = some (.func ps rs va)) (o : One b r f)
    (h : DataW.trod (funcToken Tryd.prog) Tryd.prog W 0 sp true n t [v] = some y) (hy : y.1 = .held (b :: r)) : v = .func (.func f) #[] #[] := by
  obtain ⟨ps, rs, va, ht⟩ := ht
  obtain ⟨y1, y2⟩ := y
  simp only at hy
  subst hy
  exact func_of_trod ht o h
theorem pol_cells {W : World} {sp : Nat → Bool} {n : Nat} {fs : Array Field} {cs : List Value} {ys : List (DataW (List UInt8) × List MemPlace)} {b1 b2 b3 b4 : UInt8} {r1 r2 r3 r4 : List UInt8} {f1 f2 f3 f4 : FuncId}
    (hfs : fs.toList.map (fun f => (f.type, f.offset, Tryd.prog.cellsOf f.type)) = [(85, 0, 1), (86, 1, 1), (87, 2, 1), (88, 3, 1)]) (hcl : cs.length = 4) (hyl : ys.length = fs.size)
    (hf : ∀ (i : Nat) (f : Field), fs[i]? = some f → DataW.trod (funcToken Tryd.prog) Tryd.prog W 0 sp true n f.type ((cs.drop f.offset).take (Tryd.prog.cellsOf f.type)) = ys[i]?)
    (hy : ys.map (·.1) = [.held (b1 :: r1), .held (b2 :: r2), .held (b3 :: r3), .held (b4 :: r4)]) (o1 : One b1 r1 f1) (o2 : One b2 r2 f2) (o3 : One b3 r3 f3) (o4 : One b4 r4 f4) :
    cs = [.func (.func f1) #[] #[], .func (.func f2) #[] #[], .func (.func f3) #[] #[], .func (.func f4) #[] #[]] := by
  obtain ⟨l⟩ := fs
  obtain ⟨g0, g1, g2, g3, rfl⟩ := list4 l (by have := congrArg List.length hfs; simpa using this)
  simp only [List.map_cons, List.map_nil, List.cons.injEq, Prod.mk.injEq, and_true] at hfs
  obtain ⟨⟨t0, p0, k0⟩, ⟨t1, p1, k1⟩, ⟨t2, p2, k2⟩, t3, p3, k3⟩ := hfs
  have e0 := hf 0 g0 rfl
  have e1 := hf 1 g1 rfl
  have e2 := hf 2 g2 rfl
  have e3 := hf 3 g3 rfl
  rw [k0, p0, t0] at e0
  rw [k1, p1, t1] at e1
  rw [k2, p2, t2] at e2
  rw [k3, p3, t3] at e3
  obtain ⟨v0, v1, v2, v3, rfl⟩ := list4 cs hcl
  obtain ⟨y0, y1, y2, y3, rfl⟩ := list4 ys hyl
  simp only [List.map_cons, List.map_nil, List.cons.injEq, and_true] at hy
  obtain ⟨h0, h1, h2, h3⟩ := hy
  obtain rfl := fn_is fu85 o1 e0 h0
  obtain rfl := fn_is fu86 o2 e1 h1
  obtain rfl := fn_is fu87 o3 e2 h2
  obtain rfl := fn_is fu88 o4 e3 h3
  rfl
theorem opt_cells {W : World} {sp : Nat → Bool} {n : Nat} {fs : Array Field} {cs : List Value} {ys : List (DataW (List UInt8) × List MemPlace)} {k : Int} {b1 : UInt8} {r1 : List UInt8} {f1 : FuncId}
    (hfs : fs.toList.map (fun f => (f.type, f.offset, Tryd.prog.cellsOf f.type)) = [(5, 0, 1), (71, 1, 1)]) (hcl : cs.length = 2) (hyl : ys.length = fs.size)
    (hf : ∀ (i : Nat) (f : Field), fs[i]? = some f → DataW.trod (funcToken Tryd.prog) Tryd.prog W 0 sp true n f.type ((cs.drop f.offset).take (Tryd.prog.cellsOf f.type)) = ys[i]?)
    (hy : ys.map (·.1) = [.lit (.int .u8 k), .held (b1 :: r1)]) (o1 : One b1 r1 f1) : cs = [.int .u8 k, .func (.func f1) #[] #[]] := by
  obtain ⟨l⟩ := fs
  obtain ⟨g0, g1, rfl⟩ := list2 l (by have := congrArg List.length hfs; simpa using this)
  simp only [List.map_cons, List.map_nil, List.cons.injEq, Prod.mk.injEq, and_true] at hfs
  obtain ⟨⟨t0, p0, k0⟩, t1, p1, k1⟩ := hfs
  have e0 := hf 0 g0 rfl
  have e1 := hf 1 g1 rfl
  rw [k0, p0, t0] at e0
  rw [k1, p1, t1] at e1
  obtain ⟨v0, v1, rfl⟩ := list2 cs hcl
  obtain ⟨y0, y1, rfl⟩ := list2 ys hyl
  simp only [List.map_cons, List.map_nil, List.cons.injEq, and_true] at hy
  obtain ⟨h0, h1⟩ := hy
  obtain ⟨z, hz, hy0, _⟩ := DataW.trod_int und5 e0
  simp at hz
  subst hz
  rw [hy0] at h0
  obtain rfl : z = k := by simpa using h0
  obtain rfl := fn_is fu71 o1 e1 h1
  rfl
end Go.Proofs.YtlcckkdkcbelhaaDoor
