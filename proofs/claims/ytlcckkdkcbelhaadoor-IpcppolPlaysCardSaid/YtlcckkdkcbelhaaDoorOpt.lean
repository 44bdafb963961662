/-
  Layer 15 (ipcppol), options: rows of options in memory; Long, Same, Equal, Alike, walked.
-/
import Derived.Test.YtlcckkdkcbelhaaDoorKinds
import Derived.Test.YtlcckkdkcbelhaaDoorWEqStruct
import Derived.Test.YtlcckkdkcbelhaaDoorWLast
import Derived.Test.YtlcckkdkcbelhaaDoorWMore
import Derived.WalkKit
import Derived.Deep.LoopGhost
import Derived.Deep.OwnRows
import Derived.BigQuiet
import Derived.Lib.Hide
import Derived.Outline
import Derived.Below
import Derived.KernelRfl
import Derived.Laws.AppendOwn
import Derived.Laws.Strings
import Derived.Maps.AppendAt
set_option linter.unusedVariables false
set_option linter.unusedSimpArgs false
namespace Go.Proofs.YtlcckkdkcbelhaaDoor
open Go.RowKit Go.Proofs.YtlcckkdkcbelhaaDoorW.PrintWords Go.Proofs.YtlcckkdkcbelhaaDoorW.PrintLast

/-- An option. -/
structure Opt where
  t : UInt8
  d : ByteArray
deriving DecidableEq
def noOpt : Opt := ⟨0, ⟨#[]⟩⟩
instance : Inhabited Opt := ⟨noOpt⟩
/-- A type's number. -/
def tv (u : UInt8) : Int := (u.toNat : Int)
theorem tv_inj {a b : UInt8} (h : tv a = tv b) : a = b := by
  unfold tv at h
  exact UInt8.toNat_inj.1 (by omega)
theorem tv_range (u : UInt8) : 0 ≤ tv u ∧ tv u ≤ 255 := by
  unfold tv; have := u.toNat_lt; omega
def cells1 (o : Opt) : List Value := [.int .u8 (tv o.t), .string o.d]
def optCells : List Opt → List Value
  | [] => []
  | o :: l => .int .u8 (tv o.t) :: .string o.d :: optCells l
theorem optCells_append (l m : List Opt) : optCells (l ++ m) = optCells l ++ optCells m := by
  induction l with
  | nil => rfl
  | cons o l ih => simp [optCells, ih]
theorem optCells_length (l : List Opt) : (optCells l).length = 2 * l.length := by
  induction l with
  | nil => rfl
  | cons o l ih => simp [optCells, ih]; omega
theorem optCells_at : ∀ (l : List Opt) (i : Nat) (h : i < l.length), (optCells l)[i * 2]? = some (.int .u8 (tv l[i].t)) ∧ (optCells l)[i * 2 + 1]? = some (.string l[i].d)
  | o :: l, 0, _ => ⟨rfl, rfl⟩
  | o :: l, i + 1, h => by
    have := optCells_at l i (by simpa using h)
    rw [show (i + 1) * 2 = i * 2 + 2 from by omega, show i * 2 + 2 + 1 = i * 2 + 1 + 2 from by omega]
    exact this
theorem optCells_one (l : List Opt) : ∀ u ∈ optCells l, u.oneCell' = true := by
  induction l with
  | nil => intro u h; simp [optCells] at h
  | cons o l ih =>
    intro u h
    simp only [optCells, List.mem_cons] at h
    rcases h with rfl | rfl | h
    · rfl
    · rfl
    · exact ih u h
theorem add_zero (g j : Nat) : (⟨g, 0, none⟩ : Addr).add j = ⟨g, j, none⟩ := by
  unfold Addr.add; split
  · subst_vars; rfl
  · simp
/-- A row of options, as it lies. -/
def Row (w : World) (a : Option Addr) (c : Nat) (l : List Opt) : Prop :=
  l.length ≤ c ∧ (l.length = 0 ∨ ∃ x, a = some x ∧ ∀ j u, (optCells l)[j]? = some u → w.cell? (x.add j) = some u)
def IsRow (w : World) (v : Value) (l : List Opt) : Prop := ∃ a c, v = .slice a l.length c ∧ Row w a c l
theorem Row.below {w W : World} {a : Option Addr} {c : Nat} {l : List Opt} (h : Row w a c l) (hb : Below w.heap.size w W) : Row W a c l := by
  refine ⟨h.1, ?_⟩
  rcases h.2 with h0 | ⟨x, e, hc⟩
  · exact .inl h0
  · exact .inr ⟨x, e, fun j u hj => (hb.cell (cell_lt (hc j u hj))).trans (hc j u hj)⟩
theorem IsRow.below {w W : World} {v : Value} {l : List Opt} (h : IsRow w v l) (hb : Below w.heap.size w W) : IsRow W v l := by
  obtain ⟨a, c, e, hr⟩ := h
  exact ⟨a, c, e, hr.below hb⟩
theorem Row.at_ {w : World} {a : Option Addr} {c : Nat} {l : List Opt} (h : Row w a c l) (i : Nat) (hi : i < l.length) :
    ∃ x, a = some x ∧ w.cell? (x.add (i * 2)) = some (.int .u8 (tv l[i].t)) ∧ w.cell? ⟨(x.add (i * 2)).block, (x.add (i * 2)).off + 1, none⟩ = some (.string l[i].d) := by
  rcases h.2 with h0 | ⟨x, e, hc⟩
  · omega
  · obtain ⟨h0, h1⟩ := optCells_at l i hi
    exact ⟨x, e, hc _ _ h0, by rw [← add_field _ _ 1 (by omega)]; exact hc _ _ h1⟩
theorem row_nil (w : World) (a : Option Addr) (c : Nat) : Row w a c [] := ⟨Nat.zero_le _, .inl rfl⟩
theorem row_own {w : World} {B : Nat} {v : Value} {l : List Opt} (h : w.ownsRow B 57 2 v l.length (optCells l)) : IsRow w v l := by
  rcases h.2 with ⟨hv, h0⟩ | ⟨g, cap, cur, rfl, hg, hh, hnc, hcm, hcs, ht⟩
  · exact ⟨none, 0, by rw [hv, h0], by rw [h0]; exact Nat.le_refl _, .inl h0⟩
  · refine ⟨_, cap, rfl, hnc, .inr ⟨_, rfl, fun j u hj => ?_⟩⟩
    have hjl : j < l.length * 2 := by have := (List.getElem?_eq_some_iff.1 hj).1; rw [optCells_length] at this; omega
    rw [add_zero, World.ownsRow.cellAt h j hjl]
    exact hj
end Go.Proofs.YtlcckkdkcbelhaaDoor
