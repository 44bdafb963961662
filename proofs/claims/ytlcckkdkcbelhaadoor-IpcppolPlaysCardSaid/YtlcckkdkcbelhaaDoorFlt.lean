/-
  Layer 8 (option): filter and its closures, Find, Without, and the document's, walked.
-/
import Derived.Test.YtlcckkdkcbelhaaDoorRd
set_option linter.unusedVariables false
set_option linter.unusedSimpArgs false
namespace Go.Proofs.YtlcckkdkcbelhaaDoor
open Go.RowKit Go.Proofs.YtlcckkdkcbelhaaDoorW.PrintWords Go.Proofs.YtlcckkdkcbelhaaDoorW.PrintLast

theorem info57 : (Tryd.prog.info? 57).map (fun i => (i.zero, i.size, i.bytes)) = some (some (.agg #[.int .u8 0, .string ⟨#[]⟩]), 2, 24) := by kernel_rfl
theorem und32 : Tryd.prog.underlying 32 = some (.slice 57) := by kernel_rfl
theorem cell_two (w : World) (x y : Value) (t : TypeId) : ∀ j u, [x, y][j]? = some u → (w.alloc (.cells #[x, y] t)).cell? ((⟨w.heap.size, 0, none⟩ : Addr).add j) = some u := by
  intro j u hj
  match j, hj with
  | 0, hj => simp at hj; subst hj; simp [Addr.add]
  | 1, hj => simp at hj; subst hj; simp [Addr.add]
  | j + 2, hj => simp at hj
theorem grown_below {w w' : World} (h : Below w.heap.size w w') : w.grownBy w' none := ⟨h.os, h.tape, h.output, h.size, fun k hk _ => h.block k hk⟩
theorem own_below {w w' : World} {B : Nat} {e : TypeId} {size : Nat} {v : Value} {n : Nat} {xs : List Value} (h : w.ownsRow B e size v n xs) (hb : Below w.heap.size w w') : w'.ownsRow B e size v n xs :=
  h.kept (grown_below hb) (Decidable.em _)
theorem two_cells {w w1 : World} (x y : Value) (t : TypeId) (hb : Below (w.alloc (.cells #[x, y] t)).heap.size (w.alloc (.cells #[x, y] t)) w1) : w1.cell? ⟨w.heap.size, 0, none⟩ = some x ∧ w1.cell? ⟨w.heap.size, 1, none⟩ = some y := by
  refine ⟨(hb.cell (p := ⟨w.heap.size, 0, none⟩) (by simp)).trans ?_, (hb.cell (p := ⟨w.heap.size, 1, none⟩) (by simp)).trans ?_⟩ <;> simp
def hasT (u : UInt8) (o : Opt) : Bool := decide (o.t = u)
def notT (u : UInt8) (o : Opt) : Bool := !decide (o.t = u)
theorem optCells_snoc (l : List Opt) (o : Opt) : optCells (l ++ [o]) = optCells l ++ [.int .u8 (tv o.t), .string o.d] := by rw [optCells_append]; rfl
theorem filter_snoc (p : Opt → Bool) (l : List Opt) (o : Opt) : (l ++ [o]).filter p = l.filter p ++ (if p o = true then [o] else []) := by
  rw [List.filter_append, List.filter_cons, List.filter_nil]
theorem filter_len (p : Opt → Bool) (l : List Opt) (k : Nat) : ((l.take k).filter p).length ≤ k := Nat.le_trans (List.length_filter_le _ _) (by rw [List.length_take]; omega)
set_option maxRecDepth 100000 in
theorem find1_calls (u : UInt8) (b : Nat) (o : Opt) (w : World) (hb : w.cell? ⟨b, 0, none⟩ = some (.int .u8 (tv u))) :
    Calls Tryd.prog 55 #[.agg #[.int .u8 (tv o.t), .string o.d], .pointer (some ⟨b, 0, none⟩)] w fun e w' => e = .returned (.bool (hasT u o)) ∧ Below w.heap.size w w' := by
  have hlt := cell_lt hb
  simp only at hlt
  have hne : (w.heap.size = b) = False := by simp; omega
  have e1 : (tv o.t == tv u) = hasT u o := ti_bool _ _
  have hb2 : ∀ c, (w.alloc c).cell? ⟨b, 0, none⟩ = some (.int .u8 (tv u)) := fun c => (((Below.refl w.heap.size w).alloc (Nat.le_refl _) c).cell (p := ⟨b, 0, none⟩) hlt).trans hb
  generalize tv o.t = z1 at *
  generalize tv u = z2 at *
  go_enter Tryd.func55, Tryd.ntmps55
  go_wp2
  go_ret
  exact ⟨by rw [← e1]; rfl, (Below.refl _ _).alloc (Nat.le_refl _) _⟩
set_option maxRecDepth 100000 in
theorem filter_has (u : UInt8) (b : Nat) (l : List Opt) (a : Option Addr) (c : Nat) (w : World) (h : Row w a c l) (hb : w.cell? ⟨b, 0, none⟩ = some (.int .u8 (tv u))) (hs : l.length < 1000000) :
    Calls Tryd.prog 54 #[.slice a l.length c, .func (.func 55) #[] #[.pointer (some ⟨b, 0, none⟩)]] w fun e w' => ∃ v, e = .returned v ∧ w'.ownsRow w.heap.size 57 2 v (l.filter (hasT u)).length (optCells (l.filter (hasT u))) ∧ Below w.heap.size w w' := by
  have c0 := Lib.hid h.1
  have hblt := cell_lt hb
  simp only at hblt
  have hu57 := Tryd.underlying57
  obtain ⟨i0, hi, hz⟩ := Option.map_eq_some_iff.1 info57
  simp only [Prod.mk.injEq] at hz
  obtain ⟨hz0, hz1, hz2⟩ := hz
  go_enter Tryd.func54, Tryd.ntmps54
  go_wp2
  go_loopg [4, 9] l.length (fun q out i wr => ∃ k : Nat, k ≤ l.length ∧ q = l.length - k ∧ i = .int .i64 (k : Int) ∧ wr.ownsRow w.heap.size 57 2 out ((l.take k).filter (hasT u)).length (optCells ((l.take k).filter (hasT u))) ∧ Below w.heap.size w wr)
  case atStart => exact ⟨0, by omega, rfl, rfl, World.ownsRow_nil _ _ _ _, Below.refl _ _⟩
  case round =>
    obtain ⟨k, hk, hq, rfl, hrow, hB⟩ := hrel
    have A := Lib.hid hq; clear hq
    by_cases hlt : k < l.length
    · have h1 : decide ((k : Int) < (l.length : Int)) = true := by simp; omega
      obtain ⟨x, rfl, x0, x1⟩ := (h.below hB).at_ k hlt
      have hsn : Hid ((l.take (k + 1)).filter (hasT u) = (l.take k).filter (hasT u) ++ (if hasT u l[k] = true then [l[k]] else [])) := Lib.hid (by
        rw [List.take_succ_eq_append_getElem hlt, filter_snoc])
      have hfl := filter_len (hasT u) l k
      have hcl := optCells_length ((l.take k).filter (hasT u))
      generalize l[k] = o at *
      generalize (l.take k).filter (hasT u) = acc at *
      have hbr := (hB.cell (p := ⟨b, 0, none⟩) hblt).trans hb
      have hsz := hB.size
      have hb2 : ∀ cs, (wr.alloc cs).cell? ⟨b, 0, none⟩ = some (.int .u8 (tv u)) := fun cs => (((Below.refl wr.heap.size wr).alloc (Nat.le_refl _) cs).cell (p := ⟨b, 0, none⟩) (by simp; omega)).trans hbr
      cases hp : hasT u o with
      | true =>
        have Hp := Lib.hid hp; clear hp
        go_wp2_with (first
          | (go_at_call 55; with_reducible refine (find1_calls u b o _ (hb2 _)).mono ?_; rintro e w1 ⟨rfl, hb1⟩; rw [Hp.out]; obtain ⟨d0, d1⟩ := two_cells _ _ _ hb1; have hrow1 := own_below (hrow.alloc _) hb1; have hB1 := (hB.alloc hB.size _).trans (hb1.mono (by simp; omega)); have hs1 := hB1.size)
          | (at_builtin; refine wpList_append_own _ rfl _ _ 32 rfl w.heap.size 57 i0 (.agg #[.int .u8 0, .string ⟨#[]⟩]) 2 24 und32 hi hz0 hz1 hz2 rfl (by decide) _ _ _ rfl (hrow1.alloc _) ⟨w1.heap.size, 0, none⟩ 1 1 [.int .u8 (tv o.t), .string o.d] rfl rfl (cell_two _ _ _ _) (by simp [Value.oneCell']) (by unfold maxLen; omega) (by omega) (by simp; omega) ?_; intro v' w2 hown' hgrow _))
        go_roundg (l.length - (k + 1))
        case measure => have := A.out; omega
        case rel =>
          refine ⟨k + 1, by omega, rfl, by go_num, ?_, (hB1.alloc hs1 _).grown hgrow (by simp; omega) (own_base hrow1)⟩
          rw [hsn.out, if_pos Hp.out, List.length_append, optCells_snoc]
          exact hown'
      | false =>
        have Hp := Lib.hid hp; clear hp
        go_wp2_with (first
          | (go_at_call 55; with_reducible refine (find1_calls u b o _ (hb2 _)).mono ?_; rintro e w1 ⟨rfl, hb1⟩; rw [Hp.out]; have hrow1 := own_below (hrow.alloc _) hb1; have hB1 := (hB.alloc hB.size _).trans (hb1.mono (by simp; omega)); have hs1 := hB1.size))
        go_roundg (l.length - (k + 1))
        case measure => have := A.out; omega
        case rel =>
          refine ⟨k + 1, by omega, rfl, by go_num, ?_, hB1⟩
          rw [hsn.out, if_neg (by rw [Hp.out]; decide), List.append_nil]
          exact hrow1
    · obtain rfl : k = l.length := by omega
      have h1 : decide ((l.length : Int) < (l.length : Int)) = false := by simp
      rw [List.take_length] at hrow
      go_wp2
      go_ret
      exact ⟨_, rfl, hrow, hB⟩
end Go.Proofs.YtlcckkdkcbelhaaDoor
