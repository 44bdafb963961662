/-
  Layer 15 (ipcppol): within, walked.
-/
import Derived.Test.YtlcckkdkcbelhaaDoorIx
import Derived.Test.YtlcckkdkcbelhaaDoorFg
import Derived.Deep.Slices
set_option linter.unusedVariables false
set_option linter.unusedSimpArgs false
namespace Go.Proofs.YtlcckkdkcbelhaaDoor
open Go.RowKit Go.Proofs.YtlcckkdkcbelhaaDoorW.PrintWords Go.Proofs.YtlcckkdkcbelhaaDoorW.PrintLast

/-- Whether each lies in the other in turn. -/
def subB : List Opt → List Opt → Bool
  | [], _ => true
  | x :: l, m => match idxN m x with
    | none => false
    | some k => subB l (m.drop (k + 1))
theorem idx_lt : ∀ {m : List Opt} {o : Opt} {k : Nat}, idxN m o = some k → k < m.length
  | x :: m, o, k, h => by
    rw [idxN] at h
    split at h
    · cases h; simp
    · cases e : idxN m o with
      | none => rw [e] at h; cases h
      | some j =>
        rw [e] at h
        cases h
        have := idx_lt e
        simp; omega
theorem optCells_drop : ∀ (m : List Opt) (n : Nat), optCells (m.drop n) = (optCells m).drop (n * 2)
  | m, 0 => by simp
  | [], n + 1 => by simp [optCells]
  | o :: m, n + 1 => by
    rw [List.drop_succ_cons, optCells_drop m n, optCells, show (n + 1) * 2 = n * 2 + 1 + 1 by omega]
    simp
theorem row_drop {w : World} {x : Addr} {c : Nat} {m : List Opt} (h : Row w (some x) c m) (n : Nat) (hn : n ≤ m.length) (hx : x.spot = none) : Row w (some (x.add (n * 2))) (c - n) (m.drop n) := by
  refine ⟨by rw [List.length_drop]; have := h.1; omega, ?_⟩
  rcases h.2 with h0 | ⟨y, e, hc⟩
  · left; rw [List.length_drop]; omega
  · obtain rfl := Option.some.inj e
    refine .inr ⟨_, rfl, fun j u hj => ?_⟩
    rw [optCells_drop, List.getElem?_drop] at hj
    rw [Go.Deep.add_add]
    exact hc _ _ hj
theorem row_sliced {w : World} {b : Option Addr} {c : Nat} {m : List Opt} (h : Row w b c m) (n : Nat) (hn : n ≤ m.length) : Row w (if c = n then b else b.map (·.add (n * 2))) (c - n) (m.drop n) := by
  have hc := h.1
  by_cases e : n = m.length
  · subst e
    rw [List.drop_length]
    exact row_nil _ _ _
  · rw [if_neg (by omega)]
    rcases h.2 with h0 | ⟨y, e2, hcc⟩
    · omega
    · subst e2
      refine ⟨by rw [List.length_drop]; omega, .inr ⟨_, rfl, fun j u hj => ?_⟩⟩
      rw [optCells_drop, List.getElem?_drop] at hj
      rw [Go.Deep.add_add]
      exact hcc _ _ hj
set_option maxRecDepth 100000 in
theorem run_cut (W : World) (b : Option Addr) (m : List Opt) (c j : Nat) (hj : j < m.length) : (Instr.slice 32 (.slice b m.length c) (some (.int .i64 ((j : Int) + 1))) none none).run Tryd.prog W = .ok (.slice (if c = j + 1 then b else b.map (·.add ((j + 1) * 2))) (m.drop (j + 1)).length (c - (j + 1))) W := by
  rw [run_slice_l (P := Tryd.prog) (w := W) 32 b m.length c und32 .i64 ((j : Int) + 1) (by omega) (by omega)]
  have e : ((j : Int) + 1).toNat = j + 1 := by omega
  have hs : (sizeOf (Tryd.prog.elem 32)).run Tryd.prog W = .ok 2 W := by kernel_rfl
  rw [hs]
  simp only [Result.andThen, sliced, e, List.length_drop]
set_option maxRecDepth 100000 in
theorem within_calls (l m : List Opt) (a b : Option Addr) (c d : Nat) (w : World) (hl : Row w a c l) (hm : Row w b d m) (hs : l.length < 1000000) (hs2 : m.length < 1000000) :
    Calls Tryd.prog 36 #[.slice a l.length c, .slice b m.length d] w fun e w' => e = .returned (.bool (subB l m)) ∧ Below w.heap.size w w' := by
  have hu57 := Tryd.underlying57
  have c0 := Lib.hid hl.1
  go_enter Tryd.func36, Tryd.ntmps36
  go_wp2
  go_loopg [1, 10] l.length (fun q v i wr => ∃ (k : Nat) (m' : List Opt) (b' : Option Addr) (d' : Nat), k ≤ l.length ∧ q = l.length - k ∧ i = .int .i64 (k : Int) ∧ v = .slice b' m'.length d' ∧ Row wr b' d' m' ∧ m'.length ≤ m.length ∧ Hid (subB l m = subB (l.drop k) m') ∧ Below w.heap.size w wr)
  case atStart => exact ⟨0, m, b, d, by omega, rfl, rfl, rfl, hm, Nat.le_refl _, Lib.hid rfl, Below.refl _ _⟩
  case round =>
    obtain ⟨k, m', b', d', hk, hq, rfl, rfl, hr, hle, heq, hB⟩ := hrel
    have A := Lib.hid hq; clear hq
    have d0 := Lib.hid hr.1
    by_cases hlt : k < l.length
    · have h1 : decide ((k : Int) < (l.length : Int)) = true := by simp; omega
      obtain ⟨x, rfl, x0, x1⟩ := (hl.below hB).at_ k hlt
      have hdr : Hid (l.drop k = l[k] :: l.drop (k + 1)) := Lib.hid (List.drop_eq_getElem_cons hlt)
      generalize l[k] = o at *
      have hsz := hB.size
      have hba := (Below.refl wr.heap.size wr).alloc (Nat.le_refl _) (.cells #[.int .u8 (tv o.t), .string o.d] 57)
      have hB1 := hB.alloc hsz (.cells #[.int .u8 (tv o.t), .string o.d] 57)
      have hr1 := hr.below hba
      have n1 := fun i => blk_cell (alloc_new wr _ (.cells #[.int .u8 (tv o.t), .string o.d] 57) rfl) i
      have hI := fun W h => index_calls m' o b' d' W h (by omega)
      cases hj : idxN m' o with
      | none =>
        have hz : idxI m' o = -1 := by unfold idxI; rw [hj]
        simp only [hz] at hI
        have hres : Hid (subB l m = false) := Lib.hid (by rw [heq.out, hdr.out, subB, hj])
        go_wp2_with (first
          | (go_at_call 49; with_reducible refine (hI _ hr1).mono ?_; rintro e w1 ⟨rfl, hb1⟩))
        go_ret
        exact ⟨by rw [hres.out]; rfl, hB1.trans (hb1.mono hB1.size)⟩
      | some j =>
        have hz : idxI m' o = (j : Int) := by unfold idxI; rw [hj]
        simp only [hz] at hI
        have hjl := idx_lt hj
        have hres : Hid (subB l m = subB (l.drop (k + 1)) (m'.drop (j + 1))) := Lib.hid (by rw [heq.out, hdr.out, subB, hj])
        have hcut := fun W => run_cut W b' m' d' j hjl
        have hrs := fun W h => row_sliced (w := W) (b := b') (c := d') (m := m') h (j + 1) (by omega)
        have hll : (m'.drop (j + 1)).length ≤ m.length := by rw [List.length_drop]; omega
        have q5 : decide ((j : Int) < 0) = false := by simp
        generalize (if d' = j + 1 then b' else b'.map (·.add ((j + 1) * 2))) = bx at *
        generalize d' - (j + 1) = dx at *
        generalize m'.drop (j + 1) = mx at *
        go_wp2_with (first
          | (go_at_call 49; with_reducible refine (hI _ hr1).mono ?_; rintro e w1 ⟨rfl, hb1⟩))
        go_roundg (l.length - (k + 1))
        case measure => have := A.out; omega
        case rel => exact ⟨k + 1, mx, bx, dx, by omega, rfl, by go_num, rfl, hrs _ (hr1.below hb1), hll, hres, hB1.trans (hb1.mono hB1.size)⟩
    · obtain rfl : k = l.length := by omega
      have h1 : decide ((l.length : Int) < (l.length : Int)) = false := by simp
      have hres : Hid (subB l m = true) := Lib.hid (by rw [heq.out, List.drop_length]; rfl)
      go_wp2
      go_ret
      exact ⟨by rw [hres.out]; rfl, hB⟩
end Go.Proofs.YtlcckkdkcbelhaaDoor
