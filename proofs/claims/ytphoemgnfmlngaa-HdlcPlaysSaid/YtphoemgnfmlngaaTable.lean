import Derived.Test.YtphoemgnfmlngaaProg
import Derived.Test.YtphoemgnfmlngaaFcsMath
import Derived.WalkKit
import Derived.Deep.LoopGhost
import Derived.Lib.Hide
import Derived.Outline
import Derived.Laws.Rows
import Derived.Laws.Tables
import Derived.Below
import Derived.KernelRfl
import Derived.Laws.BitsLemmas
import Derived.Test.YtphoemgnfmlngaaWWords
namespace Go.Proofs.Ytphoemgnfmlngaa
open Go.RowKit Go.Proofs.YtphoemgnfmlngaaW.PrintWords

def tabL (k : Nat) : List Value := (List.range 256).map fun i => .int .u16 (if i < k then (Fcs.zn 8 i : Int) else 0)
def tab (k : Nat) : Array Value := (tabL k).toArray
theorem tabL_length (k : Nat) : (tabL k).length = 256 := by rw [tabL, List.length_map, List.length_range]
theorem tab_size (k : Nat) : (tab k).size = 256 := by rw [tab, List.size_toArray, tabL_length]
theorem tabL_get (k j : Nat) (h : j < (tabL k).length) : (tabL k)[j] = .int .u16 (if j < k then (Fcs.zn 8 j : Int) else 0) := by
  simp only [tabL, List.getElem_map, List.getElem_range]
theorem tab_at (k j : Nat) (h : j < 256) : (tab k)[j]? = some (.int .u16 (if j < k then (Fcs.zn 8 j : Int) else 0)) := by
  rw [tab, List.getElem?_toArray, List.getElem?_eq_getElem (by rw [tabL_length]; exact h), tabL_get]
set_option maxRecDepth 100000 in
theorem zc : Try.zeroCells69 = (List.replicate 256 (Value.int .u16 0)).toArray := rfl
theorem tab_zero : Try.zeroCells69 = tab 0 := by
  have h : tabL 0 = List.replicate 256 (Value.int .u16 0) := by
    refine List.ext_getElem (by rw [tabL_length, List.length_replicate]) fun i h1 h2 => ?_
    rw [tabL_get, List.getElem_replicate, if_neg (by omega)]
  rw [tab, h]
  exact zc
theorem tab_set (k : Nat) : (tab k).setIfInBounds k (.int .u16 (Fcs.zn 8 k : Int)) = tab (k + 1) := by
  rw [tab, List.setIfInBounds_toArray, tab]
  refine congrArg List.toArray ?_
  refine List.ext_getElem (by rw [List.length_set, tabL_length, tabL_length]) fun i h1 h2 => ?_
  rw [List.getElem_set, tabL_get, tabL_get]
  by_cases e : k = i
  · subst e; rw [if_pos rfl, if_pos (by omega)]
  · rw [if_neg e]
    by_cases h : i < k
    · rw [if_pos h, if_pos (by omega)]
    · rw [if_neg h, if_neg (by omega)]
theorem zn_succ' (m x : Nat) : Fcs.zn (m + 1) x = Fcs.z (Fcs.zn m x) := by rw [Fcs.zn_add]; rfl
theorem and_one (v : Nat) (h : v < 65536) : bits .and .u16 (v : Int) 1 = ((v % 2 : Nat) : Int) := by
  have h2 := (bits_nat .u16 16 (by decide) (fun n h0 h1 => by simp [IntKind.wrap, IntKind.bits, IntKind.signed]; omega) v 1 (by omega) (by decide)).1
  rw [Nat.and_one_is_mod] at h2
  exact h2
theorem wrap_u16_nat (n : Nat) (h : n < 65536) : IntKind.u16.wrap (n : Int) = n := by
  simp only [IntKind.wrap, IntKind.bits, IntKind.signed]
  simp
  omega
theorem xor_u16 (a b : Nat) (ha : a < 65536) (hb : b < 65536) : bits .xor .u16 (a : Int) (b : Int) = ((a ^^^ b : Nat) : Int) := by
  have hx : a ^^^ b < 65536 := Nat.xor_lt_two_pow (n := 16) ha hb
  have e : (BitVec.ofNat 16 a ^^^ BitVec.ofNat 16 b).toNat = a ^^^ b := by
    rw [BitVec.toNat_xor, BitVec.toNat_ofNat, BitVec.toNat_ofNat, Nat.mod_eq_of_lt ha, Nat.mod_eq_of_lt hb]
  show IntKind.u16.wrap ((BitVec.ofInt 16 (a : Int) ^^^ BitVec.ofInt 16 (b : Int)).toNat : Int) = _
  rw [BitVec.ofInt_natCast, BitVec.ofInt_natCast, e, wrap_u16_nat _ hx]
theorem setRow_same {w : World} {g : Nat} {cs : Array Value} {t : TypeId} {fr : Nat × Nat} (h : w.heap[g]? = some (.cells cs t fr)) : w.setRow g cs = w := by
  have hlt : g < w.heap.size := (Array.getElem?_eq_some_iff.1 h).1
  have hv : w.heap[g] = .cells cs t fr := (Array.getElem?_eq_some_iff.1 h).2
  unfold World.setRow
  cases w with
  | mk heap tape drawn os output =>
    congr 1
    apply Array.ext
    · simp
    · intro k h1 h2
      simp only [Array.getElem_modify]
      split
      · rename_i hk; subst hk; simp at hv; simp [hv]
      · rfl
theorem tab_cells (k : Nat) : (tab k).all (·.oneCell') = true := by
  rw [Array.all_eq_true_iff_forall_mem]
  intro x hx
  simp only [tab, tabL, List.mem_toArray, List.mem_map] at hx
  obtain ⟨i, _, rfl⟩ := hx
  rfl
theorem z_odd (v : Nat) (h : v < 65536) (hp : (bits .and .u16 (v : Int) 1 == 1) = true) : bits .xor .u16 ((v : Int) / 2) 33800 = (Fcs.z v : Int) := by
  rw [and_one v h, beq_iff_eq] at hp
  have h1 : v % 2 = 1 := by omega
  have h2 := xor_u16 (v / 2) 33800 (by omega) (by decide)
  rw [Fcs.z, if_pos h1]
  exact h2
theorem z_even (v : Nat) (h : v < 65536) (hp : (bits .and .u16 (v : Int) 1 == 1) = false) : ((v : Int) / 2) = (Fcs.z v : Int) := by
  rw [and_one v h, beq_eq_false_iff_ne] at hp
  rw [Fcs.z, if_neg (by omega)]
  rfl

set_option maxRecDepth 100000 in
theorem table_calls (w : World) : Calls Try.prog 50 #[] w fun e w' => e = .returned (.agg (tab 256)) ∧ Below w.heap.size w w' := by
  go_enter Try.func50, Try.ntmps50
  go_wp2
  go_loopg [3] 256 (fun q i wr => ∃ k : Nat, k ≤ 256 ∧ q = 256 - k ∧ i = .int .i64 k ∧ wr.heap[w.heap.size]? = some (.cells (tab k) 69 (0, 0)) ∧ Below w.heap.size w wr)
  case atStart => exact ⟨0, by omega, rfl, rfl, by rw [tab_zero]; exact heap_alloc_new _ _, (Below.refl _ _).alloc (Nat.le_refl _) _⟩
  case round =>
    obtain ⟨k, hk, hq, rfl, hb, hB⟩ := hrel
    by_cases hlt : k < 256
    · have hh : decide ((k : Int) < 256) = true := by simp; omega
      have A := Lib.hid hq; clear hq
      go_wp2
      go_loopg [2, 8] 8 (fun q x i wr' => ∃ (m v : Nat), m ≤ 8 ∧ v < 65536 ∧ q = 8 - m ∧ i = .int .i64 m ∧ x = .int .u16 v ∧ Hid (v = Fcs.zn m k) ∧ wr' = wr)
      case atStart => exact ⟨0, k, by omega, by omega, rfl, rfl, rfl, Lib.hid rfl, rfl⟩
      case round =>
        obtain ⟨m, v, hm, hv, hqm, rfl, rfl, Hv, rfl⟩ := hrel
        have A2 := Lib.hid hqm; clear hqm
        by_cases hm8 : m < 8
        · have hh2 : decide ((m : Int) < 8) = true := by simp; omega
          cases hp : (bits BinOp.and IntKind.u16 (↑v) 1 == 1) with
          | true =>
            go_wp2
            go_roundg (8 - (m + 1))
            case measure => have := A2.out; omega
            case rel => exact ⟨m + 1, Fcs.z v, by omega, Fcs.z_lt v hv, rfl, by go_num, by rw [z_odd v hv hp], Lib.hid (by rw [Hv.out, zn_succ']), rfl⟩
          | false =>
            go_wp2
            go_roundg (8 - (m + 1))
            case measure => have := A2.out; omega
            case rel => exact ⟨m + 1, Fcs.z v, by omega, Fcs.z_lt v hv, rfl, by go_num, by rw [z_even v hv hp], Lib.hid (by rw [Hv.out, zn_succ']), rfl⟩
        · obtain rfl : m = 8 := by omega
          have hc : wr.cell? ⟨w.heap.size, k, none⟩ = some (.int .u16 0) := by rw [blk_cell hb, tab_at k k (by omega), if_neg (by omega)]
          have hf : wr.frozen? ⟨w.heap.size, k, none⟩ = false := blk_frozen hb k
          go_wp2
          go_roundg (256 - (k + 1))
          case measure => have := A.out; omega
          case rel => exact ⟨k + 1, by omega, rfl, by go_num, by rw [← tab_set, ← Hv.out]; exact blk_set hb k _, hB.setCell (Nat.le_refl _) _⟩
    · obtain rfl : k = 256 := by omega
      go_wp2_with (first
        | refine wpList_load_row rfl 69 _ rfl w.heap.size rfl 69 _ (0, 0) _ hb Try.underlying69 rfl (by rw [tab_size]; rfl) ?_
        | (refine wpList_store_row rfl 69 _ _ rfl w.heap.size (tab 256) rfl rfl 69 _ hb (by rw [tab_size]; rfl) rfl (tab_cells _) ?_; rw [setRow_same hb]))
      exact bodyPost_ret (results_cell_row rfl _ _ w.heap.size 69 (tab 256) (0, 0) _ rfl hb Try.underlying69 rfl (by rw [tab_size]; rfl)) rfl ⟨rfl, hB⟩
end Go.Proofs.Ytphoemgnfmlngaa
