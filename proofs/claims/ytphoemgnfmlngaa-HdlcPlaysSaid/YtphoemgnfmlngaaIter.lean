/-
  The iterator over a text's bytes (a closure that hands each byte to yield): what it owes and gives; of package fcs and of package escape.
-/
import Derived.Test.YtphoemgnfmlngaaProg
import Derived.RangeFuncNested
import Derived.RangeFuncBound
import Derived.RangeFuncCalls
import Derived.RangeFuncLeaves
import Derived.RangeFuncFrom
import Derived.Shelf.Abstract
import Derived.Shelf.RegionOpen
import Derived.WalkKit
import Derived.OwnWalkIn
import Derived.TacticsInMore
import Derived.LoopNIn
import Derived.LoopIn
set_option linter.unusedVariables false
set_option linter.unusedSimpArgs false
namespace Go.Proofs.Ytphoemgnfmlngaa
open Go.RowKit Go.Shelf
attribute [local go_sem] Oper.semAt_some

def encB (x : UInt8) : Array Value := #[.int .u8 (x.toNat : Int)]
/-- What the iterator asks of a round: its own text lies as it lay. -/
def KeepCell (B : Nat) (A C : World) : Prop := ∀ v, A.cell? ⟨B, 0, none⟩ = some v → C.cell? ⟨B, 0, none⟩ = some v
theorem keepCell_t {B : Nat} {A C D : World} (h : KeepCell B A C) (k : KeepCell B C D) : KeepCell B A D := fun v hv => k v (h v hv)
theorem keepCell_b {B : Nat} {w : World} (W : World) (l : Nat) (o o' : Obj) (_ : w.heap.size ≤ l) (h : W.heap[l]? = some o) (hc : o.isCells = false) (_ : o.isWalk = false) : KeepCell B W (W.putObj l o') :=
  fun _ hv => Go.cell_kept hv (grownBy_putObj' W l o') (fun r e => by cases e; exact ⟨o, h, hc⟩)
theorem KeepCell.refl (B : Nat) (W : World) : KeepCell B W W := fun _ h => h
theorem KeepCell.drew {B : Nat} {A C : World} (h : KeepCell B A C) : KeepCell B A C.drew := h
theorem KeepCell.setCell {B : Nat} {A C : World} (h : KeepCell B A C) {p : Addr} (hp : p.block ≠ B) (u : Value) : KeepCell B A (C.setCell p u) := fun v hv => by
  have := h v hv
  rw [← this]
  simp only [World.cell?, World.setCell, Array.getElem?_modify, if_neg hp]
theorem KeepCell.grown {B : Nat} {A C D : World} {row : Option Nat} (h : KeepCell B A C) (hg : C.grownBy D row) (hr : row ≠ some B) : KeepCell B A D := fun v hv => by
  have h1 := h v hv
  rw [← h1]
  exact World.cell?_of_block (hg.block B (by have := World.block_lt_of_cell? C ⟨B, 0, none⟩ h1; exact this) (fun e => hr e.symm))
theorem take_snoc (s : ByteArray) (k : Nat) (h : k < s.size) : s.data.toList.take k ++ [s[k]] = s.data.toList.take (k + 1) := by
  rw [List.take_succ_eq_append_getElem (by simpa using h)]; rfl

set_option maxRecDepth 100000 in
set_option maxHeartbeats 2000000 in
theorem fbytes1_in (F : Fence) (n : Nat) (hf : F.fn 61) (hro : F.round = none) (hn : 1 ≤ n) (l B : Nat) (s : ByteArray) (hs : s.size ≤ 9223372036854775807) (J Jx : List UInt8 → World → Prop)
    (hY : ∀ pre x W, J pre W → pre.length < s.data.toList.length → YieldAt F (n - 1) Try.prog l (encB x) W fun e W' =>
      (e = .returned (.bool true) ∧ J (pre ++ [x]) W' ∧ KeepCell B W W') ∨ (e = .returned (.bool false) ∧ Jx (pre ++ [x]) W'))
    (W : World) (hB : W.cell? ⟨B, 0, none⟩ = some (.string s)) (h0 : J [] W) :
    CallsIn F n Try.prog 61 #[.func (.yield l) #[] #[], .pointer (some ⟨B, 0, none⟩)] W fun e W' => (∃ v, e = .returned v) ∧
      ((∃ ys, ys = s.data.toList ∧ J ys W') ∨ (∃ pre, pre <+: s.data.toList ∧ Jx pre W')) := by
  refine callsIn_of_wp Try.func61 rfl hf ?_ hro
  simp only [Try.ntmps61, List.size_toArray, List.length_cons, List.length_nil, Nat.reduceAdd, Nat.reduceSub, Array.replicate_succ, Array.replicate_zero, List.push_toArray, List.append_toArray, List.nil_append, List.cons_append]
  gi_wp2
  gi_loopw [6] (fun p wr => ∃ k : Nat, k ≤ s.size ∧ p = .int .i64 k ∧ wr.cell? ⟨B, 0, none⟩ = some (.string s) ∧ J (s.data.toList.take k) wr)
    (fun p _ => s.size - (intOf p).toNat)
  case atStart => exact ⟨0, Nat.zero_le _, rfl, hB, h0⟩
  case round =>
    obtain ⟨k, hk, rfl, hc, hJ⟩ := hrel
    by_cases hlt2 : k < s.size
    · have hh : decide ((k : Int) < (s.size : Int)) = true := by simp; omega
      have hlen : (s.data.toList.take k).length < s.data.toList.length := by
        rw [List.length_take]; simp; omega
      obtain ⟨fn, tmps, assign, body, hy, hR⟩ := hY (s.data.toList.take k) s[k] wr hJ hlen
      dsimp only [encB] at hy
      gi_wp2
      refine hR.mono ?_
      rintro e W3 (⟨rfl, hJ3, hk3⟩ | ⟨rfl, hJx3⟩)
      · have hc3 : W3.cell? ⟨B, 0, none⟩ = some (.string s) := hk3 _ hc
        rw [take_snoc s k hlt2] at hJ3
        gi_wp2
        go_roundw
        case rel => exact ⟨k + 1, by omega, by go_num, hc3, hJ3⟩
        case measure => simp [intOf]; omega
      · gi_wp2
        refine bodyPost_ret (results_none rfl _ _ _) rfl ?_
        exact ⟨⟨_, rfl⟩, .inr ⟨s.data.toList.take k ++ [s[k]], by rw [take_snoc s k hlt2]; exact List.take_prefix _ _, hJx3⟩⟩
    · have hh : decide ((k : Int) < (s.size : Int)) = false := by simp; omega
      have hl : s.data.toList.take k = s.data.toList := List.take_of_length_le (by simp; omega)
      rw [hl] at hJ
      gi_wp2
      go_end0
      exact ⟨⟨_, rfl⟩, .inl ⟨_, rfl, hJ⟩⟩

theorem fbytes_stops (F : Fence) (n : Nat) (hf : F.fn 61) (hro : F.round = none) (hn : 1 ≤ n) (B : Nat) (s : ByteArray) (hs : s.size ≤ 9223372036854775807) (w : World)
    (hB : w.cell? ⟨B, 0, none⟩ = some (.string s)) (hBw : B < w.heap.size) :
    SeqStopsK F n Try.prog 61 #[.pointer (some ⟨B, 0, none⟩)] encB (KeepCell B) (fun ys => ys = s.data.toList) (fun pre => pre <+: s.data.toList) s.data.toList.length w := by
  intro l J Jx W hW _ _ hY h0
  exact fbytes1_in F n hf hro hn l B s hs J Jx hY W ((hW.cell (p := ⟨B, 0, none⟩) hBw).trans hB) h0

set_option maxRecDepth 100000 in
theorem fbytes_in (F : Fence) (n : Nat) (hf : F.fn 51) (hro : F.round = none) (s : ByteArray) (w : World) :
    CallsIn F n Try.prog 51 #[.string s] w fun e w' => e = .returned (.func (.func 61) #[] #[.pointer (some ⟨w.heap.size, 0, none⟩)]) ∧ w.alloc (.cells #[.string s] 9) = w' := by
  refine callsIn_of_wp Try.func51 rfl hf ?_ hro
  simp only [Try.ntmps51, List.size_toArray, List.length_cons, List.length_nil, Nat.reduceAdd, Nat.reduceSub, Array.replicate_succ, Array.replicate_zero, List.push_toArray, List.append_toArray, List.nil_append, List.cons_append]
  gi_wp2
  go_ret
  exact ⟨rfl, rfl⟩

set_option maxRecDepth 100000 in
set_option maxHeartbeats 2000000 in
theorem ebytes1_in (F : Fence) (n : Nat) (hf : F.fn 62) (hro : F.round = none) (hn : 1 ≤ n) (l B : Nat) (s : ByteArray) (hs : s.size ≤ 9223372036854775807) (J Jx : List UInt8 → World → Prop)
    (hY : ∀ pre x W, J pre W → pre.length < s.data.toList.length → YieldAt F (n - 1) Try.prog l (encB x) W fun e W' =>
      (e = .returned (.bool true) ∧ J (pre ++ [x]) W' ∧ KeepCell B W W') ∨ (e = .returned (.bool false) ∧ Jx (pre ++ [x]) W'))
    (W : World) (hB : W.cell? ⟨B, 0, none⟩ = some (.string s)) (h0 : J [] W) :
    CallsIn F n Try.prog 62 #[.func (.yield l) #[] #[], .pointer (some ⟨B, 0, none⟩)] W fun e W' => (∃ v, e = .returned v) ∧
      ((∃ ys, ys = s.data.toList ∧ J ys W') ∨ (∃ pre, pre <+: s.data.toList ∧ Jx pre W')) := by
  refine callsIn_of_wp Try.func62 rfl hf ?_ hro
  simp only [Try.ntmps62, List.size_toArray, List.length_cons, List.length_nil, Nat.reduceAdd, Nat.reduceSub, Array.replicate_succ, Array.replicate_zero, List.push_toArray, List.append_toArray, List.nil_append, List.cons_append]
  gi_wp2
  gi_loopw [6] (fun p wr => ∃ k : Nat, k ≤ s.size ∧ p = .int .i64 k ∧ wr.cell? ⟨B, 0, none⟩ = some (.string s) ∧ J (s.data.toList.take k) wr)
    (fun p _ => s.size - (intOf p).toNat)
  case atStart => exact ⟨0, Nat.zero_le _, rfl, hB, h0⟩
  case round =>
    obtain ⟨k, hk, rfl, hc, hJ⟩ := hrel
    by_cases hlt2 : k < s.size
    · have hh : decide ((k : Int) < (s.size : Int)) = true := by simp; omega
      have hlen : (s.data.toList.take k).length < s.data.toList.length := by
        rw [List.length_take]; simp; omega
      obtain ⟨fn, tmps, assign, body, hy, hR⟩ := hY (s.data.toList.take k) s[k] wr hJ hlen
      dsimp only [encB] at hy
      gi_wp2
      refine hR.mono ?_
      rintro e W3 (⟨rfl, hJ3, hk3⟩ | ⟨rfl, hJx3⟩)
      · have hc3 : W3.cell? ⟨B, 0, none⟩ = some (.string s) := hk3 _ hc
        rw [take_snoc s k hlt2] at hJ3
        gi_wp2
        go_roundw
        case rel => exact ⟨k + 1, by omega, by go_num, hc3, hJ3⟩
        case measure => simp [intOf]; omega
      · gi_wp2
        refine bodyPost_ret (results_none rfl _ _ _) rfl ?_
        exact ⟨⟨_, rfl⟩, .inr ⟨s.data.toList.take k ++ [s[k]], by rw [take_snoc s k hlt2]; exact List.take_prefix _ _, hJx3⟩⟩
    · have hh : decide ((k : Int) < (s.size : Int)) = false := by simp; omega
      have hl : s.data.toList.take k = s.data.toList := List.take_of_length_le (by simp; omega)
      rw [hl] at hJ
      gi_wp2
      go_end0
      exact ⟨⟨_, rfl⟩, .inl ⟨_, rfl, hJ⟩⟩

theorem ebytes_stops (F : Fence) (n : Nat) (hf : F.fn 62) (hro : F.round = none) (hn : 1 ≤ n) (B : Nat) (s : ByteArray) (hs : s.size ≤ 9223372036854775807) (w : World)
    (hB : w.cell? ⟨B, 0, none⟩ = some (.string s)) (hBw : B < w.heap.size) :
    SeqStopsK F n Try.prog 62 #[.pointer (some ⟨B, 0, none⟩)] encB (KeepCell B) (fun ys => ys = s.data.toList) (fun pre => pre <+: s.data.toList) s.data.toList.length w := by
  intro l J Jx W hW _ _ hY h0
  exact ebytes1_in F n hf hro hn l B s hs J Jx hY W ((hW.cell (p := ⟨B, 0, none⟩) hBw).trans hB) h0

set_option maxRecDepth 100000 in
theorem ebytes_in (F : Fence) (n : Nat) (hf : F.fn 53) (hro : F.round = none) (s : ByteArray) (w : World) :
    CallsIn F n Try.prog 53 #[.string s] w fun e w' => e = .returned (.func (.func 62) #[] #[.pointer (some ⟨w.heap.size, 0, none⟩)]) ∧ w.alloc (.cells #[.string s] 9) = w' := by
  refine callsIn_of_wp Try.func53 rfl hf ?_ hro
  simp only [Try.ntmps53, List.size_toArray, List.length_cons, List.length_nil, Nat.reduceAdd, Nat.reduceSub, Array.replicate_succ, Array.replicate_zero, List.push_toArray, List.append_toArray, List.nil_append, List.cons_append]
  gi_wp2
  go_ret
  exact ⟨rfl, rfl⟩

end Go.Proofs.Ytphoemgnfmlngaa
