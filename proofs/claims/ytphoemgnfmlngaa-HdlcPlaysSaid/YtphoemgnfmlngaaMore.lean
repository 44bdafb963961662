import Derived.Test.YtphoemgnfmlngaaTable
import Derived.Test.YtphoemgnfmlngaaIter
import Derived.Test.YtphoemgnfmlngaaBridge
import Derived.Laws.CopyOwn
import Derived.Test.YtphoemgnfmlngaaWLast
set_option linter.unusedVariables false
set_option linter.unusedSimpArgs false
namespace Go.Proofs.Ytphoemgnfmlngaa
open Go.RowKit Go.Shelf Go.Proofs.YtphoemgnfmlngaaW.PrintLast
attribute [local go_sem] Oper.semAt_some

def nats (s : List UInt8) : List Nat := s.map (·.toNat)
theorem xor_u8 (a b : Nat) (ha : a < 256) (hb : b < 256) : bits .xor .u8 (a : Int) (b : Int) = ((a ^^^ b : Nat) : Int) := by
  have hx : a ^^^ b < 256 := Nat.xor_lt_two_pow (n := 8) ha hb
  have e : (BitVec.ofNat 8 a ^^^ BitVec.ofNat 8 b).toNat = a ^^^ b := by
    rw [BitVec.toNat_xor, BitVec.toNat_ofNat, BitVec.toNat_ofNat, Nat.mod_eq_of_lt ha, Nat.mod_eq_of_lt hb]
  show IntKind.u8.wrap ((BitVec.ofInt 8 (a : Int) ^^^ BitVec.ofInt 8 (b : Int)).toNat : Int) = _
  rw [BitVec.ofInt_natCast, BitVec.ofInt_natCast, e, IntKind.wrap_u8]
  omega
theorem step_split (v x : Nat) : Fcs.step v x = (v / 256) ^^^ Fcs.zn 8 ((v % 256) ^^^ x) := by
  have e : v ^^^ x = (2 ^ 8 * (v / 256)) ^^^ ((v % 256) ^^^ x) := by
    rw [← Nat.xor_assoc, Nat.xor_comm (2 ^ 8 * (v / 256)), Fcs.byte_xor]
  rw [Fcs.step, e, Fcs.zn_xor, Fcs.zn_shift]

set_option maxRecDepth 100000 in
set_option maxHeartbeats 2000000 in
theorem more_in (n : Nat) (hn : 4 ≤ n) (c : Nat) (hc' : c < 65536) (s : ByteArray) (hs : s.size ≤ 9223372036854775807) (w : World) :
    CallsIn Fence.wide n Try.prog 15 #[.int .u16 c, .string s] w fun e w' => e = .returned (.int .u16 (Fcs.more c (nats s.data.toList) : Int)) ∧ Below w.heap.size w w' := by
  have h1 : 1 ≤ n := by omega
  refine callsIn_of_wp_marks Try.func15 rfl trivial ?_ rfl
  simp only [Try.ntmps15, List.size_toArray, List.length_cons, List.length_nil, Nat.reduceAdd, Nat.reduceSub, Array.replicate_succ, Array.replicate_zero, List.push_toArray, List.append_toArray, List.nil_append, List.cons_append]
  gi_wp2_with (first
    | (refine ⟨trivial, ?_⟩; gi_at_call 50; refine (callsIn_wide.2 (table_calls _)).mono ?_; rintro e w1 ⟨rfl, hb1⟩)
    | (refine ⟨trivial, ?_⟩; gi_at_call 51; refine (fbytes_in Fence.wide (n - 1) trivial rfl _ _).mono ?_; rintro e w2 ⟨rfl, rfl⟩)
    | (refine wpListIn_store_row rfl 69 _ _ rfl _ (tab 256) rfl rfl 69 Try.zeroCells69 (heap_alloc_new _ _) (by rw [tab_size]; rfl) rfl (tab_cells _) ?_))
  obtain ⟨W0, hW0⟩ : ∃ W0, (((w1.alloc (Obj.cells Try.zeroCells69 69)).setRow w1.heap.size (tab 256)).alloc (Obj.cells #[Value.string s] 9)) = W0 := ⟨_, rfl⟩
  rw [hW0]
  have hlt1 : w.heap.size < w1.heap.size := by have := hb1.size; simp at this; omega
  have hsz : W0.heap.size = w1.heap.size + 2 := by rw [← hW0]; simp
  have hc0 : W0.heap[w.heap.size]? = some (.cells #[.int .u16 c] 22 (0, 0)) := by
    rw [← hW0, heap_alloc_old _ _ (by simp; omega), setRow_other _ _ _ _ (by omega), heap_alloc_old _ _ hlt1, hb1.block _ (by simp)]
    exact heap_alloc_new _ _
  have ht0 : W0.heap[w1.heap.size]? = some (.cells (tab 256) 69 (0, 0)) := by
    rw [← hW0, heap_alloc_old _ _ (by simp)]
    exact setRow_heap _ _ _ _ _ _ (heap_alloc_new _ _)
  have hs0 : W0.heap[w1.heap.size + 1]? = some (.cells #[.string s] 9 (0, 0)) := by
    rw [← hW0]
    have := heap_alloc_new ((w1.alloc (Obj.cells Try.zeroCells69 69)).setRow w1.heap.size (tab 256)) (Obj.cells #[Value.string s] 9)
    simpa using this
  have hB0 : Below w.heap.size w W0 := by
    rw [← hW0]
    refine Below.alloc (below_setRow (Below.alloc ?_ (by omega) _) (by omega) _) (by simp; omega) _
    exact ((Below.refl _ w).alloc (Nat.le_refl _) _).trans (hb1.mono (by simp))
  clear hW0
  refine wpIn_rangeFunc_ownF rfl h1 (gf := 61) (lb := #[.pointer (some ⟨w1.heap.size + 1, 0, none⟩)]) rfl trivial (enters_of Try.func61 (by kernel_rfl) rfl)
    (fbytes_stops Fence.wide (n - 1) trivial rfl (by omega) (w1.heap.size + 1) s hs W0 (by rw [cell_of_row _ _ _ _ _ _ hs0]; rfl) (by omega)) keepCell_t keepCell_b (Below.refl _ _) (fun _ => rfl)
    (fun pre W => ((W.cell? ⟨w.heap.size, 0, none⟩ = some (.int .u16 (Fcs.more c (nats pre) : Int)) ∧ W.frozen? ⟨w.heap.size, 0, none⟩ = false) ∧ (∀ j, j < 256 → W.cell? ⟨w1.heap.size, j, none⟩ = some (.int .u16 (Fcs.zn 8 j : Int)))) ∧ Below w.heap.size w W)
    (fun _ _ _ => False)
    (OwnFrom.and (Own.from (fun s A B row hs hg hr => ⟨⟨Go.cell_kept hs.1.1 hg hr, (Go.frozen_kept hs.1.1 hg hr).trans hs.1.2⟩, fun j hj => Go.cell_kept (hs.2 j hj) hg hr⟩) _) (ownFrom_below (Nat.le_refl _) (by omega)))
    (fun _ _ _ _ _ hs _ _ => hs)
    ⟨⟨⟨by rw [cell_of_row _ _ _ _ _ _ hc0]; rfl, by simp [World.frozen?, hc0]⟩, fun j hj => by rw [cell_of_row _ _ _ _ _ _ ht0, tab_at 256 j hj, if_pos hj]⟩, hB0⟩
    (fun x => { tmps := #[.int .u16 c, .string s, .pointer (some ⟨w.heap.size, 0, none⟩), undef, .int .u16 0, .pointer (some ⟨w1.heap.size, 0, none⟩), .int .u8 (x.toNat : Int), .agg (tab 256), .string s, .func (.func 61) #[] #[.pointer (some ⟨w1.heap.size + 1, 0, none⟩)], .int .u8 (x.toNat : Int), undef, undef, undef, undef, undef, undef, undef, undef, undef, undef], defers := [] }) ?assign ?body ?done ?stop
  case assign =>
    intro l x W K hK
    simp only [encB]
    gi_wp2
    exact hK
  case body =>
    rintro l pre x W ⟨⟨⟨hc, hf⟩, ht⟩, hB⟩ _
    have hm : Fcs.more c (nats (pre ++ [x])) = Fcs.step (Fcs.more c (nats pre)) x.toNat := by simp [nats, Fcs.more]
    have hv : Fcs.more c (nats pre) < 65536 := Fcs.more_lt c _ hc' (by simp [nats]; intro a _; exact a.toNat_lt)
    have Hm := Lib.hid hm; clear hm
    generalize Fcs.more c (nats pre) = v at *
    have hx : x.toNat < 256 := x.toNat_lt
    have hi : (v % 256) ^^^ x.toNat < 256 := Nat.xor_lt_two_pow (n := 8) (by omega) hx
    have e1 : bits .xor .u8 ((v : Int) % 256) (x.toNat : Int) = (((v % 256) ^^^ x.toNat : Nat) : Int) := xor_u8 (v % 256) x.toNat (by omega) hx
    have e2 : bits .xor .u16 ((v : Int) / 256) ((Fcs.zn 8 ((v % 256) ^^^ x.toNat) : Nat) : Int) = (Fcs.step v x.toNat : Int) := by
      rw [step_split v]
      exact xor_u16 (v / 256) _ (by omega) (Fcs.zn_lt 8 _ (by omega))
    have hcell := ht _ hi
    generalize (v % 256) ^^^ x.toNat = idx at *
    have Ht := Lib.hid ht; clear ht
    gi_wp2
    refine wpIn_region_of_any (by kernel_rfl) (by simp) (by rintro ⟨a, w, h⟩; exact h) ?_
    refine wpAny_of_last (ds := [9]) (S := fun W' => W'.cell? ⟨w.heap.size, 0, none⟩ = some (.int .u16 v) ∧ W'.cell? ⟨w1.heap.size, idx, none⟩ = some (.int .u16 (Fcs.zn 8 idx : Int))) _ _ _ _ ?_
    have hS : W.drew.cell? ⟨w.heap.size, 0, none⟩ = some (.int .u16 v) ∧ W.drew.cell? ⟨w1.heap.size, idx, none⟩ = some (.int .u16 (Fcs.zn 8 idx : Int)) := ⟨hc, hcell⟩
    refine wpAnyLast_take (i := 0) (v := .int .u16 v) rfl (by kernel_rfl) (by kernel_rfl) (by kernel_rfl) (by kernel_rfl) (by kernel_rfl) (fun _ _ _ h => h) (.inl ⟨rfl, fun w' hS' => ?_⟩) hS ?_
    · obtain ⟨s1, s2⟩ := hS'; go_simp; try (first | done | exact IntKind.wrap_u8 _ | (intro h; omega))
    refine wpAnyLast_take (i := 1) (v := .int .u16 ((v : Int) / 256)) rfl (by kernel_rfl) (by kernel_rfl) (by kernel_rfl) (by kernel_rfl) (by kernel_rfl) (fun _ _ _ h => h) (.inl ⟨rfl, fun w' hS' => ?_⟩) hS ?_
    · obtain ⟨s1, s2⟩ := hS'; go_simp; try (first | done | exact IntKind.wrap_u8 _ | (intro h; omega))
    refine wpAnyLast_take (i := 2) (v := .int .u16 v) rfl (by kernel_rfl) (by kernel_rfl) (by kernel_rfl) (by kernel_rfl) (by kernel_rfl) (fun _ _ _ h => h) (.inl ⟨rfl, fun w' hS' => ?_⟩) hS ?_
    · obtain ⟨s1, s2⟩ := hS'; go_simp; try (first | done | exact IntKind.wrap_u8 _ | (intro h; omega))
    refine wpAnyLast_take (i := 3) (v := .int .u8 ((v : Int) % 256)) rfl (by kernel_rfl) (by kernel_rfl) (by kernel_rfl) (by kernel_rfl) (by kernel_rfl) (fun _ _ _ h => h) (.inl ⟨rfl, fun w' hS' => ?_⟩) hS ?_
    · obtain ⟨s1, s2⟩ := hS'; go_simp; try (first | done | exact IntKind.wrap_u8 _ | (intro h; omega))
    refine wpAnyLast_take (i := 4) (v := .int .u8 (x.toNat : Int)) rfl (by kernel_rfl) (by kernel_rfl) (by kernel_rfl) (by kernel_rfl) (by kernel_rfl) (fun _ _ _ h => h) (.inl ⟨rfl, fun w' hS' => ?_⟩) hS ?_
    · obtain ⟨s1, s2⟩ := hS'; go_simp; try (first | done | exact IntKind.wrap_u8 _ | (intro h; omega))
    refine wpAnyLast_take (i := 5) (v := .int .u8 (idx : Int)) rfl (by kernel_rfl) (by kernel_rfl) (by kernel_rfl) (by kernel_rfl) (by kernel_rfl) (fun _ _ _ h => h) (.inl ⟨rfl, fun w' hS' => ?_⟩) hS ?_
    · obtain ⟨s1, s2⟩ := hS'; go_simp; try (first | done | exact IntKind.wrap_u8 _ | (intro h; omega))
    refine wpAnyLast_take (i := 6) (v := .pointer (some ⟨w1.heap.size, idx, none⟩)) rfl (by kernel_rfl) (by kernel_rfl) (by kernel_rfl) (by kernel_rfl) (by kernel_rfl) (fun _ _ _ h => h) (.inl ⟨rfl, fun w' hS' => ?_⟩) hS ?_
    · obtain ⟨s1, s2⟩ := hS'; go_simp; try (first | done | exact IntKind.wrap_u8 _ | (intro h; omega))
    refine wpAnyLast_take (i := 7) (v := .int .u16 (Fcs.zn 8 idx : Int)) rfl (by kernel_rfl) (by kernel_rfl) (by kernel_rfl) (by kernel_rfl) (by kernel_rfl) (fun _ _ _ h => h) (.inl ⟨rfl, fun w' hS' => ?_⟩) hS ?_
    · obtain ⟨s1, s2⟩ := hS'; go_simp; try (first | done | exact IntKind.wrap_u8 _ | (intro h; omega))
    refine wpAnyLast_take (i := 8) (v := .int .u16 (Fcs.step v x.toNat : Int)) rfl (by kernel_rfl) (by kernel_rfl) (by kernel_rfl) (by kernel_rfl) (by kernel_rfl) (fun _ _ _ h => h) (.inl ⟨rfl, fun w' hS' => ?_⟩) hS ?_
    · obtain ⟨s1, s2⟩ := hS'; go_simp; try (first | done | exact IntKind.wrap_u8 _ | (intro h; omega))
    refine wpAnyLast_all (rs := [9]) (by kernel_rfl) (by simp) ?_
    intro i hi'
    obtain rfl := List.mem_singleton.1 hi'
    refine wpOp_step rfl (fun K' hK => ?_)
    go_simp
    refine hK _ _ ⟨fun h => by simp at h, ?_⟩
    refine wpAnyLast_done (by kernel_rfl) ?_ _
    refine ⟨((KeepsOthers.setCell _ _ _).trans (KeepsOthers.drew _)), ((KeepCell.refl _ W).setCell (by simp; omega) _).drew, ⟨⟨?_, ?_⟩, fun j hj => ?_⟩, ?_⟩
    · rw [Hm.out]; exact World.cell?_setCell_same' _ _ _ (by rw [hc]; rfl)
    · exact (World.frozen?_setCell _ _ _ _).trans hf
    · have := Ht.out j hj
      rw [← this]
      exact World.cell?_setCell_other _ _ _ _ (by simp)
    · exact YtphoemgnfmlngaaW.PrintWords.below_drew (hB.setCell (p := ⟨w.heap.size, 0, none⟩) (Nat.le_refl _) _)
  case done =>
    rintro D ys W hD rfl ⟨⟨⟨hc, _⟩, _⟩, hB⟩ hK
    gi_wp2
    refine ⟨by simp, .inl ⟨_, _, rfl, run_takeDeferred hK, ?_⟩⟩
    exact ⟨_, results_tmp rfl _ _ _, rfl, hB.trans (belowK_b (w := w) (Nat.le_refl _) W D _ _ (by omega) hK rfl rfl)⟩
  case stop =>
    rintro D c pre W _ _ h _
    exact h.elim
theorem more_calls (c : Nat) (hc' : c < 65536) (s : ByteArray) (hs : s.size ≤ 9223372036854775807) (w : World) :
    Calls Try.prog 15 #[.int .u16 c, .string s] w fun e w' => e = .returned (.int .u16 (Fcs.more c (nats s.data.toList) : Int)) ∧ Below w.heap.size w w' :=
  callsIn_wide.1 (more_in 4 (by omega) c hc' s hs w)
end Go.Proofs.Ytphoemgnfmlngaa
