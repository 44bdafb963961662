/-
  Layer 4 (hdlc): met, walked.
-/
import Derived.Test.YtphoemgnfmlngaaHb
import Derived.WalkMore
import Derived.LaidEqlPtr
set_option linter.unusedVariables false
set_option linter.unusedSimpArgs false
namespace Go.Proofs.Ytphoemgnfmlngaa
open Go.RowKit Go.Proofs.YtphoemgnfmlngaaW.PrintWords Go.Proofs.YtphoemgnfmlngaaW.PrintLast

/-- All but one block lies as it lay. -/
structure But (B : Nat) (w w' : World) : Prop where
  os : w'.os = w.os
  tape : w'.tape = w.tape
  output : w'.output = w.output
  size : w.heap.size ≤ w'.heap.size
  block : ∀ k, k < w.heap.size → k ≠ B → w'.heap[k]? = w.heap[k]?
theorem But.refl (B : Nat) (w : World) : But B w w := ⟨rfl, rfl, rfl, Nat.le_refl _, fun _ _ _ => rfl⟩
theorem But.of_below {B : Nat} {w w' : World} (h : Below w.heap.size w w') : But B w w' := ⟨h.os, h.tape, h.output, h.size, fun k hk _ => h.block k hk⟩
theorem But.trans {B : Nat} {w w1 w2 : World} (h : But B w w1) (k : But B w1 w2) : But B w w2 :=
  ⟨k.os.trans h.os, k.tape.trans h.tape, k.output.trans h.output, Nat.le_trans h.size k.size, fun i hi hne => (k.block i (Nat.lt_of_lt_of_le hi h.size) hne).trans (h.block i hi hne)⟩
theorem But.set {B : Nat} {w w' : World} (h : But B w w') (j : Nat) (v : Value) : But B w (w'.setCell ⟨B, j, none⟩ v) :=
  ⟨h.os, h.tape, h.output, by simp [World.setCell]; exact h.size, fun k hk hne => (Below.heap_setCell w' ⟨B, j, none⟩ v k hne).trans (h.block k hk hne)⟩
theorem cell_lt {W : World} {a : Addr} {v : Value} (h : W.cell? a = some v) : a.block < W.heap.size := by
  rcases Nat.lt_or_ge a.block W.heap.size with h' | h'
  · exact h'
  · unfold World.cell? at h
    rw [Array.getElem?_eq_none h'] at h
    cases h
theorem own_str {W : World} {B : Nat} {v : Value} {l : List UInt8} (h : W.ownsRow B 5 1 v l.length (nums .u8 (ints l))) (hp : l ≠ []) : (convert 24 9 v).run Try.prog W = .ok (.string (str l)) W := by
  have hpos := List.length_pos_iff.2 hp
  rcases h.2 with ⟨rfl, h0⟩ | ⟨g, cap, cur, rfl, hg, hh, hnc, _⟩
  · omega
  · have := run_convert_bytes_arg (P := Try.prog) W 24 5 Try.underlying24 Try.underlying5 g 0 l.length cap (ints l) (by simp [ints]) (fun i hi => by
      have hlt : i < l.length := hi
      have hc := h.cells (g := g) rfl i (.int .u8 (((l.getD i 0).toNat : Nat) : Int)) (by simp [nums, ints, List.getElem?_eq_getElem hlt, List.getD_eq_getElem?_getD])
      have ha : (⟨g, 0, none⟩ : Addr).add i = ⟨g, 0 + i, none⟩ := by unfold Addr.add; split <;> simp_all
      rw [ha] at hc
      rw [hc]
      simp [ints, List.getElem?_eq_getElem hlt, List.getD_eq_getElem?_getD]) 9 Try.underlying9
    rw [this, ints_str]
    rfl
theorem errPair_form (l : List UInt8) : ∃ e : Int, errPair l = .tuple #[.string (str ((Esc.get l).getD [])), .int .i64 e] := by
  unfold errPair
  cases Esc.get l with
  | none => exact ⟨7, rfl⟩
  | some o => exact ⟨0, rfl⟩
theorem info3s : (Try.prog.info? 3).map (·.size) = some 1 := by kernel_rfl
theorem ptr82 : Try.prog.underlying 82 = some (.pointer 3) := by kernel_rfl
theorem ptr_self (a : Addr) (W : World) : (binOp .eql 82 (.pointer (some a)) (.pointer (some a))).run Try.prog W = .ok (.bool true) W := by
  rcases hi : Try.prog.info? 3 with _ | j
  · have := info3s; rw [hi] at this; cases this
  · exact run_eql_ptr_same W a ptr82 hi
theorem ptr_else {b ix : Nat} (hx : ix ≠ 0) (W : World) {c : Array Value} {t : TypeId} (h : W.heap[b]? = some (.cells c t (0, 0))) : (binOp .eql 82 (.pointer (some ⟨b, ix, none⟩)) (.pointer (some ⟨b, 0, none⟩))).run Try.prog W = .ok (.bool false) W := by
  rcases hi : Try.prog.info? 3 with _ | j
  · have := info3s; rw [hi] at this; cases this
  · have hz : j.size ≠ 0 := by have := info3s; rw [hi] at this; simp at this; omega
    exact run_eql_ptr_other W ptr82 hi hz (by simp [hx]) h h
/-- What came by a piece. -/
def Rc.t (r : Rc) : List UInt8 := (Esc.get r.p).getD []
/-- Where a piece is counted: 0 good, 1 aborted, 2 too long, 3 too short, 4 its sum is wrong. -/
def Rc.kind (r : Rc) : Nat := if r.p.getLast? = some 125 then 1 else if r.most + 2 < (r.t.length : Int) then 2 else if r.t.length < 4 then 3 else if Hd.good r.t = false then 4 else 0
def Rc.add (r : Rc) (k : Nat) : Rc := if k = 1 then { r with ab := r.ab + 1 } else if k = 2 then { r with lo := r.lo + 1 } else if k = 3 then { r with sh := r.sh + 1 } else if k = 4 then { r with su := r.su + 1 } else { r with g := r.g + 1 }
def Rc.info (r : Rc) : List UInt8 := if r.kind = 0 then r.t.take (r.t.length - 2) else []
theorem gets_len (l : List UInt8) : ((Esc.get l).getD []).length ≤ l.length := by
  have := Esc.gets_le l
  unfold Esc.get
  split
  · simp
  · split
    · simp
    · simpa using this
set_option maxHeartbeats 16000000 in
set_option maxRecDepth 100000 in
theorem met_calls (r : Rc) (B b : Nat) (v : Value) (w : World) (h : IsRc w B b r v) (hp : r.p ≠ []) (hs : r.p.length < 1000000) (hm : 2 ≤ r.most ∧ r.most ≤ 1508) (hk : r.g ≤ 1000000000 ∧ r.ab ≤ 1000000000 ∧ r.lo ≤ 1000000000 ∧ r.sh ≤ 1000000000 ∧ r.su ≤ 1000000000) :
    Calls Try.prog 58 #[.pointer (some ⟨b, 0, none⟩)] w fun e w' => e = .returned (.tuple #[.string (str r.info), .bool (decide (r.kind = 0))]) ∧ But b w w' ∧ IsRc w' B b (r.add r.kind) v := by
  obtain ⟨pa, pc, rfl⟩ := own_form h.own
  have hG := fun W => get_calls (str r.p) (by rw [str_size]; omega) W
  rw [str_list] at hG
  obtain ⟨ge, hge⟩ := errPair_form r.p
  rw [hge] at hG
  have htl : r.t.length < 1000000 := by have := gets_len r.p; unfold Rc.t; omega
  rw [show (Esc.get r.p).getD [] = r.t from rfl] at hG
  have Bx := (Below.refl w.heap.size w).alloc (Nat.le_refl _) (.cells #[.pointer (some ⟨b, 0, none⟩)] 47)
  have hx := h.below Bx
  have hcv := own_str hx.own hp
  have t1 := fun i => blk_cell hx.blk i
  have nx := alloc_new w _ (.cells #[.pointer (some ⟨b, 0, none⟩)] 47) rfl
  simp only [Rc.cells] at t1
  go_enter Try.func58, Try.ntmps58
  go_upto_region 1 with fail
  go_step3
  go_upto_region 2 with fail
  have hxs : (w.alloc (.cells #[.pointer (some ⟨b, 0, none⟩)] 47)).heap.size = w.heap.size + 1 := by simp
  have ha1 := (Below.refl (w.alloc (.cells #[.pointer (some ⟨b, 0, none⟩)] 47)).heap.size (w.alloc (.cells #[.pointer (some ⟨b, 0, none⟩)] 47))).alloc (Nat.le_refl _) (.cells #[.string (str r.p)] 9)
  have B1 := Bx.trans (ha1.mono Bx.size)
  have h1 := hx.below ha1
  have nx1 := (ha1.block _ (by simp)).trans nx
  have ns1 := alloc_new (w.alloc (.cells #[.pointer (some ⟨b, 0, none⟩)] 47)) (w.heap.size + 1) (.cells #[.string (str r.p)] 9) hxs.symm
  have s0 := blk_cell ns1 0
  clear ha1 hx Bx t1 hcv nx
  generalize (w.alloc (.cells #[.pointer (some ⟨b, 0, none⟩)] 47)).alloc (.cells #[.string (str r.p)] 9) = w1 at *
  clear hxs
  go_wp2_with (first
    | (go_at_call 26; with_reducible refine (hG _).mono ?_; rintro e w2 ⟨rfl, hb2⟩))
  go_step3
  go_upto_region 3 with fail
  have ha2 := hb2.trans (((Below.refl w2.heap.size w2).alloc (Nat.le_refl _) (.cells #[.string (str r.t)] 9)).mono hb2.size)
  have B2 := B1.trans (ha2.mono B1.size)
  have h2 := h1.below ha2
  have nx2 := (ha2.block _ ((Array.getElem?_eq_some_iff.1 nx1).1)).trans nx1
  have ns2 := (ha2.block _ ((Array.getElem?_eq_some_iff.1 ns1).1)).trans ns1
  have nt2 := alloc_new w2 _ (.cells #[.string (str r.t)] 9) rfl
  have ht0 : w.heap.size + 1 < w2.heap.size := Nat.lt_of_lt_of_le (Array.getElem?_eq_some_iff.1 ns1).1 hb2.size
  clear ha2 hb2 B1 h1 nx1 ns1 s0 hG
  generalize w2.alloc (.cells #[.string (str r.t)] 9) = w3 at *
  generalize w2.heap.size = tb at *
  have x0 : w3.cell? ⟨w.heap.size, 0, none⟩ = some (.pointer (some ⟨b, 0, none⟩)) := blk_cell nx2 0
  refine start_ (n := 32) (S := fun W' => Below w3.heap.size w3 W') (ds := []) (#[false, false, false, false, false, false, false, false, false, false, false, false, false, false, false, false, false, false, false, false, false, false, false, false, false, false, false, false, false, false, false, false]) (by kernel_rfl) rfl rfl (below_drew (Below.refl _ _)) (fun hS => ?_)
  generalize w3.drew = wB at *
  refine take_ (i := 0) (N := some 19) (v := ?_) (a' := ?_) #[true, false, false, false, false, false, false, false, false, false, false, false, false, false, false, false, false, false, false, false, false, false, false, false, false, false, false, false, false, false, false, false] rfl rfl (by kernel_rfl) (fun _ _ _ h => h) (.inl ⟨by rfl, fun w' hS' => ?_⟩) hS ?_ ?_
  rotate_left
  · go_simp
    with_reducible rfl
  rotate_left
  · simp only [Act.put, List.setIfInBounds_toArray, List.set_cons_zero, List.set_cons_succ]
    rfl
  refine take_ (i := 1) (N := some 20) (v := ?_) (a' := ?_) #[true, true, false, false, false, false, false, false, false, false, false, false, false, false, false, false, false, false, false, false, false, false, false, false, false, false, false, false, false, false, false, false] rfl rfl (by kernel_rfl) (fun _ _ _ h => h) (.inl ⟨by rfl, fun w' hS' => ?_⟩) hS ?_ ?_
  rotate_left
  · have x1 := (hS'.cell (cell_lt x0)).trans x0
    go_simp
    with_reducible rfl
  rotate_left
  · simp only [Act.put, List.setIfInBounds_toArray, List.set_cons_zero, List.set_cons_succ]
    rfl
  refine take_ (i := 2) (N := some 21) (v := ?_) (a' := ?_) #[true, true, true, false, false, false, false, false, false, false, false, false, false, false, false, false, false, false, false, false, false, false, false, false, false, false, false, false, false, false, false, false] rfl rfl (by kernel_rfl) (fun _ _ _ h => h) (.inl ⟨by rfl, fun w' hS' => ?_⟩) hS ?_ ?_
  rotate_left
  · go_simp
    with_reducible rfl
  rotate_left
  · simp only [Act.put, List.setIfInBounds_toArray, List.set_cons_zero, List.set_cons_succ]
    rfl
  refine take_ (i := 3) (N := some 22) (v := ?_) (a' := ?_) #[true, true, true, true, false, false, false, false, false, false, false, false, false, false, false, false, false, false, false, false, false, false, false, false, false, false, false, false, false, false, false, false] rfl rfl (by kernel_rfl) (fun _ _ _ h => h) (.inl ⟨by rfl, fun w' hS' => ?_⟩) hS ?_ ?_
  rotate_left
  · go_simp
    with_reducible rfl
  rotate_left
  · simp only [Act.put, List.setIfInBounds_toArray, List.set_cons_zero, List.set_cons_succ]
    rfl
  refine take_ (i := 4) (N := some 23) (v := ?_) (a' := ?_) #[true, true, true, true, true, false, false, false, false, false, false, false, false, false, false, false, false, false, false, false, false, false, false, false, false, false, false, false, false, false, false, false] rfl rfl (by kernel_rfl) (fun _ _ _ h => h) (.inl ⟨by rfl, fun w' hS' => ?_⟩) hS ?_ ?_
  rotate_left
  · go_simp
    with_reducible rfl
  rotate_left
  · simp only [Act.put, List.setIfInBounds_toArray, List.set_cons_zero, List.set_cons_succ]
    rfl
  refine take_ (i := 5) (N := some 24) (v := ?_) (a' := ?_) #[true, true, true, true, true, true, false, false, false, false, false, false, false, false, false, false, false, false, false, false, false, false, false, false, false, false, false, false, false, false, false, false] rfl rfl (by kernel_rfl) (fun _ _ _ h => h) (.inl ⟨by rfl, fun w' hS' => ?_⟩) hS ?_ ?_
  rotate_left
  · go_simp
    with_reducible rfl
  rotate_left
  · simp only [Act.put, List.setIfInBounds_toArray, List.set_cons_zero, List.set_cons_succ]
    rfl
  refine take_ (i := 6) (N := some 25) (v := ?_) (a' := ?_) #[true, true, true, true, true, true, true, false, false, false, false, false, false, false, false, false, false, false, false, false, false, false, false, false, false, false, false, false, false, false, false, false] rfl rfl (by kernel_rfl) (fun _ _ _ h => h) (.inl ⟨by rfl, fun w' hS' => ?_⟩) hS ?_ ?_
  rotate_left
  · go_simp
    with_reducible rfl
  rotate_left
  · simp only [Act.put, List.setIfInBounds_toArray, List.set_cons_zero, List.set_cons_succ]
    rfl
  refine take_ (i := 7) (N := some 26) (v := ?_) (a' := ?_) #[true, true, true, true, true, true, true, true, false, false, false, false, false, false, false, false, false, false, false, false, false, false, false, false, false, false, false, false, false, false, false, false] rfl rfl (by kernel_rfl) (fun _ _ _ h => h) (.inl ⟨by rfl, fun w' hS' => ?_⟩) hS ?_ ?_
  rotate_left
  · have x1 := (hS'.cell (cell_lt x0)).trans x0
    go_simp
    with_reducible rfl
  rotate_left
  · simp only [Act.put, List.setIfInBounds_toArray, List.set_cons_zero, List.set_cons_succ]
    rfl
  refine take_ (i := 8) (N := some 27) (v := ?_) (a' := ?_) #[true, true, true, true, true, true, true, true, true, false, false, false, false, false, false, false, false, false, false, false, false, false, false, false, false, false, false, false, false, false, false, false] rfl rfl (by kernel_rfl) (fun _ _ _ h => h) (.inl ⟨by rfl, fun w' hS' => ?_⟩) hS ?_ ?_
  rotate_left
  · go_simp
    with_reducible rfl
  rotate_left
  · simp only [Act.put, List.setIfInBounds_toArray, List.set_cons_zero, List.set_cons_succ]
    rfl
  refine take_ (i := 9) (N := some 28) (v := ?_) (a' := ?_) #[true, true, true, true, true, true, true, true, true, true, false, false, false, false, false, false, false, false, false, false, false, false, false, false, false, false, false, false, false, false, false, false] rfl rfl (by kernel_rfl) (fun _ _ _ h => h) (.inl ⟨by rfl, fun w' hS' => ?_⟩) hS ?_ ?_
  rotate_left
  · go_simp
    with_reducible rfl
  rotate_left
  · simp only [Act.put, List.setIfInBounds_toArray, List.set_cons_zero, List.set_cons_succ]
    rfl
  refine take_ (i := 10) (N := some 29) (v := ?_) (a' := ?_) #[true, true, true, true, true, true, true, true, true, true, true, false, false, false, false, false, false, false, false, false, false, false, false, false, false, false, false, false, false, false, false, false] rfl rfl (by kernel_rfl) (fun _ _ _ h => h) (.inl ⟨by rfl, fun w' hS' => ?_⟩) hS ?_ ?_
  rotate_left
  · go_simp
    with_reducible rfl
  rotate_left
  · simp only [Act.put, List.setIfInBounds_toArray, List.set_cons_zero, List.set_cons_succ]
    rfl
  refine take_ (i := 11) (N := some 30) (v := ?_) (a' := ?_) #[true, true, true, true, true, true, true, true, true, true, true, true, false, false, false, false, false, false, false, false, false, false, false, false, false, false, false, false, false, false, false, false] rfl rfl (by kernel_rfl) (fun _ _ _ h => h) (.inl ⟨by rfl, fun w' hS' => ?_⟩) hS ?_ ?_
  rotate_left
  · go_simp
    with_reducible rfl
  rotate_left
  · simp only [Act.put, List.setIfInBounds_toArray, List.set_cons_zero, List.set_cons_succ]
    rfl
  refine take_ (i := 12) (N := some 31) (v := ?_) (a' := ?_) #[true, true, true, true, true, true, true, true, true, true, true, true, true, false, false, false, false, false, false, false, false, false, false, false, false, false, false, false, false, false, false, false] rfl rfl (by kernel_rfl) (fun _ _ _ h => h) (.inl ⟨by rfl, fun w' hS' => ?_⟩) hS ?_ ?_
  rotate_left
  · go_simp
    with_reducible rfl
  rotate_left
  · simp only [Act.put, List.setIfInBounds_toArray, List.set_cons_zero, List.set_cons_succ]
    rfl
  refine take_ (i := 13) (N := some 32) (v := ?_) (a' := ?_) #[true, true, true, true, true, true, true, true, true, true, true, true, true, true, false, false, false, false, false, false, false, false, false, false, false, false, false, false, false, false, false, false] rfl rfl (by kernel_rfl) (fun _ _ _ h => h) (.inl ⟨by rfl, fun w' hS' => ?_⟩) hS ?_ ?_
  rotate_left
  · have x1 := (hS'.cell (cell_lt x0)).trans x0
    go_simp
    with_reducible rfl
  rotate_left
  · simp only [Act.put, List.setIfInBounds_toArray, List.set_cons_zero, List.set_cons_succ]
    rfl
  refine take_ (i := 14) (N := some 33) (v := ?_) (a' := ?_) #[true, true, true, true, true, true, true, true, true, true, true, true, true, true, true, false, false, false, false, false, false, false, false, false, false, false, false, false, false, false, false, false] rfl rfl (by kernel_rfl) (fun _ _ _ h => h) (.inl ⟨by rfl, fun w' hS' => ?_⟩) hS ?_ ?_
  rotate_left
  · go_simp
    with_reducible rfl
  rotate_left
  · simp only [Act.put, List.setIfInBounds_toArray, List.set_cons_zero, List.set_cons_succ]
    rfl
  refine take_ (i := 15) (N := some 34) (v := ?_) (a' := ?_) #[true, true, true, true, true, true, true, true, true, true, true, true, true, true, true, true, false, false, false, false, false, false, false, false, false, false, false, false, false, false, false, false] rfl rfl (by kernel_rfl) (fun _ _ _ h => h) (.inl ⟨by rfl, fun w' hS' => ?_⟩) hS ?_ ?_
  rotate_left
  · go_simp
    with_reducible rfl
  rotate_left
  · simp only [Act.put, List.setIfInBounds_toArray, List.set_cons_zero, List.set_cons_succ]
    rfl
  refine take_ (i := 16) (N := some 35) (v := ?_) (a' := ?_) #[true, true, true, true, true, true, true, true, true, true, true, true, true, true, true, true, true, false, false, false, false, false, false, false, false, false, false, false, false, false, false, false] rfl rfl (by kernel_rfl) (fun _ _ _ h => h) (.inl ⟨by rfl, fun w' hS' => ?_⟩) hS ?_ ?_
  rotate_left
  · go_simp
    with_reducible rfl
  rotate_left
  · simp only [Act.put, List.setIfInBounds_toArray, List.set_cons_zero, List.set_cons_succ]
    rfl
  refine take_ (i := 17) (N := some 36) (v := ?_) (a' := ?_) #[true, true, true, true, true, true, true, true, true, true, true, true, true, true, true, true, true, true, false, false, false, false, false, false, false, false, false, false, false, false, false, false] rfl rfl (by kernel_rfl) (fun _ _ _ h => h) (.inl ⟨by rfl, fun w' hS' => ?_⟩) hS ?_ ?_
  rotate_left
  · go_simp
    with_reducible rfl
  rotate_left
  · simp only [Act.put, List.setIfInBounds_toArray, List.set_cons_zero, List.set_cons_succ]
    rfl
  refine take_ (i := 18) (N := some 37) (v := ?_) (a' := ?_) #[true, true, true, true, true, true, true, true, true, true, true, true, true, true, true, true, true, true, true, false, false, false, false, false, false, false, false, false, false, false, false, false] rfl rfl (by kernel_rfl) (fun _ _ _ h => h) (.inl ⟨by rfl, fun w' hS' => ?_⟩) hS ?_ ?_
  rotate_left
  · go_simp
    with_reducible rfl
  rotate_left
  · simp only [Act.put, List.setIfInBounds_toArray, List.set_cons_zero, List.set_cons_succ]
    rfl
  refine take_ (i := 19) (N := some 38) (v := ?_) (a' := ?_) #[true, true, true, true, true, true, true, true, true, true, true, true, true, true, true, true, true, true, true, true, false, false, false, false, false, false, false, false, false, false, false, false] rfl rfl (by kernel_rfl) (fun _ _ _ h => h) (.inl ⟨by rfl, fun w' hS' => ?_⟩) hS ?_ ?_
  rotate_left
  · have x1 := (hS'.cell (cell_lt x0)).trans x0
    go_simp
    with_reducible rfl
  rotate_left
  · simp only [Act.put, List.setIfInBounds_toArray, List.set_cons_zero, List.set_cons_succ]
    rfl
  refine take_ (i := 20) (N := some 39) (v := ?_) (a' := ?_) #[true, true, true, true, true, true, true, true, true, true, true, true, true, true, true, true, true, true, true, true, true, false, false, false, false, false, false, false, false, false, false, false] rfl rfl (by kernel_rfl) (fun _ _ _ h => h) (.inl ⟨by rfl, fun w' hS' => ?_⟩) hS ?_ ?_
  rotate_left
  · go_simp
    with_reducible rfl
  rotate_left
  · simp only [Act.put, List.setIfInBounds_toArray, List.set_cons_zero, List.set_cons_succ]
    rfl
  refine take_ (i := 21) (N := some 40) (v := ?_) (a' := ?_) #[true, true, true, true, true, true, true, true, true, true, true, true, true, true, true, true, true, true, true, true, true, true, false, false, false, false, false, false, false, false, false, false] rfl rfl (by kernel_rfl) (fun _ _ _ h => h) (.inl ⟨by rfl, fun w' hS' => ?_⟩) hS ?_ ?_
  rotate_left
  · go_simp
    with_reducible rfl
  rotate_left
  · simp only [Act.put, List.setIfInBounds_toArray, List.set_cons_zero, List.set_cons_succ]
    rfl
  refine take_ (i := 22) (N := some 41) (v := ?_) (a' := ?_) #[true, true, true, true, true, true, true, true, true, true, true, true, true, true, true, true, true, true, true, true, true, true, true, false, false, false, false, false, false, false, false, false] rfl rfl (by kernel_rfl) (fun _ _ _ h => h) (.inl ⟨by rfl, fun w' hS' => ?_⟩) hS ?_ ?_
  rotate_left
  · go_simp
    with_reducible rfl
  rotate_left
  · simp only [Act.put, List.setIfInBounds_toArray, List.set_cons_zero, List.set_cons_succ]
    rfl
  refine take_ (i := 23) (N := some 42) (v := ?_) (a' := ?_) #[true, true, true, true, true, true, true, true, true, true, true, true, true, true, true, true, true, true, true, true, true, true, true, true, false, false, false, false, false, false, false, false] rfl rfl (by kernel_rfl) (fun _ _ _ h => h) (.inl ⟨by rfl, fun w' hS' => ?_⟩) hS ?_ ?_
  rotate_left
  · go_simp
    with_reducible rfl
  rotate_left
  · simp only [Act.put, List.setIfInBounds_toArray, List.set_cons_zero, List.set_cons_succ]
    rfl
  refine take_ (i := 24) (N := some 43) (v := ?_) (a' := ?_) #[true, true, true, true, true, true, true, true, true, true, true, true, true, true, true, true, true, true, true, true, true, true, true, true, true, false, false, false, false, false, false, false] rfl rfl (by kernel_rfl) (fun _ _ _ h => h) (.inl ⟨by rfl, fun w' hS' => ?_⟩) hS ?_ ?_
  rotate_left
  · have x1 := (hS'.cell (cell_lt x0)).trans x0
    go_simp
    with_reducible rfl
  rotate_left
  · simp only [Act.put, List.setIfInBounds_toArray, List.set_cons_zero, List.set_cons_succ]
    rfl
  refine take_ (i := 25) (N := some 44) (v := ?_) (a' := ?_) #[true, true, true, true, true, true, true, true, true, true, true, true, true, true, true, true, true, true, true, true, true, true, true, true, true, true, false, false, false, false, false, false] rfl rfl (by kernel_rfl) (fun _ _ _ h => h) (.inl ⟨by rfl, fun w' hS' => ?_⟩) hS ?_ ?_
  rotate_left
  · go_simp
    with_reducible rfl
  rotate_left
  · simp only [Act.put, List.setIfInBounds_toArray, List.set_cons_zero, List.set_cons_succ]
    rfl
  refine take_ (i := 26) (N := some 45) (v := ?_) (a' := ?_) #[true, true, true, true, true, true, true, true, true, true, true, true, true, true, true, true, true, true, true, true, true, true, true, true, true, true, true, false, false, false, false, false] rfl rfl (by kernel_rfl) (fun _ _ _ h => h) (.inl ⟨by rfl, fun w' hS' => ?_⟩) hS ?_ ?_
  rotate_left
  · go_simp
    with_reducible rfl
  rotate_left
  · simp only [Act.put, List.setIfInBounds_toArray, List.set_cons_zero, List.set_cons_succ]
    rfl
  refine take_ (i := 27) (N := some 46) (v := ?_) (a' := ?_) #[true, true, true, true, true, true, true, true, true, true, true, true, true, true, true, true, true, true, true, true, true, true, true, true, true, true, true, true, false, false, false, false] rfl rfl (by kernel_rfl) (fun _ _ _ h => h) (.inl ⟨by rfl, fun w' hS' => ?_⟩) hS ?_ ?_
  rotate_left
  · go_simp
    with_reducible rfl
  rotate_left
  · simp only [Act.put, List.setIfInBounds_toArray, List.set_cons_zero, List.set_cons_succ]
    rfl
  refine take_ (i := 28) (N := some 47) (v := ?_) (a' := ?_) #[true, true, true, true, true, true, true, true, true, true, true, true, true, true, true, true, true, true, true, true, true, true, true, true, true, true, true, true, true, false, false, false] rfl rfl (by kernel_rfl) (fun _ _ _ h => h) (.inl ⟨by rfl, fun w' hS' => ?_⟩) hS ?_ ?_
  rotate_left
  · go_simp
    with_reducible rfl
  rotate_left
  · simp only [Act.put, List.setIfInBounds_toArray, List.set_cons_zero, List.set_cons_succ]
    rfl
  refine take_ (i := 31) (N := some 50) (v := ?_) (a' := ?_) #[true, true, true, true, true, true, true, true, true, true, true, true, true, true, true, true, true, true, true, true, true, true, true, true, true, true, true, true, true, false, false, true] rfl rfl (by kernel_rfl) (fun _ _ _ h => h) (.inl ⟨by rfl, fun w' hS' => ?_⟩) hS ?_ ?_
  rotate_left
  · go_simp
    with_reducible rfl
  rotate_left
  · simp only [Act.put, List.setIfInBounds_toArray, List.set_cons_zero, List.set_cons_succ]
    rfl
  refine wpAnyLast_all (rs := [29]) (by kernel_rfl) (by simp) ?_
  intro i hi'
  obtain rfl := List.mem_singleton.1 hi'
  refine wpOp_step rfl (fun K' hK' => ?_)
  go_simp
  have hT := hS.alloc hS.size (.cells #[.func (.func 63) #[] #[.pointer (some ⟨w.heap.size + 1, 0, none⟩)], .pointer (some ⟨b, 1, none⟩), .func (.func 64) #[] #[.pointer (some ⟨tb, 0, none⟩), .pointer (some ⟨w.heap.size, 0, none⟩)], .pointer (some ⟨b, 2, none⟩), .func (.func 65) #[] #[.pointer (some ⟨tb, 0, none⟩)], .pointer (some ⟨b, 3, none⟩), .func (.func 66) #[] #[.pointer (some ⟨tb, 0, none⟩)], .pointer (some ⟨b, 4, none⟩), .func (.func 67) #[] #[], .pointer (some ⟨b, 0, none⟩)] 84)
  refine hK' _ _ ⟨fun _ _ => hT, ?_⟩
  have hB := hS
  clear hK' K' hS
  simp only [Act.put, List.setIfInBounds_toArray, List.set_cons_zero, List.set_cons_succ]
  have hS := hT
  clear hT
  have nk := alloc_new wB _ (.cells #[.func (.func 63) #[] #[.pointer (some ⟨w.heap.size + 1, 0, none⟩)], .pointer (some ⟨b, 1, none⟩), .func (.func 64) #[] #[.pointer (some ⟨tb, 0, none⟩), .pointer (some ⟨w.heap.size, 0, none⟩)], .pointer (some ⟨b, 2, none⟩), .func (.func 65) #[] #[.pointer (some ⟨tb, 0, none⟩)], .pointer (some ⟨b, 3, none⟩), .func (.func 66) #[] #[.pointer (some ⟨tb, 0, none⟩)], .pointer (some ⟨b, 4, none⟩), .func (.func 67) #[] #[], .pointer (some ⟨b, 0, none⟩)] 84) rfl
  have nlk : w3.heap.size ≤ wB.heap.size := hB.size
  generalize wB.alloc (.cells #[.func (.func 63) #[] #[.pointer (some ⟨w.heap.size + 1, 0, none⟩)], .pointer (some ⟨b, 1, none⟩), .func (.func 64) #[] #[.pointer (some ⟨tb, 0, none⟩), .pointer (some ⟨w.heap.size, 0, none⟩)], .pointer (some ⟨b, 2, none⟩), .func (.func 65) #[] #[.pointer (some ⟨tb, 0, none⟩)], .pointer (some ⟨b, 3, none⟩), .func (.func 66) #[] #[.pointer (some ⟨tb, 0, none⟩)], .pointer (some ⟨b, 4, none⟩), .func (.func 67) #[] #[], .pointer (some ⟨b, 0, none⟩)] 84) = wC at *
  generalize wB.heap.size = kb at *
  refine wpAnyLast_all (rs := [30]) (by kernel_rfl) (by simp) ?_
  intro i hi'
  obtain rfl := List.mem_singleton.1 hi'
  refine wpOp_step rfl (fun K' hK' => ?_)
  go_simp
  refine hK' _ _ ⟨fun _ h => h, ?_⟩
  clear hK' K'
  simp only [Act.put, List.setIfInBounds_toArray, List.set_cons_zero, List.set_cons_succ]
  refine wpAnyLast_done (by kernel_rfl) ?_ _
  have hC := h2.below hS
  have nxC := (hS.block _ ((Array.getElem?_eq_some_iff.1 nx2).1)).trans nx2
  have nsC := (hS.block _ ((Array.getElem?_eq_some_iff.1 ns2).1)).trans ns2
  have ntC := (hS.block _ ((Array.getElem?_eq_some_iff.1 nt2).1)).trans nt2
  have BC := B2.trans (hS.mono B2.size)
  have hbl := hC.lt
  have hA : Hid (r.kind = if r.p.getLast? = some 125 then 1 else if r.most + 2 < (r.t.length : Int) then 2 else if r.t.length < 4 then 3 else if Hd.good r.t = false then 4 else 0) := Lib.hid rfl
  have hI : Hid (r.info = if r.kind = 0 then r.t.take (r.t.length - 2) else []) := Lib.hid rfl
  clear h2 nx2 ns2 nt2 B2 x0 hS hB
  obtain ⟨pr, hpr⟩ : ∃ l, r.p = l := ⟨_, rfl⟩
  obtain ⟨tr, htr⟩ : ∃ l, r.t = l := ⟨_, rfl⟩
  rw [htr] at ntC htl hA hI
  have nsC' : wC.heap[w.heap.size + 1]? = some (.cells #[.string (str pr)] 9 (0, 0)) := by rw [← hpr]; exact nsC
  rw [hpr] at hA hp hs
  clear nsC
  replace hpr := Lib.hid hpr
  replace htr := Lib.hid htr
  have hC0 := Lib.hid hC
  clear hC
  go_wp2
  go_loopg [50] 4 (fun q i wr => ∃ k : Nat, k ≤ 4 ∧ q = 4 - k ∧ i = .int .i64 (k : Int) ∧ Hid ((1 ≤ k → pr.getLast? ≠ some 125) ∧ (2 ≤ k → ¬ r.most + 2 < (tr.length : Int)) ∧ (3 ≤ k → ¬ tr.length < 4) ∧ (4 ≤ k → Hd.good tr = true)) ∧ Below wC.heap.size wC wr)
  case atStart => exact ⟨0, by omega, rfl, rfl, Lib.hid ⟨by omega, by omega, by omega, by omega⟩, Below.refl _ _⟩
  case round =>
    obtain ⟨k, hk4, hq, rfl, hno, hB⟩ := hrel
    have A := Lib.hid hq; clear hq
    have hr := hC0.out.below hB
    have nxr := (hB.block _ ((Array.getElem?_eq_some_iff.1 nxC).1)).trans nxC
    have nsr := (hB.block _ ((Array.getElem?_eq_some_iff.1 nsC').1)).trans nsC'
    have ntr := (hB.block _ ((Array.getElem?_eq_some_iff.1 ntC).1)).trans ntC
    have nkr := (hB.block _ ((Array.getElem?_eq_some_iff.1 nk).1)).trans nk
    have kc := fun i => blk_cell nkr i
    have Br := BC.trans (hB.mono BC.size)
    rcases (show k = 0 ∨ k = 1 ∨ k = 2 ∨ k = 3 ∨ k = 4 by omega) with rfl | rfl | rfl | rfl | rfl
    · have Ba := (Below.refl wr.heap.size wr).alloc (Nat.le_refl _) (.cells #[.func (.func 63) #[] #[.pointer (some ⟨w.heap.size + 1, 0, none⟩)], .pointer (some ⟨b, 1, none⟩)] 84)
      have hrA := hr.below Ba
      have nxA := (Ba.block _ ((Array.getElem?_eq_some_iff.1 nxr).1)).trans nxr
      have nsA := (Ba.block _ ((Array.getElem?_eq_some_iff.1 nsr).1)).trans nsr
      have ntA := (Ba.block _ ((Array.getElem?_eq_some_iff.1 ntr).1)).trans ntr
      have BA := Br.trans (Ba.mono Br.size)
      have BwA := hB.trans (Ba.mono hB.size)
      have nA := alloc_new wr _ (.cells #[.func (.func 63) #[] #[.pointer (some ⟨w.heap.size + 1, 0, none⟩)], .pointer (some ⟨b, 1, none⟩)] 84) rfl
      have nAl : wr.heap.size < (wr.alloc (.cells #[.func (.func 63) #[] #[.pointer (some ⟨w.heap.size + 1, 0, none⟩)], .pointer (some ⟨b, 1, none⟩)] 84)).heap.size := by simp
      have hob : wr.heap.size ≠ b := by have := hr.lt; omega
      go_upto_region 6 with fail
      generalize wr.alloc (.cells #[.func (.func 63) #[] #[.pointer (some ⟨w.heap.size + 1, 0, none⟩)], .pointer (some ⟨b, 1, none⟩)] 84) = wk at *
      generalize wr.heap.size = ob at *
      clear hr nxr nsr ntr nkr kc Br hB Ba
      have a0 := fun i => blk_cell nA i
      have s0 : wk.cell? ⟨w.heap.size + 1, 0, none⟩ = some (.string (str pr)) := blk_cell nsA 0
      have s1 : wk.cell? ⟨tb, 0, none⟩ = some (.string (str tr)) := blk_cell ntA 0
      have s2 : wk.cell? ⟨w.heap.size, 0, none⟩ = some (.pointer (some ⟨b, 0, none⟩)) := blk_cell nxA 0
      have hno0 := hno.out
      by_cases ht : pr.getLast? = some 125
      · have hkd : r.kind = 1 := by rw [hA.out, if_pos ht]
        have hdt : decide (pr.getLast? = some 125) = true := by simp [ht]
        clear ht hno0
        go_upto_region 7 with (first
          | (go_at_call 63; with_reducible refine (m1_calls _ pr hp hs _ s0).mono ?_; rintro e w5 ⟨rfl, hw⟩; obtain rfl := hw.symm; rw [hdt]))
        have B9 : Below wk.heap.size wk wk := Below.refl _ _
        have h9 := hrA.below B9
        have n9 := (B9.block _ nAl).trans nA
        have nt9 := (B9.block _ ((Array.getElem?_eq_some_iff.1 ntA).1)).trans ntA
        have nx9 := (B9.block _ ((Array.getElem?_eq_some_iff.1 nxA).1)).trans nxA
        have BF := BA.trans (B9.mono BA.size)
        have q0 := fun i => blk_cell n9 i
        have q1 := fun i => blk_cell h9.blk i
        have q2 := fun i => blk_frozen h9.blk i
        simp only [Rc.cells] at q1
        have hcb : wk.heap[b]? = _ := h9.blk
        have u0 := fun u i => blk_cell ((Below.heap_setCell wk ⟨b, 1, none⟩ u ob hob).trans n9) i
        have hxb : w.heap.size ≠ b := by have := h.lt; omega
        have u1 := fun u i => blk_cell ((Below.heap_setCell wk ⟨b, 1, none⟩ u w.heap.size hxb).trans nx9) i
        have htb : tb ≠ b := by have := h.lt; omega
        have u2 : ∀ u i, (wk.setCell ⟨b, 1, none⟩ u).cell? ⟨tb, i, none⟩ = _ := fun u i => blk_cell ((Below.heap_setCell wk ⟨b, 1, none⟩ u tb htb).trans nt9) i
        obtain ⟨k0, k1, k2, k3, k4⟩ := hk
        have ep : ∀ W : World, W.heap[b]? = (wk.setCell ⟨b, 1, none⟩ (.int .i64 ((r.ab : Int) + 1))).heap[b]? → (binOp .eql 82 (.pointer (some ⟨b, 1, none⟩)) (.pointer (some ⟨b, 0, none⟩))).run Try.prog W = .ok (.bool false) W := fun W h => by
          have hW := h.trans (blk_set h9.blk 1 (.int .i64 ((r.ab : Int) + 1)))
          exact ptr_else (by decide) W hW
        have ep0 := ep (wk.setCell ⟨b, 1, none⟩ (.int .i64 ((r.ab : Int) + 1))) rfl
        have ep1 := fun n => ep ((wk.setCell ⟨b, 1, none⟩ (.int .i64 ((r.ab : Int) + 1))).drewN n) rfl
        go_wp2
        go_quiet (fail)
        go_wp2
        rw [Exit.noGoto_ret]
        go_ret2
        rw [hI.out, hkd, if_neg (by decide)]
        refine ⟨rfl, ((But.of_below BF).set 1 (.int .i64 ((r.ab : Int) + 1))).trans (But.of_below (below_drewN (Below.refl _ _) _)), ?_⟩
        have hfin : IsRc (wk.setCell ⟨b, 1, none⟩ (.int .i64 ((r.ab : Int) + 1))) B b (r.add 1) (.slice pa r.p.length pc) := by unfold Rc.add; exact ⟨blk_set h9.blk 1 _, own_setCell h9.own (own_ne h9.own h9.blk (by decide)) _⟩
        exact hfin.below (below_drewN (Below.refl _ _) _)
      · have hdt : decide (pr.getLast? = some 125) = false := by simp [ht]
        have hno1 := Lib.hid (show (1 ≤ 1 → pr.getLast? ≠ some 125) ∧ (2 ≤ 1 → ¬ r.most + 2 < (tr.length : Int)) ∧ (3 ≤ 1 → ¬ tr.length < 4) ∧ (4 ≤ 1 → Hd.good tr = true) from ⟨fun _ => ht, fun h => absurd h (by omega), fun h => absurd h (by omega), fun h => absurd h (by omega)⟩)
        clear ht hno0
        go_wp2_with (first
          | (go_at_call 63; with_reducible refine (m1_calls _ pr hp hs _ s0).mono ?_; rintro e w5 ⟨rfl, hw⟩; obtain rfl := hw.symm; rw [hdt]))
        go_roundg 3
        case measure => have := A.out; omega
        case rel =>
          have B9 : Below wk.heap.size wk wk := Below.refl _ _
          exact ⟨1, by omega, rfl, rfl, hno1, BwA.trans (B9.mono BwA.size)⟩
    · have Ba := (Below.refl wr.heap.size wr).alloc (Nat.le_refl _) (.cells #[.func (.func 64) #[] #[.pointer (some ⟨tb, 0, none⟩), .pointer (some ⟨w.heap.size, 0, none⟩)], .pointer (some ⟨b, 2, none⟩)] 84)
      have hrA := hr.below Ba
      have nxA := (Ba.block _ ((Array.getElem?_eq_some_iff.1 nxr).1)).trans nxr
      have nsA := (Ba.block _ ((Array.getElem?_eq_some_iff.1 nsr).1)).trans nsr
      have ntA := (Ba.block _ ((Array.getElem?_eq_some_iff.1 ntr).1)).trans ntr
      have BA := Br.trans (Ba.mono Br.size)
      have BwA := hB.trans (Ba.mono hB.size)
      have nA := alloc_new wr _ (.cells #[.func (.func 64) #[] #[.pointer (some ⟨tb, 0, none⟩), .pointer (some ⟨w.heap.size, 0, none⟩)], .pointer (some ⟨b, 2, none⟩)] 84) rfl
      have nAl : wr.heap.size < (wr.alloc (.cells #[.func (.func 64) #[] #[.pointer (some ⟨tb, 0, none⟩), .pointer (some ⟨w.heap.size, 0, none⟩)], .pointer (some ⟨b, 2, none⟩)] 84)).heap.size := by simp
      have hob : wr.heap.size ≠ b := by have := hr.lt; omega
      go_upto_region 6 with fail
      generalize wr.alloc (.cells #[.func (.func 64) #[] #[.pointer (some ⟨tb, 0, none⟩), .pointer (some ⟨w.heap.size, 0, none⟩)], .pointer (some ⟨b, 2, none⟩)] 84) = wk at *
      generalize wr.heap.size = ob at *
      clear hr nxr nsr ntr nkr kc Br hB Ba
      have a0 := fun i => blk_cell nA i
      have s0 : wk.cell? ⟨w.heap.size + 1, 0, none⟩ = some (.string (str pr)) := blk_cell nsA 0
      have s1 : wk.cell? ⟨tb, 0, none⟩ = some (.string (str tr)) := blk_cell ntA 0
      have s2 : wk.cell? ⟨w.heap.size, 0, none⟩ = some (.pointer (some ⟨b, 0, none⟩)) := blk_cell nxA 0
      have hno0 := hno.out
      by_cases ht : r.most + 2 < (tr.length : Int)
      · have hkd : r.kind = 2 := by rw [hA.out, if_neg (hno0.1 (by omega)), if_pos ht]
        have hdt : decide (r.most + 2 < (tr.length : Int)) = true := by simp [ht]
        clear ht hno0
        go_upto_region 7 with (first
          | (go_at_call 64; with_reducible refine (m2_calls _ _ b B tr htl r _ hm _ s1 s2 hrA).mono ?_; rintro e w5 ⟨rfl, nn, hw⟩; obtain rfl := hw; rw [hdt]))
        have B9 : Below wk.heap.size wk (wk.drewN nn) := below_drewN (Below.refl _ _) nn
        have h9 := hrA.below B9
        have n9 := (B9.block _ nAl).trans nA
        have nt9 := (B9.block _ ((Array.getElem?_eq_some_iff.1 ntA).1)).trans ntA
        have nx9 := (B9.block _ ((Array.getElem?_eq_some_iff.1 nxA).1)).trans nxA
        have BF := BA.trans (B9.mono BA.size)
        generalize (wk.drewN nn) = w9 at *
        have q0 := fun i => blk_cell n9 i
        have q1 := fun i => blk_cell h9.blk i
        have q2 := fun i => blk_frozen h9.blk i
        simp only [Rc.cells] at q1
        have hcb : w9.heap[b]? = _ := h9.blk
        have u0 := fun u i => blk_cell ((Below.heap_setCell w9 ⟨b, 2, none⟩ u ob hob).trans n9) i
        have hxb : w.heap.size ≠ b := by have := h.lt; omega
        have u1 := fun u i => blk_cell ((Below.heap_setCell w9 ⟨b, 2, none⟩ u w.heap.size hxb).trans nx9) i
        have htb : tb ≠ b := by have := h.lt; omega
        have u2 : ∀ u i, (w9.setCell ⟨b, 2, none⟩ u).cell? ⟨tb, i, none⟩ = _ := fun u i => blk_cell ((Below.heap_setCell w9 ⟨b, 2, none⟩ u tb htb).trans nt9) i
        obtain ⟨k0, k1, k2, k3, k4⟩ := hk
        have ep : ∀ W : World, W.heap[b]? = (w9.setCell ⟨b, 2, none⟩ (.int .i64 ((r.lo : Int) + 1))).heap[b]? → (binOp .eql 82 (.pointer (some ⟨b, 2, none⟩)) (.pointer (some ⟨b, 0, none⟩))).run Try.prog W = .ok (.bool false) W := fun W h => by
          have hW := h.trans (blk_set h9.blk 2 (.int .i64 ((r.lo : Int) + 1)))
          exact ptr_else (by decide) W hW
        have ep0 := ep (w9.setCell ⟨b, 2, none⟩ (.int .i64 ((r.lo : Int) + 1))) rfl
        have ep1 := fun n => ep ((w9.setCell ⟨b, 2, none⟩ (.int .i64 ((r.lo : Int) + 1))).drewN n) rfl
        go_wp2
        go_quiet (fail)
        go_wp2
        rw [Exit.noGoto_ret]
        go_ret2
        rw [hI.out, hkd, if_neg (by decide)]
        refine ⟨rfl, ((But.of_below BF).set 2 (.int .i64 ((r.lo : Int) + 1))).trans (But.of_below (below_drewN (Below.refl _ _) _)), ?_⟩
        have hfin : IsRc (w9.setCell ⟨b, 2, none⟩ (.int .i64 ((r.lo : Int) + 1))) B b (r.add 2) (.slice pa r.p.length pc) := by unfold Rc.add; exact ⟨blk_set h9.blk 2 _, own_setCell h9.own (own_ne h9.own h9.blk (by decide)) _⟩
        exact hfin.below (below_drewN (Below.refl _ _) _)
      · have hdt : decide (r.most + 2 < (tr.length : Int)) = false := by simp [ht]
        have hno1 := Lib.hid (show (1 ≤ 2 → pr.getLast? ≠ some 125) ∧ (2 ≤ 2 → ¬ r.most + 2 < (tr.length : Int)) ∧ (3 ≤ 2 → ¬ tr.length < 4) ∧ (4 ≤ 2 → Hd.good tr = true) from ⟨fun _ => hno0.1 (by omega), fun _ => ht, fun h => absurd h (by omega), fun h => absurd h (by omega)⟩)
        clear ht hno0
        go_wp2_with (first
          | (go_at_call 64; with_reducible refine (m2_calls _ _ b B tr htl r _ hm _ s1 s2 hrA).mono ?_; rintro e w5 ⟨rfl, nn, hw⟩; obtain rfl := hw; rw [hdt]))
        go_roundg 2
        case measure => have := A.out; omega
        case rel =>
          have B9 : Below wk.heap.size wk (wk.drewN nn) := below_drewN (Below.refl _ _) nn
          exact ⟨2, by omega, rfl, rfl, hno1, BwA.trans (B9.mono BwA.size)⟩
    · have Ba := (Below.refl wr.heap.size wr).alloc (Nat.le_refl _) (.cells #[.func (.func 65) #[] #[.pointer (some ⟨tb, 0, none⟩)], .pointer (some ⟨b, 3, none⟩)] 84)
      have hrA := hr.below Ba
      have nxA := (Ba.block _ ((Array.getElem?_eq_some_iff.1 nxr).1)).trans nxr
      have nsA := (Ba.block _ ((Array.getElem?_eq_some_iff.1 nsr).1)).trans nsr
      have ntA := (Ba.block _ ((Array.getElem?_eq_some_iff.1 ntr).1)).trans ntr
      have BA := Br.trans (Ba.mono Br.size)
      have BwA := hB.trans (Ba.mono hB.size)
      have nA := alloc_new wr _ (.cells #[.func (.func 65) #[] #[.pointer (some ⟨tb, 0, none⟩)], .pointer (some ⟨b, 3, none⟩)] 84) rfl
      have nAl : wr.heap.size < (wr.alloc (.cells #[.func (.func 65) #[] #[.pointer (some ⟨tb, 0, none⟩)], .pointer (some ⟨b, 3, none⟩)] 84)).heap.size := by simp
      have hob : wr.heap.size ≠ b := by have := hr.lt; omega
      go_upto_region 6 with fail
      generalize wr.alloc (.cells #[.func (.func 65) #[] #[.pointer (some ⟨tb, 0, none⟩)], .pointer (some ⟨b, 3, none⟩)] 84) = wk at *
      generalize wr.heap.size = ob at *
      clear hr nxr nsr ntr nkr kc Br hB Ba
      have a0 := fun i => blk_cell nA i
      have s0 : wk.cell? ⟨w.heap.size + 1, 0, none⟩ = some (.string (str pr)) := blk_cell nsA 0
      have s1 : wk.cell? ⟨tb, 0, none⟩ = some (.string (str tr)) := blk_cell ntA 0
      have s2 : wk.cell? ⟨w.heap.size, 0, none⟩ = some (.pointer (some ⟨b, 0, none⟩)) := blk_cell nxA 0
      have hno0 := hno.out
      by_cases ht : tr.length < 4
      · have hkd : r.kind = 3 := by rw [hA.out, if_neg (hno0.1 (by omega)), if_neg (hno0.2.1 (by omega)), if_pos ht]
        have hdt : decide (tr.length < 4) = true := by simp [ht]
        clear ht hno0
        go_upto_region 7 with (first
          | (go_at_call 65; with_reducible refine (m3_calls _ tr htl _ s1).mono ?_; rintro e w5 ⟨rfl, hw⟩; obtain rfl := hw.symm; rw [hdt]))
        have B9 : Below wk.heap.size wk wk := Below.refl _ _
        have h9 := hrA.below B9
        have n9 := (B9.block _ nAl).trans nA
        have nt9 := (B9.block _ ((Array.getElem?_eq_some_iff.1 ntA).1)).trans ntA
        have nx9 := (B9.block _ ((Array.getElem?_eq_some_iff.1 nxA).1)).trans nxA
        have BF := BA.trans (B9.mono BA.size)
        have q0 := fun i => blk_cell n9 i
        have q1 := fun i => blk_cell h9.blk i
        have q2 := fun i => blk_frozen h9.blk i
        simp only [Rc.cells] at q1
        have hcb : wk.heap[b]? = _ := h9.blk
        have u0 := fun u i => blk_cell ((Below.heap_setCell wk ⟨b, 3, none⟩ u ob hob).trans n9) i
        have hxb : w.heap.size ≠ b := by have := h.lt; omega
        have u1 := fun u i => blk_cell ((Below.heap_setCell wk ⟨b, 3, none⟩ u w.heap.size hxb).trans nx9) i
        have htb : tb ≠ b := by have := h.lt; omega
        have u2 : ∀ u i, (wk.setCell ⟨b, 3, none⟩ u).cell? ⟨tb, i, none⟩ = _ := fun u i => blk_cell ((Below.heap_setCell wk ⟨b, 3, none⟩ u tb htb).trans nt9) i
        obtain ⟨k0, k1, k2, k3, k4⟩ := hk
        have ep : ∀ W : World, W.heap[b]? = (wk.setCell ⟨b, 3, none⟩ (.int .i64 ((r.sh : Int) + 1))).heap[b]? → (binOp .eql 82 (.pointer (some ⟨b, 3, none⟩)) (.pointer (some ⟨b, 0, none⟩))).run Try.prog W = .ok (.bool false) W := fun W h => by
          have hW := h.trans (blk_set h9.blk 3 (.int .i64 ((r.sh : Int) + 1)))
          exact ptr_else (by decide) W hW
        have ep0 := ep (wk.setCell ⟨b, 3, none⟩ (.int .i64 ((r.sh : Int) + 1))) rfl
        have ep1 := fun n => ep ((wk.setCell ⟨b, 3, none⟩ (.int .i64 ((r.sh : Int) + 1))).drewN n) rfl
        go_wp2
        go_quiet (fail)
        go_wp2
        rw [Exit.noGoto_ret]
        go_ret2
        rw [hI.out, hkd, if_neg (by decide)]
        refine ⟨rfl, ((But.of_below BF).set 3 (.int .i64 ((r.sh : Int) + 1))).trans (But.of_below (below_drewN (Below.refl _ _) _)), ?_⟩
        have hfin : IsRc (wk.setCell ⟨b, 3, none⟩ (.int .i64 ((r.sh : Int) + 1))) B b (r.add 3) (.slice pa r.p.length pc) := by unfold Rc.add; exact ⟨blk_set h9.blk 3 _, own_setCell h9.own (own_ne h9.own h9.blk (by decide)) _⟩
        exact hfin.below (below_drewN (Below.refl _ _) _)
      · have hdt : decide (tr.length < 4) = false := by simp [ht]
        have hno1 := Lib.hid (show (1 ≤ 3 → pr.getLast? ≠ some 125) ∧ (2 ≤ 3 → ¬ r.most + 2 < (tr.length : Int)) ∧ (3 ≤ 3 → ¬ tr.length < 4) ∧ (4 ≤ 3 → Hd.good tr = true) from ⟨fun _ => hno0.1 (by omega), fun _ => hno0.2.1 (by omega), fun _ => ht, fun h => absurd h (by omega)⟩)
        clear ht hno0
        go_wp2_with (first
          | (go_at_call 65; with_reducible refine (m3_calls _ tr htl _ s1).mono ?_; rintro e w5 ⟨rfl, hw⟩; obtain rfl := hw.symm; rw [hdt]))
        go_roundg 1
        case measure => have := A.out; omega
        case rel =>
          have B9 : Below wk.heap.size wk wk := Below.refl _ _
          exact ⟨3, by omega, rfl, rfl, hno1, BwA.trans (B9.mono BwA.size)⟩
    · have Ba := (Below.refl wr.heap.size wr).alloc (Nat.le_refl _) (.cells #[.func (.func 66) #[] #[.pointer (some ⟨tb, 0, none⟩)], .pointer (some ⟨b, 4, none⟩)] 84)
      have hrA := hr.below Ba
      have nxA := (Ba.block _ ((Array.getElem?_eq_some_iff.1 nxr).1)).trans nxr
      have nsA := (Ba.block _ ((Array.getElem?_eq_some_iff.1 nsr).1)).trans nsr
      have ntA := (Ba.block _ ((Array.getElem?_eq_some_iff.1 ntr).1)).trans ntr
      have BA := Br.trans (Ba.mono Br.size)
      have BwA := hB.trans (Ba.mono hB.size)
      have nA := alloc_new wr _ (.cells #[.func (.func 66) #[] #[.pointer (some ⟨tb, 0, none⟩)], .pointer (some ⟨b, 4, none⟩)] 84) rfl
      have nAl : wr.heap.size < (wr.alloc (.cells #[.func (.func 66) #[] #[.pointer (some ⟨tb, 0, none⟩)], .pointer (some ⟨b, 4, none⟩)] 84)).heap.size := by simp
      have hob : wr.heap.size ≠ b := by have := hr.lt; omega
      go_upto_region 6 with fail
      generalize wr.alloc (.cells #[.func (.func 66) #[] #[.pointer (some ⟨tb, 0, none⟩)], .pointer (some ⟨b, 4, none⟩)] 84) = wk at *
      generalize wr.heap.size = ob at *
      clear hr nxr nsr ntr nkr kc Br hB Ba
      have a0 := fun i => blk_cell nA i
      have s0 : wk.cell? ⟨w.heap.size + 1, 0, none⟩ = some (.string (str pr)) := blk_cell nsA 0
      have s1 : wk.cell? ⟨tb, 0, none⟩ = some (.string (str tr)) := blk_cell ntA 0
      have s2 : wk.cell? ⟨w.heap.size, 0, none⟩ = some (.pointer (some ⟨b, 0, none⟩)) := blk_cell nxA 0
      have hno0 := hno.out
      by_cases ht : Hd.good tr = false
      · have hkd : r.kind = 4 := by rw [hA.out, if_neg (hno0.1 (by omega)), if_neg (hno0.2.1 (by omega)), if_neg (hno0.2.2.1 (by omega)), if_pos ht]
        have hdt : (!Hd.good tr) = true := by simp [ht]
        clear ht hno0
        go_upto_region 7 with (first
          | (go_at_call 66; with_reducible refine (m4_calls _ tr htl _ s1).mono ?_; rintro e w5 ⟨rfl, hb5⟩; rw [hdt]))
        have B9 : Below wk.heap.size wk w5 := hb5
        have h9 := hrA.below B9
        have n9 := (B9.block _ nAl).trans nA
        have nt9 := (B9.block _ ((Array.getElem?_eq_some_iff.1 ntA).1)).trans ntA
        have nx9 := (B9.block _ ((Array.getElem?_eq_some_iff.1 nxA).1)).trans nxA
        have BF := BA.trans (B9.mono BA.size)
        generalize hw9 : w5 = w9 at *
        clear hw9
        have q0 := fun i => blk_cell n9 i
        have q1 := fun i => blk_cell h9.blk i
        have q2 := fun i => blk_frozen h9.blk i
        simp only [Rc.cells] at q1
        have hcb : w9.heap[b]? = _ := h9.blk
        have u0 := fun u i => blk_cell ((Below.heap_setCell w9 ⟨b, 4, none⟩ u ob hob).trans n9) i
        have hxb : w.heap.size ≠ b := by have := h.lt; omega
        have u1 := fun u i => blk_cell ((Below.heap_setCell w9 ⟨b, 4, none⟩ u w.heap.size hxb).trans nx9) i
        have htb : tb ≠ b := by have := h.lt; omega
        have u2 : ∀ u i, (w9.setCell ⟨b, 4, none⟩ u).cell? ⟨tb, i, none⟩ = _ := fun u i => blk_cell ((Below.heap_setCell w9 ⟨b, 4, none⟩ u tb htb).trans nt9) i
        obtain ⟨k0, k1, k2, k3, k4⟩ := hk
        have ep : ∀ W : World, W.heap[b]? = (w9.setCell ⟨b, 4, none⟩ (.int .i64 ((r.su : Int) + 1))).heap[b]? → (binOp .eql 82 (.pointer (some ⟨b, 4, none⟩)) (.pointer (some ⟨b, 0, none⟩))).run Try.prog W = .ok (.bool false) W := fun W h => by
          have hW := h.trans (blk_set h9.blk 4 (.int .i64 ((r.su : Int) + 1)))
          exact ptr_else (by decide) W hW
        have ep0 := ep (w9.setCell ⟨b, 4, none⟩ (.int .i64 ((r.su : Int) + 1))) rfl
        have ep1 := fun n => ep ((w9.setCell ⟨b, 4, none⟩ (.int .i64 ((r.su : Int) + 1))).drewN n) rfl
        go_wp2
        go_quiet (fail)
        go_wp2
        rw [Exit.noGoto_ret]
        go_ret2
        rw [hI.out, hkd, if_neg (by decide)]
        refine ⟨rfl, ((But.of_below BF).set 4 (.int .i64 ((r.su : Int) + 1))).trans (But.of_below (below_drewN (Below.refl _ _) _)), ?_⟩
        have hfin : IsRc (w9.setCell ⟨b, 4, none⟩ (.int .i64 ((r.su : Int) + 1))) B b (r.add 4) (.slice pa r.p.length pc) := by unfold Rc.add; exact ⟨blk_set h9.blk 4 _, own_setCell h9.own (own_ne h9.own h9.blk (by decide)) _⟩
        exact hfin.below (below_drewN (Below.refl _ _) _)
      · have hdt : (!Hd.good tr) = false := by simp [ht]
        have hno1 := Lib.hid (show (1 ≤ 4 → pr.getLast? ≠ some 125) ∧ (2 ≤ 4 → ¬ r.most + 2 < (tr.length : Int)) ∧ (3 ≤ 4 → ¬ tr.length < 4) ∧ (4 ≤ 4 → Hd.good tr = true) from ⟨fun _ => hno0.1 (by omega), fun _ => hno0.2.1 (by omega), fun _ => hno0.2.2.1 (by omega), fun _ => by simpa using ht⟩)
        clear ht hno0
        go_wp2_with (first
          | (go_at_call 66; with_reducible refine (m4_calls _ tr htl _ s1).mono ?_; rintro e w5 ⟨rfl, hb5⟩; rw [hdt]))
        go_roundg 0
        case measure => have := A.out; omega
        case rel =>
          have B9 : Below wk.heap.size wk w5 := hb5
          exact ⟨4, by omega, rfl, rfl, hno1, BwA.trans (B9.mono BwA.size)⟩
    · have Ba := (Below.refl wr.heap.size wr).alloc (Nat.le_refl _) (.cells #[.func (.func 67) #[] #[], .pointer (some ⟨b, 0, none⟩)] 84)
      have hrA := hr.below Ba
      have nxA := (Ba.block _ ((Array.getElem?_eq_some_iff.1 nxr).1)).trans nxr
      have nsA := (Ba.block _ ((Array.getElem?_eq_some_iff.1 nsr).1)).trans nsr
      have ntA := (Ba.block _ ((Array.getElem?_eq_some_iff.1 ntr).1)).trans ntr
      have BA := Br.trans (Ba.mono Br.size)
      have BwA := hB.trans (Ba.mono hB.size)
      have nA := alloc_new wr _ (.cells #[.func (.func 67) #[] #[], .pointer (some ⟨b, 0, none⟩)] 84) rfl
      have nAl : wr.heap.size < (wr.alloc (.cells #[.func (.func 67) #[] #[], .pointer (some ⟨b, 0, none⟩)] 84)).heap.size := by simp
      have hob : wr.heap.size ≠ b := by have := hr.lt; omega
      go_upto_region 6 with fail
      generalize wr.alloc (.cells #[.func (.func 67) #[] #[], .pointer (some ⟨b, 0, none⟩)] 84) = wk at *
      generalize wr.heap.size = ob at *
      clear hr nxr nsr ntr nkr kc Br hB Ba
      have a0 := fun i => blk_cell nA i
      have s0 : wk.cell? ⟨w.heap.size + 1, 0, none⟩ = some (.string (str pr)) := blk_cell nsA 0
      have s1 : wk.cell? ⟨tb, 0, none⟩ = some (.string (str tr)) := blk_cell ntA 0
      have s2 : wk.cell? ⟨w.heap.size, 0, none⟩ = some (.pointer (some ⟨b, 0, none⟩)) := blk_cell nxA 0
      have hno0 := hno.out
      have hgd := hno0.2.2.2 (by omega)
      have hkd : r.kind = 0 := by rw [hA.out, if_neg (hno0.1 (by omega)), if_neg (hno0.2.1 (by omega)), if_neg (hno0.2.2.1 (by omega)), if_neg (by rw [hgd]; simp)]
      clear hno0
      go_upto_region 7 with (first
        | (go_at_call 67; with_reducible refine (m5_calls _).mono ?_; rintro e w5 ⟨rfl, hw⟩; obtain rfl := hw.symm))
      have B9 : Below wk.heap.size wk wk := Below.refl _ _
      have h9 := hrA.below B9
      have n9 := (B9.block _ nAl).trans nA
      have nt9 := (B9.block _ ((Array.getElem?_eq_some_iff.1 ntA).1)).trans ntA
      have nx9 := (B9.block _ ((Array.getElem?_eq_some_iff.1 nxA).1)).trans nxA
      have BF := BA.trans (B9.mono BA.size)
      have q0 := fun i => blk_cell n9 i
      have q1 := fun i => blk_cell h9.blk i
      have q2 := fun i => blk_frozen h9.blk i
      simp only [Rc.cells] at q1
      have hcb : wk.heap[b]? = _ := h9.blk
      have u0 := fun u i => blk_cell ((Below.heap_setCell wk ⟨b, 0, none⟩ u ob hob).trans n9) i
      have hxb : w.heap.size ≠ b := by have := h.lt; omega
      have u1 := fun u i => blk_cell ((Below.heap_setCell wk ⟨b, 0, none⟩ u w.heap.size hxb).trans nx9) i
      have htb : tb ≠ b := by have := h.lt; omega
      have u2 : ∀ u i, (wk.setCell ⟨b, 0, none⟩ u).cell? ⟨tb, i, none⟩ = _ := fun u i => blk_cell ((Below.heap_setCell wk ⟨b, 0, none⟩ u tb htb).trans nt9) i
      obtain ⟨k0, k1, k2, k3, k4⟩ := hk
      have ep : ∀ W : World, W.heap[b]? = (wk.setCell ⟨b, 0, none⟩ (.int .i64 ((r.g : Int) + 1))).heap[b]? → (binOp .eql 82 (.pointer (some ⟨b, 0, none⟩)) (.pointer (some ⟨b, 0, none⟩))).run Try.prog W = .ok (.bool true) W := fun W h => by
        exact ptr_self ⟨b, 0, none⟩ W
      have ep0 := ep (wk.setCell ⟨b, 0, none⟩ (.int .i64 ((r.g : Int) + 1))) rfl
      have ep1 := fun n => ep ((wk.setCell ⟨b, 0, none⟩ (.int .i64 ((r.g : Int) + 1))).drewN n) rfl
      go_wp2
      go_quiet (fail)
      have hO := fun W => open_calls (str tr) (by rw [str_size]; omega) (by rw [str_list]; exact hgd) W
      rw [str_list, str_size] at hO
      go_wp2_with (first
        | (go_at_call 16; with_reducible refine (hO _).mono ?_; rintro e w7 ⟨rfl, hb7⟩))
      rw [Exit.noGoto_ret]
      go_ret2
      rw [hI.out, hkd, if_pos rfl]
      refine ⟨rfl, (((But.of_below BF).set 0 (.int .i64 ((r.g : Int) + 1))).trans (But.of_below (below_drewN (Below.refl _ _) _))).trans (But.of_below hb7), ?_⟩
      have hfin : IsRc (wk.setCell ⟨b, 0, none⟩ (.int .i64 ((r.g : Int) + 1))) B b (r.add 0) (.slice pa r.p.length pc) := by unfold Rc.add; exact ⟨blk_set h9.blk 0 _, own_setCell h9.own (own_ne h9.own h9.blk (by decide)) _⟩
      exact (hfin.below (below_drewN (Below.refl _ _) _)).below hb7
end Go.Proofs.Ytphoemgnfmlngaa
