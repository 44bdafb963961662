/-
  Layer 8 (option): the iterator over options' steps, walked.
-/
import Derived.Test.YtjkhmnipffdliaaFlt
import Derived.Test.YtjkhmnipffdliaaBridge
import Derived.RangeFuncNested
import Derived.RangeFuncBound
import Derived.RangeFuncCalls
import Derived.RangeFuncLeaves
import Derived.RangeFuncFrom
import Derived.Shelf.Abstract
import Derived.Shelf.RegionOpen
import Derived.OwnWalkIn
import Derived.TacticsInMore
import Derived.LoopNIn
import Derived.LoopIn
import Derived.Laws.Strings3
import Derived.Lib.Builder
set_option linter.unusedVariables false
set_option linter.unusedSimpArgs false
namespace Go.Proofs.Ytjkhmnipffdliaa
open Go.Shelf Go.RowKit Go.Proofs.YtjkhmnipffdliaaW.PrintWords Go.Proofs.YtjkhmnipffdliaaW.PrintLast

attribute [local go_sem] Oper.semAt_some
/-- A step: an option, where it begins, and what is wrong. -/
structure Stp where
  o : Opt
  at_ : Nat
  e : Int
def encS (x : Stp) : Array Value := #[.agg #[.int .u8 (tv x.o.t), .string x.o.d, .int .i64 (x.at_ : Int), .int .i64 x.e]]
/-- An option's length, as its second byte has it; what is wrong with the first one of bytes; the option. -/
def b1 (r : ByteArray) : UInt8 := r.data.getD 1 0
def bad (r : ByteArray) (k : Nat) : Option Int :=
  if 64 ≤ k then some 4 else if r.size < 2 then some 6 else if (b1 r).toNat < 2 then some 7 else if r.size < (b1 r).toNat then some 6 else none
def optOf (r : ByteArray) : Opt := ⟨r.data.getD 0 0, r.extract 2 (b1 r).toNat⟩
def tail (s : ByteArray) (at_ : Nat) : ByteArray := s.extract at_ s.size
def steps (s : ByteArray) : Nat → Nat → Nat → List Stp
  | 0, _, _ => []
  | f + 1, at_, k => if at_ < s.size then (match bad (tail s at_) k with
      | some e => [⟨noOpt, at_, e⟩]
      | none => ⟨optOf (tail s at_), at_, 0⟩ :: steps s f (at_ + (b1 (tail s at_)).toNat) (k + 1)) else []
theorem steps_end {s : ByteArray} {f at_ k : Nat} (h : ¬ at_ < s.size) : steps s f at_ k = [] := by
  cases f with
  | zero => rfl
  | succ f => rw [steps, if_neg h]
theorem steps_bad {s : ByteArray} {f at_ k : Nat} {e : Int} (h : at_ < s.size) (hb : bad (tail s at_) k = some e) : steps s (f + 1) at_ k = [⟨noOpt, at_, e⟩] := by
  rw [steps, if_pos h, hb]
theorem steps_ok {s : ByteArray} {f at_ k : Nat} (h : at_ < s.size) (hb : bad (tail s at_) k = none) : steps s (f + 1) at_ k = ⟨optOf (tail s at_), at_, 0⟩ :: steps s f (at_ + (b1 (tail s at_)).toNat) (k + 1) := by
  rw [steps, if_pos h, hb]
/-- What the iterator asks of a round: its text and its step lie as they lay. -/
def KeepT (A C : World) : Prop := ∀ (b : Nat) (cs : Array Value) (t : TypeId), (t = 9 ∨ t = 56) → A.heap[b]? = some (.cells cs t (0, 0)) → C.heap[b]? = some (.cells cs t (0, 0))
theorem keepT_t {A C D : World} (h : KeepT A C) (k : KeepT C D) : KeepT A D := fun b cs t ht hv => k b cs t ht (h b cs t ht hv)
theorem keepT_b {w : World} (W : World) (l : Nat) (o o' : Obj) (_ : w.heap.size ≤ l) (h : W.heap[l]? = some o) (hc : o.isCells = false) (_ : o.isWalk = false) : KeepT W (W.putObj l o') :=
  fun b cs t _ hv => ((grownBy_putObj' W l o').block b ((Array.getElem?_eq_some_iff.1 hv).1) (fun e => by
    cases e
    rw [h] at hv
    obtain rfl := Option.some.inj hv
    exact absurd hc (by simp [Obj.isCells]))).trans hv
theorem KeepT.refl (W : World) : KeepT W W := fun _ _ _ _ h => h
theorem AbidesFrom.below {β : Type} {n : Nat} {J : β → World → Prop} (h : AbidesFrom n J) {s : β} {w w' : World} (hs : J s w) (hb : Below w.heap.size w w') : J s w' :=
  h s w w' none hs (grown_below hb) (fun _ e => by cases e)
theorem wpListIn_tail {F : Fence} {n : Nat} {w : World} {ops : Array Oper} {rest : List Oper} {o : Oper} {a : Act} {Q : Exit → Act → World → Prop} (hgd : o.guard = none) (x y : Operand) (ho : o.op = .slice 9 x (some y) none none)
    (s : ByteArray) (at_ : Nat) (hx : a.eval x = .string s) (hy : a.eval y = .int .i64 (at_ : Int)) (hle : at_ ≤ s.size) (h : wpListIn F n Try.prog ops Q rest (a.put o.dst (.string (tail s at_))) w) : wpListIn F n Try.prog ops Q (o :: rest) a w := by
  refine wpListIn_told hgd (by rw [ho]; intro c hc; cases hc) (by unfold Oper.about; rw [ho]) (.string (tail s at_)) ?_ h
  have hl : (0 : Int) ≤ (at_ : Int) ∧ (at_ : Int) ≤ (s.size : Int) := by omega
  simp only [execOp, ho, hx, hy, Option.map_some, Option.map_none]
  have hr := run_slice_string_from_if (P := Try.prog) w 9 s .i64 (at_ : Int) Try.underlying9
  rw [if_pos hl] at hr
  go_simp
  rfl
theorem b1_at {r : ByteArray} (h : 1 < r.size) : b1 r = r[1] := by
  unfold b1
  rw [Array.getD_eq_getD_getElem?, Array.getElem?_eq_getElem h]; rfl
theorem b0_at {r : ByteArray} (h : 0 < r.size) : r.data.getD 0 0 = r[0] := by
  rw [Array.getD_eq_getD_getElem?, Array.getElem?_eq_getElem h]; rfl
theorem tail_size (s : ByteArray) (k : Nat) (h : k ≤ s.size) : (tail s k).size = s.size - k := by
  unfold tail; rw [ByteArray.size_extract]; omega
theorem zero_tv : tv (0 : UInt8) = 0 := rfl
theorem prefix_mid {α : Type} (pre : List α) (x : α) (l : List α) : pre ++ [x] <+: pre ++ x :: l := ⟨l, by simp⟩
set_option maxRecDepth 100000 in
set_option maxHeartbeats 4000000 in
theorem each1_in (n : Nat) (hn : 1 ≤ n) (l B : Nat) (s : ByteArray) (hs : s.size ≤ 1000000) (J Jx : List Stp → World → Prop) (W : World) (hJ : AbidesFrom W.heap.size J)
    (hY : ∀ pre x W1, J pre W1 → pre.length < s.size → YieldAt Fence.wide (n - 1) Try.prog l (encS x) W1 fun e W' =>
      (e = .returned (.bool true) ∧ J (pre ++ [x]) W' ∧ KeepT W1 W') ∨ (e = .returned (.bool false) ∧ Jx (pre ++ [x]) W'))
    (hB : W.heap[B]? = some (.cells #[.string s] 9 (0, 0))) (h0 : J [] W) :
    CallsIn Fence.wide n Try.prog 29 #[.func (.yield l) #[] #[], .pointer (some ⟨B, 0, none⟩)] W fun e W' => (∃ v, e = .returned v) ∧
      ((∃ ys, ys = steps s (s.size + 1) 0 0 ∧ J ys W') ∨ (∃ pre, pre <+: steps s (s.size + 1) 0 0 ∧ Jx pre W')) := by
  refine callsIn_of_wp Try.func29 rfl trivial ?_ rfl
  simp only [Try.ntmps29, List.size_toArray, List.length_cons, List.length_nil, Nat.reduceAdd, Nat.reduceSub, Array.replicate_succ, Array.replicate_zero, List.push_toArray, List.append_toArray, List.nil_append, List.cons_append]
  gi_wp2
  gi_loopw [3, 4] (fun p q wr => ∃ (at_ k f : Nat) (pre : List Stp), at_ ≤ s.size ∧ 2 * k ≤ at_ ∧ s.size < at_ + f ∧ p = .int .i64 (at_ : Int) ∧ q = .int .i64 (k : Int) ∧ pre.length = k ∧ wr.heap[B]? = some (.cells #[.string s] 9 (0, 0)) ∧ J pre wr ∧ Hid (steps s (s.size + 1) 0 0 = pre ++ steps s f at_ k))
    (fun p _ _ => s.size - (intOf p).toNat)
  case atStart => exact ⟨0, 0, s.size + 1, [], by omega, by omega, by omega, rfl, rfl, rfl, hB, h0, Lib.hid rfl⟩
  case round =>
    obtain ⟨at_, k, f, pre, hle, h2k, hf, rfl, rfl, hpl, hBr, hJr, hst⟩ := hrel
    have hc : wr.cell? ⟨B, 0, none⟩ = some (.string s) := by rw [Lib.cell_of_heap hBr]; rfl
    have hBl : B < wr.heap.size := (Array.getElem?_eq_some_iff.1 hBr).1
    have hca : ∀ o, (wr.alloc o).cell? ⟨B, 0, none⟩ = some (.string s) := fun o => (((Below.refl _ _).alloc (Nat.le_refl _) o).cell (p := ⟨B, 0, none⟩) hBl).trans hc
    by_cases hlt : at_ < s.size
    · have hh : decide ((at_ : Int) < (s.size : Int)) = true := by simp; omega
      have hlen : pre.length < s.size := by omega
      obtain ⟨f, rfl⟩ : ∃ g, f = g + 1 := ⟨f - 1, by omega⟩
      have hrs := tail_size s at_ hle
      have hrn : (tail s at_).size ≠ 0 := by omega
      have hsb := fun e => steps_bad (s := s) (f := f) (at_ := at_) (k := k) (e := e) hlt
      have hso := steps_ok (s := s) (f := f) (at_ := at_) (k := k) hlt
      have HSB := Lib.hid hsb; clear hsb
      have HSO := Lib.hid hso; clear hso
      have HY := Lib.hid (hY pre); clear hY
      have hTW := Lib.hid hrs; clear hrs
      by_cases hk : 64 ≤ k
      · have hb : bad (tail s at_) k = some 4 := if_pos hk
        have q1 : decide ((64 : Int) < (k : Int) + 1) = true := by simp; omega
        have Hb := Lib.hid (HSB.out 4 hb); clear hb
        have hJ2 := fun o => AbidesFrom.below hJ hJr ((Below.refl _ _).alloc (Nat.le_refl _) o)
        obtain ⟨fn, tmps, assign, body, hy, hR⟩ := HY.out ⟨noOpt, at_, 4⟩ (wr.alloc (.cells #[.int .u8 0, .string ⟨#[]⟩, .int .i64 (at_ : Int), .int .i64 4] 56)) (hJ2 _) hlen
        have hnew := heap_alloc_new wr (.cells #[.int .u8 0, .string ⟨#[]⟩, .int .i64 (at_ : Int), .int .i64 4] 56)
        dsimp only [encS, noOpt, zero_tv] at hy
        gi_wp2_with (first
          | refine wpListIn_tail rfl _ _ rfl s at_ rfl rfl hle ?_)
        refine hR.mono ?_
        rintro e W3 (⟨rfl, hJ3, hk3⟩ | ⟨rfl, hJx3⟩)
        · have hn3 := hk3 _ _ _ (.inr rfl) hnew
          have d3 : W3.cell? ⟨wr.heap.size, 3, none⟩ = some (.int .i64 4) := by rw [Lib.cell_of_heap hn3]; rfl
          clear hca
          gi_wp2
          refine bodyPost_ret (results_none rfl _ _ _) rfl ?_
          exact ⟨⟨_, rfl⟩, .inl ⟨_, by rw [hst.out, Hb.out], hJ3⟩⟩
        · clear hca
          gi_wp2
          refine bodyPost_ret (results_none rfl _ _ _) rfl ?_
          exact ⟨⟨_, rfl⟩, .inr ⟨_, by rw [hst.out, Hb.out]; exact List.prefix_rfl, hJx3⟩⟩
      have q1 : decide ((64 : Int) < (k : Int) + 1) = false := by simp; omega
      by_cases h2 : (tail s at_).size < 2
      · have hb : bad (tail s at_) k = some 6 := by rw [bad, if_neg hk, if_pos h2]
        have q2 : decide (((tail s at_).size : Int) < 2) = true := by simp; omega
        have q2' : decide ((tail s at_).size < 2) = true := by simp; omega
        have Hb := Lib.hid (HSB.out 6 hb); clear hb
        have hJ2 := fun o => AbidesFrom.below hJ hJr ((Below.refl _ _).alloc (Nat.le_refl _) o)
        obtain ⟨fn, tmps, assign, body, hy, hR⟩ := HY.out ⟨noOpt, at_, 6⟩ (wr.alloc (.cells #[.int .u8 0, .string ⟨#[]⟩, .int .i64 (at_ : Int), .int .i64 6] 56)) (hJ2 _) hlen
        have hnew := heap_alloc_new wr (.cells #[.int .u8 0, .string ⟨#[]⟩, .int .i64 (at_ : Int), .int .i64 6] 56)
        dsimp only [encS, noOpt, zero_tv] at hy
        gi_wp2_with (first
          | refine wpListIn_tail rfl _ _ rfl s at_ rfl rfl hle ?_)
        refine hR.mono ?_
        rintro e W3 (⟨rfl, hJ3, hk3⟩ | ⟨rfl, hJx3⟩)
        · have hn3 := hk3 _ _ _ (.inr rfl) hnew
          have d3 : W3.cell? ⟨wr.heap.size, 3, none⟩ = some (.int .i64 6) := by rw [Lib.cell_of_heap hn3]; rfl
          clear hca
          gi_wp2
          refine bodyPost_ret (results_none rfl _ _ _) rfl ?_
          exact ⟨⟨_, rfl⟩, .inl ⟨_, by rw [hst.out, Hb.out], hJ3⟩⟩
        · clear hca
          gi_wp2
          refine bodyPost_ret (results_none rfl _ _ _) rfl ?_
          exact ⟨⟨_, rfl⟩, .inr ⟨_, by rw [hst.out, Hb.out]; exact List.prefix_rfl, hJx3⟩⟩
      have q2 : decide (((tail s at_).size : Int) < 2) = false := by simp; omega
      have q2' : decide ((tail s at_).size < 2) = false := by simp; omega
      have p0 : 0 < (tail s at_).size := by omega
      have p1 : 1 < (tail s at_).size := by omega
      have p1' : (1 : Int) < ((tail s at_).size : Int) := by omega
      have p0' : (0 : Int) < ((tail s at_).size : Int) := by omega
      have hbx := Lib.hid (b1_at p1)
      by_cases h3 : (tail s at_)[1].toNat < 2
      · have hb : bad (tail s at_) k = some 7 := by rw [bad, if_neg hk, if_neg h2, hbx.out, if_pos h3]
        have q3 : decide ((((tail s at_)[1].toNat : Nat) : Int) < 2) = true := by simp; omega
        have q3' : decide ((tail s at_)[1].toNat < 2) = true := by simp; omega
        have Hb := Lib.hid (HSB.out 7 hb); clear hb
        have hJ2 := fun o => AbidesFrom.below hJ hJr ((Below.refl _ _).alloc (Nat.le_refl _) o)
        obtain ⟨fn, tmps, assign, body, hy, hR⟩ := HY.out ⟨noOpt, at_, 7⟩ (wr.alloc (.cells #[.int .u8 0, .string ⟨#[]⟩, .int .i64 (at_ : Int), .int .i64 7] 56)) (hJ2 _) hlen
        have hnew := heap_alloc_new wr (.cells #[.int .u8 0, .string ⟨#[]⟩, .int .i64 (at_ : Int), .int .i64 7] 56)
        dsimp only [encS, noOpt, zero_tv] at hy
        gi_wp2_with (first
          | refine wpListIn_tail rfl _ _ rfl s at_ rfl rfl hle ?_)
        refine hR.mono ?_
        rintro e W3 (⟨rfl, hJ3, hk3⟩ | ⟨rfl, hJx3⟩)
        · have hn3 := hk3 _ _ _ (.inr rfl) hnew
          have d3 : W3.cell? ⟨wr.heap.size, 3, none⟩ = some (.int .i64 7) := by rw [Lib.cell_of_heap hn3]; rfl
          clear hca
          gi_wp2
          refine bodyPost_ret (results_none rfl _ _ _) rfl ?_
          exact ⟨⟨_, rfl⟩, .inl ⟨_, by rw [hst.out, Hb.out], hJ3⟩⟩
        · clear hca
          gi_wp2
          refine bodyPost_ret (results_none rfl _ _ _) rfl ?_
          exact ⟨⟨_, rfl⟩, .inr ⟨_, by rw [hst.out, Hb.out]; exact List.prefix_rfl, hJx3⟩⟩
      have q3 : decide ((((tail s at_)[1].toNat : Nat) : Int) < 2) = false := by simp; omega
      have q3' : decide ((tail s at_)[1].toNat < 2) = false := by simp; omega
      have hb8 : (((tail s at_)[1].toNat : Nat) : Int) ≤ 255 := by have := (tail s at_)[1].toNat_lt; omega
      have hb2 : (2 : Int) ≤ (((tail s at_)[1].toNat : Nat) : Int) := by omega
      by_cases h4 : (tail s at_).size < (tail s at_)[1].toNat
      · have hb : bad (tail s at_) k = some 6 := by rw [bad, if_neg hk, if_neg h2, hbx.out, if_neg h3, if_pos h4]
        have q4 : decide (((tail s at_).size : Int) < (((tail s at_)[1].toNat : Nat) : Int)) = true := by simp; omega
        have q4' : decide ((tail s at_).size < (tail s at_)[1].toNat) = true := by simp; omega
        have Hb := Lib.hid (HSB.out 6 hb); clear hb
        have hJ2 := fun o => AbidesFrom.below hJ hJr ((Below.refl _ _).alloc (Nat.le_refl _) o)
        obtain ⟨fn, tmps, assign, body, hy, hR⟩ := HY.out ⟨noOpt, at_, 6⟩ (wr.alloc (.cells #[.int .u8 0, .string ⟨#[]⟩, .int .i64 (at_ : Int), .int .i64 6] 56)) (hJ2 _) hlen
        have hnew := heap_alloc_new wr (.cells #[.int .u8 0, .string ⟨#[]⟩, .int .i64 (at_ : Int), .int .i64 6] 56)
        dsimp only [encS, noOpt, zero_tv] at hy
        gi_wp2_with (first
          | refine wpListIn_tail rfl _ _ rfl s at_ rfl rfl hle ?_)
        refine hR.mono ?_
        rintro e W3 (⟨rfl, hJ3, hk3⟩ | ⟨rfl, hJx3⟩)
        · have hn3 := hk3 _ _ _ (.inr rfl) hnew
          have d3 : W3.cell? ⟨wr.heap.size, 3, none⟩ = some (.int .i64 6) := by rw [Lib.cell_of_heap hn3]; rfl
          clear hca
          gi_wp2
          refine bodyPost_ret (results_none rfl _ _ _) rfl ?_
          exact ⟨⟨_, rfl⟩, .inl ⟨_, by rw [hst.out, Hb.out], hJ3⟩⟩
        · clear hca
          gi_wp2
          refine bodyPost_ret (results_none rfl _ _ _) rfl ?_
          exact ⟨⟨_, rfl⟩, .inr ⟨_, by rw [hst.out, Hb.out]; exact List.prefix_rfl, hJx3⟩⟩
      have h4' : (((tail s at_)[1].toNat : Nat) : Int) ≤ ((tail s at_).size : Int) := by omega
      have q4 : decide (((tail s at_).size : Int) < (((tail s at_)[1].toNat : Nat) : Int)) = false := by simp; omega
      have q4' : decide ((tail s at_).size < (tail s at_)[1].toNat) = false := by simp; omega
      have hb : bad (tail s at_) k = none := by rw [bad, if_neg hk, if_neg h2, hbx.out, if_neg h3, if_neg h4]
      have Hb := Lib.hid (HSO.out hb); clear hb
      gi_wp2_with (first
        | refine wpListIn_tail rfl _ _ rfl s at_ rfl rfl hle ?_)
      refine wpIn0_region_of_any hn (by kernel_rfl) (by simp) (by rintro ⟨a, w, h⟩; obtain ⟨⟨v, hv⟩, _⟩ := h; cases hv) ?_
      refine wpAny_of_last (ds := [8]) (S := fun _ => True) _ _ _ _ ?_
      have hS : True := trivial
      refine wpAnyLast_take (i := 0) (v := .string (tail s at_)) rfl (by kernel_rfl) (by kernel_rfl) (by kernel_rfl) (by kernel_rfl) (by kernel_rfl) (fun _ _ _ h => h) (.inl ⟨rfl, fun w' hS' => ?_⟩) hS ?_
      · go_simp
      refine wpAnyLast_take (i := 1) (v := .int .u8 (((tail s at_)[0].toNat : Nat) : Int)) rfl (by kernel_rfl) (by kernel_rfl) (by kernel_rfl) (by kernel_rfl) (by kernel_rfl) (fun _ _ _ h => h) (.inl ⟨rfl, fun w' hS' => ?_⟩) hS ?_
      · go_simp
      refine wpAnyLast_take (i := 2) (v := .string (tail s at_)) rfl (by kernel_rfl) (by kernel_rfl) (by kernel_rfl) (by kernel_rfl) (by kernel_rfl) (fun _ _ _ h => h) (.inl ⟨rfl, fun w' hS' => ?_⟩) hS ?_
      · go_simp
      refine wpAnyLast_take (i := 3) (v := .string (tail s at_)) rfl (by kernel_rfl) (by kernel_rfl) (by kernel_rfl) (by kernel_rfl) (by kernel_rfl) (fun _ _ _ h => h) (.inl ⟨rfl, fun w' hS' => ?_⟩) hS ?_
      · go_simp
      refine wpAnyLast_take (i := 4) (v := .int .u8 (((tail s at_)[1].toNat : Nat) : Int)) rfl (by kernel_rfl) (by kernel_rfl) (by kernel_rfl) (by kernel_rfl) (by kernel_rfl) (fun _ _ _ h => h) (.inl ⟨rfl, fun w' hS' => ?_⟩) hS ?_
      · go_simp
      refine wpAnyLast_take (i := 5) (v := .string ((tail s at_).extract 2 (tail s at_)[1].toNat)) rfl (by kernel_rfl) (by kernel_rfl) (by kernel_rfl) (by kernel_rfl) (by kernel_rfl) (fun _ _ _ h => h) (.inl ⟨rfl, fun w' hS' => ?_⟩) hS ?_
      · go_simp
      refine wpAnyLast_take (i := 6) (v := .agg #[.int .u8 (((tail s at_)[0].toNat : Nat) : Int), .string ((tail s at_).extract 2 (tail s at_)[1].toNat)]) rfl (by kernel_rfl) (by kernel_rfl) (by kernel_rfl) (by kernel_rfl) (by kernel_rfl) (fun _ _ _ h => h) (.inl ⟨rfl, fun w' hS' => ?_⟩) hS ?_
      · go_simp
      refine wpAnyLast_take (i := 7) (v := .pointer (some ⟨wr.heap.size, 0, none⟩)) rfl (by kernel_rfl) (by kernel_rfl) (by kernel_rfl) (by kernel_rfl) (by kernel_rfl) (fun _ _ _ h => h) (.inl ⟨rfl, fun w' hS' => ?_⟩) hS ?_
      · go_simp
      refine wpAnyLast_all (rs := [8]) (by kernel_rfl) (by simp) ?_
      intro i hi'
      obtain rfl := List.mem_singleton.1 hi'
      refine wpOp_step rfl (fun K' hK => ?_)
      go_simp
      refine hK _ _ ⟨fun h => by simp at h, ?_⟩
      clear hK K'
      refine wpAnyLast_done (by kernel_rfl) ?_ _
      have hox : (⟨⟨(tail s at_)[0], (tail s at_).extract 2 (tail s at_)[1].toNat⟩, at_, 0⟩ : Stp) = ⟨optOf (tail s at_), at_, 0⟩ := by rw [optOf, b0_at p0, hbx.out]
      have hBW : Below wr.heap.size wr (wr.alloc (.cells #[.int .u8 (((tail s at_)[0].toNat : Nat) : Int), .string ((tail s at_).extract 2 (tail s at_)[1].toNat), .int .i64 (at_ : Int), .int .i64 0] 56)).drew := below_drew ((Below.refl _ _).alloc (Nat.le_refl _) _)
      have hJ2 := AbidesFrom.below hJ hJr hBW
      have hnew : (wr.alloc (.cells #[.int .u8 (((tail s at_)[0].toNat : Nat) : Int), .string ((tail s at_).extract 2 (tail s at_)[1].toNat), .int .i64 (at_ : Int), .int .i64 0] 56)).drew.heap[wr.heap.size]? = _ := heap_alloc_new wr (.cells #[.int .u8 (((tail s at_)[0].toNat : Nat) : Int), .string ((tail s at_).extract 2 (tail s at_)[1].toNat), .int .i64 (at_ : Int), .int .i64 0] 56)
      have hBn := (hBW.block B hBl).trans hBr
      obtain ⟨fn, tmps, assign, body, hy, hR⟩ := HY.out ⟨⟨(tail s at_)[0], (tail s at_).extract 2 (tail s at_)[1].toNat⟩, at_, 0⟩ _ hJ2 hlen
      have Hox := Lib.hid hox; clear hox
      dsimp only [encS, tv] at hy
      gi_wp2
      refine hR.mono ?_
      rintro e W3 (⟨rfl, hJ3, hk3⟩ | ⟨rfl, hJx3⟩)
      · have hn3 := hk3 _ _ _ (.inr rfl) hnew
        have hB3 := hk3 _ _ _ (.inl rfl) hBn
        have d3 : W3.cell? ⟨wr.heap.size, 3, none⟩ = some (.int .i64 0) := by rw [Lib.cell_of_heap hn3]; rfl
        clear hca
        gi_wp2
        go_roundw
        case rel =>
          refine ⟨at_ + (b1 (tail s at_)).toNat, k + 1, f, _, ?_, ?_, ?_, by rw [hbx.out]; go_num, by go_num, ?_, hB3, hJ3, Lib.hid ?_⟩
          · have := hTW.out; rw [hbx.out]; omega
          · rw [hbx.out]; omega
          · rw [hbx.out]; omega
          · rw [List.length_append, hpl]; rfl
          · rw [hst.out, Hb.out, Hox.out, List.append_assoc]; rfl
        case measure => simp [intOf]; omega
      · clear hca
        gi_wp2
        refine bodyPost_ret (results_none rfl _ _ _) rfl ?_
        exact ⟨⟨_, rfl⟩, .inr ⟨_, by rw [hst.out, Hb.out, Hox.out]; exact prefix_mid _ _ _, hJx3⟩⟩
    · have hh : decide ((at_ : Int) < (s.size : Int)) = false := by simp; omega
      gi_wp2
      go_end0
      exact ⟨⟨_, rfl⟩, .inl ⟨pre, by rw [hst.out, steps_end hlt, List.append_nil], hJr⟩⟩
theorem each_stops (n : Nat) (hn : 1 ≤ n) (B : Nat) (s : ByteArray) (hs : s.size ≤ 1000000) (w : World) (hB : w.heap[B]? = some (.cells #[.string s] 9 (0, 0))) :
    SeqStopsK Fence.wide n Try.prog 29 #[.pointer (some ⟨B, 0, none⟩)] encS KeepT (fun ys => ys = steps s (s.size + 1) 0 0) (fun pre => pre <+: steps s (s.size + 1) 0 0) s.size w := by
  intro l J Jx W hW hJ _ hY h0
  exact each1_in n hn l B s hs J Jx W hJ hY ((hW.block B ((Array.getElem?_eq_some_iff.1 hB).1)).trans hB) h0
set_option maxRecDepth 100000 in
theorem each_in (n : Nat) (s : ByteArray) (w : World) :
    CallsIn Fence.wide n Try.prog 23 #[.string s] w fun e w' => e = .returned (.func (.func 29) #[] #[.pointer (some ⟨w.heap.size, 0, none⟩)]) ∧ w.alloc (.cells #[.string s] 9) = w' := by
  refine callsIn_of_wp Try.func23 rfl trivial ?_ rfl
  simp only [Try.ntmps23, List.size_toArray, List.length_cons, List.length_nil, Nat.reduceAdd, Nat.reduceSub, Array.replicate_succ, Array.replicate_zero, List.push_toArray, List.append_toArray, List.nil_append, List.cons_append]
  gi_wp2
  go_ret
  exact ⟨rfl, rfl⟩
end Go.Proofs.Ytjkhmnipffdliaa
