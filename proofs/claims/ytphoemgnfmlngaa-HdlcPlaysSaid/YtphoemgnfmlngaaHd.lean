/-
  Layer 4 (hdlc): Push: what it keeps, over worlds.
-/
import Derived.Test.YtphoemgnfmlngaaHc
import Derived.Maps.AppendAt
set_option linter.unusedVariables false
set_option linter.unusedSimpArgs false
namespace Go.Proofs.Ytphoemgnfmlngaa
open Go.RowKit Go.Proofs.YtphoemgnfmlngaaW.PrintWords Go.Proofs.YtphoemgnfmlngaaW.PrintLast

def strs (l : List (List UInt8)) : List Value := l.map fun s => Value.string (str s)
theorem strs_append (l m : List (List UInt8)) : strs (l ++ m) = strs l ++ strs m := by simp [strs]
theorem strs_length (l : List (List UInt8)) : (strs l).length = l.length := by simp [strs]
/-- A receiver after one byte more. -/
def Rc.next (r : Rc) (x : UInt8) : Rc :=
  if x = 126 then { (if r.p = [] then r else r.add r.kind) with inn := true, p := [] }
  else if r.inn = true ∧ Esc.mapped r.accm x.toNat = false then { r with p := r.p ++ [x] } else r
/-- What it gives at that byte. -/
def Rc.out1 (r : Rc) (x : UInt8) : List (List UInt8) := if x = 126 ∧ r.p ≠ [] ∧ r.kind = 0 then [r.info] else []
def Rc.run (r : Rc) (l : List UInt8) : Rc := l.foldl Rc.next r
def Rc.outs : Rc → List UInt8 → List (List UInt8)
  | _, [] => []
  | r, x :: l => r.out1 x ++ (r.next x).outs l
theorem Rc.run_snoc (r : Rc) (l : List UInt8) (x : UInt8) : r.run (l ++ [x]) = (r.run l).next x := by simp [Rc.run]
theorem Rc.run_append (r : Rc) (l m : List UInt8) : r.run (l ++ m) = (r.run l).run m := by simp [Rc.run]
theorem Rc.outs_append (r : Rc) (l m : List UInt8) : r.outs (l ++ m) = r.outs l ++ (r.run l).outs m := by
  induction l generalizing r with
  | nil => rfl
  | cons a l ih => simp [Rc.outs, ih, Rc.run]
theorem Rc.outs_snoc (r : Rc) (l : List UInt8) (x : UInt8) : r.outs (l ++ [x]) = r.outs l ++ (r.run l).out1 x := by
  rw [Rc.outs_append]
  simp [Rc.outs]
/-- What a receiver counts and holds is small. -/
structure Rc.Ok (n : Nat) (r : Rc) : Prop where
  g : r.g ≤ n
  ab : r.ab ≤ n
  lo : r.lo ≤ n
  sh : r.sh ≤ n
  su : r.su ≤ n
  p : r.p.length ≤ n
  most : 2 ≤ r.most ∧ r.most ≤ 1508
  accm : r.accm < 4294967296
theorem Rc.add_most (r : Rc) (k : Nat) : (r.add k).most = r.most ∧ (r.add k).accm = r.accm ∧ (r.add k).p = r.p ∧ (r.add k).inn = r.inn := by
  unfold Rc.add
  repeat' split
  all_goals exact ⟨rfl, rfl, rfl, rfl⟩
theorem Rc.Ok.add {n : Nat} {r : Rc} (h : r.Ok n) (k : Nat) : (r.add k).Ok (n + 1) := by
  obtain ⟨h1, h2, h3, h4, h5, h6, h7, h8⟩ := h
  unfold Rc.add
  split
  · exact ⟨by simp only; omega, by simp only; omega, by simp only; omega, by simp only; omega, by simp only; omega, by simp only; omega, h7, h8⟩
  · split
    · exact ⟨by simp only; omega, by simp only; omega, by simp only; omega, by simp only; omega, by simp only; omega, by simp only; omega, h7, h8⟩
    · split
      · exact ⟨by simp only; omega, by simp only; omega, by simp only; omega, by simp only; omega, by simp only; omega, by simp only; omega, h7, h8⟩
      · split
        · exact ⟨by simp only; omega, by simp only; omega, by simp only; omega, by simp only; omega, by simp only; omega, by simp only; omega, h7, h8⟩
        · exact ⟨by simp only; omega, by simp only; omega, by simp only; omega, by simp only; omega, by simp only; omega, by simp only; omega, h7, h8⟩
theorem Rc.Ok.mono {n m : Nat} {r : Rc} (h : r.Ok n) (hm : n ≤ m) : r.Ok m := ⟨Nat.le_trans h.g hm, Nat.le_trans h.ab hm, Nat.le_trans h.lo hm, Nat.le_trans h.sh hm, Nat.le_trans h.su hm, Nat.le_trans h.p hm, h.most, h.accm⟩
theorem Rc.Ok.next {n : Nat} {r : Rc} (h : r.Ok n) (x : UInt8) : (r.next x).Ok (n + 1) := by
  unfold Rc.next
  split
  · split
    · have := h.mono (Nat.le_succ n)
      exact ⟨this.g, this.ab, this.lo, this.sh, this.su, by simp, this.most, this.accm⟩
    · have := h.add r.kind
      exact ⟨this.g, this.ab, this.lo, this.sh, this.su, by simp, this.most, this.accm⟩
  · split
    · have := h.mono (Nat.le_succ n)
      exact ⟨this.g, this.ab, this.lo, this.sh, this.su, by have := h.p; simp; omega, this.most, this.accm⟩
    · exact h.mono (Nat.le_succ n)
theorem Rc.Ok.run {n : Nat} {r : Rc} (h : r.Ok n) (l : List UInt8) : (r.run l).Ok (n + l.length) := by
  induction l generalizing r n with
  | nil => exact h
  | cons a l ih =>
    have := ih (h.next a)
    simp only [List.length_cons]
    rw [show n + (l.length + 1) = n + 1 + l.length by omega]
    exact this
theorem Rc.outs_le (r : Rc) (l : List UInt8) : (r.outs l).length ≤ l.length := by
  induction l generalizing r with
  | nil => simp [Rc.outs]
  | cons a l ih =>
    have := ih (r.next a)
    simp only [Rc.outs, List.length_append, List.length_cons]
    unfold Rc.out1
    split <;> simp <;> omega
/-- All blocks but a receiver's and its piece's lie as they lay. -/
structure Frm (b : Nat) (row : Option Nat) (w w' : World) : Prop where
  os : w'.os = w.os
  tape : w'.tape = w.tape
  output : w'.output = w.output
  size : w.heap.size ≤ w'.heap.size
  block : ∀ k, k < w.heap.size → k ≠ b → some k ≠ row → w'.heap[k]? = w.heap[k]?
theorem Frm.refl (b : Nat) (row : Option Nat) (w : World) : Frm b row w w := ⟨rfl, rfl, rfl, Nat.le_refl _, fun _ _ _ _ => rfl⟩
theorem Frm.trans {b : Nat} {row row' : Option Nat} {w w1 w2 : World} (h : Frm b row w w1) (k : Frm b row' w1 w2) (hr : row' = row ∨ ∀ g, row' = some g → w.heap.size ≤ g) : Frm b row w w2 :=
  ⟨k.os.trans h.os, k.tape.trans h.tape, k.output.trans h.output, Nat.le_trans h.size k.size, fun i hi hb hne => (k.block i (Nat.lt_of_lt_of_le hi h.size) hb (by
    rcases hr with rfl | hr
    · exact hne
    · intro e
      have := hr i e.symm
      omega)).trans (h.block i hi hb hne)⟩
theorem Frm.of_but {b : Nat} {row : Option Nat} {w w' : World} (h : But b w w') : Frm b row w w' := ⟨h.os, h.tape, h.output, h.size, fun k hk hb _ => h.block k hk hb⟩
theorem Frm.of_grown {b : Nat} {row : Option Nat} {w w' : World} (h : w.grownBy w' row) : Frm b row w w' := ⟨h.os, h.tape, h.output, h.size, fun k hk _ hne => h.block k hk hne⟩
theorem rows_ne {w : World} {b1 b2 : Nat} {e1 e2 : TypeId} {s1 s2 n1 n2 : Nat} {v1 v2 : Value} {x1 x2 : List Value} (h1 : w.ownsRow b1 e1 s1 v1 n1 x1) (h2 : w.ownsRow b2 e2 s2 v2 n2 x2) (hne : e1 ≠ e2) : v1.ownBlock = none ∨ v1.ownBlock ≠ v2.ownBlock := by
  rcases h1.2 with ⟨rfl, _⟩ | ⟨g, cap, cur, rfl, _, hg, _⟩
  · exact .inl rfl
  · exact .inr (own_ne h2 hg (Ne.symm hne))
/-- Where Push stands. -/
structure PS (w : World) (v0 : Value) (B b : Nat) (r : Rc) (o : List (List UInt8)) (v ov : Value) (W : World) : Prop where
  rc : IsRc W B b r v
  out : W.ownsRow w.heap.size 9 1 ov o.length (strs o)
  fr : Frm b v0.ownBlock w W
  row : v.ownBlock = v0.ownBlock ∨ ∀ g, v.ownBlock = some g → w.heap.size ≤ g
theorem PS.start {w : World} {B b : Nat} {r : Rc} {v : Value} (h : IsRc w B b r v) : PS w v B b r [] v (.slice none 0 0) w :=
  ⟨h, World.ownsRow_nil _ _ _ _, Frm.refl _ _ _, .inl rfl⟩
theorem PS.met {w W W' : World} {v0 v ov : Value} {B b : Nat} {r r' : Rc} {o : List (List UInt8)} (h : PS w v0 B b r o v ov W) (hb : But b W W') (h' : IsRc W' B b r' v) : PS w v0 B b r' o v ov W' :=
  ⟨h', h.out.kept (row := some b) ⟨hb.os, hb.tape, hb.output, hb.size, fun k hk hne => hb.block k hk (fun e => hne (by rw [e]))⟩ (.inr (own_ne h.out h.rc.blk (by decide)).symm), h.fr.trans (Frm.of_but (row := v0.ownBlock) hb) (.inl rfl), h.row⟩
theorem PS.below {w W W' : World} {v0 v ov : Value} {B b : Nat} {r : Rc} {o : List (List UInt8)} (h : PS w v0 B b r o v ov W) (hb : Below W.heap.size W W') : PS w v0 B b r o v ov W' :=
  h.met (But.of_below hb) (h.rc.below hb)
theorem PS.more {w W W' : World} {v0 v ov ov' : Value} {B b : Nat} {r : Rc} {o : List (List UInt8)} {x : List UInt8} (h : PS w v0 B b r o v ov W) (hg : W.grownBy W' ov.ownBlock) (ho : W'.ownsRow w.heap.size 9 1 ov' (o.length + 1) (strs o ++ [.string (str x)])) : PS w v0 B b r (o ++ [x]) v ov' W' :=
  ⟨⟨(hg.block b h.rc.lt (own_ne h.out h.rc.blk (by decide))).trans h.rc.blk, h.rc.own.kept hg (rows_ne h.rc.own h.out (by decide))⟩,
   by rw [strs_append, List.length_append]; exact ho, h.fr.trans (Frm.of_grown hg) (.inr fun g e => (h.out.lt g e).1), h.row⟩
theorem PS.shut {w W : World} {v0 v ov : Value} {B b : Nat} {r : Rc} {o : List (List UInt8)} (h : PS w v0 B b r o v ov W) : PS w v0 B b { r with inn := true, p := [] } o (.slice none 0 0) ov ((W.setCell ⟨b, 7, none⟩ (.bool true)).setCell ⟨b, 8, none⟩ (.slice none 0 0)) := by
  have hb : But b W ((W.setCell ⟨b, 7, none⟩ (.bool true)).setCell ⟨b, 8, none⟩ (.slice none 0 0)) := ((But.refl b W).set 7 _).set 8 _
  have h1 := h.met (r' := r) hb
  exact ⟨⟨blk_set (blk_set h.rc.blk 7 _) 8 _, World.ownsRow_nil _ _ _ _⟩, own_setCell (own_setCell h.out (own_ne h.out h.rc.blk (by decide)) _) (own_ne h.out h.rc.blk (by decide)) _, h.fr.trans (Frm.of_but (row := v0.ownBlock) hb) (.inl rfl), .inr (by intro g e; cases e)⟩
theorem PS.push {w W W' : World} {v0 v v' ov : Value} {B b : Nat} {r : Rc} {o : List (List UInt8)} {x : UInt8} (h : PS w v0 B b r o v ov W) (hg : W.grownBy W' v.ownBlock) (ho : W'.ownsRow B 5 1 v' (r.p.length + 1) (nums .u8 (ints r.p) ++ [.int .u8 ((x.toNat : Nat) : Int)])) (hat : v'.ownBlock = v.ownBlock ∨ v'.ownBlock = some W.heap.size) :
    PS w v0 B b { r with p := r.p ++ [x] } o v' ov (W'.setCell ⟨b, 8, none⟩ v') := by
  have hblk : W'.heap[b]? = some (.cells (r.cells v) 78 (0, 0)) := (hg.block b h.rc.lt (own_ne h.rc.own h.rc.blk (by decide))).trans h.rc.blk
  have hout : W'.ownsRow w.heap.size 9 1 ov o.length (strs o) := h.out.kept hg (rows_ne h.out h.rc.own (by decide))
  have hr' : v.ownBlock = v0.ownBlock ∨ ∀ g, v.ownBlock = some g → w.heap.size ≤ g := h.row
  refine ⟨⟨blk_set hblk 8 _, ?_⟩, own_setCell hout (own_ne hout hblk (by decide)) _, (h.fr.trans (Frm.of_grown hg) hr').trans (Frm.of_but (row := v0.ownBlock) ((But.refl b W').set 8 v')) (.inl rfl), ?_⟩
  · have := own_setCell ho (p := ⟨b, 8, none⟩) (own_ne ho hblk (by decide)) v'
    simpa [nums, ints] using this
  · rcases hat with e | e
    · rw [e]; exact h.row
    · refine .inr fun g hgg => ?_
      rw [e] at hgg
      cases hgg
      exact h.fr.size
end Go.Proofs.Ytphoemgnfmlngaa
