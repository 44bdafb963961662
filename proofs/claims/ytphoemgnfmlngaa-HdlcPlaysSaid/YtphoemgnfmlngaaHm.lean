/-
  The plain law of HdlcBack: frames are received as they were, over lists.
-/
import Derived.Test.YtphoemgnfmlngaaHi
import Derived.Test.YtphoemgnfmlngaaHl
set_option linter.unusedVariables false
set_option linter.unusedSimpArgs false
namespace Go.Proofs.Ytphoemgnfmlngaa
open Go.RowKit

/-- The mapped byte that comes ahead of byte i. -/
def preN (c : Nat) (ns : List UInt8) (i : Nat) : List UInt8 := if 0 < ns.length ∧ Esc.mapped c (ns.getD (i % ns.length) 0).toNat = true then [ns.getD (i % ns.length) 0] else []
def nzL (c : Nat) (ns : List UInt8) : Nat → List UInt8 → List UInt8
  | _, [] => []
  | i, x :: l => preN c ns i ++ x :: nzL c ns (i + 1) l
theorem nz_snoc (c : Nat) (ns l : List UInt8) (x : UInt8) : ∀ i, nzL c ns i (l ++ [x]) = nzL c ns i l ++ (preN c ns (i + l.length) ++ [x]) := by
  induction l with
  | nil => intro i; simp [nzL]
  | cons a l ih =>
    intro i
    simp only [List.cons_append, nzL, ih, List.length_cons, List.append_assoc]
    rw [show i + 1 + l.length = i + (l.length + 1) by omega]
theorem preN_len (c : Nat) (ns : List UInt8) (i : Nat) : (preN c ns i).length ≤ 1 := by
  unfold preN
  split <;> simp
theorem nz_len (c : Nat) (ns l : List UInt8) : ∀ i, (nzL c ns i l).length ≤ 2 * l.length := by
  induction l with
  | nil => intro i; simp [nzL]
  | cons a l ih =>
    intro i
    have := ih (i + 1)
    have := preN_len c ns i
    simp only [nzL, List.length_append, List.length_cons]
    omega
theorem mapped_lt {c n : Nat} (h : Esc.mapped c n = true) : n < 32 := by
  simp only [Esc.mapped, Bool.and_eq_true, decide_eq_true_eq] at h
  exact h.1
theorem Rc.next_accm (r : Rc) (x : UInt8) : (r.next x).accm = r.accm ∧ (r.next x).most = r.most := by
  unfold Rc.next
  split
  · split
    · exact ⟨rfl, rfl⟩
    · exact ⟨(Rc.add_most _ _).2.1, (Rc.add_most _ _).1⟩
  · split <;> exact ⟨rfl, rfl⟩
theorem pre_run (r : Rc) (ns : List UInt8) (i : Nat) : r.run (preN r.accm ns i) = r ∧ r.outs (preN r.accm ns i) = [] := by
  unfold preN
  split
  · rename_i h
    have hb := mapped_lt h.2
    have hne : ns.getD (i % ns.length) 0 ≠ 126 := by
      intro e
      rw [e] at hb
      exact absurd hb (by decide)
    obtain ⟨n1, n2⟩ := Rc.next_else r _ hne
    rw [if_neg (fun q => by rw [h.2] at q; cases q.2)] at n1
    refine ⟨n1, ?_⟩
    show r.out1 _ ++ [] = []
    rw [n2]; rfl
  · exact ⟨rfl, rfl⟩
theorem nz_run (ns l : List UInt8) : ∀ (r : Rc) (i : Nat), r.run (nzL r.accm ns i l) = r.run l ∧ r.outs (nzL r.accm ns i l) = r.outs l := by
  induction l with
  | nil => intro r i; exact ⟨rfl, rfl⟩
  | cons x l ih =>
    intro r i
    obtain ⟨p1, p2⟩ := pre_run r ns i
    obtain ⟨i1, i2⟩ := ih (r.next x) (i + 1)
    rw [(Rc.next_accm r x).1] at i1 i2
    rw [nzL, Rc.run_append, Rc.outs_append, p1, p2, List.nil_append]
    exact ⟨i1, by show r.out1 x ++ _ = r.out1 x ++ _; rw [i2]⟩
/-- What comes where no flag has come. -/
theorem out_run (l : List UInt8) : ∀ (r : Rc), r.inn = false → (∀ b ∈ l, b ≠ 126) → r.run l = r ∧ r.outs l = [] := by
  induction l with
  | nil => intro r _ _; exact ⟨rfl, rfl⟩
  | cons x l ih =>
    intro r hi hb
    obtain ⟨n1, n2⟩ := Rc.next_else r x (hb x List.mem_cons_self)
    rw [if_neg (fun q => by rw [hi] at q; cases q.1)] at n1
    obtain ⟨i1, i2⟩ := ih r hi (fun b h => hb b (List.mem_cons_of_mem _ h))
    show (r.next x).run l = _ ∧ r.out1 x ++ (r.next x).outs l = _
    rw [n1, n2, i1, i2]
    exact ⟨rfl, rfl⟩
/-- A frame, or, where its first flag is the last one's last, what is behind that. -/
def frm1 (c : Nat) (sh : Bool) (i : Nat) (x : List UInt8) : List UInt8 := if sh = true ∧ 0 < i then (Hd.frame x c).tail else Hd.frame x c
def frms (c : Nat) (sh : Bool) : Nat → List (List UInt8) → List UInt8
  | _, [] => []
  | i, x :: l => frm1 c sh i x ++ frms c sh (i + 1) l
theorem frms_snoc (c : Nat) (sh : Bool) (l : List (List UInt8)) (x : List UInt8) : ∀ i, frms c sh i (l ++ [x]) = frms c sh i l ++ frm1 c sh (i + l.length) x := by
  induction l with
  | nil => intro i; simp [frms]
  | cons a l ih =>
    intro i
    simp only [List.cons_append, frms, ih, List.length_cons, List.append_assoc]
    rw [show i + 1 + l.length = i + (l.length + 1) by omega]
theorem frame_len (x : List UInt8) (c : Nat) : 3 ≤ (Hd.frame x c).length ∧ (Hd.frame x c).length ≤ 2 * x.length + 6 := by
  have h1 := Esc.put_le c (Hd.sealL x)
  have h2 := Hd.seal_len x
  have h3 := List.length_pos_iff.2 (Hd.put_ne c (Hd.sealL x) (by simp [Hd.sealL, Hd.two]))
  unfold Hd.frame
  simp only [List.length_cons, List.length_append, List.length_nil]
  omega
theorem frm1_len (c : Nat) (sh : Bool) (i : Nat) (x : List UInt8) : (frm1 c sh i x).length ≤ 2 * x.length + 6 := by
  have := (frame_len x c).2
  unfold frm1
  split
  · rw [List.length_tail]; omega
  · exact this
theorem frms_len (c : Nat) (sh : Bool) (l : List (List UInt8)) : ∀ i, (frms c sh i l).length ≤ 2 * (l.map List.length).sum + 6 * l.length := by
  induction l with
  | nil => intro i; simp [frms]
  | cons a l ih =>
    intro i
    have h1 := ih (i + 1)
    have h2 := frm1_len c sh i a
    simp only [frms, List.length_append, List.map_cons, List.sum_cons, List.length_cons]
    omega
theorem frm1_run (r : Rc) (sh : Bool) (i : Nat) (x : List UInt8) (hp : r.p = []) (hi : 0 < i → r.inn = true) (hm : r.most = 1508) (hx : 2 ≤ x.length ∧ x.length ≤ 1508) :
    r.run (frm1 r.accm sh i x) = { r with g := r.g + 1, inn := true, p := [] } ∧ r.outs (frm1 r.accm sh i x) = [x] := by
  have hs : Rc.sort r.most x.length = 0 := by
    unfold Rc.sort
    rw [hm, if_neg (by omega), if_neg (by omega)]
  unfold frm1
  split
  · rename_i h
    have hc := Hd.put_clean r.accm (Hd.sealL x)
    have hsh := Rc.shut r x (Esc.put r.accm (Hd.sealL x)) (hi h.2) hp (Hd.strip_put _ _) (fun b hb => u8_ne (hc b hb).1)
    rw [hs] at hsh
    exact hsh
  · have hf := Rc.frame r x hp
    rw [hs] at hf
    exact hf
theorem frms_run (sh : Bool) (l : List (List UInt8)) : ∀ (r : Rc) (i : Nat), r.p = [] → (0 < i → r.inn = true) → r.most = 1508 → (∀ x ∈ l, 2 ≤ x.length ∧ x.length ≤ 1508) →
    (r.run (frms r.accm sh i l)).heard = (r.g + l.length, r.ab, r.lo, r.sh, r.su) ∧ (r.run (frms r.accm sh i l)).p = [] ∧ r.outs (frms r.accm sh i l) = l := by
  induction l with
  | nil => intro r i hp _ _ _; exact ⟨rfl, hp, rfl⟩
  | cons x l ih =>
    intro r i hp hi hm hl
    obtain ⟨f1, f2⟩ := frm1_run r sh i x hp hi hm (hl x List.mem_cons_self)
    obtain ⟨g1, g2, g3⟩ := ih { r with g := r.g + 1, inn := true, p := [] } (i + 1) rfl (fun _ => rfl) hm (fun y hy => hl y (List.mem_cons_of_mem _ hy))
    rw [frms, Rc.run_append, Rc.outs_append, f1, f2]
    refine ⟨?_, g2, ?_⟩
    · rw [g1]
      show (r.g + 1 + l.length, _) = (r.g + (l.length + 1), _)
      rw [show r.g + 1 + l.length = r.g + (l.length + 1) by omega]
    · rw [g3]; rfl
theorem clean_mem (l : List UInt8) : ∀ b ∈ cleanL l, b ≠ 126 := by
  intro b hb
  unfold cleanL at hb
  simpa using (List.mem_filter.1 hb).2
/-- All that comes. -/
def allL (c : Nat) (sh : Bool) (ns a : List UInt8) (l : List (List UInt8)) : List UInt8 := nzL c ns 0 (cleanL a ++ frms c sh 0 l)
theorem back_law (c : Nat) (sh : Bool) (ns a : List UInt8) (l : List (List UInt8)) (h : ∀ x ∈ l, 2 ≤ x.length ∧ x.length ≤ 1508) :
    ((newR 1508 c).run (allL c sh ns a l)).heard = (l.length, 0, 0, 0, 0) ∧ ((newR 1508 c).run (allL c sh ns a l)).p = [] ∧ (newR 1508 c).outs (allL c sh ns a l) = l := by
  obtain ⟨n1, n2⟩ := nz_run ns (cleanL a ++ frms c sh 0 l) (newR 1508 c) 0
  obtain ⟨o1, o2⟩ := out_run (cleanL a) (newR 1508 c) rfl (clean_mem a)
  obtain ⟨g1, g2, g3⟩ := frms_run sh l (newR 1508 c) 0 rfl (fun h => by omega) rfl h
  rw [Rc.run_append, o1] at n1
  rw [Rc.outs_append, o1, o2, List.nil_append] at n2
  have e1 : (newR 1508 c).run (allL c sh ns a l) = (newR 1508 c).run (frms c sh 0 l) := n1
  have e2 : (newR 1508 c).outs (allL c sh ns a l) = (newR 1508 c).outs (frms c sh 0 l) := n2
  rw [e1, e2]
  refine ⟨?_, g2, g3⟩
  rw [show ((newR 1508 c).run (frms c sh 0 l)).heard = _ from g1]
  show (0 + l.length, _) = _
  rw [Nat.zero_add]
  rfl
end Go.Proofs.Ytphoemgnfmlngaa
