/-
  The plain laws of hdlc: what a receiver makes of a frame, over lists.
-/
import Derived.Test.YtphoemgnfmlngaaHe
import Derived.Test.YtphoemgnfmlngaaFcsMath
set_option linter.unusedVariables false
set_option linter.unusedSimpArgs false
namespace Go.Proofs.Ytphoemgnfmlngaa
open Go.RowKit
namespace Hd
theorem put_clean (a : Nat) (l : List UInt8) : ∀ b ∈ Esc.put a l, b.toNat ≠ 126 ∧ Esc.mapped a b.toNat = false := by
  intro b hb
  simp only [Esc.put, List.mem_flatMap] at hb
  obtain ⟨c, _, hc⟩ := hb
  cases hE : Esc.isE a c with
  | false =>
    rw [hE] at hc
    simp at hc
    subst hc
    simp only [Esc.isE, Bool.or_eq_false_iff, beq_eq_false_iff_ne] at hE
    exact ⟨hE.1.2, hE.2⟩
  | true =>
    rw [hE] at hc
    simp at hc
    rcases hc with rfl | rfl
    · exact ⟨by decide, by simp [Esc.mapped]⟩
    · have hx : (c ^^^ 32).toNat = c.toNat ^^^ 32 := UInt8.toNat_xor ..
      simp only [Esc.isE, Bool.or_eq_true, beq_iff_eq] at hE
      rw [hx]
      rcases hE with (h | h) | h
      · rw [h]; exact ⟨by decide, by simp [Esc.mapped]⟩
      · rw [h]; exact ⟨by decide, by simp [Esc.mapped]⟩
      · simp only [Esc.mapped, Bool.and_eq_true, decide_eq_true_eq] at h
        have h2 : ∀ n, n < 32 → n ^^^ 32 = n + 32 := by decide
        rw [h2 _ h.1]
        exact ⟨by omega, by unfold Esc.mapped; rw [decide_eq_false (by omega), Bool.false_and]⟩
theorem put_cons (a : Nat) (b : UInt8) (l : List UInt8) : Esc.put a (b :: l) = (if Esc.isE a b then [125, b ^^^ 32] else [b]) ++ Esc.put a l := by simp [Esc.put]
theorem gets_put (a : Nat) (l : List UInt8) : ∀ o, (Esc.put a l).foldl Esc.gstep (o, false) = (o ++ l, false) := by
  induction l with
  | nil => intro o; simp [Esc.put]
  | cons b l ih =>
    intro o
    rw [put_cons]
    cases hE : Esc.isE a b with
    | true =>
      have hx : b ^^^ 32 ^^^ 32 = b := by rw [UInt8.xor_assoc]; simp
      simp only [if_true, List.cons_append, List.nil_append, List.foldl_cons]
      rw [show Esc.gstep (o, false) 125 = (o, true) from rfl, show Esc.gstep (o, true) (b ^^^ 32) = (o ++ [b ^^^ 32 ^^^ 32], false) from rfl, hx, ih]
      simp
    | false =>
      have hb : (b.toNat == 125) = false := by
        simp only [Esc.isE, Bool.or_eq_false_iff] at hE
        exact hE.1.1
      simp only [Bool.false_eq_true, if_false, List.cons_append, List.nil_append, List.foldl_cons]
      rw [show Esc.gstep (o, false) b = (o ++ [b], false) from by simp [Esc.gstep, hb], ih]
      simp
theorem get_put (a : Nat) (l : List UInt8) : Esc.get (Esc.put a l) = some l := by
  have h1 : Esc.flagged (Esc.put a l) = false := by
    rw [Esc.flagged, List.any_eq_false]
    intro b hb
    have := (put_clean a l b hb).1
    simpa using this
  have h2 := gets_put a l []
  rw [Esc.get, h1, Esc.gets, h2]
  simp
theorem strip_put (a : Nat) (l : List UInt8) : Esc.strip a (Esc.put a l) = Esc.put a l := by
  rw [Esc.strip, List.filter_eq_self]
  intro b hb
  rw [(put_clean a l b hb).2]; rfl
theorem strip_in_any (a : Nat) (l : List UInt8) (b : UInt8) (k : Nat) (h : Esc.mapped a b.toNat = true) : Esc.strip a (l.take k ++ [b] ++ l.drop k) = Esc.strip a l := by
  simp [Esc.strip, h]
  rw [← List.filter_append, List.take_append_drop]
theorem nats_append (l m : List UInt8) : nats (l ++ m) = nats l ++ nats m := by simp [nats]
theorem nats_two (l : List UInt8) : nats (two l) = [Fcs.sum (nats l) % 256, Fcs.sum (nats l) / 256] := by
  have := Fcs.sum_lt (nats l) (nats_lt l)
  show (two l).map (·.toNat) = _
  unfold two
  generalize Fcs.sum (nats l) = n at *
  simp only [List.map_cons, List.map_nil, UInt8.toNat_ofNat']
  rw [Nat.mod_eq_of_lt (show n % 256 < 2 ^ 8 by omega), Nat.mod_eq_of_lt (show n / 256 < 2 ^ 8 by omega)]
theorem good_sealL (l : List UInt8) : good (sealL l) = true := by
  have h : nats (sealL l) = Fcs.sealed (nats l) := by
    unfold sealL
    rw [nats_append, nats_two]
    rfl
  unfold good
  rw [h, Fcs.more_seal _ (nats_lt l)]
  simp [sealL, two]
theorem seal_len (l : List UInt8) : (sealL l).length = l.length + 2 := by simp [sealL, two]
theorem put_snoc' (a : Nat) (l : List UInt8) (b : UInt8) : Esc.put a (l ++ [b]) = Esc.put a l ++ (if Esc.isE a b then [125, b ^^^ 32] else [b]) := Esc.put_snoc a l b
theorem put_last (a : Nat) (l : List UInt8) : (Esc.put a l).getLast? ≠ some 125 := by
  rcases List.eq_nil_or_concat l with rfl | ⟨m, b, rfl⟩
  · simp [Esc.put]
  · rw [List.concat_eq_append, put_snoc']
    cases hE : Esc.isE a b with
    | true =>
      intro h
      simp at h
      have hb : b = 93 := by
        have h2 : b ^^^ 32 ^^^ 32 = 125 ^^^ 32 := by rw [h]
        rw [UInt8.xor_assoc] at h2
        rw [show (32 : UInt8) ^^^ 32 = 0 from rfl, UInt8.xor_zero] at h2
        exact h2
      subst hb
      simp [Esc.isE, Esc.mapped] at hE
    | false =>
      intro h
      simp at h
      subst h
      simp [Esc.isE] at hE
theorem put_ne (a : Nat) (l : List UInt8) (h : l ≠ []) : Esc.put a l ≠ [] := by
  cases l with
  | nil => exact absurd rfl h
  | cons b l =>
    rw [put_cons]
    split <;> simp
end Hd
/-- What a receiver takes in between two flags. -/
theorem Rc.feed (l : List UInt8) : ∀ (r : Rc), r.inn = true → (∀ b ∈ l, b ≠ 126) → r.run l = { r with p := r.p ++ Esc.strip r.accm l } ∧ r.outs l = [] := by
  induction l with
  | nil => intro r _ _; exact ⟨by simp [Rc.run, Esc.strip], rfl⟩
  | cons x l ih =>
    intro r hi hb
    have hx := hb x List.mem_cons_self
    obtain ⟨n1, n2⟩ := Rc.next_else r x hx
    have hi' : (r.next x).inn = true ∧ (r.next x).accm = r.accm := by rw [n1]; split <;> exact ⟨hi, rfl⟩
    obtain ⟨i1, i2⟩ := ih (r.next x) hi'.1 (fun b h => hb b (List.mem_cons_of_mem _ h))
    refine ⟨?_, ?_⟩
    · show (r.next x).run l = _
      rw [i1, hi'.2, n1]
      cases hm : Esc.mapped r.accm x.toNat with
      | true => rw [if_neg (fun c => by cases c.2)]; simp [Esc.strip, hm]
      | false => rw [if_pos ⟨hi, rfl⟩]; simp [Esc.strip, hm]
    · show r.out1 x ++ (r.next x).outs l = []
      rw [i2, n2]; rfl
theorem u8_ne {b : UInt8} (h : b.toNat ≠ 126) : b ≠ 126 := by rintro rfl; exact h rfl
/-- How an information is counted. -/
def Rc.sort (most : Int) (n : Nat) : Nat := if most < (n : Int) then 2 else if n < 2 then 3 else 0
theorem Rc.kind_frame (r : Rc) (info : List UInt8) (h : r.p = Esc.put r.accm (Hd.sealL info)) : r.kind = Rc.sort r.most info.length ∧ (r.kind = 0 → r.info = info) := by
  have ht : r.t = Hd.sealL info := by unfold Rc.t; rw [h, Hd.get_put]; rfl
  have hl := Hd.seal_len info
  have hk : r.kind = Rc.sort r.most info.length := by
    unfold Rc.kind Rc.sort
    rw [if_neg (by rw [h]; exact Hd.put_last _ _), ht, hl, Hd.good_sealL]
    simp only [Bool.true_eq_false, if_false]
    have e1 : (r.most + 2 < ((info.length + 2 : Nat) : Int)) = (r.most < (info.length : Int)) := by apply propext; omega
    have e2 : (info.length + 2 < 4) = (info.length < 2) := by apply propext; omega
    simp only [e1, e2]
  refine ⟨hk, fun h0 => ?_⟩
  unfold Rc.info
  rw [if_pos h0, ht, hl]
  simp [Hd.sealL]
/-- A piece behind a flag, and the flag that ends it. -/
theorem Rc.shut (r : Rc) (info x : List UInt8) (hi : r.inn = true) (hp : r.p = []) (hx : Esc.strip r.accm x = Esc.put r.accm (Hd.sealL info)) (hf : ∀ b ∈ x, b ≠ 126) :
    r.run (x ++ [126]) = { r.add (Rc.sort r.most info.length) with inn := true, p := [] } ∧ r.outs (x ++ [126]) = if Rc.sort r.most info.length = 0 then [info] else [] := by
  obtain ⟨f1, f2⟩ := Rc.feed x r hi hf
  rw [hp, List.nil_append, hx] at f1
  obtain ⟨r2, hr2⟩ : ∃ q, ({ r with p := Esc.put r.accm (Hd.sealL info) } : Rc) = q := ⟨_, rfl⟩
  have hne : r2.p ≠ [] := by rw [← hr2]; exact Hd.put_ne _ _ (by simp [Hd.sealL, Hd.two])
  have hk := Rc.kind_frame r2 info (by rw [← hr2])
  have hm : r2.most = r.most := by rw [← hr2]
  obtain ⟨n1, n2⟩ := Rc.next_met r2 hne
  rw [hm] at hk
  rw [Rc.run_snoc, Rc.outs_snoc, f1, f2, hr2, n1, n2, List.nil_append]
  refine ⟨?_, ?_⟩
  · rw [hk.1, ← hr2]
    unfold Rc.add
    repeat' split
    all_goals rfl
  · by_cases h0 : r2.kind = 0
    · rw [if_pos h0, if_pos (by rw [← hk.1]; exact h0), hk.2 h0]
    · rw [if_neg h0, if_neg (by rw [← hk.1]; exact h0)]
/-- A whole frame, where no piece is open. -/
theorem Rc.frame (r : Rc) (info : List UInt8) (hp : r.p = []) :
    r.run (Hd.frame info r.accm) = { r.add (Rc.sort r.most info.length) with inn := true, p := [] } ∧ r.outs (Hd.frame info r.accm) = if Rc.sort r.most info.length = 0 then [info] else [] := by
  obtain ⟨n1, n2⟩ := Rc.next_nil r hp
  have hc := Hd.put_clean r.accm (Hd.sealL info)
  have hs := Rc.shut { r with inn := true, p := [] } info (Esc.put r.accm (Hd.sealL info)) rfl rfl (Hd.strip_put _ _) (fun b hb => u8_ne (hc b hb).1)
  unfold Hd.frame
  show (r.next 126).run _ = _ ∧ r.out1 126 ++ (r.next 126).outs _ = _
  rw [n1, n2, hs.1, hs.2]
  refine ⟨?_, rfl⟩
  unfold Rc.add
  repeat' split
  all_goals rfl
end Go.Proofs.Ytphoemgnfmlngaa
