/-
  Layer 17 (echo): Tick's answers together; the program's and the document's go along with each other.
-/
import Derived.Test.YthenjbonncbniaaRPkt
import Derived.Test.YthenjbonncbniaaStepsE
set_option linter.unusedVariables false
set_option linter.unusedSimpArgs false
namespace Go.Proofs.Ythenjbonncbniaa
open Go.RowKit Go.Proofs.YthenjbonncbniaaW.PrintWords Go.Proofs.YthenjbonncbniaaW.PrintLast

theorem IsSt.below {w W : World} {a : Option Addr} {len cap : Nat} {f : Nat → Stp} (h : IsSt w a len cap f) (hb : Below w.heap.size w W) : IsSt W a len cap f := by
  rcases h with h0 | ⟨x, rfl, h1, h2⟩
  · exact .inl h0
  · refine .inr ⟨x, rfl, h1, fun i hi => ?_⟩
    obtain ⟨c0, c1, c2, c3, c4, c5⟩ := h2 i hi
    exact ⟨(hb.cell (cell_lt c0)).trans c0, (hb.cell (cell_lt c1)).trans c1, (hb.cell (cell_lt c2)).trans c2, (hb.cell (cell_lt c3)).trans c3, (hb.cell (cell_lt c4)).trans c4, (hb.cell (cell_lt c5)).trans c5⟩
instance (s : Ech) (t : Int) : Decidable (s.due t) := by unfold Ech.due; infer_instance
/-- What Tick answers where nothing is sent. -/
def Ech.tickE (s : Ech) (t : Int) : Option Int :=
  if t < s.now ∨ 1152921504606846976 < t then some 2 else if s.due t then (if s.most ≤ s.missed then some 0 else none) else some 0
def Ech.tickS (s : Ech) (t : Int) : Ech :=
  if t < s.now ∨ 1152921504606846976 < t then s else if s.due t then (if s.most ≤ s.missed then { s with now := t, dead := true } else { s with now := t, last := t, sent := s.sent + 1, missed := s.missed + 1 }) else { s with now := t }
def TickPost (Is : World → Nat → Ech → Prop) (s : Ech) (B : Nat) (t : Int) (w : World) (v : Value) (r : Int) (w' : World) : Prop :=
  (s.tickE t = some r ∧ v = .slice none 0 0 ∧ But B w w' ∧ Is w' B (s.tickS t)) ∨
  (s.tickE t = none ∧ r = 0 ∧ (∃ g, w.heap.size ≤ g ∧ v = .slice (some ⟨g, 0, none⟩) 1 1 ∧ IsPkt w' g 9 ((s.sent + 1) % 256) (oct s.magic)) ∧ But B w w' ∧ Is w' B (s.tickS t))
theorem tick_all (s : Ech) (c : Nat) (hc : c < 1000000) (ho : s.Ok c) (B : Nat) (t : Int) (w : World) (h : IsEch w B s) :
    Calls Try.prog 18 #[.pointer (some ⟨B, 0, none⟩), .int .i64 t] w fun e w' => ∃ v r, e = .returned (.tuple #[v, .int .i64 r]) ∧ TickPost IsEch s B t w v r w' := by
  unfold TickPost Ech.tickE Ech.tickS
  by_cases h1 : t < s.now ∨ 1152921504606846976 < t
  · rw [if_pos h1, if_pos h1]
    refine (tick_bad s c ho B t h1 w h).mono ?_
    rintro e w' ⟨rfl, rfl⟩
    exact ⟨_, _, rfl, .inl ⟨rfl, rfl, But.refl _ _, h⟩⟩
  · rw [if_neg h1, if_neg h1]
    by_cases h2 : s.due t
    · rw [if_pos h2, if_pos h2]
      by_cases h3 : s.most ≤ s.missed
      · rw [if_pos h3, if_pos h3]
        refine (tick_dead s c ho B t (by omega) (by omega) h2 h3 w h).mono ?_
        rintro e w' ⟨rfl, hb, ht⟩
        exact ⟨_, _, rfl, .inl ⟨rfl, rfl, hb, ht⟩⟩
      · rw [if_neg h3, if_neg h3]
        refine (tick_sent s c hc ho B t (by omega) (by omega) h2 (by omega) w h).mono ?_
        rintro e w' ⟨g, hg, rfl, hp, hb, ht⟩
        exact ⟨_, _, rfl, .inr ⟨rfl, rfl, ⟨g, hg, rfl, hp⟩, hb, ht⟩⟩
    · rw [if_neg h2, if_neg h2]
      refine (tick_early s c ho B t (by omega) (by omega) h2 w h).mono ?_
      rintro e w' ⟨rfl, hb, ht⟩
      exact ⟨_, _, rfl, .inl ⟨rfl, rfl, hb, ht⟩⟩
theorem rtick_all (s : Ech) (c : Nat) (hc : c < 1000000) (ho : s.Ok c) (B : Nat) (t : Int) (w : World) (h : IsRef w B s) :
    Calls Try.prog 29 #[.pointer (some ⟨B, 0, none⟩), .int .i64 t] w fun e w' => ∃ v r, e = .returned (.tuple #[v, .int .i64 r]) ∧ TickPost IsRef s B t w v r w' := by
  unfold TickPost Ech.tickE Ech.tickS
  by_cases h1 : t < s.now ∨ 1152921504606846976 < t
  · rw [if_pos h1, if_pos h1]
    refine (rtick_bad s c ho B t h1 w h).mono ?_
    rintro e w' ⟨rfl, rfl⟩
    exact ⟨_, _, rfl, .inl ⟨rfl, rfl, But.refl _ _, h⟩⟩
  · rw [if_neg h1, if_neg h1]
    by_cases h2 : s.due t
    · rw [if_pos h2, if_pos h2]
      by_cases h3 : s.most ≤ s.missed
      · rw [if_pos h3, if_pos h3]
        refine (rtick_dead s c ho B t (by omega) (by omega) h2 h3 w h).mono ?_
        rintro e w' ⟨rfl, hb, ht⟩
        exact ⟨_, _, rfl, .inl ⟨rfl, rfl, hb, ht⟩⟩
      · rw [if_neg h3, if_neg h3]
        refine (rtick_sent s c hc ho B t (by omega) (by omega) h2 (by omega) w h).mono ?_
        rintro e w' ⟨g, hg, rfl, hp, hb, ht⟩
        exact ⟨_, _, rfl, .inr ⟨rfl, rfl, ⟨g, hg, rfl, hp⟩, hb, ht⟩⟩
    · rw [if_neg h2, if_neg h2]
      refine (rtick_early s c ho B t (by omega) (by omega) h2 w h).mono ?_
      rintro e w' ⟨rfl, hb, ht⟩
      exact ⟨_, _, rfl, .inl ⟨rfl, rfl, hb, ht⟩⟩
/-- Two rows of packets that are alike. -/
def Same2 (w : World) (v v2 : Value) : Prop :=
  (v = .slice none 0 0 ∧ v2 = .slice none 0 0) ∨ ∃ g1 g2 code id d, v = .slice (some ⟨g1, 0, none⟩) 1 1 ∧ v2 = .slice (some ⟨g2, 0, none⟩) 1 1 ∧ IsPkt w g1 code id d ∧ IsPkt w g2 code id d
theorem both_tick {s : Ech} {Be R : Nat} {t : Int} {w w1 w2 : World} {v v2 : Value} {r r2 : Int} (hne : Be ≠ R) (hr : IsRef w R s) (p1 : TickPost IsEch s Be t w v r w1) (p2 : TickPost IsRef s R t w1 v2 r2 w2) :
    r2 = r ∧ (r = 0 ∨ r = 2) ∧ (r = 0 → (s.tickS t).now = t) ∧ (r ≠ 0 → s.tickS t = s) ∧ Same2 w2 v v2 ∧ IsEch w2 Be (s.tickS t) ∧ IsRef w2 R (s.tickS t) := by
  have hval : (s.tickE t = some 2 ∧ s.tickS t = s) ∨ (s.tickE t = some 0 ∧ (s.tickS t).now = t) ∨ (s.tickE t = none ∧ (s.tickS t).now = t) := by
    unfold Ech.tickE Ech.tickS
    split
    · exact .inl ⟨rfl, rfl⟩
    · split
      · split
        · exact .inr (.inl ⟨rfl, rfl⟩)
        · exact .inr (.inr ⟨rfl, rfl⟩)
      · exact .inr (.inl ⟨rfl, rfl⟩)
  rcases p1 with ⟨a1, rfl, hb1, ht1⟩ | ⟨a1, rfl, ⟨g1, hg1, rfl, hp1⟩, hb1, ht1⟩
  · rcases p2 with ⟨a2, rfl, hb2, ht2⟩ | ⟨a2, _⟩
    · rw [a1] at a2
      cases a2
      refine ⟨rfl, ?_, ?_, ?_, .inl ⟨rfl, rfl⟩, ht1.but hb2 hne, ht2⟩
      · rcases hval with ⟨e, _⟩ | ⟨e, _⟩ | ⟨e, _⟩ <;> rw [a1] at e <;> cases e <;> simp
      · intro h0; subst h0
        rcases hval with ⟨e, _⟩ | ⟨e, h⟩ | ⟨e, _⟩ <;> rw [a1] at e
        · cases e
        · exact h
        · cases e
      · intro h0
        rcases hval with ⟨e, h⟩ | ⟨e, _⟩ | ⟨e, _⟩ <;> rw [a1] at e
        · exact h
        · cases e; exact absurd rfl h0
        · cases e
    · rw [a1] at a2; cases a2
  · rcases p2 with ⟨a2, _⟩ | ⟨a2, rfl, ⟨g2, hg2, rfl, hp2⟩, hb2, ht2⟩
    · rw [a1] at a2; cases a2
    · have hg : g1 ≠ R := by have := hr.lt; omega
      refine ⟨rfl, .inl rfl, fun _ => ?_, fun h => absurd rfl h, .inr ⟨g1, g2, _, _, _, rfl, rfl, hp1.but hb2 hg, hp2⟩, ht1.but hb2 hne, ht2⟩
      rcases hval with ⟨e, _⟩ | ⟨e, _⟩ | ⟨e, h⟩ <;> rw [a1] at e
      · cases e
      · cases e
      · exact h
theorem both_pkt {s : Ech} {Be R : Nat} {code id : Int} {d : ByteArray} {w w1 w2 : World} {v v2 : Value} {r r2 : Int} (hne : Be ≠ R) (hr : IsRef w R s) (p1 : PktPost s Be code id d w v r w1) (p2 : RPktPost s R code id d w1 v2 r2 w2) :
    r2 = r ∧ Same2 w2 v v2 ∧ IsEch w2 Be (s.pktS code id d) ∧ IsRef w2 R (s.pktS code id d) := by
  rcases p1 with ⟨a1, rfl, hb1, ht1⟩ | ⟨a1, rfl, ⟨g1, hg1, rfl, hp1⟩, hb1, ht1⟩
  · rcases p2 with ⟨a2, rfl, hb2, ht2⟩ | ⟨a2, _⟩
    · rw [a1] at a2
      cases a2
      exact ⟨rfl, .inl ⟨rfl, rfl⟩, ht1.but hb2 hne, ht2⟩
    · rw [a1] at a2; cases a2
  · rcases p2 with ⟨a2, _⟩ | ⟨a2, rfl, ⟨g2, hg2, rfl, hp2⟩, hb2, ht2⟩
    · rw [a1] at a2; cases a2
    · have hS : s.pktS code id d = s := if_neg (fun e => by rw [a1] at e; cases e.2)
      have hg : g1 ≠ R := by have := hr.lt; omega
      rw [hS]
      exact ⟨rfl, .inr ⟨g1, g2, _, _, _, rfl, rfl, IsPkt.but hp1 hb2 hg, hp2⟩, ht1.but hb2 hne, ht2⟩
theorem But.below' {B : Nat} {a w w' : World} {b : Nat} (h : Below b a w) (k : But B w w') (hb : b ≤ B) (hw : b ≤ w.heap.size) : Below b a w' := k.below h hb hw
theorem tick_but {Is : World → Nat → Ech → Prop} {s : Ech} {B : Nat} {t : Int} {w w1 : World} {v : Value} {r : Int} (p : TickPost Is s B t w v r w1) : But B w w1 := by
  rcases p with ⟨_, _, h, _⟩ | ⟨_, _, _, h, _⟩ <;> exact h
theorem tick_is {Is : World → Nat → Ech → Prop} {s : Ech} {B : Nat} {t : Int} {w w1 : World} {v : Value} {r : Int} (p : TickPost Is s B t w v r w1) : Is w1 B (s.tickS t) := by
  rcases p with ⟨_, _, _, h⟩ | ⟨_, _, _, _, h⟩ <;> exact h
theorem pkt_but {s : Ech} {B : Nat} {code id : Int} {d : ByteArray} {w w1 : World} {v : Value} {r : Int} (p : PktPost s B code id d w v r w1) : But B w w1 := by
  rcases p with ⟨_, _, h, _⟩ | ⟨_, _, _, h, _⟩ <;> exact h
theorem rpkt_but {s : Ech} {B : Nat} {code id : Int} {d : ByteArray} {w w1 : World} {v : Value} {r : Int} (p : RPktPost s B code id d w v r w1) : But B w w1 := by
  rcases p with ⟨_, _, h, _⟩ | ⟨_, _, _, h, _⟩ <;> exact h
theorem Ech.Ok.up {c : Nat} {s : Ech} (h : s.Ok c) : s.Ok (c + 1) := ⟨⟨h.sent.1, by have := h.sent.2; omega⟩, h.now, h.last, h.every, h.most, h.magic, h.missed⟩
theorem Ech.Ok.tick {c : Nat} {s : Ech} (h : s.Ok c) (t : Int) : (s.tickS t).Ok (c + 1) := by
  have h1 := h.sent; have h2 := h.now; have h3 := h.last; have h4 := h.every; have h5 := h.most; have h6 := h.magic; have h7 := h.missed
  unfold Ech.tickS
  split
  · exact h.up
  · split
    · split
      · exact ⟨by simp only; omega, by simp only; omega, by simp only; omega, h4, h5, h6, h7⟩
      · exact ⟨by simp only; omega, by simp only; omega, by simp only; omega, h4, h5, h6, by simp only; omega⟩
    · exact ⟨by simp only; omega, by simp only; omega, by simp only; omega, h4, h5, h6, h7⟩
theorem Ech.Ok.pkt {c : Nat} {s : Ech} (h : s.Ok c) (code id : Int) (d : ByteArray) : (s.pktS code id d).Ok (c + 1) := by
  have h1 := h.sent
  unfold Ech.pktS
  split
  · exact ⟨by simp only; omega, h.now, h.last, h.every, h.most, h.magic, by simp⟩
  · exact h.up
theorem pktS_now (s : Ech) (code id : Int) (d : ByteArray) : (s.pktS code id d).now = s.now := by
  unfold Ech.pktS; split <;> rfl
end Go.Proofs.Ythenjbonncbniaa
