/-
  Layer 15 (ipcppol): Acked, Naked's closure, a kind's forget, walked.
-/
import Derived.Test.YtlcckkdkcbelhaaDoorRq
set_option linter.unusedVariables false
set_option linter.unusedSimpArgs false
namespace Go.Proofs.YtlcckkdkcbelhaaDoor
open Go.RowKit Go.Proofs.YtlcckkdkcbelhaaDoorW.PrintWords Go.Proofs.YtlcckkdkcbelhaaDoorW.PrintLast

theorem isPol_mine {w : World} {b : Nat} {s : Pol} (h : IsPol w b s) (x : Icp) : IsPol ((((((w.setCell ⟨b, 12, none⟩ (.bool x.ha)).setCell ⟨b, 13, none⟩ (.int .u32 (nv x.a))).setCell ⟨b, 14, none⟩ (.bool x.h1)).setCell ⟨b, 15, none⟩ (.int .u32 (nv x.d1))).setCell ⟨b, 16, none⟩ (.bool x.h2)).setCell ⟨b, 17, none⟩ (.int .u32 (nv x.d2))) b { s with mine := x } :=
  blk_set (blk_set (blk_set (blk_set (blk_set (blk_set h 12 _) 13 _) 14 _) 15 _) 16 _) 17 _
set_option maxHeartbeats 4000000 in
set_option maxRecDepth 100000 in
theorem acked_calls (s : Pol) (pb : Nat) (l : List Opt) (a : Option Addr) (c : Nat) (w : World) (h : Row w a c l) (hs : l.length < 1000000) (hK : K w) (hp : IsPol w pb s) :
    Calls Tryd.prog 16 #[.pointer (some ⟨pb, 0, none⟩), .slice a l.length c] w fun e w' => e = .returned (.bool (decide (l = (putI s.w).1))) ∧ But pb w w' ∧ IsPol w' pb (if l = (putI s.w).1 then { s with mine := s.w } else s) := by
  have hR := fun W h1 h2 => request_calls s pb W h1 h2
  generalize hq : (putI s.w).1 = q at *
  have hA := fun (x : Option Addr) (d : Nat) W h1 h2 => alike_calls l q a x c d W h1 h2 (by omega)
  by_cases e : l = q
  · rw [decide_eq_true e] at hA ⊢
    rw [if_pos e]
    clear e
    go_enter Tryd.func16, Tryd.ntmps16
    go_upto_region 3 with (first
      | (go_at_call 15; with_reducible refine (hR _ hK hp).mono ?_; rintro e w1 ⟨v, rfl, ho, hb1⟩
         obtain ⟨xa, xc, rfl, r1⟩ := row_own ho)
      | (go_at_call 34; with_reducible refine (hA _ _ _ (h.below hb1) r1).mono ?_; rintro e w2 ⟨rfl, hb2⟩))
    have hp2 := (hp.below hb1).below hb2
    have B2 := hb1.trans (hb2.mono hb1.size)
    have t1 := fun i => blk_cell hp2 i
    have t2 := fun i => blk_frozen hp2 i
    simp only [Pol.cells] at t1
    go_wp2
    go_ret
    exact ⟨rfl, ((((((But.of_below B2).set 12 _).set 13 _).set 14 _).set 15 _).set 16 _).set 17 _, isPol_mine hp2 s.w⟩
  · rw [decide_eq_false e] at hA ⊢
    rw [if_neg e]
    clear e
    go_enter Tryd.func16, Tryd.ntmps16
    go_wp2_with (first
      | (go_at_call 15; with_reducible refine (hR _ hK hp).mono ?_; rintro e w1 ⟨v, rfl, ho, hb1⟩
         obtain ⟨xa, xc, rfl, r1⟩ := row_own ho)
      | (go_at_call 34; with_reducible refine (hA _ _ _ (h.below hb1) r1).mono ?_; rintro e w2 ⟨rfl, hb2⟩))
    go_ret
    exact ⟨rfl, But.of_below (hb1.trans (hb2.mono hb1.size)), (hp.below hb1).below hb2⟩
theorem nv_ne0' {a : UInt32} (h : a ≠ 0) : (nv a == 0) = false ∧ (nv a != 0) = true := by
  have : (nv a == 0) = false := by rw [show (0 : Int) = nv 0 from rfl, ni_bool, decide_eq_false h]
  exact ⟨this, by rw [bne, this]; rfl⟩
/-- Naked's closure: it stores v at what it points to, where there is one to store. -/
theorem take_calls (has : Bool) (b i : Nat) (u z : UInt32) (w : World) (hc : w.cell? ⟨b, i, none⟩ = some (.int .u32 (nv z))) (hf : w.frozen? ⟨b, i, none⟩ = false) :
    Calls Tryd.prog 35 #[.bool has, .pointer (some ⟨b, i, none⟩), .int .u32 (nv u)] w fun e w' => e = .returned (.tuple #[]) ∧ w' = if has = true ∧ u ≠ 0 then w.setCell ⟨b, i, none⟩ (.int .u32 (nv u)) else w := by
  cases has with
  | false =>
    rw [if_neg (by simp)]
    go_enter Tryd.func35, Tryd.ntmps35
    go_wp2
    exact bodyPost_end (results_none rfl _ _ _) rfl ⟨rfl, rfl⟩
  | true =>
    by_cases e : u = 0
    · subst e
      rw [if_neg (by simp)]
      have p1 : nv 0 = 0 := rfl
      go_enter Tryd.func35, Tryd.ntmps35
      go_wp2
      exact bodyPost_end (results_none rfl _ _ _) rfl ⟨rfl, rfl⟩
    · rw [if_pos ⟨rfl, e⟩]
      obtain ⟨p1, p2⟩ := nv_ne0' e
      go_enter Tryd.func35, Tryd.ntmps35
      go_wp2
      exact bodyPost_end (results_none rfl _ _ _) rfl ⟨rfl, rfl⟩
end Go.Proofs.YtlcckkdkcbelhaaDoor
