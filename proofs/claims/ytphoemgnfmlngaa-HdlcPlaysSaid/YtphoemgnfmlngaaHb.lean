/-
  Layer 4 (hdlc): the small methods of a receiver, and the closures of met, walked.
-/
import Derived.Test.YtphoemgnfmlngaaHa
set_option linter.unusedVariables false
set_option linter.unusedSimpArgs false
namespace Go.Proofs.Ytphoemgnfmlngaa
open Go.RowKit Go.Proofs.YtphoemgnfmlngaaW.PrintWords Go.Proofs.YtphoemgnfmlngaaW.PrintLast

theorem results_cell1 {fn : Func} {p : Tmp} {tp : TypeId} (h : fn.results = #[.cell p tp]) (tmps : Array Value) (P : Program) (w : World) {a : Addr} {u : Value}
    (ha : tmps.getD p undef = .pointer (some a)) (la : (loadVar tp a).run P w = .ok u w) : (results fn tmps).run P w = .ok u w := by
  simp only [Array.getD_eq_getD_getElem?] at ha
  simp only [results, h]
  simp [Sem.run_bind, Result.andThen, ha, la, asAddr]
theorem own_form {w : World} {B n : Nat} {v : Value} {xs : List Value} (h : w.ownsRow B 5 1 v n xs) : ∃ a c, v = .slice a n c := by
  rcases h.2 with ⟨rfl, h0⟩ | ⟨g, cap, cur, rfl, _⟩
  · exact ⟨none, 0, by rw [h0]⟩
  · exact ⟨_, _, rfl⟩
theorem IsRc.lt {w : World} {B b : Nat} {r : Rc} {v : Value} (h : IsRc w B b r v) : b < w.heap.size := (Array.getElem?_eq_some_iff.1 h.blk).1
theorem grown_below {w w' : World} (h : Below w.heap.size w w') : w.grownBy w' none := ⟨h.os, h.tape, h.output, h.size, fun k hk _ => h.block k hk⟩
theorem own_below {w w' : World} {B : Nat} {e : TypeId} {size : Nat} {v : Value} {n : Nat} {xs : List Value} (h : w.ownsRow B e size v n xs) (hb : Below w.heap.size w w') : w'.ownsRow B e size v n xs :=
  h.kept (grown_below hb) (Decidable.em _)
theorem IsRc.below {w W : World} {B b : Nat} {r : Rc} {v : Value} (h : IsRc w B b r v) (hb : Below w.heap.size w W) : IsRc W B b r v := ⟨(hb.block b h.lt).trans h.blk, own_below h.own hb⟩
def heardV (r : Rc) : Value := .agg #[.int .i64 (r.g : Int), .int .i64 (r.ab : Int), .int .i64 (r.lo : Int), .int .i64 (r.sh : Int), .int .i64 (r.su : Int)]
theorem heard_calls (r : Rc) (B b : Nat) (v : Value) (w : World) (h : IsRc w B b r v) : Calls Try.prog 42 #[.pointer (some ⟨b, 0, none⟩)] w fun e w' => e = .returned (heardV r) ∧ Below w.heap.size w w' := by
  have p1 : ∀ ob, (w.alloc ob).heap[b]? = some (.cells (r.cells v) 78 (0, 0)) := fun ob => (Lib.alloc_old _ _ _ h.lt).trans h.blk
  have p2 := fun ob i => blk_cell (p1 ob) i
  simp only [Rc.cells] at p2
  go_enter Try.func42, Try.ntmps42
  go_wp2
  (try simp only [Exit.inBlock, Exit.then])
  refine bodyPost_ret (v := heardV r) ?_ rfl ⟨rfl, (Below.refl _ _).alloc (Nat.le_refl _) _⟩
  exact results_cell1 rfl _ _ _ rfl (by go_simp; rfl)
theorem inside_calls (r : Rc) (B b : Nat) (v : Value) (w : World) (h : IsRc w B b r v) : Calls Try.prog 43 #[.pointer (some ⟨b, 0, none⟩)] w fun e w' => e = .returned (.bool (decide (0 < r.p.length))) ∧ w' = w := by
  obtain ⟨pa, pc, rfl⟩ := own_form h.own
  have t1 := fun i => blk_cell h.blk i
  simp only [Rc.cells] at t1
  have q : decide ((0 : Int) < (r.p.length : Int)) = decide (0 < r.p.length) := by rw [Bool.eq_iff_iff, decide_eq_true_eq, decide_eq_true_eq]; omega
  generalize decide (0 < r.p.length) = x at *
  go_enter Try.func43, Try.ntmps43
  go_wp2
  go_ret
  exact ⟨by first | rfl | (rw [← q]; simp; done), rfl⟩
theorem set_good (r : Rc) (B b : Nat) (v : Value) (m : Int) (c : Nat) (hm : 2 ≤ m ∧ m ≤ 1508) (w : World) (h : IsRc w B b r v) : Calls Try.prog 45 #[.pointer (some ⟨b, 0, none⟩), .int .i64 m, .int .u32 c] w fun e w' => e = .returned (.int .i64 0) ∧ w' = (w.setCell ⟨b, 5, none⟩ (.int .i64 m)).setCell ⟨b, 6, none⟩ (.int .u32 c) := by
  have hM := fun W => may_calls m W
  rw [decide_eq_true hm] at hM
  have t1 := fun i => blk_cell h.blk i
  have t2 := fun i => blk_frozen h.blk i
  have t3 := fun u i => blk_cell (blk_set h.blk 5 u) i
  have t4 := fun u i => blk_frozen (blk_set h.blk 5 u) i
  simp only [Rc.cells] at t1 t3
  go_enter Try.func45, Try.ntmps45
  go_wp2_with (first
    | (go_at_call 57; with_reducible refine (hM _).mono ?_; rintro e w1 ⟨rfl, hw⟩; obtain rfl := hw.symm))
  go_ret
  exact ⟨rfl, rfl⟩
theorem set_bad (b : Nat) (m : Int) (c : Nat) (hm : ¬ (2 ≤ m ∧ m ≤ 1508)) (w : World) : Calls Try.prog 45 #[.pointer (some ⟨b, 0, none⟩), .int .i64 m, .int .u32 c] w fun e w' => e = .returned (.int .i64 2) ∧ w' = w := by
  have hM := fun W => may_calls m W
  rw [decide_eq_false hm] at hM
  go_enter Try.func45, Try.ntmps45
  go_wp2_with (first
    | (go_at_call 57; with_reducible refine (hM _).mono ?_; rintro e w1 ⟨rfl, hw⟩; obtain rfl := hw.symm))
  go_ret
  exact ⟨rfl, rfl⟩
/-! met's closures. -/
theorem m1_calls (sb : Nat) (l : List UInt8) (hl : l ≠ []) (hs : l.length < 1000000) (w : World) (hc : w.cell? ⟨sb, 0, none⟩ = some (.string (str l))) :
    Calls Try.prog 63 #[.pointer (some ⟨sb, 0, none⟩)] w fun e w' => e = .returned (.bool (decide (l.getLast? = some 125))) ∧ w' = w := by
  have hpos := List.length_pos_iff.2 hl
  have hss := str_size l
  have hin : l.length - 1 < (str l).size := by rw [hss]; omega
  have hlast : Hid ((((str l)[l.length - 1].toNat : Int) == 125) = decide (l.getLast? = some 125)) := Lib.hid (by
    have e1 : (str l)[l.length - 1] = l[l.length - 1] := rfl
    have e2 : l.getLast? = some (l[l.length - 1]'(by omega)) := by rw [List.getLast?_eq_getElem?]; exact List.getElem?_eq_getElem _
    rw [e1, e2, Bool.eq_iff_iff, beq_iff_eq, decide_eq_true_eq, Option.some.injEq, ← UInt8.toNat_inj]
    show _ ↔ _ = (125 : UInt8).toNat
    rw [show (125 : UInt8).toNat = 125 from rfl]
    omega)
  go_enter Try.func63, Try.ntmps63
  go_wp2
  go_ret
  exact ⟨by rw [← hlast.out]; rfl, rfl⟩
theorem m2_calls (tb xb b B : Nat) (l : List UInt8) (hs : l.length < 1000000) (r : Rc) (v : Value) (hm : 2 ≤ r.most ∧ r.most ≤ 1508) (w : World) (hc : w.cell? ⟨tb, 0, none⟩ = some (.string (str l))) (hx : w.cell? ⟨xb, 0, none⟩ = some (.pointer (some ⟨b, 0, none⟩))) (h : IsRc w B b r v) :
    Calls Try.prog 64 #[.pointer (some ⟨tb, 0, none⟩), .pointer (some ⟨xb, 0, none⟩)] w fun e w' => e = .returned (.bool (decide (r.most + 2 < (l.length : Int)))) ∧ ∃ n, w' = w.drewN n := by
  have hss := str_size l
  have t1 := fun i => blk_cell h.blk i
  simp only [Rc.cells] at t1
  obtain ⟨m1, m2⟩ := hm
  go_enter Try.func64, Try.ntmps64
  go_wp2
  go_quiet (fail)
  go_wp2
  go_ret
  exact ⟨by first | rfl | (simp [hss]; done), _, rfl⟩
theorem m3_calls (tb : Nat) (l : List UInt8) (hs : l.length < 1000000) (w : World) (hc : w.cell? ⟨tb, 0, none⟩ = some (.string (str l))) :
    Calls Try.prog 65 #[.pointer (some ⟨tb, 0, none⟩)] w fun e w' => e = .returned (.bool (decide (l.length < 4))) ∧ w' = w := by
  have hss := str_size l
  have q : decide ((l.length : Int) < 4) = decide (l.length < 4) := by rw [Bool.eq_iff_iff, decide_eq_true_eq, decide_eq_true_eq]; omega
  go_enter Try.func65, Try.ntmps65
  go_wp2
  go_ret
  exact ⟨by first | rfl | (rw [← q]; rfl) | (rw [← q]; simp [hss]; done), rfl⟩
theorem m4_calls (tb : Nat) (l : List UInt8) (hs : l.length < 1000000) (w : World) (hc : w.cell? ⟨tb, 0, none⟩ = some (.string (str l))) :
    Calls Try.prog 66 #[.pointer (some ⟨tb, 0, none⟩)] w fun e w' => e = .returned (.bool (!Hd.good l)) ∧ Below w.heap.size w w' := by
  have hG := fun W => good_calls (str l) (by rw [str_size]; omega) W
  rw [str_list] at hG
  generalize Hd.good l = g at *
  go_enter Try.func66, Try.ntmps66
  go_wp2_with (first
    | (go_at_call 23; with_reducible refine (hG _).mono ?_; rintro e w1 ⟨rfl, hb1⟩))
  go_ret
  exact ⟨by first | rfl | (cases g <;> rfl), hb1⟩
theorem m5_calls (w : World) : Calls Try.prog 67 #[] w fun e w' => e = .returned (.bool true) ∧ w' = w := by
  go_enter Try.func67, Try.ntmps67
  go_wp2
  go_ret
  exact ⟨rfl, rfl⟩
end Go.Proofs.Ytphoemgnfmlngaa
