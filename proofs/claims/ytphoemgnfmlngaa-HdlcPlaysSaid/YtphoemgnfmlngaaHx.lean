/-
  Layer 4 (hdlc): the document's receiver, its functions, Copy and long, walked; where the law's loop stands.
-/
import Derived.Test.YtphoemgnfmlngaaHm
import Derived.Test.YtphoemgnfmlngaaPureEscapeTells
import Derived.Test.YtphoemgnfmlngaaPureF
import Derived.Deep.WholeRow
import Derived.Lib.BufferMore
set_option linter.unusedVariables false
set_option linter.unusedSimpArgs false
namespace Go.Proofs.Ytphoemgnfmlngaa
open Go.RowKit Go.Proofs.YtphoemgnfmlngaaW.PrintWords Go.Proofs.YtphoemgnfmlngaaW.PrintLast

theorem rmapped_calls (a b : Nat) (ha : a < 4294967296) (hb : b < 256) (w : World) : Calls Try.prog 30 #[.int .u32 (a : Int), .int .u8 (b : Int)] w fun e w' => e = .returned (.bool (Esc.mapped a b)) ∧ ∃ n, w' = w.drewN n :=
  (PEscapeTells.halyardref03_Mapped.calls 300 _ _ _ w (Pure.rmapped_eq 300 a b ha hb (Nat.le_refl _))).mono fun e w' h => ⟨h.1, h.2.out⟩
theorem rput_calls (a : Nat) (ha : a < 4294967296) (l : List UInt8) (hl : l.length ≤ 8192) (w : World) : Calls Try.prog 28 #[.string (str l), .int .u32 (a : Int)] w fun e w' => e = .returned (.string (str (Esc.put a l))) ∧ Below w.heap.size w w' := by
  have h := Pure.rput_eq ((str l).size + 400) a ha (str l) (by rw [str_size]; exact hl) (Nat.le_refl _)
  rw [str_list] at h
  exact PEscapeTells.halyardref03_Put.calls _ _ _ _ w h
theorem rget_calls (l : List UInt8) (hl : l.length ≤ 8192) (w : World) : ∃ x : Int, Calls Try.prog 27 #[.string (str l)] w fun e w' => e = .returned (.tuple #[.string (str ((Esc.get l).getD [])), .int .i64 x]) ∧ Below w.heap.size w w' := by
  obtain ⟨q, h1, h2⟩ := Pure.get_eq (2 * (str l).size + 2) (str l) (by rw [str_size]; exact hl) (Nat.le_refl _)
  unfold PEscapeTells.escape_Get.f at h1
  rw [if_pos (by rw [str_size]; omega), str_list] at h1
  obtain ⟨q1, q2⟩ := q
  have hc := PEscapeTells.halyardref03_Get.calls _ _ _ _ w h2
  cases hg : Esc.get l with
  | none =>
    rw [hg] at h1
    simp only [Option.some.injEq, Prod.mk.injEq] at h1
    obtain ⟨rfl, rfl⟩ := h1
    exact ⟨_, hc⟩
  | some o =>
    rw [hg] at h1
    simp only [Option.some.injEq, Prod.mk.injEq] at h1
    obtain ⟨rfl, rfl⟩ := h1
    exact ⟨_, hc⟩
theorem rgood_calls (l : List UInt8) (hl : l.length ≤ 8192) (w : World) : Calls Try.prog 24 #[.string (str l)] w fun e w' => e = .returned (.bool (Hd.good l)) ∧ Below w.heap.size w w' := by
  have h := PureF.rgood_eq (10 * (str l).size + 1) (str l) (by rw [str_size]; omega) (Nat.le_refl _)
  rw [str_list, str_size] at h
  have hg : decide (2 ≤ l.length ∧ Fcs.more 65535 (nats l) = 61624) = Hd.good l := by
    unfold Hd.good
    rw [Bool.decide_and]
  rw [hg] at h
  exact PFcsTells.halyardref02_Good.calls _ _ _ w h
theorem nats_inj' {a b : List UInt8} (h : nats a = nats b) : a = b := PureF.nats_inj h
theorem rseal_calls (l : List UInt8) (hl : l.length ≤ 8192) (w : World) : Calls Try.prog 22 #[.string (str l)] w fun e w' => e = .returned (.string (str (Hd.sealL l))) ∧ Below w.heap.size w w' := by
  have h := PureF.rseal_eq (10 * (str l).size + 1) (str l) (by rw [str_size]; omega) (Nat.le_refl _)
  obtain ⟨t, h1, h2, _, _⟩ := PureF.seal_eq (str l) (by rw [str_size]; omega)
  rw [h1] at h
  have ht : t = str (Hd.sealL l) := by
    rw [← str_of t]
    congr 1
    apply nats_inj'
    rw [h2, str_list]
    unfold Hd.sealL
    rw [Hd.nats_append, Hd.nats_two]
    rfl
  rw [ht] at h
  exact PFcsTells.halyardref02_Seal.calls _ _ _ w h
theorem rmay_calls (m : Int) (w : World) : Calls Try.prog 48 #[.int .i64 m] w fun e w' => e = .returned (.bool (decide (2 ≤ m ∧ m ≤ 1508))) ∧ w' = w := by
  by_cases h1 : 2 ≤ m
  · have q1 : decide (2 ≤ m) = true := decide_eq_true h1
    by_cases h2 : m ≤ 1508
    · have q2 : decide (m ≤ 1508) = true := decide_eq_true h2
      rw [decide_eq_true ⟨h1, h2⟩]
      clear h1 h2
      go_enter Try.func48, Try.ntmps48
      go_wp2
      go_ret
      exact ⟨rfl, rfl⟩
    · have q2 : decide (m ≤ 1508) = false := decide_eq_false h2
      rw [decide_eq_false (fun h => h2 h.2)]
      clear h1 h2
      go_enter Try.func48, Try.ntmps48
      go_wp2
      go_ret
      exact ⟨rfl, rfl⟩
  · have q1 : decide (2 ≤ m) = false := decide_eq_false h1
    rw [decide_eq_false (fun h => h1 h.1)]
    clear h1
    go_enter Try.func48, Try.ntmps48
    go_wp2
    go_ret
    exact ⟨rfl, rfl⟩
set_option maxRecDepth 100000 in
theorem rframe_calls (l : List UInt8) (hl : l.length ≤ 4096) (c : Nat) (hc : c < 4294967296) (w : World) : Calls Try.prog 47 #[.string (str l), .int .u32 (c : Int)] w fun e w' => e = .returned (.string (str (Hd.frame l c))) ∧ Below w.heap.size w w' := by
  have hS := fun W => rseal_calls l (by omega) W
  have hsl := Hd.seal_len l
  have hP := fun W => rput_calls c hc (Hd.sealL l) (by omega) W
  have hpl := Esc.put_le c (Hd.sealL l)
  have hz := str_size (Esc.put c (Hd.sealL l))
  have hfr : (⟨#[126]⟩ : ByteArray) ++ str (Esc.put c (Hd.sealL l)) ++ (⟨#[126]⟩ : ByteArray) = str (Hd.frame l c) := by
    unfold Hd.frame
    have h1 : (⟨#[126]⟩ : ByteArray) = str [126] := rfl
    rw [h1, str_append, str_append]
    rfl
  have hz1 : (⟨#[126]⟩ : ByteArray).size = 1 := rfl
  generalize str (Esc.put c (Hd.sealL l)) = P at *
  go_enter Try.func47, Try.ntmps47
  go_wp2_with (first
    | (go_at_call 22; with_reducible refine (hS _).mono ?_; rintro e w1 ⟨rfl, hb1⟩)
    | (go_at_call 28; with_reducible refine (hP _).mono ?_; rintro e w2 ⟨rfl, hb2⟩))
  go_ret
  exact ⟨by first | rfl | rw [hfr], hb1.trans (hb2.mono hb1.size)⟩

/-- The document's receiver, as it lies. -/
def Rc.rcells (r : Rc) : Array Value := #[.int .i64 r.most, .int .u32 (r.accm : Int), .bool r.inn, .string (str r.p), .int .i64 (r.g : Int), .int .i64 (r.ab : Int), .int .i64 (r.lo : Int), .int .i64 (r.sh : Int), .int .i64 (r.su : Int)]
def hcells (r : Rc) : Array Value := #[.int .i64 (r.g : Int), .int .i64 (r.ab : Int), .int .i64 (r.lo : Int), .int .i64 (r.sh : Int), .int .i64 (r.su : Int)]
def IsRf (w : World) (b : Nat) (r : Rc) : Prop := w.heap[b]? = some (.cells r.rcells 65 (0, 0))
theorem IsRf.lt {w : World} {b : Nat} {r : Rc} (h : IsRf w b r) : b < w.heap.size := (Array.getElem?_eq_some_iff.1 h).1
theorem IsRf.below {w W : World} {b : Nat} {r : Rc} (h : IsRf w b r) (hb : Below w.heap.size w W) : IsRf W b r := (hb.block b h.lt).trans h
theorem IsRf.cell {w : World} {b : Nat} {r : Rc} (h : IsRf w b r) (i : Nat) : w.cell? ⟨b, i, none⟩ = r.rcells[i]? := blk_cell h i
theorem IsRf.fz {w : World} {b : Nat} {r : Rc} (h : IsRf w b r) (i : Nat) : w.frozen? ⟨b, i, none⟩ = false := blk_frozen h i
theorem but_set {B b : Nat} {w W : World} (h : But B w W) (hb : w.heap.size ≤ b) (i : Nat) (v : Value) : But B w (W.setCell ⟨b, i, none⟩ v) :=
  ⟨h.os, h.tape, h.output, by simp [World.setCell]; exact h.size, fun k hk hne => (Below.heap_setCell W ⟨b, i, none⟩ v k (by show k ≠ b; omega)).trans (h.block k hk hne)⟩
theorem put5 {W : World} {b : Nat} {r : Rc} (h : IsRf W b r) (q : Rc) (hq : q.most = r.most ∧ q.accm = r.accm ∧ q.inn = r.inn ∧ q.p = r.p) :
    But b W (((((W.setCell ⟨b, 4, none⟩ (.int .i64 (q.g : Int))).setCell ⟨b, 5, none⟩ (.int .i64 (q.ab : Int))).setCell ⟨b, 6, none⟩ (.int .i64 (q.lo : Int))).setCell ⟨b, 7, none⟩ (.int .i64 (q.sh : Int))).setCell ⟨b, 8, none⟩ (.int .i64 (q.su : Int))) ∧
    IsRf (((((W.setCell ⟨b, 4, none⟩ (.int .i64 (q.g : Int))).setCell ⟨b, 5, none⟩ (.int .i64 (q.ab : Int))).setCell ⟨b, 6, none⟩ (.int .i64 (q.lo : Int))).setCell ⟨b, 7, none⟩ (.int .i64 (q.sh : Int))).setCell ⟨b, 8, none⟩ (.int .i64 (q.su : Int))) b q := by
  refine ⟨((((But.refl b W).set 4 _).set 5 _).set 6 _).set 7 _ |>.set 8 _, ?_⟩
  have hc : r.rcells = #[.int .i64 q.most, .int .u32 (q.accm : Int), .bool q.inn, .string (str q.p), .int .i64 (r.g : Int), .int .i64 (r.ab : Int), .int .i64 (r.lo : Int), .int .i64 (r.sh : Int), .int .i64 (r.su : Int)] := by
    unfold Rc.rcells
    rw [hq.1, hq.2.1, hq.2.2.1, hq.2.2.2]
  unfold IsRf at h ⊢
  rw [hc] at h
  exact blk_set (blk_set (blk_set (blk_set (blk_set h 4 _) 5 _) 6 _) 7 _) 8 _
set_option maxHeartbeats 16000000 in
set_option maxRecDepth 100000 in
theorem rmet_calls (r : Rc) (b : Nat) (w : World) (h : IsRf w b r) (hp : r.p ≠ []) (hs : r.p.length ≤ 8192) (hm : 2 ≤ r.most ∧ r.most ≤ 1508) (hk : r.g ≤ 1000000000 ∧ r.ab ≤ 1000000000 ∧ r.lo ≤ 1000000000 ∧ r.sh ≤ 1000000000 ∧ r.su ≤ 1000000000) :
    Calls Try.prog 60 #[.pointer (some ⟨b, 0, none⟩)] w fun e w' => e = .returned (.tuple #[.string (str r.info), .bool (decide (r.kind = 0))]) ∧ But b w w' ∧ IsRf w' b (r.add r.kind) := by
  have t1 := fun i => blk_cell h i
  have t2 := fun i => blk_frozen h i
  simp only [Rc.rcells] at t1
  have hpos := List.length_pos_iff.2 hp
  have hss := str_size r.p
  have hin : r.p.length - 1 < (str r.p).size := by rw [hss]; omega
  go_enter Try.func60, Try.ntmps60
  go_upto_region 3 with fail
  have hA := (Below.refl w.heap.size w).alloc (Nat.le_refl _) (.cells (hcells r) 53)
  have h1 := h.below hA
  have hn := alloc_new w _ (.cells (hcells r) 53) rfl
  have hB1 : But b w (w.alloc (.cells (hcells r) 53)) := But.of_below hA
  have hbn : b ≠ w.heap.size := by have := h.lt; omega
  obtain ⟨hb, hhb⟩ : ∃ x, w.heap.size = x := ⟨_, rfl⟩
  clear t1 t2 hA
  change Code.wp _ _ _ _ (w.alloc (.cells (hcells r) 53))
  generalize w.alloc (.cells (hcells r) 53) = w1 at *
  rw [hhb] at hn hbn ⊢
  have t1 := fun i => blk_cell h1 i
  have t2 := fun i => blk_frozen h1 i
  have u1 := fun i => blk_cell hn i
  have u2 := fun i => blk_frozen hn i
  simp only [Rc.rcells] at t1
  simp only [hcells] at u1
  have h4 := h1
  have n4 := hn
  have B4 := hB1
  have hlast : Hid ((((str r.p)[r.p.length - 1].toNat : Int) == 125) = decide (r.p.getLast? = some 125)) := Lib.hid (by
    have e1 : (str r.p)[r.p.length - 1] = r.p[r.p.length - 1] := rfl
    have e2 : r.p.getLast? = some (r.p[r.p.length - 1]'(by omega)) := by rw [List.getLast?_eq_getElem?]; exact List.getElem?_eq_getElem _
    rw [e1, e2, Bool.eq_iff_iff, beq_iff_eq, decide_eq_true_eq, Option.some.injEq, ← UInt8.toNat_inj]
    show _ ↔ _ = (125 : UInt8).toNat
    rw [show (125 : UInt8).toNat = 125 from rfl]
    omega)
  by_cases h125 : r.p.getLast? = some 125
  · have hl := hlast.out
    rw [decide_eq_true h125] at hl
    have hkd := Lib.hid (show r.kind = 1 by unfold Rc.kind; rw [if_pos h125])
    have hinf := Lib.hid (show r.info = [] by unfold Rc.info; rw [hkd.out]; rfl)
    go_upto_region 5 with fail
    have h9 : IsRf (w1.setCell ⟨hb, 1, none⟩ (.int .i64 ((r.ab : Int) + 1))) b r := (Below.heap_setCell w1 ⟨hb, 1, none⟩ _ b hbn).trans h4
    have n9 := blk_set n4 1 (.int .i64 ((r.ab : Int) + 1))
    have B9 : But b w (w1.setCell ⟨hb, 1, none⟩ (.int .i64 ((r.ab : Int) + 1))) := but_set B4 (by omega) 1 (.int .i64 ((r.ab : Int) + 1))
    clear t1 t2 u1 u2 h4 n4 B4
    generalize w1.setCell ⟨hb, 1, none⟩ (.int .i64 ((r.ab : Int) + 1)) = w2 at *
    have t1 := fun i => blk_cell h9 i
    have t2 := fun i => blk_frozen h9 i
    have u1 := fun i => blk_cell n9 i
    have u2 := fun i => blk_frozen n9 i
    simp only [Rc.rcells] at t1
    simp only [hcells] at u1
    have X := put5 h9 (r.add 1) ⟨rfl, rfl, rfl, rfl⟩
    clear h9 n9
    go_wp2
    go_ret2
    exact ⟨by rw [hinf.out, hkd.out]; rfl, B9.trans X.1, by rw [hkd.out]; exact X.2⟩
  · have hl := hlast.out
    rw [decide_eq_false h125] at hl
    obtain ⟨ex, hG⟩ := rget_calls r.p hs w1
    have htl : r.t.length ≤ 8192 := by have := gets_len r.p; unfold Rc.t; omega
    rw [show (Esc.get r.p).getD [] = r.t from rfl] at hG
    have hgo := fun W => rgood_calls r.t htl W
    have hzt := str_size r.t
    have hkk : Hid (r.kind = if r.most + 2 < (r.t.length : Int) then 2 else if r.t.length < 4 then 3 else if Hd.good r.t = false then 4 else 0) := Lib.hid (by unfold Rc.kind; rw [if_neg h125])
    have hii : Hid (r.info = if r.kind = 0 then r.t.take (r.t.length - 2) else []) := Lib.hid rfl
    clear h125 hlast
    generalize r.t = tt at *
    go_upto_region 8 with (first
      | (go_at_call 27; with_reducible refine hG.mono ?_; rintro e w3 ⟨rfl, hb3⟩))
    have h4 := h1.below hb3
    have n4 := (hb3.block _ ((Array.getElem?_eq_some_iff.1 hn).1)).trans hn
    have B4 := hB1.trans (But.of_below (B := b) hb3)
    clear t1 t2 u1 u2 h1 hn hB1 hb3 hG
    have t1 := fun i => blk_cell h4 i
    have t2 := fun i => blk_frozen h4 i
    have u1 := fun i => blk_cell n4 i
    have u2 := fun i => blk_frozen n4 i
    simp only [Rc.rcells] at t1
    simp only [hcells] at u1
    by_cases c2 : r.most + 2 < (tt.length : Int)
    · have d2 : decide (r.most + 2 < (tt.length : Int)) = true := decide_eq_true c2
      have hkd := Lib.hid (show r.kind = 2 by rw [hkk.out, if_pos c2])
      have hinf := Lib.hid (show r.info = [] by rw [hii.out, hkd.out]; rfl)
      clear hgo hkk hii c2
      go_upto_region 17 with fail
      have h9 : IsRf (w3.setCell ⟨hb, 2, none⟩ (.int .i64 ((r.lo : Int) + 1))) b r := (Below.heap_setCell w3 ⟨hb, 2, none⟩ _ b hbn).trans h4
      have n9 := blk_set n4 2 (.int .i64 ((r.lo : Int) + 1))
      have B9 : But b w (w3.setCell ⟨hb, 2, none⟩ (.int .i64 ((r.lo : Int) + 1))) := but_set B4 (by omega) 2 (.int .i64 ((r.lo : Int) + 1))
      clear t1 t2 u1 u2 h4 n4 B4
      generalize w3.setCell ⟨hb, 2, none⟩ (.int .i64 ((r.lo : Int) + 1)) = w4 at *
      have t1 := fun i => blk_cell h9 i
      have t2 := fun i => blk_frozen h9 i
      have u1 := fun i => blk_cell n9 i
      have u2 := fun i => blk_frozen n9 i
      simp only [Rc.rcells] at t1
      simp only [hcells] at u1
      have X := put5 h9 (r.add 2) ⟨rfl, rfl, rfl, rfl⟩
      clear h9 n9
      go_wp2
      go_ret2
      exact ⟨by rw [hinf.out, hkd.out]; rfl, B9.trans X.1, by rw [hkd.out]; exact X.2⟩
    · have d2 : decide (r.most + 2 < (tt.length : Int)) = false := decide_eq_false c2
      by_cases c3 : tt.length < 4
      · have d3 : decide ((tt.length : Int) < 4) = true := by simp; omega
        have hkd := Lib.hid (show r.kind = 3 by rw [hkk.out, if_neg c2, if_pos c3])
        have hinf := Lib.hid (show r.info = [] by rw [hii.out, hkd.out]; rfl)
        clear hgo hkk hii
        go_upto_region 17 with fail
        have h9 : IsRf (w3.setCell ⟨hb, 3, none⟩ (.int .i64 ((r.sh : Int) + 1))) b r := (Below.heap_setCell w3 ⟨hb, 3, none⟩ _ b hbn).trans h4
        have n9 := blk_set n4 3 (.int .i64 ((r.sh : Int) + 1))
        have B9 : But b w (w3.setCell ⟨hb, 3, none⟩ (.int .i64 ((r.sh : Int) + 1))) := but_set B4 (by omega) 3 (.int .i64 ((r.sh : Int) + 1))
        clear t1 t2 u1 u2 h4 n4 B4
        generalize w3.setCell ⟨hb, 3, none⟩ (.int .i64 ((r.sh : Int) + 1)) = w4 at *
        have t1 := fun i => blk_cell h9 i
        have t2 := fun i => blk_frozen h9 i
        have u1 := fun i => blk_cell n9 i
        have u2 := fun i => blk_frozen n9 i
        simp only [Rc.rcells] at t1
        simp only [hcells] at u1
        have X := put5 h9 (r.add 3) ⟨rfl, rfl, rfl, rfl⟩
        clear h9 n9
        go_wp2
        go_ret2
        exact ⟨by rw [hinf.out, hkd.out]; rfl, B9.trans X.1, by rw [hkd.out]; exact X.2⟩
      · have d3 : decide ((tt.length : Int) < 4) = false := by simp; omega
        cases hg : Hd.good tt with
        | false =>
          rw [hg] at hgo
          have hkd := Lib.hid (show r.kind = 4 by rw [hkk.out, if_neg c2, if_neg c3, hg]; rfl)
          have hinf := Lib.hid (show r.info = [] by rw [hii.out, hkd.out]; rfl)
          clear hkk hii
          go_upto_region 17 with (first
            | (go_at_call 24; with_reducible refine (hgo _).mono ?_; rintro e w5 ⟨rfl, hb5⟩; replace h4 := h4.below hb5; replace n4 := (hb5.block _ ((Array.getElem?_eq_some_iff.1 n4).1)).trans n4; replace B4 := B4.trans (But.of_below (B := b) hb5); clear t1 t2 u1 u2; have t1 := fun i => h4.cell i; have t2 := fun i => h4.fz i; have u1 := fun i => blk_cell n4 i; have u2 := fun i => blk_frozen n4 i; simp only [Rc.rcells] at t1; simp only [hcells] at u1))
          have h9 : IsRf (w5.setCell ⟨hb, 4, none⟩ (.int .i64 ((r.su : Int) + 1))) b r := (Below.heap_setCell w5 ⟨hb, 4, none⟩ _ b hbn).trans h4
          have n9 := blk_set n4 4 (.int .i64 ((r.su : Int) + 1))
          have B9 : But b w (w5.setCell ⟨hb, 4, none⟩ (.int .i64 ((r.su : Int) + 1))) := but_set B4 (by omega) 4 (.int .i64 ((r.su : Int) + 1))
          clear t1 t2 u1 u2 h4 n4 B4
          generalize w5.setCell ⟨hb, 4, none⟩ (.int .i64 ((r.su : Int) + 1)) = w4 at *
          have t1 := fun i => blk_cell h9 i
          have t2 := fun i => blk_frozen h9 i
          have u1 := fun i => blk_cell n9 i
          have u2 := fun i => blk_frozen n9 i
          simp only [Rc.rcells] at t1
          simp only [hcells] at u1
          have X := put5 h9 (r.add 4) ⟨rfl, rfl, rfl, rfl⟩
          clear h9 n9
          go_wp2
          go_ret2
          exact ⟨by rw [hinf.out, hkd.out]; rfl, B9.trans X.1, by rw [hkd.out]; exact X.2⟩
        | true =>
          rw [hg] at hgo
          have hkd := Lib.hid (show r.kind = 0 by rw [hkk.out, if_neg c2, if_neg c3, hg]; rfl)
          have hinf := Lib.hid (show r.info = tt.take (tt.length - 2) by rw [hii.out, hkd.out]; rfl)
          have hsl : ∀ W, (Instr.slice 9 (.string (str tt)) none (some (.int .i64 ((tt.length : Int) - 2))) none).run Try.prog W = .ok (.string (str (tt.take (tt.length - 2)))) W := fun W => by
            rw [run_slice_string_to_if (P := Try.prog) W 9 (str tt) .i64 _ Try.underlying9, if_pos (by omega), str_take, str_list, show ((tt.length : Int) - 2).toNat = tt.length - 2 by omega]
          clear hkk hii
          go_upto_region 17 with (first
            | (go_at_call 24; with_reducible refine (hgo _).mono ?_; rintro e w5 ⟨rfl, hb5⟩; replace h4 := h4.below hb5; replace n4 := (hb5.block _ ((Array.getElem?_eq_some_iff.1 n4).1)).trans n4; replace B4 := B4.trans (But.of_below (B := b) hb5); clear t1 t2 u1 u2; have t1 := fun i => h4.cell i; have t2 := fun i => h4.fz i; have u1 := fun i => blk_cell n4 i; have u2 := fun i => blk_frozen n4 i; simp only [Rc.rcells] at t1; simp only [hcells] at u1))
          have h9 : IsRf (w5.setCell ⟨hb, 0, none⟩ (.int .i64 ((r.g : Int) + 1))) b r := (Below.heap_setCell w5 ⟨hb, 0, none⟩ _ b hbn).trans h4
          have n9 := blk_set n4 0 (.int .i64 ((r.g : Int) + 1))
          have B9 : But b w (w5.setCell ⟨hb, 0, none⟩ (.int .i64 ((r.g : Int) + 1))) := but_set B4 (by omega) 0 (.int .i64 ((r.g : Int) + 1))
          clear t1 t2 u1 u2 h4 n4 B4
          generalize w5.setCell ⟨hb, 0, none⟩ (.int .i64 ((r.g : Int) + 1)) = w4 at *
          have t1 := fun i => blk_cell h9 i
          have t2 := fun i => blk_frozen h9 i
          have u1 := fun i => blk_cell n9 i
          have u2 := fun i => blk_frozen n9 i
          simp only [Rc.rcells] at t1
          simp only [hcells] at u1
          have X := put5 h9 (r.add 0) ⟨rfl, rfl, rfl, rfl⟩
          clear h9 n9
          go_wp2
          go_ret2
          exact ⟨by rw [hinf.out, hkd.out]; rfl, B9.trans X.1, by rw [hkd.out]; exact X.2⟩

/-- Where the document's Push stands. -/
structure P2 (w : World) (b : Nat) (r : Rc) (o : List (List UInt8)) (ov : Value) (W : World) : Prop where
  rf : IsRf W b r
  out : W.ownsRow w.heap.size 9 1 ov o.length (strs o)
  but : But b w W
theorem P2.start {w : World} {b : Nat} {r : Rc} (h : IsRf w b r) : P2 w b r [] (.slice none 0 0) w := ⟨h, World.ownsRow_nil _ _ _ _, But.refl _ _⟩
theorem P2.met {w W W' : World} {b : Nat} {r r' : Rc} {o : List (List UInt8)} {ov : Value} (h : P2 w b r o ov W) (hb : But b W W') (h' : IsRf W' b r') : P2 w b r' o ov W' :=
  ⟨h', h.out.kept (row := some b) ⟨hb.os, hb.tape, hb.output, hb.size, fun k hk hne => hb.block k hk (fun e => hne (by rw [e]))⟩ (.inr (own_ne h.out h.rf (by decide)).symm), h.but.trans hb⟩
theorem P2.below {w W W' : World} {b : Nat} {r : Rc} {o : List (List UInt8)} {ov : Value} (h : P2 w b r o ov W) (hb : Below W.heap.size W W') : P2 w b r o ov W' := h.met (But.of_below hb) (h.rf.below hb)
theorem P2.drewN {w W : World} {b : Nat} {r : Rc} {o : List (List UInt8)} {ov : Value} (h : P2 w b r o ov W) (n : Nat) : P2 w b r o ov (W.drewN n) := h.below (below_drewN (Below.refl _ _) n)
theorem P2.more {w W W' : World} {b : Nat} {r : Rc} {o : List (List UInt8)} {ov ov' : Value} {x : List UInt8} (h : P2 w b r o ov W) (hg : W.grownBy W' ov.ownBlock) (ho : W'.ownsRow w.heap.size 9 1 ov' (o.length + 1) (strs o ++ [.string (str x)])) : P2 w b r (o ++ [x]) ov' W' :=
  ⟨(hg.block b h.rf.lt (own_ne h.out h.rf (by decide))).trans h.rf, by rw [strs_append, List.length_append]; exact ho,
   ⟨hg.os.trans h.but.os, hg.tape.trans h.but.tape, hg.output.trans h.but.output, Nat.le_trans h.but.size hg.size,
    fun k hk hne => (hg.block k (Nat.lt_of_lt_of_le hk h.but.size) (fun e => by have := own_base h.out k e.symm; omega)).trans (h.but.block k hk hne)⟩⟩
theorem P2.shut {w W : World} {b : Nat} {r : Rc} {o : List (List UInt8)} {ov : Value} (h : P2 w b r o ov W) : P2 w b { r with inn := true, p := [] } o ov ((W.setCell ⟨b, 2, none⟩ (.bool true)).setCell ⟨b, 3, none⟩ (.string ⟨#[]⟩)) :=
  h.met (((But.refl b W).set 2 _).set 3 _) (blk_set (blk_set h.rf 2 _) 3 _)
theorem P2.push {w W : World} {b : Nat} {r : Rc} {o : List (List UInt8)} {ov : Value} (h : P2 w b r o ov W) (x : UInt8) : P2 w b { r with p := r.p ++ [x] } o ov (W.setCell ⟨b, 3, none⟩ (.string (str (r.p ++ [x])))) :=
  h.met ((But.refl b W).set 3 _) (blk_set h.rf 3 _)
def Rc.Inv (r : Rc) : Prop := r.inn = false → r.p = []
theorem Rc.Inv.next {r : Rc} (h : r.Inv) (x : UInt8) : (r.next x).Inv := by
  unfold Rc.Inv Rc.next at *
  split
  · intro q; cases q
  · split
    · rename_i h2
      intro q
      rw [h2.1] at q; cases q
    · exact h
theorem Rc.Inv.run {r : Rc} (h : r.Inv) (l : List UInt8) : (r.run l).Inv := by
  induction l generalizing r with
  | nil => exact h
  | cons a l ih => exact ih (h.next a)
set_option maxHeartbeats 16000000 in
set_option maxRecDepth 100000 in
theorem rpush_calls (r0 : Rc) (b : Nat) (s : ByteArray) (w : World) (h : IsRf w b r0) (hI : r0.Inv) (n : Nat) (hOk : r0.Ok n) (hs : n + s.size ≤ 8192) :
    Calls Try.prog 49 #[.pointer (some ⟨b, 0, none⟩), .string s] w fun e w' => ∃ ov, e = .returned ov ∧ P2 w b (r0.run s.data.toList) (r0.outs s.data.toList) ov w' := by
  have hlen : s.data.toList.length = s.size := by rw [Array.length_toList]; rfl
  obtain ⟨i9, hi9, hz0, hz1, hz2⟩ := info_parts infoS9
  go_enter Try.func49, Try.ntmps49
  go_wp2
  go_loopg [5, 6] s.size (fun q ov i wr => ∃ (k : Nat), k ≤ s.size ∧ q = s.size - k ∧ i = .int .i64 (k : Int) ∧ Hid (P2 w b (r0.run (s.data.toList.take k)) (r0.outs (s.data.toList.take k)) ov wr))
  case atStart => exact ⟨0, by omega, rfl, rfl, Lib.hid (P2.start h)⟩
  case round =>
    obtain ⟨k, hk, hq, rfl, hP⟩ := hrel
    have A := Lib.hid hq; clear hq
    by_cases hlt : k < s.size
    · have hh : decide ((k : Int) < (s.size : Int)) = true := by simp; omega
      have hsk : s.data.toList[k]? = some s[k] := by rw [List.getElem?_eq_getElem (by omega)]; rfl
      have htk : s.data.toList.take (k + 1) = s.data.toList.take k ++ [s[k]] := by rw [List.take_add_one, hsk]; rfl
      have hrun := Lib.hid (show r0.run (s.data.toList.take (k + 1)) = _ by rw [htk, Rc.run_snoc])
      have hout := Lib.hid (show r0.outs (s.data.toList.take (k + 1)) = _ by rw [htk, Rc.outs_snoc])
      have hOr := hOk.run (s.data.toList.take k)
      have hIr := Lib.hid (hI.run (s.data.toList.take k))
      have hol := Rc.outs_le r0 (s.data.toList.take k)
      have htl : (s.data.toList.take k).length = k := by rw [List.length_take]; omega
      rw [htl] at hOr hol
      clear hsk htk htl
      generalize r0.run (s.data.toList.take k) = r at *
      generalize r0.outs (s.data.toList.take k) = o at *
      have hsz := hP.out.but.size
      have hrf := hP.out.rf
      have hkk := Lib.hid (show s[k].toNat < 256 from UInt8.toNat_lt _)
      have hp6 := hOr.p
      have hacc := hOr.accm
      have hzp := str_size r.p
      have t1 := hrf.cell
      have t2 := hrf.fz
      simp only [Rc.rcells] at t1
      by_cases hx : s[k] = 126
      · have hb : ((s[k].toNat : Int) == 126) = true := by rw [hx]; rfl
        rw [hx] at hrun hout
        by_cases hp : r.p = []
        · have hnx := Lib.hid (Rc.next_nil r hp)
          have he0 : ((str r.p).toList != ([] : List UInt8)) = false := by rw [toList_data, hp]; rfl
          have he1 : str r.p = ⟨#[]⟩ := by rw [hp]; rfl
          cases hin : r.inn with
          | false =>
            rw [hin] at t1
            go_wp2
            go_roundg (s.size - (k + 1))
            case measure => have := A.out; omega
            case rel => exact ⟨k + 1, by omega, rfl, by go_num, Lib.hid (by rw [hrun.out, hout.out]; exact by rw [hnx.out.1, hnx.out.2, List.append_nil]; exact hP.out.shut)⟩
          | true =>
            rw [hin, he1] at t1
            clear he1
            go_wp2
            go_roundg (s.size - (k + 1))
            case measure => have := A.out; omega
            case rel => exact ⟨k + 1, by omega, rfl, by go_num, Lib.hid (by rw [hrun.out, hout.out]; exact by rw [hnx.out.1, hnx.out.2, List.append_nil]; exact hP.out.shut)⟩
        · have hin : r.inn = true := by
            cases hin : r.inn with
            | false => exact absurd (hIr.out hin) hp
            | true => rfl
          have hnx := Lib.hid (Rc.next_met r hp)
          have he0 : ((str r.p).toList != ([] : List UInt8)) = true := by rw [toList_data, bne_iff_ne]; exact hp
          have he2 : ¬ str r.p = (⟨#[]⟩ : ByteArray) := fun e => hp (by have := congrArg (fun b : ByteArray => b.data.toList) e; exact this)
          have he3 : ((str r.p).toList == ([] : List UInt8)) = false := by rw [toList_data, beq_eq_false_iff_ne]; exact hp
          have he4 : ((str r.p).toList == (⟨#[]⟩ : ByteArray).toList) = false := by rw [toList_data, toList_data, beq_eq_false_iff_ne]; exact hp
          have hM := rmet_calls r b wr hrf hp (by omega) hOr.most ⟨by have := hOr.g; omega, by have := hOr.ab; omega, by have := hOr.lo; omega, by have := hOr.sh; omega, by have := hOr.su; omega⟩
          rw [hin] at t1
          by_cases hk0 : r.kind = 0
          · rw [decide_eq_true hk0] at hM
            go_upto_region 8 with (first
              | (go_at_call 60; with_reducible refine hM.mono ?_; rintro e w2 ⟨rfl, hb2, hr2⟩))
            have hP2 := hP.out.met hb2 hr2
            have hsz2 := hP2.but.size
            clear t1 t2 hrf hM hP hb2
            generalize r.add r.kind = rr at *
            go_wp2_with (first
              | (at_builtin; refine wpList_append_own _ rfl _ _ 45 rfl w.heap.size 9 i9 (.string ⟨#[]⟩) 1 16 und45 hi9 hz0 hz1 hz2 rfl (by decide) _ o.length (strs o) rfl (hP2.out.alloc _) ⟨w2.heap.size, 0, none⟩ 1 1 [.string (str r.info)] rfl rfl (cell_one_new _ _ _) (by simp [Value.oneCell']) (by unfold maxLen; omega) (by omega) (by simp; omega) ?_; intro v' w3 hown hg _; have hP3 := (hP2.below ((Below.refl w2.heap.size w2).alloc (Nat.le_refl _) _)).more hg hown; have h3 := hP3.rf; have t1 := h3.cell; have t2 := h3.fz; simp only [Rc.rcells] at t1))
            go_roundg (s.size - (k + 1))
            case measure => have := A.out; omega
            case rel => exact ⟨k + 1, by omega, rfl, by go_num, Lib.hid (by rw [hrun.out, hout.out]; exact by rw [hnx.out.1, hnx.out.2, if_pos hk0]; exact hP3.shut)⟩
          · rw [decide_eq_false hk0] at hM
            go_upto_region 8 with (first
              | (go_at_call 60; with_reducible refine hM.mono ?_; rintro e w2 ⟨rfl, hb2, hr2⟩))
            have hP2 := hP.out.met hb2 hr2
            clear t1 t2 hrf hM hP hb2
            generalize r.add r.kind = rr at *
            have t1 := hr2.cell
            have t2 := hr2.fz
            simp only [Rc.rcells] at t1
            go_wp2
            go_roundg (s.size - (k + 1))
            case measure => have := A.out; omega
            case rel => exact ⟨k + 1, by omega, rfl, by go_num, Lib.hid (by rw [hrun.out, hout.out]; exact by rw [hnx.out.1, hnx.out.2, if_neg hk0, List.append_nil]; exact hP2.shut)⟩
      · have hb : ((s[k].toNat : Int) == 126) = false := by rw [beq_eq_false_iff_ne]; intro e; exact hx (UInt8.toNat_inj.1 (by show s[k].toNat = 126; omega))
        have hnx := Lib.hid (Rc.next_else r s[k] hx)
        go_upto_region 12 with fail
        cases hin : r.inn with
        | false =>
          rw [hin] at t1
          go_quiet (fail)
          go_wp2
          go_roundg (s.size - (k + 1))
          case measure => have := A.out; omega
          case rel => exact ⟨k + 1, by omega, rfl, by go_num, Lib.hid (by rw [hrun.out, hout.out]; exact by rw [hnx.out.1, hnx.out.2, if_neg (fun c => by rw [hin] at c; cases c.1), List.append_nil]; exact hP.out.drewN _)⟩
        | true =>
          rw [hin] at t1
          have hMp := fun W => rmapped_calls r.accm s[k].toNat hacc hkk.out W
          cases hm : Esc.mapped r.accm s[k].toNat with
          | true =>
            rw [hm] at hMp
            go_quiet (first | (go_at_call 30; exact Calls.quiet_of (hMp _)))
            go_wp2
            go_roundg (s.size - (k + 1))
            case measure => have := A.out; omega
            case rel => exact ⟨k + 1, by omega, rfl, by go_num, Lib.hid (by rw [hrun.out, hout.out]; exact by rw [hnx.out.1, hnx.out.2, if_neg (fun c => by rw [hm] at c; cases c.2), List.append_nil]; exact hP.out.drewN _)⟩
          | false =>
            rw [hm] at hMp
            go_quiet (first | (go_at_call 30; exact Calls.quiet_of (hMp _)))
            go_upto_region 13 with fail
            have hPd := hP.out.drewN nq
            generalize wr.drewN nq = wd at *
            have hsl : ∀ W, (Instr.slice 9 (.string s) (some (.int .i64 (k : Int))) (some (.int .i64 ((k : Int) + 1))) none).run Try.prog W = .ok (.string (str [s[k]])) W := fun W => by
              have := run_slice_string (P := Try.prog) W 9 s .i64 .i64 (k : Int) ((k : Int) + 1) Try.underlying9 (by omega) (by omega) (by omega)
              rw [this, show ((k : Int) + 1).toNat = k + 1 by omega, show ((k : Int)).toNat = k by omega, ← str_of (s.extract k (k + 1)), ext_list, show k + 1 - k = 1 by omega]
              have h1 : (s.data.toList.drop k).take 1 = [s[k]] := by
                rw [List.drop_eq_getElem_cons (show k < s.data.toList.length by omega), List.take_succ_cons, List.take_zero]
                rfl
              rw [h1]
            have hzx : (str [s[k]]).size = 1 := rfl
            have hPx := hPd.push s[k]
            rw [← str_append] at hPx
            clear t1 t2 hrf hMp hP
            have t1 := hPd.rf.cell
            have t2 := hPd.rf.fz
            simp only [Rc.rcells] at t1
            rw [hin] at t1
            have hPy := hPx.below (below_drew (Below.refl _ _))
            rw [str_append] at hPx
            go_region
            go_wp2
            go_roundg (s.size - (k + 1))
            case measure => have := A.out; omega
            case rel => exact ⟨k + 1, by omega, rfl, by go_num, Lib.hid (by rw [hrun.out, hout.out]; exact by rw [hnx.out.1, hnx.out.2, if_pos ⟨hin, hm⟩, List.append_nil]; exact hPy)⟩
    · obtain rfl : k = s.size := by omega
      have hh : decide (((s.size : Nat) : Int) < (s.size : Int)) = false := by simp
      rw [List.take_of_length_le (by omega)] at hP
      go_wp2
      go_ret
      exact ⟨_, rfl, hP.out⟩

/-- A step. -/
structure HStp where
  s : List UInt8
  set : Bool
  most : Int
  accm : Nat
  cp : Bool
  hm : accm < 4294967296
  hd : s.length ≤ 140737488355328
def noHStp : HStp := ⟨[], false, 0, 0, false, by decide, by decide⟩
def HStp.cells (p : HStp) : Array Value := #[.string (str p.s), .bool p.set, .int .i64 p.most, .int .u32 (p.accm : Int), .bool p.cp]
/-- The steps, as they lie. -/
def HSteps (w : World) (a : Option Addr) (len : Nat) (f : Nat → HStp) : Prop :=
  ∀ i, i < len → ∃ x, a = some x ∧ w.cell? (x.add (i * 5)) = some (.string (str (f i).s)) ∧ w.cell? ⟨(x.add (i * 5)).block, (x.add (i * 5)).off + 1, none⟩ = some (.bool (f i).set) ∧
    w.cell? ⟨(x.add (i * 5)).block, (x.add (i * 5)).off + 2, none⟩ = some (.int .i64 (f i).most) ∧ w.cell? ⟨(x.add (i * 5)).block, (x.add (i * 5)).off + 3, none⟩ = some (.int .u32 ((f i).accm : Int)) ∧
    w.cell? ⟨(x.add (i * 5)).block, (x.add (i * 5)).off + 4, none⟩ = some (.bool (f i).cp)
theorem HSteps.below {w W : World} {a : Option Addr} {len : Nat} {f : Nat → HStp} (h : HSteps w a len f) (hb : Below w.heap.size w W) : HSteps W a len f := fun i hi => by
  obtain ⟨x, e, h0, h1, h2, h3, h4⟩ := h i hi
  exact ⟨x, e, (hb.cell (cell_in h0)).trans h0, (hb.cell (cell_in h1)).trans h1, (hb.cell (cell_in h2)).trans h2, (hb.cell (cell_in h3)).trans h3, (hb.cell (cell_in h4)).trans h4⟩
/-- The bytes of the first k steps. -/
def tot (f : Nat → HStp) : Nat → Nat
  | 0 => 0
  | k + 1 => tot f k + (f k).s.length
theorem tot_le (f : Nat → HStp) : ∀ k, tot f k ≤ k * 140737488355328
  | 0 => by simp [tot]
  | k + 1 => by have := tot_le f k; have := (f k).hd; rw [tot]; omega
theorem tot_mono (f : Nat → HStp) {k : Nat} : ∀ {m : Nat}, k ≤ m → tot f k ≤ tot f m
  | 0, h => by obtain rfl : k = 0 := by omega
               exact Nat.le_refl _
  | m + 1, h => by
    by_cases e : k = m + 1
    · subst e; exact Nat.le_refl _
    · have := tot_mono f (k := k) (m := m) (by omega)
      rw [tot]; omega
set_option maxRecDepth 100000 in
theorem long_calls (a : Option Addr) (len cap : Nat) (f : Nat → HStp) (w : World) (h : HSteps w a len f) (hl : len ≤ maxLen) (t : Bool) (ht : t = false ↔ len ≤ 60 ∧ tot f len ≤ 8192) :
    Calls Try.prog 44 #[.slice a len cap] w fun e w' => e = .returned (.bool t) ∧ w' = w := by
  unfold maxLen at hl
  have hno : ¬ (len ≤ 60 ∧ tot f len ≤ 8192) → t = true := fun hn => by cases t; exact absurd (ht.1 rfl) hn; rfl
  go_enter Try.func44, Try.ntmps44
  go_wp2
  go_loopg [3, 4] 100 (fun q n i wr => ∃ (k : Nat), k ≤ len ∧ k ≤ 100 ∧ q = 100 - k ∧ n = .int .i64 ((tot f k : Nat) : Int) ∧ i = .int .i64 (k : Int) ∧ wr = w)
  case atStart => exact ⟨0, by omega, by omega, rfl, rfl, rfl, rfl⟩
  case round =>
    obtain ⟨k, hk, hk2, hq, rfl, rfl, rfl⟩ := hrel
    have A := Lib.hid hq; clear hq
    have htl := tot_le f k
    have htn : ((tot f k : Nat) : Int) ≤ 14073748835532800 := by omega
    by_cases hlt : k < len
    · have h1 : decide ((k : Int) < (len : Int)) = true := by simp; omega
      by_cases hl2 : k < 100
      · have h2 : decide ((k : Int) < 100) = true := by simp; omega
        obtain ⟨x, rfl, c0, c1, c2, c3, c4⟩ := h k hlt
        have hdz := (f k).hd
        have hz := str_size (f k).s
        have hnx := Lib.hid (show tot f (k + 1) = tot f k + (f k).s.length from rfl)
        clear htl c1 c2 c3 c4 hno ht
        generalize tot f k = tk at *
        generalize (f k).s = dk at *
        go_wp2
        go_roundg (100 - (k + 1))
        case measure => have := A.out; omega
        case rel => exact ⟨k + 1, by omega, by omega, rfl, by rw [hnx.out]; go_num, by go_num, rfl⟩
      · have h2 : decide ((k : Int) < 100) = false := by simp; omega
        have h3 : decide ((60 : Int) < (len : Int)) = true := by simp; omega
        obtain rfl := hno (fun q => by omega)
        clear hno ht
        go_wp2
        go_ret
        exact ⟨rfl, rfl⟩
    · obtain rfl : k = len := by omega
      have h1 : decide ((k : Int) < (k : Int)) = false := by simp
      by_cases h4 : 60 < k
      · have h3 : decide ((60 : Int) < (k : Int)) = true := by simp; omega
        obtain rfl := hno (fun q => by omega)
        clear hno ht
        go_wp2
        go_ret
        exact ⟨rfl, rfl⟩
      · have h3 : decide ((60 : Int) < (k : Int)) = false := by simp; omega
        obtain ⟨n, hn⟩ : ∃ n, tot f k = n := ⟨_, rfl⟩
        rw [hn] at ht hno htn ⊢
        clear htl
        by_cases h5 : 8192 < n
        · have h6 : decide ((8192 : Int) < (n : Int)) = true := by simp; omega
          obtain rfl := hno (fun q => by omega)
          clear hno ht
          go_wp2
          go_ret
          exact ⟨rfl, rfl⟩
        · have h6 : decide ((8192 : Int) < (n : Int)) = false := by simp; omega
          obtain rfl := ht.2 ⟨by omega, by omega⟩
          clear hno ht
          go_wp2
          go_ret
          exact ⟨rfl, rfl⟩
theorem npush_calls (s : ByteArray) (w : World) : Calls Try.prog 40 #[.pointer none, .string s] w fun e w' => e = .returned (.slice none 0 0) ∧ w' = w := by
  go_enter Try.func40, Try.ntmps40
  go_wp2
  go_ret
  exact ⟨rfl, rfl⟩
theorem nset_calls (m : Int) (c : Int) (w : World) : Calls Try.prog 45 #[.pointer none, .int .i64 m, .int .u32 c] w fun e w' => e = .returned (.int .i64 1) ∧ w' = w := by
  go_enter Try.func45, Try.ntmps45
  go_wp2
  go_ret
  exact ⟨rfl, rfl⟩
theorem ninside_calls (w : World) : Calls Try.prog 43 #[.pointer none] w fun e w' => e = .returned (.bool false) ∧ w' = w := by
  go_enter Try.func43, Try.ntmps43
  go_wp2
  go_ret
  exact ⟨rfl, rfl⟩
theorem ncopy_calls (w : World) : Calls Try.prog 46 #[.pointer none] w fun e w' => e = .returned (.pointer none) ∧ w' = w := by
  go_enter Try.func46, Try.ntmps46
  go_wp2
  go_ret
  exact ⟨rfl, rfl⟩
theorem own_none (w : World) (B : Nat) (hB : B ≤ w.heap.size) : (w.alloc (.cells #[] 5)).ownsRow B 5 1 (.slice (some ⟨w.heap.size, 0, none⟩) 0 0) 0 [] := by
  refine ⟨by simp, .inr ⟨w.heap.size, 0, _, rfl, hB, alloc_new w _ _ rfl, by simp, by unfold maxLen; omega, by simp, ?_⟩⟩
  simp
set_option maxRecDepth 100000 in
theorem clone_calls (l : List UInt8) (B : Nat) (v : Value) (w : World) (h : w.ownsRow B 5 1 v l.length (nums .u8 (ints l))) (hs : l.length ≤ 1000000) :
    Calls Try.prog 59 #[v] w fun e w' => ∃ v', e = .returned v' ∧ w'.ownsRow w.heap.size 5 1 v' l.length (nums .u8 (ints l)) ∧ Below w.heap.size w w' := by
  obtain ⟨i5, hi5, ha0, ha1, ha2⟩ := info_parts infoE5
  obtain ⟨a, c, rfl⟩ := own_form h
  cases a with
  | none =>
    have h0 : l.length = 0 := by
      rcases h.2 with ⟨_, h0⟩ | ⟨g, cap, cur, e, _⟩
      · exact h0
      · cases e
    obtain rfl := List.eq_nil_of_length_eq_zero h0
    have hnn := fun W : World => Lib.run_eql_slice_nil_nil (P := Try.prog) W (t := 24) 0 c Try.underlying24
    go_enter Try.func59, Try.ntmps59
    go_wp2
    go_ret
    exact ⟨_, rfl, World.ownsRow_nil _ _ _ _, Below.refl _ _⟩
  | some x =>
    obtain ⟨g, rfl⟩ : ∃ g, x = ⟨g, 0, none⟩ := by
      rcases h.2 with ⟨e, _⟩ | ⟨g, cap, cur, e, _⟩
      · cases e
      · cases e; exact ⟨_, rfl⟩
    have hnn := fun W : World => Lib.run_eql_slice_some_nil (P := Try.prog) W (t := 24) ⟨g, 0, none⟩ l.length c Try.underlying24
    have hcell : ∀ j u, (nums .u8 (ints l))[j]? = some u → (w.alloc (.cells #[] 5)).cell? ((⟨g, 0, none⟩ : Addr).add j) = some u := fun j u hj => (h.alloc (.cells #[] 5)).cells (g := g) rfl j u hj
    have hnl : (nums .u8 (ints l)).length = l.length := by simp [nums, ints]
    go_enter Try.func59, Try.ntmps59
    go_wp2_with (first
      | (at_builtin; refine wpList_append_own _ rfl _ _ 24 rfl w.heap.size 5 i5 (.int .u8 0) 1 1 Try.underlying24 hi5 ha0 ha1 ha2 rfl (by decide) (.slice (some ⟨w.heap.size, 0, none⟩) 0 0) 0 [] rfl (own_none w _ (Nat.le_refl _)) ⟨g, 0, none⟩ l.length c (nums .u8 (ints l)) rfl (by rw [hnl]; omega) hcell (fun u hu => by simp only [nums, List.mem_map] at hu; obtain ⟨_, _, rfl⟩ := hu; rfl) (by unfold maxLen; omega) (by omega) (by simp) ?_
         intro v' w1 hown hg _
         rw [Nat.zero_add, List.nil_append] at hown
         have hB := ((Below.refl w.heap.size w).alloc (Nat.le_refl _) (.cells #[] 5)).grown hg (by simp) (own_base (own_none w _ (Nat.le_refl _)))))
    go_ret
    exact ⟨_, rfl, hown, hB⟩

theorem nheard_calls (w : World) : Calls Try.prog 42 #[.pointer none] w fun e w' => e = .returned (.agg #[.int .i64 0, .int .i64 0, .int .i64 0, .int .i64 0, .int .i64 0]) ∧ Below w.heap.size w w' := by
  go_enter Try.func42, Try.ntmps42
  go_wp2
  (try simp only [Exit.inBlock, Exit.then])
  refine bodyPost_ret (v := .agg #[.int .i64 0, .int .i64 0, .int .i64 0, .int .i64 0, .int .i64 0]) ?_ rfl ⟨rfl, (Below.refl _ _).alloc (Nat.le_refl _) _⟩
  exact results_cell1 rfl _ _ _ rfl (by go_simp)
set_option maxHeartbeats 16000000 in
set_option maxRecDepth 100000 in
theorem copy_calls (r : Rc) (B b : Nat) (v : Value) (w : World) (h : IsRc w B b r v) (hs : r.p.length ≤ 1000000) :
    Calls Try.prog 46 #[.pointer (some ⟨b, 0, none⟩)] w fun e w' => ∃ nb v', e = .returned (.pointer (some ⟨nb, 0, none⟩)) ∧ w.heap.size ≤ nb ∧ IsRc w' w.heap.size nb r v' ∧ Below w.heap.size w w' := by
  obtain ⟨pa, pc, rfl⟩ := own_form h.own
  have t1 := fun i => blk_cell h.blk i
  simp only [Rc.cells] at t1
  go_enter Try.func46, Try.ntmps46
  go_upto_region 4 with fail
  have hA := (Below.refl w.heap.size w).alloc (Nat.le_refl _) (.cells (r.cells (.slice pa r.p.length pc)) 78)
  have h1 := h.below hA
  have hn := alloc_new w _ (.cells (r.cells (.slice pa r.p.length pc)) 78) rfl
  clear t1
  change Code.wp _ _ _ _ (w.alloc (.cells (r.cells (.slice pa r.p.length pc)) 78))
  generalize w.alloc (.cells (r.cells (.slice pa r.p.length pc)) 78) = w1 at *
  obtain ⟨nb, hnb⟩ : ∃ x, w.heap.size = x := ⟨_, rfl⟩
  rw [hnb] at hn hA ⊢
  have t1 := fun i => blk_cell h1.blk i
  have u1 := fun i => blk_cell hn i
  have u2 := fun i => blk_frozen hn i
  simp only [Rc.cells] at t1 u1
  have hC := clone_calls r.p B (.slice pa r.p.length pc) w1 h1.own hs
  go_wp2_with (first
    | (go_at_call 59; with_reducible refine hC.mono ?_; rintro e w2 ⟨v2, rfl, ho2, hb2⟩; obtain ⟨qa, qc, rfl⟩ := own_form ho2; have n2 := (hb2.block _ ((Array.getElem?_eq_some_iff.1 hn).1)).trans hn; have u3 := fun i => blk_cell n2 i; have u4 := fun i => blk_frozen n2 i; simp only [Rc.cells] at u3))
  go_ret
  refine ⟨nb, .slice qa r.p.length qc, rfl, Nat.le_of_eq hnb, ⟨blk_set n2 8 _, ?_⟩, ?_⟩
  · have := own_setCell ho2 (p := ⟨nb, 8, none⟩) (own_ne ho2 n2 (by decide)) (.slice qa r.p.length qc)
    exact ⟨this.1, this.2.imp id (fun ⟨g, cap, cur, e, hB, rest⟩ => ⟨g, cap, cur, e, Nat.le_trans hA.size hB, rest⟩)⟩
  · rw [hnb]
    exact (hA.trans (hb2.mono (by rw [← hnb]; exact hA.size))).setCell (Nat.le_refl _) _
theorem own_mono {w : World} {B B' n sz : Nat} {e : TypeId} {v : Value} {xs : List Value} (h : w.ownsRow B e sz v n xs) (hB : B' ≤ B) : w.ownsRow B' e sz v n xs :=
  ⟨h.1, h.2.imp id (fun ⟨g, cap, cur, e, hb, rest⟩ => ⟨g, cap, cur, e, Nat.le_trans hB hb, rest⟩)⟩
/-- Where the law's loop stands: the two receivers say the same. -/
structure HS (w : World) (bx rb : Nat) (r : Rc) (v : Value) (W : World) : Prop where
  rc : IsRc W w.heap.size bx r v
  rf : IsRf W rb r
  bel : Below w.heap.size w W
  le : w.heap.size ≤ bx
  le2 : w.heap.size ≤ rb
theorem HS.ne {w W : World} {bx rb : Nat} {r : Rc} {v : Value} (h : HS w bx rb r v W) : rb ≠ bx := by
  rintro rfl
  have := h.rc.blk.symm.trans h.rf
  simp only [Option.some.injEq, Obj.cells.injEq] at this
  exact absurd this.2.1 (by decide)
theorem HS.below {w W W' : World} {bx rb : Nat} {r : Rc} {v : Value} (h : HS w bx rb r v W) (hb : Below W.heap.size W W') : HS w bx rb r v W' :=
  ⟨h.rc.below hb, h.rf.below hb, h.bel.trans (hb.mono h.bel.size), h.le, h.le2⟩
theorem HS.push1 {w W W3 : World} {bx rb : Nat} {r r' : Rc} {v v' ov : Value} {o : List (List UInt8)} (h : HS w bx rb r v W) (hp : PS W v w.heap.size bx r' o v' ov W3) : IsRf W3 rb r ∧ Below w.heap.size w W3 :=
  ⟨(hp.fr.block rb h.rf.lt h.ne (own_ne h.rc.own h.rf (by decide))).trans h.rf, Frm.below hp.fr h.bel h.le (fun g e => own_base h.rc.own g e)⟩
theorem But.below {rb : Nat} {w W W' : World} (hb : But rb W W') (h : Below w.heap.size w W) (hr : w.heap.size ≤ rb) : Below w.heap.size w W' :=
  h.trans ⟨hb.os, hb.tape, hb.output, hb.size, fun k hk => hb.block k (Nat.lt_of_lt_of_le hk h.size) (by omega)⟩
theorem But.own {rb : Nat} {W W' : World} {B n sz : Nat} {e : TypeId} {v : Value} {xs : List Value} (hb : But rb W W') (h : W.ownsRow B e sz v n xs) {c : Array Value} {t : TypeId} (hr : W.heap[rb]? = some (.cells c t (0, 0))) (hne : e ≠ t) : W'.ownsRow B e sz v n xs :=
  h.kept (row := some rb) ⟨hb.os, hb.tape, hb.output, hb.size, fun k hk hne => hb.block k hk (fun e => hne (by rw [e]))⟩ (.inr (own_ne h hr hne).symm)
theorem HS.push2 {w W W3 W4 : World} {bx rb : Nat} {r r' : Rc} {v v' ov ov2 : Value} {o o2 : List (List UInt8)} (h : HS w bx rb r v W) (hp : PS W v w.heap.size bx r' o v' ov W3) (hq : P2 W3 rb r' o2 ov2 W4) :
    HS w bx rb r' v' W4 ∧ W4.ownsRow W.heap.size 9 1 ov o.length (strs o) := by
  obtain ⟨h1, h2⟩ := h.push1 hp
  exact ⟨⟨⟨(hq.but.block bx hp.rc.lt (Ne.symm h.ne)).trans hp.rc.blk, hq.but.own hp.rc.own h1 (by decide)⟩, hq.rf, hq.but.below h2 h.le2, h.le, h.le2⟩, hq.but.own hp.out h1 (by decide)⟩
theorem HS.set {w W : World} {bx rb : Nat} {r : Rc} {v : Value} (h : HS w bx rb r v W) (m : Int) (c : Nat) :
    HS w bx rb { r with most := m, accm := c } v ((((W.setCell ⟨bx, 5, none⟩ (.int .i64 m)).setCell ⟨bx, 6, none⟩ (.int .u32 (c : Int))).setCell ⟨rb, 0, none⟩ (.int .i64 m)).setCell ⟨rb, 1, none⟩ (.int .u32 (c : Int))) := by
  have o1 := own_setCell (own_setCell h.rc.own (p := ⟨bx, 5, none⟩) (own_ne h.rc.own h.rc.blk (by decide)) (.int .i64 m)) (p := ⟨bx, 6, none⟩) (own_ne h.rc.own h.rc.blk (by decide)) (.int .u32 (c : Int))
  have o2 := own_setCell (own_setCell o1 (p := ⟨rb, 0, none⟩) (own_ne h.rc.own h.rf (by decide)) (.int .i64 m)) (p := ⟨rb, 1, none⟩) (own_ne h.rc.own h.rf (by decide)) (.int .u32 (c : Int))
  have hne := h.ne
  refine ⟨⟨?_, o2⟩, ?_, (((h.bel.setCell h.le _).setCell h.le _).setCell h.le2 _).setCell h.le2 _, h.le, h.le2⟩
  · rw [Below.heap_setCell _ ⟨rb, 1, none⟩ _ bx (Ne.symm hne), Below.heap_setCell _ ⟨rb, 0, none⟩ _ bx (Ne.symm hne)]
    exact blk_set (blk_set h.rc.blk 5 _) 6 _
  · have hr : ((W.setCell ⟨bx, 5, none⟩ (.int .i64 m)).setCell ⟨bx, 6, none⟩ (.int .u32 (c : Int))).heap[rb]? = some (.cells r.rcells 65 (0, 0)) := by
      rw [Below.heap_setCell _ ⟨bx, 6, none⟩ _ rb hne, Below.heap_setCell _ ⟨bx, 5, none⟩ _ rb hne]
      exact h.rf
    exact blk_set (blk_set hr 0 _) 1 _
theorem HS.copy {w W W1 W2 : World} {bx rb nb : Nat} {r r2 : Rc} {v v1 v2 ov : Value} {o : List (List UInt8)} (h : HS w bx rb r v W) (hb : Below W.heap.size W W1) (hn : W.heap.size ≤ nb) (hc : IsRc W1 W.heap.size nb r v1)
    (hp : PS W1 v w.heap.size bx r2 o v2 ov W2) : HS w nb rb r v1 W2 := by
  have h1 := h.below hb
  obtain ⟨f1, f2⟩ := h1.push1 hp
  have hlt := h.rc.lt
  have hsz := h.bel.size
  refine ⟨⟨(hp.fr.block nb hc.lt (by omega) (own_ne h1.rc.own hc.blk (by decide))).trans hc.blk, own_mono (own_frm hc.own hp.fr (own_ne hc.own h1.rc.blk (by decide)) ?_) hsz⟩, f1, f2, by omega, h.le2⟩
  cases he : v1.ownBlock with
  | none => exact .inl rfl
  | some g =>
    refine .inr fun e => ?_
    have := own_base hc.own g he
    have := (h.rc.own.lt g e.symm).2
    omega
end Go.Proofs.Ytphoemgnfmlngaa
