/-
  Layer 5 (hdlc): HdlcPieces, walked.
-/
import Derived.Test.YtphoemgnfmlngaaHg
import Derived.Laws.AppendOwnNone
set_option linter.unusedVariables false
set_option linter.unusedSimpArgs false
namespace Go.Proofs.Ytphoemgnfmlngaa
open Go.RowKit Go.Proofs.YtphoemgnfmlngaaW.PrintWords Go.Proofs.YtphoemgnfmlngaaW.PrintLast

theorem wpList_app45 {w : World} {ops : Array Oper} {rest : List Oper} {o : Oper} {a : Act} {Q : Exit → Act → World → Prop} (hgd : o.guard = none) (s x : Operand)
    (ho : o.op = .call { callee := .builtin .append, args := #[s, x], argTypes := #[45, 45] }) (base base2 : Nat) (v u : Value) (l m : List (List UInt8)) (hs : a.eval s = v) (hown : w.ownsRow base 9 1 v l.length (strs l))
    (hx : a.eval x = u) (hown2 : w.ownsRow base2 9 1 u m.length (strs m)) (hlen : l.length + m.length ≤ 1000000) (hbase : base ≤ w.heap.size)
    (h : ∀ v' w', w'.ownsRow base 9 1 v' (l ++ m).length (strs (l ++ m)) → w.grownBy w' v.ownBlock → wpList Try.prog ops Q rest (a.put o.dst v') w') : wpList Try.prog ops Q (o :: rest) a w := by
  obtain ⟨i9, hi9, hz0, hz1, hz2⟩ := info_parts infoS9
  rcases hown2.2 with ⟨rfl, h0⟩ | ⟨g, cap, cur, rfl, _⟩
  · obtain rfl : m = [] := List.eq_nil_of_length_eq_zero h0
    refine wpList_append_own_none hgd s x 45 ho base 9 i9 1 und45 hi9 v _ _ hs hown hx ?_
    refine h v w ?_ ⟨rfl, rfl, rfl, Nat.le_refl _, fun _ _ _ => rfl⟩
    rw [List.append_nil]; exact hown
  · refine wpList_append_own _ hgd s x 45 ho base 9 i9 (.string ⟨#[]⟩) 1 16 und45 hi9 hz0 hz1 hz2 rfl (by decide) v _ _ hs hown ⟨g, 0, none⟩ m.length cap (strs m) hx (by rw [strs_length]; omega) (fun j u hj => hown2.cells (g := g) rfl j u hj) (fun u hu => by simp only [strs, List.mem_map] at hu; obtain ⟨_, _, rfl⟩ := hu; rfl) (by unfold maxLen; omega) (by omega) hbase ?_
    intro v' w' hown' hg _
    refine h v' w' ?_ hg
    rw [List.length_append, strs_append]; exact hown'
theorem Rc.outs_take (r : Rc) (l : List UInt8) (k n : Nat) : r.outs (l.take (k + n)) = r.outs (l.take k) ++ (r.run (l.take k)).outs ((l.drop k).take n) := by
  rw [List.take_add, Rc.outs_append]
theorem Rc.run_take (r : Rc) (l : List UInt8) (k n : Nat) : r.run (l.take (k + n)) = (r.run (l.take k)).run ((l.drop k).take n) := by
  rw [List.take_add, Rc.run_append]
theorem ext_list (s : ByteArray) (k e : Nat) : (s.extract k e).data.toList = (s.data.toList.drop k).take (e - k) := by
  rw [ByteArray.data_extract, Array.toList_extract]
theorem own_frm {W W' : World} {B b n sz : Nat} {e : TypeId} {v : Value} {xs : List Value} {row : Option Nat} (h : W.ownsRow B e sz v n xs) (hf : Frm b row W W') (hb : some b ≠ v.ownBlock) (hr : v.ownBlock = none ∨ v.ownBlock ≠ row) : W'.ownsRow B e sz v n xs := by
  refine ⟨h.1, ?_⟩
  rcases h.2 with hn | ⟨g, cap, cur, rfl, hB, hg, rest⟩
  · exact .inl hn
  · refine .inr ⟨g, cap, cur, rfl, hB, ?_, rest⟩
    rw [hf.block g (Array.getElem?_eq_some_iff.1 hg).1 (fun e => hb (by rw [e]; rfl)) (by simpa [Value.ownBlock] using hr)]
    exact hg
theorem eqg53' (x y : Operand) (r r' : Rc) (w : World) : (eqGuard .eql 53 x y (heardV r) (heardV r')).run Try.prog w = .ok () w := eqg53 x y r _ w
theorem heard_self (r : Rc) (w : World) : (binOp .eql 53 (heardV r) (heardV r)).run Try.prog w = .ok (.bool true) w := by
  have := heard_eq r r.g r.ab r.lo r.sh r.su w
  rw [decide_eq_true (show r.heard = (r.g, r.ab, r.lo, r.sh, r.su) from rfl)] at this
  exact this
/-- What the loop keeps: a receiver that is fed, what came of it, another one that waits. -/
structure PL (w w0 : World) (b1 b2 : Nat) (r r2 : Rc) (o : List (List UInt8)) (v ov : Value) (W : World) : Prop where
  rc : IsRc W (b1 + 1) b1 r v
  blk2 : W.heap[b2]? = some (.cells (r2.cells (.slice none 0 0)) 78 (0, 0))
  out : W.ownsRow w0.heap.size 9 1 ov o.length (strs o)
  bel : Below w.heap.size w W
  le : w.heap.size ≤ b1
  le0 : w.heap.size ≤ w0.heap.size
  sz : w0.heap.size ≤ W.heap.size
  ne : b2 ≠ b1
theorem PL.out3 {w w0 W W3 : World} {b1 b2 : Nat} {r r2 r' : Rc} {o o' : List (List UInt8)} {v ov v' ov' : Value} (h : PL w w0 b1 b2 r r2 o v ov W) (hp : PS W v (b1 + 1) b1 r' o' v' ov' W3) : W3.ownsRow w0.heap.size 9 1 ov o.length (strs o) :=
  own_frm h.out hp.fr (own_ne h.out h.rc.blk (by decide)) (rows_ne h.out h.rc.own (by decide))
theorem PL.step {w w0 W W3 W4 : World} {b1 b2 : Nat} {r r2 r' : Rc} {o o' : List (List UInt8)} {v ov v' ov' ov2 : Value} (h : PL w w0 b1 b2 r r2 o v ov W) (hp : PS W v (b1 + 1) b1 r' o' v' ov' W3)
    (hg : W3.grownBy W4 ov.ownBlock) (ho : W4.ownsRow w0.heap.size 9 1 ov2 (o ++ o').length (strs (o ++ o'))) : PL w w0 b1 b2 r' r2 (o ++ o') v' ov2 W4 := by
  have h3 := h.out3 hp
  have hb3 : Below w.heap.size w W3 := Frm.below hp.fr h.bel h.le (fun g e => by have := own_base h.rc.own g e; have := h.le; omega)
  have hb2 : W3.heap[b2]? = some (.cells (r2.cells (.slice none 0 0)) 78 (0, 0)) := by
    rw [hp.fr.block b2 (Array.getElem?_eq_some_iff.1 h.blk2).1 h.ne (own_ne h.rc.own h.blk2 (by decide))]
    exact h.blk2
  refine ⟨⟨(hg.block b1 hp.rc.lt (own_ne h3 hp.rc.blk (by decide))).trans hp.rc.blk, hp.rc.own.kept hg (rows_ne hp.rc.own h3 (by decide))⟩, (hg.block b2 (Array.getElem?_eq_some_iff.1 hb2).1 (own_ne h3 hb2 (by decide))).trans hb2, ho, ?_, h.le, h.le0, Nat.le_trans h.sz (Nat.le_trans hp.fr.size hg.size), h.ne⟩
  exact hb3.trans ⟨hg.os, hg.tape, hg.output, hg.size, fun k hk => hg.block k (Nat.lt_of_lt_of_le hk hb3.size) (fun e => by have := own_base h3 k e.symm; have := h.le0; omega)⟩
theorem PL.last {w w0 W W3 : World} {b1 b2 : Nat} {r r2 r' : Rc} {o o' : List (List UInt8)} {v ov v' ov' : Value} (h : PL w w0 b1 b2 r r2 o v ov W) (hp : PS W (.slice none 0 0) (b2 + 1) b2 r' o' v' ov' W3) : W3.ownsRow w0.heap.size 9 1 ov o.length (strs o) ∧ IsRc W3 (b1 + 1) b1 r v := by
  refine ⟨own_frm h.out hp.fr (own_ne h.out h.blk2 (by decide)) (Decidable.em _), ⟨?_, own_frm h.rc.own hp.fr (own_ne h.rc.own h.blk2 (by decide)) (Decidable.em _)⟩⟩
  rw [hp.fr.block b1 h.rc.lt (Ne.symm h.ne) (by intro e; cases e)]
  exact h.rc.blk
set_option maxHeartbeats 16000000 in
set_option maxRecDepth 100000 in
theorem pieces_calls (most c p : Nat) (s : ByteArray) (hmost : most < 65536) (hc : c < 4294967296) (hp : p < 256) (w : World) :
    Calls Try.prog 11 #[.int .u16 (most : Int), .int .u32 (c : Int), .string s, .int .u8 (p : Int)] w fun e w' => e = .returned (.bool true) ∧ Below w.heap.size w w' := by
  by_cases hs : s.size ≤ 4096
  · have q0 : decide ((4096 : Int) < (s.size : Int)) = false := by simp; omega
    have q1 : decide (4096 < s.size) = false := by simp; omega
    have hrem : (most : Int).tmod 1507 = ((most % 1507 : Nat) : Int) := rfl
    have hmm : most % 1507 < 1507 := Nat.mod_lt _ (by decide)
    have hlen : s.data.toList.length = s.size := by rw [Array.length_toList]; rfl
    generalize most % 1507 = mm at *
    have hN : ∀ W : World, Calls Try.prog 37 #[.int .i64 (2 + (mm : Int)), .int .u32 (c : Int)] W fun e w' => e = .returned (.tuple #[.pointer (some ⟨W.heap.size, 0, none⟩), .int .i64 0]) ∧ Below W.heap.size W w' ∧ IsRc w' W.heap.size W.heap.size (newR (2 + (mm : Int)) c) (.slice none 0 0) := fun W => new_good _ _ ⟨by omega, by omega⟩ W
    have hOk : (newR (2 + (mm : Int)) c).Ok 0 := newR_ok _ _ ⟨by omega, by omega⟩ hc
    have hp0 : (newR (2 + (mm : Int)) c).p = [] := rfl
    generalize newR (2 + (mm : Int)) c = r0 at *
    go_enter Try.func11, Try.ntmps11
    go_upto_region 5 with (first
      | (go_at_call 37; with_reducible refine (hN _).mono ?_; rintro e w1 ⟨rfl, hb1, hr1⟩))
    have hlt1 := hr1.lt
    have le1 : w.heap.size ≤ w.heap.size := Nat.le_refl _
    obtain ⟨b1, hbe1⟩ : ∃ b, w.heap.size = b := ⟨_, rfl⟩
    rw [hbe1] at hr1 hlt1 ⊢
    go_upto_region 6 with (first
      | (go_at_call 37; with_reducible refine (hN _).mono ?_; rintro e w2 ⟨rfl, hb2, hr2⟩))
    have hlt2 := hr2.lt
    obtain ⟨b2, hbe2⟩ : ∃ b, w1.heap.size = b := ⟨_, rfl⟩
    rw [hbe2] at hr2 hlt2 ⊢
    have hL0 : PL w w2 b1 b2 r0 r0 [] (.slice none 0 0) (.slice none 0 0) w2 := ⟨⟨(hb2.block b1 (by omega)).trans hr1.blk, by rw [hp0]; exact World.ownsRow_nil _ _ _ _⟩, hr2.blk, World.ownsRow_nil _ _ _ _, hb1.trans (hb2.mono hb1.size), by omega, by omega, Nat.le_refl _, by omega⟩
    have hle2 : w.heap.size ≤ b2 := by have := hb1.size; omega
    clear hr1 hr2 hN hb2 hb1
    go_wp2
    go_loopg [15, 16] s.size (fun q ov i wr => ∃ (k : Nat) (v : Value), k ≤ s.size + p ∧ q = s.size - k ∧ i = .int .i64 (k : Int) ∧ Hid (PL w w2 b1 b2 (r0.run (s.data.toList.take k)) r0 (r0.outs (s.data.toList.take k)) v ov wr))
    case atStart => exact ⟨0, _, by omega, rfl, rfl, Lib.hid hL0⟩
    case round =>
      obtain ⟨k, v, hk, hq, rfl, hP⟩ := hrel
      have A := Lib.hid hq; clear hq
      have hpl := hP.out
      by_cases hlt : k < s.size
      · have hh : decide ((k : Int) < (s.size : Int)) = true := by simp; omega
        have hrun := Lib.hid (Rc.run_take r0 s.data.toList k (p + 1))
        have hout := Lib.hid (Rc.outs_take r0 s.data.toList k (p + 1))
        have hOr := hOk.run (s.data.toList.take k)
        have hol := Rc.outs_le r0 (s.data.toList.take k)
        have htl : (s.data.toList.take k).length = k := by rw [List.length_take]; omega
        rw [htl] at hOr hol
        generalize r0.run (s.data.toList.take k) = r at *
        generalize r0.outs (s.data.toList.take k) = o at *
        obtain ⟨en, hen⟩ : ∃ e, min (k + (p + 1)) s.size = e := ⟨_, rfl⟩
        have hext := ext_list s k en
        have hexl : (s.data.toList.drop k).take (en - k) = (s.data.toList.drop k).take (p + 1) := by
          rw [List.take_eq_take_iff, List.length_drop]; omega
        rw [hexl] at hext
        have hesz : (s.extract k en).size = en - k := by rw [ByteArray.size_extract]; omega
        have hol2 := Rc.outs_le r (s.extract k en).data.toList
        rw [show (s.extract k en).data.toList.length = (s.extract k en).size by rw [Array.length_toList]; rfl, hesz] at hol2
        have hM := push_calls r (b1 + 1) b1 v (s.extract k en) wr hpl.rc (by have := hpl.rc.lt; omega) (0 + k) hOr (by rw [hesz]; omega)
        rw [hext] at hM hol2
        generalize (s.data.toList.drop k).take (p + 1) = ch at *
        rcases Nat.lt_or_ge s.size (k + (p + 1)) with hcut | hcut
        · have hcI : (s.size : Int) < (k : Int) + (1 + (p : Int)) := by omega
          have hcJ : ¬ (k : Int) + (1 + (p : Int)) ≤ (s.size : Int) := by omega
          have hcK : ¬ (k : Int) + (1 + (p : Int)) < (s.size : Int) := by omega
          have hcL : (s.size : Int) ≤ (k : Int) + (1 + (p : Int)) := by omega
          have hsl : ∀ W, (Instr.slice 9 (.string s) (some (.int .i64 (k : Int))) (some (.int .i64 (s.size : Int))) none).run Try.prog W = .ok (.string (s.extract k en)) W := fun W => by
            have := run_slice_string (P := Try.prog) W 9 s .i64 .i64 (k : Int) (s.size : Int) Try.underlying9 (by omega) (by omega) (by omega)
            rw [this]
            congr 3
            omega
          go_wp2_with (first
            | (go_at_call 40; with_reducible refine hM.mono ?_; rintro e w3 ⟨v3, o3, rfl, hp3⟩)
            | (at_builtin; refine wpList_app45 rfl _ _ rfl w2.heap.size wr.heap.size _ _ o (r.outs ch) rfl (hpl.out3 hp3) rfl hp3.out (by omega) (by have := hpl.sz; have := hp3.fr.size; omega) ?_; intro v4 w4 hown4 hg4))
          go_roundg (s.size - (k + (p + 1)))
          case measure => have := A.out; omega
          case rel => exact ⟨k + (p + 1), _, by omega, rfl, by go_num, Lib.hid (by rw [hrun.out, hout.out]; exact hpl.step hp3 hg4 hown4)⟩
        · have hcI : ¬ (s.size : Int) < (k : Int) + (1 + (p : Int)) := by omega
          have hcJ : (k : Int) + (1 + (p : Int)) ≤ (s.size : Int) := by omega
          have hsl : ∀ W, (Instr.slice 9 (.string s) (some (.int .i64 (k : Int))) (some (.int .i64 ((k : Int) + (1 + (p : Int))))) none).run Try.prog W = .ok (.string (s.extract k en)) W := fun W => by
            have := run_slice_string (P := Try.prog) W 9 s .i64 .i64 (k : Int) ((k : Int) + (1 + (p : Int))) Try.underlying9 (by omega) (by omega) (by omega)
            rw [this]
            congr 3
            omega
          go_wp2_with (first
            | (go_at_call 40; with_reducible refine hM.mono ?_; rintro e w3 ⟨v3, o3, rfl, hp3⟩)
            | (at_builtin; refine wpList_app45 rfl _ _ rfl w2.heap.size wr.heap.size _ _ o (r.outs ch) rfl (hpl.out3 hp3) rfl hp3.out (by omega) (by have := hpl.sz; have := hp3.fr.size; omega) ?_; intro v4 w4 hown4 hg4))
          go_roundg (s.size - (k + (p + 1)))
          case measure => have := A.out; omega
          case rel => exact ⟨k + (p + 1), _, by omega, rfl, by go_num, Lib.hid (by rw [hrun.out, hout.out]; exact hpl.step hp3 hg4 hown4)⟩
      · have hh : decide ((k : Int) < (s.size : Int)) = false := by simp; omega
        rw [List.take_of_length_le (by omega)] at hpl
        have hol := Rc.outs_le r0 s.data.toList
        rw [hlen] at hol
        have hM := push_calls r0 (b2 + 1) b2 (.slice none 0 0) s wr ⟨hpl.blk2, by rw [hp0]; exact World.ownsRow_nil _ _ _ _⟩ (by have := (Array.getElem?_eq_some_iff.1 hpl.blk2).1; omega) 0 hOk (by omega)
        have hSm := fun W B1 B2 v u h1 h2 => same_calls (r0.outs s.data.toList) (r0.outs s.data.toList) B1 B2 v u W h1 h2 (by omega) (by omega)
        rw [decide_eq_true rfl] at hSm
        have hgd := fun x y W => eqg53' x y (r0.run s.data.toList) (r0.run s.data.toList) W
        have hse := fun W => heard_self (r0.run s.data.toList) W
        generalize r0.run s.data.toList = r at *
        generalize r0.outs s.data.toList = o at *
        obtain ⟨x, hx⟩ : ∃ x, decide (0 < r.p.length) = x := ⟨_, rfl⟩
        have hxx : (x == x) = true := by simp
        clear hP A hOk
        go_wp2_with (first
          | (go_at_call 40; with_reducible refine hM.mono ?_; rintro e w3 ⟨v3, o3, rfl, hp3⟩; obtain ⟨hgo, hra⟩ := hpl.last hp3)
          | (go_at_call 41; with_reducible refine (hSm _ _ _ _ _ hgo hp3.out).mono ?_; rintro e w4 ⟨rfl, hb4⟩; have ha4 := hra.below hb4; have hbb4 := hp3.rc.below hb4)
          | (go_at_call 42; with_reducible refine (heard_calls _ _ _ _ _ ha4).mono ?_; rintro e w5 ⟨rfl, hb5⟩; have ha5 := ha4.below hb5; have hbb5 := hbb4.below hb5)
          | (go_at_call 42; with_reducible refine (heard_calls _ _ _ _ _ hbb5).mono ?_; rintro e w6 ⟨rfl, hb6⟩; have ha6 := ha5.below hb6; have hbb6 := hbb5.below hb6)
          | (go_at_call 43; with_reducible refine (inside_calls _ _ _ _ _ ha6).mono ?_; rintro e w7 ⟨rfl, hw⟩; obtain rfl := hw.symm; rw [hx])
          | (go_at_call 43; with_reducible refine (inside_calls _ _ _ _ _ hbb6).mono ?_; rintro e w8 ⟨rfl, hw⟩; obtain rfl := hw.symm; rw [hx])
          | (go_at_call 36; with_reducible refine (alive_calls _).mono ?_; rintro e w9 ⟨rfl, hb9⟩))
        go_ret
        have B3 := Frm.below hp3.fr hpl.bel hle2 (by intro g e; cases e)
        have B4 := B3.trans (hb4.mono B3.size)
        have B5 := B4.trans (hb5.mono B4.size)
        have B6 := B5.trans (hb6.mono B5.size)
        exact ⟨rfl, B6.trans (hb9.mono B6.size)⟩
  · have q0 : decide ((4096 : Int) < (s.size : Int)) = true := by simp; omega
    have q1 : 4096 < s.size := by omega
    go_enter Try.func11, Try.ntmps11
    go_wp2_with (first
      | (go_at_call 36; with_reducible refine (alive_calls _).mono ?_; rintro e w9 ⟨rfl, hb9⟩))
    go_ret
    exact ⟨rfl, hb9⟩
end Go.Proofs.Ytphoemgnfmlngaa
