/-
  Layer 5 (hdlc): HdlcBack, walked.
-/
import Derived.Test.YtphoemgnfmlngaaHm
set_option linter.unusedVariables false
set_option linter.unusedSimpArgs false
namespace Go.Proofs.Ytphoemgnfmlngaa
open Go.RowKit Go.Proofs.YtphoemgnfmlngaaW.PrintWords Go.Proofs.YtphoemgnfmlngaaW.PrintLast

set_option maxHeartbeats 16000000 in
set_option maxRecDepth 100000 in
theorem back_no (ls : List (List UInt8)) (al : Option Addr) (cl : Nat) (c : Nat) (a : ByteArray) (ns : List UInt8) (an : Option Addr) (cn p : Nat) (sh : Bool) (w : World)
    (hl : SRow w al ls) (hll : ls.length ≤ maxLen) (hls : ∀ x ∈ ls, x.length ≤ maxLen) (hno : ¬ (Fits ls ∧ a.size ≤ 1024 ∧ ns.length ≤ 1024)) :
    Calls Try.prog 10 #[.slice al ls.length cl, .int .u32 (c : Int), .string a, .slice an ns.length cn, .int .u8 (p : Int), .bool sh] w fun e w' => e = .returned (.bool true) ∧ Below w.heap.size w w' := by
  by_cases hF : Fits ls
  · have hf := fits_calls ls al cl w hl hll hls true (by simp [hF])
    by_cases ha : a.size ≤ 1024
    · have hn : 1024 < ns.length := by
        rcases Nat.lt_or_ge 1024 ns.length with h | h
        · exact h
        · exact absurd ⟨hF, ha, h⟩ hno
      have q0 : decide ((1024 : Int) < (a.size : Int)) = false := by simp; omega
      have q1 : decide ((1024 : Int) < (ns.length : Int)) = true := by simp; omega
      clear hno hF
      go_enter Try.func10, Try.ntmps10
      go_wp2_with (first
        | (go_at_call 35; with_reducible refine hf.mono ?_; rintro e w1 ⟨rfl, hb1⟩)
        | (go_at_call 36; with_reducible refine (alive_calls _).mono ?_; rintro e w9 ⟨rfl, hb9⟩))
      go_ret
      exact ⟨rfl, hb1.trans (hb9.mono hb1.size)⟩
    · have q0 : decide ((1024 : Int) < (a.size : Int)) = true := by simp; omega
      clear hno hF
      go_enter Try.func10, Try.ntmps10
      go_wp2_with (first
        | (go_at_call 35; with_reducible refine hf.mono ?_; rintro e w1 ⟨rfl, hb1⟩)
        | (go_at_call 36; with_reducible refine (alive_calls _).mono ?_; rintro e w9 ⟨rfl, hb9⟩))
      go_ret
      exact ⟨rfl, hb1.trans (hb9.mono hb1.size)⟩
  · have hf := fits_calls ls al cl w hl hll hls false (by simp [hF])
    clear hno hF
    go_enter Try.func10, Try.ntmps10
    go_wp2_with (first
      | (go_at_call 35; with_reducible refine hf.mono ?_; rintro e w1 ⟨rfl, hb1⟩)
      | (go_at_call 36; with_reducible refine (alive_calls _).mono ?_; rintro e w9 ⟨rfl, hb9⟩))
    go_ret
    exact ⟨rfl, hb1.trans (hb9.mono hb1.size)⟩
/-- A receiver that waits, old memory kept. -/
structure RB (w : World) (b : Nat) (r : Rc) (W : World) : Prop where
  rc : IsRc W b b r (.slice none 0 0)
  bel : Below w.heap.size w W
theorem RB.below {w W W' : World} {b : Nat} {r : Rc} (h : RB w b r W) (hb : Below W.heap.size W W') : RB w b r W' := ⟨h.rc.below hb, h.bel.trans (hb.mono h.bel.size)⟩
theorem RB.app {w W W' : World} {b B n : Nat} {r : Rc} {v : Value} {xs : List Value} (h : RB w b r W) (ho : W.ownsRow B 5 1 v n xs) (hg : W.grownBy W' v.ownBlock) (hB : w.heap.size ≤ B) : RB w b r W' :=
  ⟨⟨(hg.block b h.rc.lt (own_ne ho h.rc.blk (by decide))).trans h.rc.blk, h.rc.own.kept hg (.inl rfl)⟩, h.bel.grown hg h.bel.size (fun g e => Nat.le_trans hB (own_base ho g e))⟩
theorem nums_snoc (l m : List UInt8) : nums .u8 (ints (l ++ m)) = nums .u8 (ints l) ++ nums .u8 (ints m) := by simp [nums, ints]
/-- A slice of an own row of bytes, and its text. -/
theorem own_mid {W : World} {B cap g : Nat} {L : List UInt8} (h : W.ownsRow B 5 1 (.slice (some ⟨g, 0, none⟩) L.length cap) L.length (nums .u8 (ints L))) (k e : Nat) (hk : k < L.length) (he : k ≤ e) (he2 : e ≤ L.length) :
    (∀ W' : World, (Instr.slice 24 (.slice (some ⟨g, 0, none⟩) L.length cap) (some (.int .i64 (k : Int))) (some (.int .i64 (e : Int))) none).run Try.prog W' = .ok (.slice (some ⟨g, k, none⟩) (e - k) (cap - k)) W') ∧
    (convert 24 9 (.slice (some ⟨g, k, none⟩) (e - k) (cap - k))).run Try.prog W = .ok (.string (str ((L.drop k).take (e - k)))) W := by
  obtain ⟨i5, hi5, ha0, ha1, ha2⟩ := info_parts infoE5
  have hcap : L.length ≤ cap := by
    rcases h.2 with ⟨h0, _⟩ | ⟨g', cap', cur, h0, _, _, hc, _⟩
    · cases h0
    · cases h0; exact hc
  refine ⟨fun W' => ?_, ?_⟩
  · have := cut_mid (P := Try.prog) 24 5 .i64 .i64 Try.underlying24 hi5 1 ha1 (some ⟨g, 0, none⟩) L.length cap (k : Int) (e : Int) (by omega) (by omega) (by omega) hcap W'
    have hne : ¬ cap = k := by omega
    simpa [hne, add_at] using this
  · have := run_convert_bytes_arg (P := Try.prog) W 24 5 Try.underlying24 Try.underlying5 g k (e - k) (cap - k) (ints ((L.drop k).take (e - k))) (by simp [ints]; omega) (fun i hi => by
      have hc := h.cells (g := g) rfl (k + i) (.int .u8 (((L[k + i]'(by omega)).toNat : Nat) : Int)) (by simp [nums, ints, List.getElem?_eq_getElem (show k + i < L.length by omega)])
      have ha : (⟨g, 0, none⟩ : Addr).add (k + i) = ⟨g, k + i, none⟩ := by unfold Addr.add; split <;> simp_all
      rw [ha] at hc
      rw [hc]
      have hlt : i < (ints ((L.drop k).take (e - k))).length := by simp [ints]; omega
      rw [List.getD_eq_getElem?_getD, List.getElem?_eq_getElem hlt, Option.getD_some]
      simp [ints]) 9 Try.underlying9
    rw [ints_str] at this
    exact this
/-- What the last loop keeps: a receiver that is fed, what came of it, the row of all bytes. -/
structure PB (w : World) (B0 B1 b : Nat) (r : Rc) (o : List (List UInt8)) (v ov av : Value) (L : List UInt8) (W : World) : Prop where
  rc : IsRc W B1 b r v
  out : W.ownsRow B1 9 1 ov o.length (strs o)
  all : W.ownsRow B0 5 1 av L.length (nums .u8 (ints L))
  alt : ∀ g, av.ownBlock = some g → g < B1
  bel : Below w.heap.size w W
  le : w.heap.size ≤ b
  le0 : w.heap.size ≤ B1
  sz : B1 ≤ W.heap.size
theorem PB.out3 {w W W3 : World} {B0 B1 b : Nat} {r r' : Rc} {o o' : List (List UInt8)} {v ov av v' ov' : Value} {L : List UInt8} (h : PB w B0 B1 b r o v ov av L W) (hp : PS W v B1 b r' o' v' ov' W3) : W3.ownsRow B1 9 1 ov o.length (strs o) :=
  own_frm h.out hp.fr (own_ne h.out h.rc.blk (by decide)) (rows_ne h.out h.rc.own (by decide))
theorem PB.step {w W W3 W4 : World} {B0 B1 b : Nat} {r r' : Rc} {o o' : List (List UInt8)} {v ov av v' ov' ov2 : Value} {L : List UInt8} (h : PB w B0 B1 b r o v ov av L W) (hp : PS W v B1 b r' o' v' ov' W3)
    (hg : W3.grownBy W4 ov.ownBlock) (ho : W4.ownsRow B1 9 1 ov2 (o ++ o').length (strs (o ++ o'))) : PB w B0 B1 b r' (o ++ o') v' ov2 av L W4 := by
  have h3 := h.out3 hp
  have hb3 : Below w.heap.size w W3 := Frm.below hp.fr h.bel h.le (fun g e => by have := own_base h.rc.own g e; have := h.le0; omega)
  have ha3 : W3.ownsRow B0 5 1 av L.length (nums .u8 (ints L)) := by
    refine own_frm h.all hp.fr (own_ne h.all h.rc.blk (by decide)) ?_
    cases he : av.ownBlock with
    | none => exact .inl rfl
    | some g =>
      refine .inr fun e => ?_
      have := h.alt g he
      have := own_base h.rc.own g e.symm
      omega
  refine ⟨⟨(hg.block b hp.rc.lt (own_ne h3 hp.rc.blk (by decide))).trans hp.rc.blk, hp.rc.own.kept hg (rows_ne hp.rc.own h3 (by decide))⟩, ho, ha3.kept hg (rows_ne ha3 h3 (by decide)), h.alt, ?_, h.le, h.le0, Nat.le_trans h.sz (Nat.le_trans hp.fr.size hg.size)⟩
  exact hb3.grown hg hb3.size (fun g e => by have := own_base h3 g e; have := h.le0; omega)
set_option maxHeartbeats 16000000 in
set_option maxRecDepth 100000 in
theorem back_yes (ls : List (List UInt8)) (al : Option Addr) (cl : Nat) (c : Nat) (a : ByteArray) (ns : List UInt8) (an : Option Addr) (cn p : Nat) (sh : Bool) (w : World)
    (hl : SRow w al ls) (hll : ls.length ≤ maxLen) (hls : ∀ x ∈ ls, x.length ≤ maxLen) (hn : BRow w an ns) (hc : c < 4294967296) (hp : p < 256) (hF : Fits ls) (ha : a.size ≤ 1024) (hns : ns.length ≤ 1024) :
    Calls Try.prog 10 #[.slice al ls.length cl, .int .u32 (c : Int), .string a, .slice an ns.length cn, .int .u8 (p : Int), .bool sh] w fun e w' => e = .returned (.bool true) ∧ Below w.heap.size w w' := by
  have hf := fits_calls ls al cl w hl hll hls true (by simp [hF])
  have q0 : decide ((1024 : Int) < (a.size : Int)) = false := by simp; omega
  have q1 : decide ((1024 : Int) < (ns.length : Int)) = false := by simp; omega
  have hlaw := Lib.hid (back_law c sh ns a.data.toList ls hF.2.1)
  unfold allL at hlaw
  have hp0 := Lib.hid (show (newR 1508 c).p = [] from rfl)
  have hN : ∀ W : World, Calls Try.prog 37 #[.int .i64 1508, .int .u32 (c : Int)] W fun e w' => e = .returned (.tuple #[.pointer (some ⟨W.heap.size, 0, none⟩), .int .i64 0]) ∧ Below W.heap.size W w' ∧ IsRc w' W.heap.size W.heap.size (newR 1508 c) (.slice none 0 0) := fun W => new_good 1508 c (by decide) W
  have hOk : (newR 1508 c).Ok 0 := newR_ok 1508 c (by decide) hc
  have hC := fun W => clean_calls a (by omega) W
  have hcl0 : (cleanL a.data.toList).length ≤ 1024 := Nat.le_trans (List.length_filter_le _ _) (by rw [Array.length_toList]; exact ha)
  generalize newR 1508 c = r0 at *
  generalize cleanL a.data.toList = ca at *
  go_enter Try.func10, Try.ntmps10
  go_upto_region 4 with (first
    | (go_at_call 35; with_reducible refine hf.mono ?_; rintro e w1 ⟨rfl, hb1⟩)
    | (go_at_call 37; with_reducible refine (hN _).mono ?_; rintro e w2 ⟨rfl, hb2, hr2⟩))
  have hR2 : RB w w1.heap.size r0 w2 := ⟨hr2, hb1.trans (hb2.mono hb1.size)⟩
  have hbw : w.heap.size ≤ w1.heap.size := hb1.size
  clear hr2 hb1 hb2 hN hf
  generalize w1.heap.size = b at *
  go_upto_block 0 with (first
    | (go_at_call 38; with_reducible refine (hC _).mono ?_; rintro e w3 ⟨rfl, hb3⟩; have hR3 := hR2.below hb3))
  clear hC hb3 hR2
  go_cut [15] from 50 to 73 (fun s15 wx => s15 = .string (str (ca ++ frms c sh 0 ls)) ∧ RB w b r0 wx)
  case first =>
    go_wp2
    go_loopg [15, 16] ls.length (fun q s i wr => ∃ k : Nat, k ≤ ls.length ∧ q = ls.length - k ∧ i = .int .i64 (k : Int) ∧ s = .string (str (ca ++ frms c sh 0 (ls.take k))) ∧ RB w b r0 wr)
    case atStart => exact ⟨0, by omega, rfl, rfl, by simp [frms], hR3⟩
    case round =>
      obtain ⟨k, hk, hq, rfl, rfl, hR⟩ := hrel
      have A := Lib.hid hq; clear hq
      clear hR3
      have h60 := hF.1
      by_cases hlt : k < ls.length
      · have hh : decide ((k : Int) < (ls.length : Int)) = true := by simp; omega
        obtain ⟨x, rfl, e1⟩ := hl k hlt
        have d1 := (hR.bel.cell (cell_in e1)).trans e1
        have hsn := Lib.hid (frms_snoc c sh (ls.take k) ls[k] 0)
        rw [← List.take_succ_eq_append_getElem hlt, List.length_take, Nat.min_eq_left hk, Nat.zero_add] at hsn
        have hxl := hF.2.1 ls[k] (List.getElem_mem _)
        have hGl := frame_len ls[k] c
        have hG := fun W => frame_calls (str ls[k]) (by rw [str_size]; omega) c hc W
        rw [str_list] at hG
        have hfl := frms_len c sh (ls.take k) 0
        have hf1 := sum_le (ls.take k) 1508 (fun y hy => (hF.2.1 y (List.mem_of_mem_take hy)).2)
        have hf2 : (ls.take k).length ≤ 60 := by rw [List.length_take]; have := hF.1; omega
        have hf3 := Nat.mul_le_mul_right 1508 hf2
        have hSl : (ca ++ frms c sh 0 (ls.take k)).length ≤ 200000 := by rw [List.length_append]; omega
        clear hfl hf1 hf2 hf3
        obtain ⟨F, hFe⟩ : ∃ F, Hd.frame ls[k] c = F := ⟨_, rfl⟩
        rw [hFe] at hG hGl
        have he2 : ¬ str F = (⟨#[]⟩ : ByteArray) := fun e => by have := congrArg ByteArray.size e; rw [str_size] at this; have : F.length = 0 := this; omega
        have he3 : ((str F).toList == (⟨#[]⟩ : ByteArray).toList) = false := by
          rw [toList_data, toList_data, beq_eq_false_iff_ne]
          show F ≠ []
          intro e; rw [e] at hGl; simp at hGl
        have he4 : ((str F).toList == ([] : List UInt8)) = false := by
          rw [toList_data, beq_eq_false_iff_ne]
          show F ≠ []
          intro e; rw [e] at hGl; simp at hGl
        have hzF : (str F).size = F.length := str_size F
        generalize hSe : ca ++ frms c sh 0 (ls.take k) = S at *
        have hzS : (str S).size = S.length := str_size S
        have hTl : F.tail.length = F.length - 1 := List.length_tail
        have hzT : (str F.tail).size = F.length - 1 := by rw [str_size, hTl]
        have hsl : ∀ W, (Instr.slice 9 (.string (str F)) (some (.int .i64 1)) none none).run Try.prog W = .ok (.string (str F.tail)) W := fun W => by
          rw [run_slice_string_from_if (P := Try.prog) W 9 (str F) .i64 1 Try.underlying9, if_pos (by omega)]
          have hx : (str F).extract (1 : Int).toNat (str F).size = str F.tail := by
            rw [← str_of ((str F).extract _ _), ext_list, str_list, hzF, List.take_of_length_le (by rw [List.length_drop]; show F.length - 1 ≤ F.length - 1; omega)]
            show str (F.drop 1) = _
            rw [List.drop_one]
          rw [hx]
        cases sh with
        | false =>
          go_wp2_with (first
            | (go_at_call 39; with_reducible refine (hG _).mono ?_; rintro e w4 ⟨rfl, hb4⟩))
          go_roundg (ls.length - (k + 1))
          case measure => have := A.out; omega
          case rel => exact ⟨k + 1, by omega, rfl, by go_num, by rw [hsn.out, ← List.append_assoc, hSe, str_append]; unfold frm1; rw [if_neg (by simp), hFe], hR.below hb4⟩
        | true =>
          by_cases hk0 : 0 < k
          · have hkd : decide ((0 : Int) < (k : Int)) = true := by simp; omega
            go_wp2_with (first
              | (go_at_call 39; with_reducible refine (hG _).mono ?_; rintro e w4 ⟨rfl, hb4⟩))
            go_roundg (ls.length - (k + 1))
            case measure => have := A.out; omega
            case rel => exact ⟨k + 1, by omega, rfl, by go_num, by rw [hsn.out, ← List.append_assoc, hSe, str_append]; unfold frm1; rw [if_pos ⟨rfl, hk0⟩, hFe], hR.below hb4⟩
          · have hkd : decide ((0 : Int) < (k : Int)) = false := by simp; omega
            go_wp2_with (first
              | (go_at_call 39; with_reducible refine (hG _).mono ?_; rintro e w4 ⟨rfl, hb4⟩))
            go_roundg (ls.length - (k + 1))
            case measure => have := A.out; omega
            case rel => exact ⟨k + 1, by omega, rfl, by go_num, by rw [hsn.out, ← List.append_assoc, hSe, str_append]; unfold frm1; rw [if_neg (fun q => hk0 q.2), hFe], hR.below hb4⟩
      · obtain rfl : k = ls.length := by omega
        have hh : decide (((ls.length : Nat) : Int) < (ls.length : Int)) = false := by simp
        rw [List.take_of_length_le (Nat.le_refl _)]
        go_wp2
        go_meet
        exact ⟨rfl, hR⟩
  case rest =>
    obtain ⟨rfl, hR⟩ := hcut
    clear hR3
    obtain ⟨B0, hB0⟩ : ∃ x, wc.heap.size = x := ⟨_, rfl⟩
    have hwc : w.heap.size ≤ B0 := by rw [← hB0]; exact hR.bel.size
    have hSl : (ca ++ frms c sh 0 ls).length ≤ 10000 := by
      have h1 := frms_len c sh ls 0
      have h2 := hF.1
      have h3 := hF.2.2
      rw [List.length_append]; omega
    have hall : nzL c ns 0 (ca ++ frms c sh 0 ls) = nzL c ns 0 (ca ++ frms c sh 0 ls) := rfl
    obtain ⟨S, hSe⟩ : ∃ S, ca ++ frms c sh 0 ls = S := ⟨_, rfl⟩
    rw [hSe] at hSl hlaw ⊢
    obtain ⟨F, hFe⟩ : ∃ F, str S = F := ⟨_, rfl⟩
    have hzF : F.size = S.length := by rw [← hFe, str_size]
    have hFx : ∀ (k : Nat) (hk : k < S.length), F[k]'(by omega) = S[k] := by subst hFe; exact fun _ _ => rfl
    rw [hFe]
    clear hFe
    replace hFx := Lib.hid hFx
    obtain ⟨i5, hi5, ha0, ha1, ha2⟩ := info_parts infoE5
    go_upto_block 2 with fail
    go_cut [18] from 74 to 109 (fun s18 wx => wx.ownsRow B0 5 1 s18 (nzL c ns 0 S).length (nums .u8 (ints (nzL c ns 0 S))) ∧ RB w b r0 wx ∧ B0 ≤ wx.heap.size)
    case first =>
      go_wp2
      go_loopg [18, 19] S.length (fun q v i wr => ∃ k : Nat, k ≤ S.length ∧ q = S.length - k ∧ i = .int .i64 (k : Int) ∧ wr.ownsRow B0 5 1 v (nzL c ns 0 (S.take k)).length (nums .u8 (ints (nzL c ns 0 (S.take k)))) ∧ RB w b r0 wr ∧ B0 ≤ wr.heap.size)
      case atStart => exact ⟨0, by omega, rfl, rfl, World.ownsRow_nil _ _ _ _, hR, Nat.le_of_eq hB0.symm⟩
      case round =>
        obtain ⟨k, hk, hq, rfl, hown, hR2, hB⟩ := hrel
        have A := Lib.hid hq; clear hq
        clear hR
        by_cases hlt : k < S.length
        · have hh : decide ((k : Int) < (S.length : Int)) = true := by simp; omega
          have hFk := hFx.out k hlt
          have hsn := Lib.hid (nz_snoc c ns (S.take k) S[k] 0)
          rw [← List.take_succ_eq_append_getElem hlt, List.length_take, Nat.min_eq_left hk, Nat.zero_add, ← hFk] at hsn
          have hzl := nz_len c ns (S.take k) 0
          rw [List.length_take, Nat.min_eq_left hk] at hzl
          clear hFk
          generalize nzL c ns 0 (S.take k) = r at *
          obtain ⟨pa, pc, rfl⟩ := own_form hown
          by_cases hn0 : 0 < ns.length
          · have hnd : decide ((0 : Int) < (ns.length : Int)) = true := by simp; omega
            have hrem : (k : Int).tmod (ns.length : Int) = ((k % ns.length : Nat) : Int) := rfl
            have hml := Nat.mod_lt k hn0
            have hpre : preN c ns k = if Esc.mapped c ns[k % ns.length].toNat = true then [ns[k % ns.length]] else [] := by
              unfold preN
              rw [List.getD_eq_getElem?_getD, List.getElem?_eq_getElem hml, Option.getD_some]
              simp only [hn0, true_and]
            generalize hme : k % ns.length = m at *
            obtain ⟨x, rfl, e1⟩ := hn m hml
            have d1 := (hR2.bel.cell (cell_in e1)).trans e1
            have hmc := mapped_calls c ns[m].toNat hc (UInt8.toNat_lt _)
            cases hmap : Esc.mapped c ns[m].toNat with
            | false =>
              rw [hmap] at hmc hpre
              rw [if_neg (by decide)] at hpre
              rw [hpre, List.nil_append] at hsn
              go_wp2_with (first
                | (go_at_call 29; with_reducible refine (hmc _).mono ?_; rintro e w5 ⟨rfl, hw⟩; obtain rfl := hw)
                | (at_builtin; refine wpList_append_own_at _ rfl _ _ 24 rfl B0 5 i5 (.int .u8 0) 1 1 Try.underlying24 hi5 ha0 ha1 ha2 rfl (by decide) (.slice pa r.length pc) r.length (nums .u8 (ints r)) rfl (hown.alloc _) ⟨wr.heap.size, 0, none⟩ 1 1 [.int .u8 ((F[k].toNat : Nat) : Int)] rfl rfl (cell_one_new _ _ _) (by simp [Value.oneCell']) (by unfold maxLen; omega) (by omega) (by simp; omega) ?_; intro v' w3 hown3 hg _ hat))
              go_roundg (S.length - (k + 1))
              case measure => have := A.out; omega
              case rel =>
                refine ⟨k + 1, by omega, rfl, by go_num, ?_, (hR2.below ((Below.refl wr.heap.size wr).alloc (Nat.le_refl _) _)).app (hown.alloc (.cells #[.int .u8 ((F[k].toNat : Nat) : Int)] 5)) hg hwc, ?_⟩
                · rw [hsn.out, List.length_append, nums_snoc]
                  exact hown3
                · have := hg.size; simp at this; omega
            | true =>
              rw [hmap] at hmc hpre
              rw [if_pos rfl] at hpre
              rw [hpre, ← List.append_assoc] at hsn
              go_upto_region 22 with (first
                | (go_at_call 29; with_reducible refine (hmc _).mono ?_; rintro e w5 ⟨rfl, hw⟩; obtain rfl := hw)
                | (at_builtin; refine wpList_append_own_at _ rfl _ _ 24 rfl B0 5 i5 (.int .u8 0) 1 1 Try.underlying24 hi5 ha0 ha1 ha2 rfl (by decide) (.slice pa r.length pc) r.length (nums .u8 (ints r)) rfl (hown.alloc _) ⟨wr.heap.size, 0, none⟩ 1 1 [.int .u8 ((ns[m].toNat : Nat) : Int)] rfl rfl (cell_one_new _ _ _) (by simp [Value.oneCell']) (by unfold maxLen; omega) (by omega) (by simp; omega) ?_; intro v' w3 hown3 hg _ hat))
              have hown4 : w3.ownsRow B0 5 1 v' (r ++ [ns[m]]).length (nums .u8 (ints (r ++ [ns[m]]))) := by
                rw [List.length_append, nums_snoc]
                exact hown3
              have hR4 := (hR2.below ((Below.refl wr.heap.size wr).alloc (Nat.le_refl _) _)).app (hown.alloc (.cells #[.int .u8 ((ns[m].toNat : Nat) : Int)] 5)) hg hwc
              have hB4 : B0 ≤ w3.heap.size := by have := hg.size; simp at this; omega
              have hrl4 : (r ++ [ns[m]]).length ≤ 2 * k + 1 := by rw [List.length_append]; simp; omega
              clear hown hown3 hg hat hR2 hB d1 e1 hpre hmc hzl
              generalize r ++ [ns[m]] = r at *
              obtain ⟨pa, pc, rfl⟩ := own_form hown4
              generalize w3 = wr at *
              go_wp2_with (first
                | (at_builtin; refine wpList_append_own_at _ rfl _ _ 24 rfl B0 5 i5 (.int .u8 0) 1 1 Try.underlying24 hi5 ha0 ha1 ha2 rfl (by decide) (.slice pa r.length pc) r.length (nums .u8 (ints r)) rfl (hown4.alloc _) ⟨wr.heap.size, 0, none⟩ 1 1 [.int .u8 ((F[k].toNat : Nat) : Int)] rfl rfl (cell_one_new _ _ _) (by simp [Value.oneCell']) (by unfold maxLen; omega) (by omega) (by simp; omega) ?_; intro v' w3 hown5 hg _ hat))
              go_roundg (S.length - (k + 1))
              case measure => have := A.out; omega
              case rel =>
                refine ⟨k + 1, by omega, rfl, by go_num, ?_, (hR4.below ((Below.refl _ _).alloc (Nat.le_refl _) _)).app (hown4.alloc (.cells #[.int .u8 ((F[k].toNat : Nat) : Int)] 5)) hg hwc, ?_⟩
                · rw [hsn.out, List.length_append, nums_snoc]
                  exact hown5
                · have := hg.size; simp at this; omega
          · have hnd : decide ((0 : Int) < (ns.length : Int)) = false := decide_eq_false (by omega)
            have hpre : preN c ns k = [] := by unfold preN; rw [if_neg (fun q => hn0 q.1)]
            rw [hpre, List.nil_append] at hsn
            go_wp2_with (first
              | (at_builtin; refine wpList_append_own_at _ rfl _ _ 24 rfl B0 5 i5 (.int .u8 0) 1 1 Try.underlying24 hi5 ha0 ha1 ha2 rfl (by decide) (.slice pa r.length pc) r.length (nums .u8 (ints r)) rfl (hown.alloc _) ⟨wr.heap.size, 0, none⟩ 1 1 [.int .u8 ((F[k].toNat : Nat) : Int)] rfl rfl (cell_one_new _ _ _) (by simp [Value.oneCell']) (by unfold maxLen; omega) (by omega) (by simp; omega) ?_; intro v' w3 hown3 hg _ hat))
            go_roundg (S.length - (k + 1))
            case measure => have := A.out; omega
            case rel =>
              refine ⟨k + 1, by omega, rfl, by go_num, ?_, (hR2.below ((Below.refl wr.heap.size wr).alloc (Nat.le_refl _) _)).app (hown.alloc (.cells #[.int .u8 ((F[k].toNat : Nat) : Int)] 5)) hg hwc, ?_⟩
              · rw [hsn.out, List.length_append, nums_snoc]
                exact hown3
              · have := hg.size; simp at this; omega
        · obtain rfl : k = S.length := by omega
          have hh : decide (((S.length : Nat) : Int) < (S.length : Int)) = false := by simp
          rw [List.take_of_length_le (Nat.le_refl _)] at hown
          go_wp2
          go_meet
          exact ⟨hown, hR2, hB⟩
    case rest =>
      obtain ⟨hown, hR2, hB⟩ := hcut
      clear hR
      have hLl := nz_len c ns S 0
      generalize nzL c ns 0 S = L at *
      obtain ⟨va, vc, rfl⟩ := own_form hown
      obtain ⟨B1, hB1⟩ : ∃ x, wc.heap.size = x := ⟨_, rfl⟩
      have hP0 : PB w B0 B1 b r0 [] (.slice none 0 0) (.slice none 0 0) (.slice va L.length vc) L wc :=
        ⟨⟨hR2.rc.blk, by rw [hp0.out]; exact World.ownsRow_nil _ _ _ _⟩, World.ownsRow_nil _ _ _ _, hown, fun g e => by rw [← hB1]; exact (hown.lt g e).2, hR2.bel, hbw, by omega, Nat.le_of_eq hB1.symm⟩
      clear hown hR2
      go_wp2
      go_loopg [21, 22] L.length (fun q ov i wr => ∃ (k : Nat) (v : Value), k ≤ L.length + p ∧ q = L.length - k ∧ i = .int .i64 (k : Int) ∧ Hid (PB w B0 B1 b (r0.run (L.take k)) (r0.outs (L.take k)) v ov (.slice va L.length vc) L wr))
      case atStart => exact ⟨0, _, by omega, rfl, rfl, Lib.hid hP0⟩
      case round =>
        obtain ⟨k, v, hk, hq, rfl, hP⟩ := hrel
        have A := Lib.hid hq; clear hq
        have hpl := hP.out
        by_cases hlt : k < L.length
        · have hh : decide ((k : Int) < (L.length : Int)) = true := by simp; omega
          have hrun := Lib.hid (Rc.run_take r0 L k (p + 1))
          have hout := Lib.hid (Rc.outs_take r0 L k (p + 1))
          have hOr := hOk.run (L.take k)
          have hol := Rc.outs_le r0 (L.take k)
          have htl : (L.take k).length = k := by rw [List.length_take]; omega
          rw [htl] at hOr hol
          clear htl
          generalize r0.run (L.take k) = r at *
          generalize r0.outs (L.take k) = o at *
          obtain ⟨g, hva⟩ := row_some hpl.all (by omega)
          subst hva
          obtain ⟨en, hen⟩ : ∃ e, min (k + (p + 1)) L.length = e := ⟨_, rfl⟩
          obtain ⟨hs1, hs2⟩ := own_mid hpl.all k en hlt (by omega) (by omega)
          have hexl : (L.drop k).take (en - k) = (L.drop k).take (p + 1) := by
            rw [List.take_eq_take_iff, List.length_drop]; omega
          rw [hexl] at hs2
          have hcl : ((L.drop k).take (p + 1)).length ≤ 256 := by rw [List.length_take]; omega
          clear hexl
          generalize (L.drop k).take (p + 1) = ch at *
          have hol2 := Rc.outs_le r ch
          have hM := push_calls r B1 b v (str ch) wr hpl.rc hpl.sz (0 + k) hOr (by rw [str_size]; omega)
          rw [str_list] at hM
          have hzc := str_size ch
          generalize en - k = m at hs1 hs2
          generalize vc - k = vm at hs1 hs2
          clear hP hP0
          rcases Nat.lt_or_ge L.length (k + (p + 1)) with hcut | hcut
          · have hcI : (L.length : Int) < (k : Int) + (1 + (p : Int)) := by omega
            have hcJ : ¬ (k : Int) + (1 + (p : Int)) ≤ (L.length : Int) := by omega
            have hcK : ¬ (k : Int) + (1 + (p : Int)) < (L.length : Int) := by omega
            have hcL : (L.length : Int) ≤ (k : Int) + (1 + (p : Int)) := by omega
            obtain rfl : en = L.length := by omega
            clear hen
            go_wp2_with (first
              | (go_at_call 40; with_reducible refine hM.mono ?_; rintro e w5 ⟨v3, o3, rfl, hp3⟩)
              | (at_builtin; refine wpList_app45 rfl _ _ rfl B1 wr.heap.size _ _ o (r.outs ch) rfl (hpl.out3 hp3) rfl hp3.out (by omega) (by have := hpl.sz; have := hp3.fr.size; omega) ?_; intro v4 w6 hown4 hg4))
            go_roundg (L.length - (k + (p + 1)))
            case measure => have := A.out; omega
            case rel => exact ⟨k + (p + 1), _, by omega, rfl, by go_num, Lib.hid (by rw [hrun.out, hout.out]; exact hpl.step hp3 hg4 hown4)⟩
          · have hcI : ¬ (L.length : Int) < (k : Int) + (1 + (p : Int)) := by omega
            have hcJ : (k : Int) + (1 + (p : Int)) ≤ (L.length : Int) := by omega
            have hee : (en : Int) = (k : Int) + (1 + (p : Int)) := by omega
            rw [hee] at hs1
            clear hen hee
            go_wp2_with (first
              | (go_at_call 40; with_reducible refine hM.mono ?_; rintro e w5 ⟨v3, o3, rfl, hp3⟩)
              | (at_builtin; refine wpList_app45 rfl _ _ rfl B1 wr.heap.size _ _ o (r.outs ch) rfl (hpl.out3 hp3) rfl hp3.out (by omega) (by have := hpl.sz; have := hp3.fr.size; omega) ?_; intro v4 w6 hown4 hg4))
            go_roundg (L.length - (k + (p + 1)))
            case measure => have := A.out; omega
            case rel => exact ⟨k + (p + 1), _, by omega, rfl, by go_num, Lib.hid (by rw [hrun.out, hout.out]; exact hpl.step hp3 hg4 hown4)⟩
        · have hh : decide ((k : Int) < (L.length : Int)) = false := by simp; omega
          rw [List.take_of_length_le (by omega)] at hpl
          obtain ⟨hw1, hw2, hw3⟩ := hlaw.out
          rw [hw3] at hpl
          generalize r0.run L = r at *
          have hin : decide (0 < r.p.length) = false := by rw [hw2]; rfl
          have h60 := hF.1
          have hgd := fun x y ys W => eqg53 x y r ys W
          have hse : ∀ W : World, (binOp .eql 53 (heardV r) (.agg #[.int .i64 (ls.length : Int), .int .i64 0, .int .i64 0, .int .i64 0, .int .i64 0])).run Try.prog W = .ok (.bool true) W := fun W => by
            have := heard_eq r ls.length 0 0 0 0 W
            rw [decide_eq_true hw1] at this
            exact this
          obtain ⟨oa, oc, rfl⟩ := row_form hpl.out
          have hSm := same2_calls ls ls oa al oc cl wr (own_srow hpl.out) (hl.below hpl.bel) (by omega) (by omega)
          rw [decide_eq_true rfl] at hSm
          have hrc := hpl.rc
          clear hw2 hw1 hlaw hP hP0 hOk
          go_wp2_with (first
            | (go_at_call 41; with_reducible refine hSm.mono ?_; rintro e w5 ⟨rfl, hb5⟩; have hr5 := hrc.below hb5)
            | (go_at_call 42; with_reducible refine (heard_calls _ _ _ _ _ hr5).mono ?_; rintro e w6 ⟨rfl, hb6⟩; have hr6 := hr5.below hb6)
            | (go_at_call 43; with_reducible refine (inside_calls _ _ _ _ _ hr6).mono ?_; rintro e w7 ⟨rfl, hw⟩; obtain rfl := hw.symm; rw [hin])
            | (go_at_call 36; with_reducible refine (alive_calls _).mono ?_; rintro e w9 ⟨rfl, hb9⟩))
          go_ret
          have B5 := hpl.bel.trans (hb5.mono hpl.bel.size)
          have B6 := B5.trans (hb6.mono B5.size)
          exact ⟨rfl, B6.trans (hb9.mono B6.size)⟩
theorem back_calls (ls : List (List UInt8)) (al : Option Addr) (cl : Nat) (c : Nat) (a : ByteArray) (ns : List UInt8) (an : Option Addr) (cn p : Nat) (sh : Bool) (w : World)
    (hl : SRow w al ls) (hll : ls.length ≤ maxLen) (hls : ∀ x ∈ ls, x.length ≤ maxLen) (hn : BRow w an ns) (hc : c < 4294967296) (hp : p < 256) :
    Calls Try.prog 10 #[.slice al ls.length cl, .int .u32 (c : Int), .string a, .slice an ns.length cn, .int .u8 (p : Int), .bool sh] w fun e w' => e = .returned (.bool true) ∧ Below w.heap.size w w' := by
  by_cases h : Fits ls ∧ a.size ≤ 1024 ∧ ns.length ≤ 1024
  · exact back_yes ls al cl c a ns an cn p sh w hl hll hls hn hc hp h.1 h.2.1 h.2.2
  · exact back_no ls al cl c a ns an cn p sh w hl hll hls h
theorem srow_of {W : World} {x : Addr} {len : Nat} {ss : List ByteArray} (hl : len ≤ ss.length) (hcell : ∀ i, i < ss.length → W.cell? (x.add i) = some (.string (ss.getD i ByteArray.empty))) (hs : ∀ s ∈ ss, s.size ≤ maxLen) :
    ∃ l : List (List UInt8), SRow W (some x) l ∧ len = l.length ∧ ∀ y ∈ l, y.length ≤ maxLen := by
  refine ⟨(ss.take len).map fun s => s.data.toList, fun k hk => ⟨x, rfl, ?_⟩, by simp; omega, fun y hy => ?_⟩
  · have hk2 : k < ss.length := by simp at hk; omega
    rw [hcell k hk2, List.getD_eq_getElem?_getD, List.getElem?_eq_getElem hk2]
    simp [str_of]
  · obtain ⟨s, hm, rfl⟩ := List.mem_map.1 hy
    have := hs s (List.mem_of_mem_take hm)
    rw [Array.length_toList]
    exact this
theorem brow_of {W : World} {x : Addr} {len : Nat} {zs : List Int} (hl : len ≤ zs.length) (hcell : ∀ i, i < zs.length → W.cell? (x.add i) = some (.int .u8 (zs.getD i 0))) (hw : ∀ n ∈ zs, (Lit.int .u8 n).wf = true) :
    ∃ l : List UInt8, BRow W (some x) l ∧ len = l.length := by
  refine ⟨(zs.take len).map fun z => UInt8.ofNat z.toNat, fun k hk => ⟨x, rfl, ?_⟩, by simp; omega⟩
  have hk2 : k < zs.length := by simp at hk; omega
  have hb : 0 ≤ zs[k] ∧ zs[k] ≤ 255 := by simpa [Lit.wf, IntKind.min, IntKind.max, IntKind.signed, IntKind.bits] using hw zs[k] (List.getElem_mem _)
  rw [hcell k hk2, List.getD_eq_getElem?_getD, List.getElem?_eq_getElem hk2, Option.getD_some]
  simp only [List.getElem_map, List.getElem_take, UInt8.toNat_ofNat']
  rw [Nat.mod_eq_of_lt (show zs[k].toNat < 2 ^ 8 by omega)]
  congr 3
  omega
end Go.Proofs.Ytphoemgnfmlngaa
