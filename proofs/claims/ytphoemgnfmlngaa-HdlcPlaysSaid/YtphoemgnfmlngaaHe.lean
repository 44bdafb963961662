/-
  Layer 4 (hdlc): Push, walked.
-/
import Derived.Test.YtphoemgnfmlngaaHd
set_option linter.unusedVariables false
set_option linter.unusedSimpArgs false
namespace Go.Proofs.Ytphoemgnfmlngaa
open Go.RowKit Go.Proofs.YtphoemgnfmlngaaW.PrintWords Go.Proofs.YtphoemgnfmlngaaW.PrintLast

theorem infoS9 : (Try.prog.info? 9).map (fun i => (i.zero, i.size, i.bytes)) = some (some (.string ⟨#[]⟩), 1, 16) := by kernel_rfl
theorem und45 : Try.prog.underlying 45 = some (.slice 9) := by kernel_rfl
theorem Rc.next_nil (r : Rc) (h : r.p = []) : r.next 126 = { r with inn := true, p := [] } ∧ r.out1 126 = [] := by
  unfold Rc.next Rc.out1
  rw [if_pos rfl, if_pos h, if_neg (fun c => c.2.1 h)]
  exact ⟨rfl, rfl⟩
theorem Rc.next_met (r : Rc) (h : r.p ≠ []) : r.next 126 = { r.add r.kind with inn := true, p := [] } ∧ r.out1 126 = if r.kind = 0 then [r.info] else [] := by
  unfold Rc.next Rc.out1
  rw [if_pos rfl, if_neg h]
  refine ⟨rfl, ?_⟩
  by_cases hk : r.kind = 0
  · rw [if_pos ⟨rfl, h, hk⟩, if_pos hk]
  · rw [if_neg (fun c => hk c.2.2), if_neg hk]
theorem Rc.next_else (r : Rc) (x : UInt8) (h : x ≠ 126) : r.next x = (if r.inn = true ∧ Esc.mapped r.accm x.toNat = false then { r with p := r.p ++ [x] } else r) ∧ r.out1 x = [] := by
  unfold Rc.next Rc.out1
  exact ⟨if_neg h, if_neg (fun c => h c.1)⟩
set_option maxHeartbeats 16000000 in
set_option maxRecDepth 100000 in
theorem push_calls (r0 : Rc) (B b : Nat) (v0 : Value) (s : ByteArray) (w : World) (h : IsRc w B b r0 v0) (hBw : B ≤ w.heap.size) (n : Nat) (hOk : r0.Ok n) (hs : n + s.size ≤ 900000) :
    Calls Try.prog 40 #[.pointer (some ⟨b, 0, none⟩), .string s] w fun e w' => ∃ v ov, e = .returned ov ∧ PS w v0 B b (r0.run s.data.toList) (r0.outs s.data.toList) v ov w' := by
  have hlen : s.data.toList.length = s.size := by rw [Array.length_toList]; rfl
  obtain ⟨i5, hi5, ha0, ha1, ha2⟩ := info_parts infoE5
  obtain ⟨i9, hi9, hz0, hz1, hz2⟩ := info_parts infoS9
  go_enter Try.func40, Try.ntmps40
  go_wp2
  go_loopg [4, 13] s.size (fun q ov i wr => ∃ (k : Nat) (v : Value), k ≤ s.size ∧ q = s.size - k ∧ i = .int .i64 (k : Int) ∧ Hid (PS w v0 B b (r0.run (s.data.toList.take k)) (r0.outs (s.data.toList.take k)) v ov wr))
  case atStart => exact ⟨0, v0, by omega, rfl, rfl, Lib.hid (PS.start h)⟩
  case round =>
    obtain ⟨k, v, hk, hq, rfl, hP⟩ := hrel
    have A := Lib.hid hq; clear hq
    by_cases hlt : k < s.size
    · have hh : decide ((k : Int) < (s.size : Int)) = true := by simp; omega
      have hsk : s.data.toList[k]? = some s[k] := by rw [List.getElem?_eq_getElem (by omega)]; rfl
      have htk : s.data.toList.take (k + 1) = s.data.toList.take k ++ [s[k]] := by rw [List.take_add_one, hsk]; rfl
      have hrun := Lib.hid (show r0.run (s.data.toList.take (k + 1)) = _ by rw [htk, Rc.run_snoc])
      have hout := Lib.hid (show r0.outs (s.data.toList.take (k + 1)) = _ by rw [htk, Rc.outs_snoc])
      have hOr := hOk.run (s.data.toList.take k)
      have hol := Rc.outs_le r0 (s.data.toList.take k)
      have htl : (s.data.toList.take k).length = k := by rw [List.length_take]; omega
      rw [htl] at hOr hol
      clear hsk htk htl
      generalize r0.run (s.data.toList.take k) = r at *
      generalize r0.outs (s.data.toList.take k) = o at *
      obtain ⟨pa, pc, rfl⟩ := own_form hP.out.rc.own
      have hsz := hP.out.fr.size
      have hrc := hP.out.rc
      have hkk := Lib.hid (show s[k].toNat < 256 from UInt8.toNat_lt _)
      have hp6 := hOr.p
      have hacc := hOr.accm
      have t1 := fun i => blk_cell hrc.blk i
      have t2 := fun i => blk_frozen hrc.blk i
      have t3 := fun u i => blk_cell (blk_set hrc.blk 7 u) i
      have t4 := fun u i => blk_frozen (blk_set hrc.blk 7 u) i
      simp only [Rc.cells] at t1 t3
      by_cases hx : s[k] = 126
      · have hb : ((s[k].toNat : Int) == 126) = true := by rw [hx]; rfl
        rw [hx] at hrun hout
        by_cases hp : r.p = []
        · have q0 : decide ((0 : Int) < (r.p.length : Int)) = false := by rw [hp]; rfl
          have hnx := Lib.hid (Rc.next_nil r hp)
          go_wp2
          go_roundg (s.size - (k + 1))
          case measure => have := A.out; omega
          case rel => exact ⟨k + 1, .slice none 0 0, by omega, rfl, by go_num, Lib.hid (by rw [hrun.out, hout.out]; exact by rw [hnx.out.1, hnx.out.2, List.append_nil]; exact hP.out.shut)⟩
        · have q0 : decide ((0 : Int) < (r.p.length : Int)) = true := by have := List.length_pos_iff.2 hp; simp; omega
          have hq0 : 0 < r.p.length := List.length_pos_iff.2 hp
          have hnx := Lib.hid (Rc.next_met r hp)
          have hM := met_calls r B b _ _ hrc hp (by omega) hOr.most ⟨by have := hOr.g; omega, by have := hOr.ab; omega, by have := hOr.lo; omega, by have := hOr.sh; omega, by have := hOr.su; omega⟩
          by_cases hk0 : r.kind = 0
          · rw [decide_eq_true hk0] at hM
            go_upto_region 11 with (first
              | (go_at_call 58; with_reducible refine hM.mono ?_; rintro e w2 ⟨rfl, hb2, hr2⟩))
            have hP2 := hP.out.met hb2 hr2
            have hsz2 := hP2.fr.size
            clear t1 t2 t3 t4 hrc hM hP hb2
            generalize r.add r.kind = rr at *
            go_wp2_with (first
              | (at_builtin; refine wpList_append_own _ rfl _ _ 45 rfl w.heap.size 9 i9 (.string ⟨#[]⟩) 1 16 und45 hi9 hz0 hz1 hz2 rfl (by decide) _ o.length (strs o) rfl (hP2.out.alloc _) ⟨w2.heap.size, 0, none⟩ 1 1 [.string (str r.info)] rfl rfl (cell_one_new _ _ _) (by simp [Value.oneCell']) (by unfold maxLen; omega) (by omega) (by simp; omega) ?_; intro v' w3 hown hg _; have hP3 := (hP2.below ((Below.refl w2.heap.size w2).alloc (Nat.le_refl _) _)).more hg hown; have h3 := hP3.rc; have t1 := fun i => blk_cell h3.blk i; have t2 := fun i => blk_frozen h3.blk i; have t3 := fun u i => blk_cell (blk_set h3.blk 7 u) i; have t4 := fun u i => blk_frozen (blk_set h3.blk 7 u) i; simp only [Rc.cells] at t1 t3))
            go_roundg (s.size - (k + 1))
            case measure => have := A.out; omega
            case rel => exact ⟨k + 1, .slice none 0 0, by omega, rfl, by go_num, Lib.hid (by rw [hrun.out, hout.out]; exact by rw [hnx.out.1, hnx.out.2, if_pos hk0]; exact hP3.shut)⟩
          · rw [decide_eq_false hk0] at hM
            go_upto_region 12 with (first
              | (go_at_call 58; with_reducible refine hM.mono ?_; rintro e w2 ⟨rfl, hb2, hr2⟩))
            have hP2 := hP.out.met hb2 hr2
            clear t1 t2 t3 t4 hrc hM hP hb2
            generalize r.add r.kind = rr at *
            have t1 := fun i => blk_cell hr2.blk i
            have t2 := fun i => blk_frozen hr2.blk i
            have t3 := fun u i => blk_cell (blk_set hr2.blk 7 u) i
            have t4 := fun u i => blk_frozen (blk_set hr2.blk 7 u) i
            simp only [Rc.cells] at t1 t3
            go_wp2
            go_roundg (s.size - (k + 1))
            case measure => have := A.out; omega
            case rel => exact ⟨k + 1, .slice none 0 0, by omega, rfl, by go_num, Lib.hid (by rw [hrun.out, hout.out]; exact by rw [hnx.out.1, hnx.out.2, if_neg hk0, List.append_nil]; exact hP2.shut)⟩
      · have hb : ((s[k].toNat : Int) == 126) = false := by rw [beq_eq_false_iff_ne]; intro e; exact hx (UInt8.toNat_inj.1 (by show s[k].toNat = 126; omega))
        have hnx := Lib.hid (Rc.next_else r s[k] hx)
        cases hin : r.inn with
        | false =>
          go_wp2
          go_roundg (s.size - (k + 1))
          case measure => have := A.out; omega
          case rel => exact ⟨k + 1, _, by omega, rfl, by go_num, Lib.hid (by rw [hrun.out, hout.out]; exact by rw [hnx.out.1, hnx.out.2, if_neg (fun c => by rw [hin] at c; cases c.1), List.append_nil]; exact hP.out)⟩
        | true =>
          have hMp := fun W => mapped_calls r.accm s[k].toNat hacc hkk.out W
          cases hm : Esc.mapped r.accm s[k].toNat with
          | true =>
            rw [hm] at hMp
            go_wp2_with (first
              | (go_at_call 29; with_reducible refine (hMp _).mono ?_; rintro e w2 ⟨rfl, hw⟩; obtain rfl := hw))
            go_roundg (s.size - (k + 1))
            case measure => have := A.out; omega
            case rel => exact ⟨k + 1, _, by omega, rfl, by go_num, Lib.hid (by rw [hrun.out, hout.out]; exact by rw [hnx.out.1, hnx.out.2, if_neg (fun c => by rw [hm] at c; cases c.2), List.append_nil]; exact hP.out)⟩
          | false =>
            rw [hm] at hMp
            go_wp2_with (first
              | (go_at_call 29; with_reducible refine (hMp _).mono ?_; rintro e w2 ⟨rfl, hw⟩; obtain rfl := hw)
              | (at_builtin; refine wpList_append_own_at _ rfl _ _ 24 rfl B 5 i5 (.int .u8 0) 1 1 Try.underlying24 hi5 ha0 ha1 ha2 rfl (by decide) (.slice pa r.p.length pc) r.p.length (nums .u8 (ints r.p)) rfl (hrc.own.alloc _) ⟨wr.heap.size, 0, none⟩ 1 1 [.int .u8 ((s[k].toNat : Nat) : Int)] rfl rfl (cell_one_new _ _ _) (by simp [Value.oneCell']) (by unfold maxLen; omega) (by omega) (by simp; omega) ?_; intro v' w3 hown hg _ hat; obtain ⟨g', cap', rfl⟩ := ownsRow_succ hown; have hPa := hP.out.below ((Below.refl wr.heap.size wr).alloc (Nat.le_refl _) (.cells #[.int .u8 ((s[k].toNat : Nat) : Int)] 5)); have hPz := hPa.push hg hown hat; have hbk := (hg.block b hPa.rc.lt (own_ne hPa.rc.own hPa.rc.blk (by decide))).trans hPa.rc.blk; have t5 := fun i => blk_cell hbk i; have t6 := fun i => blk_frozen hbk i; simp only [Rc.cells] at t5))
            go_roundg (s.size - (k + 1))
            case measure => have := A.out; omega
            case rel => exact ⟨k + 1, _, by omega, rfl, by go_num, Lib.hid (by rw [hrun.out, hout.out]; exact by rw [hnx.out.1, hnx.out.2, if_pos ⟨hin, hm⟩, List.append_nil]; exact hPz)⟩
    · obtain rfl : k = s.size := by omega
      have hh : decide (((s.size : Nat) : Int) < (s.size : Int)) = false := by simp
      rw [List.take_of_length_le (by omega)] at hP
      go_wp2
      go_ret
      exact ⟨_, _, rfl, hP.out⟩
end Go.Proofs.Ytphoemgnfmlngaa
