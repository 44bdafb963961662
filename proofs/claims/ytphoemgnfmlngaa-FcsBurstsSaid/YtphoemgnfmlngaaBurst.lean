/-
  Layer 2 (fcs): the law FcsBursts, walked.
-/
import Derived.Test.YtphoemgnfmlngaaPureFcsBursts
import Derived.Test.YtphoemgnfmlngaaEscKit
import Derived.Test.YtphoemgnfmlngaaBridge
import Derived.Deep.LoopGhost
import Derived.Lib.ConvBytes
import Derived.Lib.Hide
import Derived.Laws.BytesArg
import Derived.Below
set_option linter.unusedVariables false
set_option linter.unusedSimpArgs false
namespace Go.Proofs.Ytphoemgnfmlngaa
open Go.RowKit Go.Shelf Go.Proofs.YtphoemgnfmlngaaW.PrintLast Go.Proofs.YtphoemgnfmlngaaW.PrintWords Go.Proofs.Ytphoemgnfmlngaa.Pure Go.Proofs.Ytphoemgnfmlngaa.PFcsBursts

/-- The row of a string that was turned into bytes: its cells are l's. -/
def CRow (W : World) (B m : Nat) (l : List UInt8) : Prop :=
  l.length = m ∧ ∀ j, j < m → W.cell? ⟨B, j, none⟩ = some (.int .u8 (((l.getD j 0).toNat : Nat) : Int)) ∧ W.frozen? ⟨B, j, none⟩ = false
theorem crow_new (w : World) (e : TypeId) (s : ByteArray) : CRow (Lib.bytesWorld w e s) w.heap.size s.size s.data.toList := by
  refine ⟨by rw [Array.length_toList]; rfl, fun j hj => ⟨Lib.bytesWorld_cell w e s j hj, ?_⟩⟩
  have hsz : s.size ≤ (Lib.bytesCells w e s).size := by
    simp [Lib.bytesCells]
  unfold World.frozen?
  rw [Lib.bytesWorld_at_new]
  simp
  omega
theorem CRow.set {W : World} {B m : Nat} {l : List UInt8} (h : CRow W B m l) (k : Nat) (x : UInt8) (hk : k < m) : CRow (W.setCell ⟨B, k, none⟩ (.int .u8 ((x.toNat : Nat) : Int))) B m (l.set k x) := by
  refine ⟨by rw [List.length_set, h.1], fun j hj => ?_⟩
  obtain ⟨h1, h2⟩ := h.2 j hj
  refine ⟨?_, (World.frozen?_setCell _ _ _ _).trans h2⟩
  by_cases e : j = k
  · subst e
    rw [World.cell?_setCell_same' _ _ _ (by rw [h1]; rfl), List.getD_eq_getElem?_getD, List.getElem?_set_self (by rw [h.1]; exact hj)]
    rfl
  · rw [World.cell?_setCell_other _ _ _ _ (by simp [e]), h1, List.getD_eq_getElem?_getD, List.getD_eq_getElem?_getD, List.getElem?_set_ne (fun h => e h.symm)]
theorem CRow.drew {W : World} {B m : Nat} {l : List UInt8} (h : CRow W B m l) : CRow W.drew B m l := h
theorem CRow.str {W : World} {B m : Nat} {l : List UInt8} (h : CRow W B m l) (cap : Nat) : (convert 24 9 (.slice (some ⟨B, 0, none⟩) m cap)).run Try.prog W = .ok (.string ⟨l.toArray⟩) W := by
  have := run_convert_bytes_arg (P := Try.prog) W 24 5 Try.underlying24 Try.underlying5 B 0 m cap (ints l) (by simp [ints, h.1]) (fun i hi => by
    rw [Nat.zero_add, (h.2 i hi).1]
    simp [ints, List.getD_eq_getElem?_getD, List.getElem?_eq_getElem (show i < l.length by rw [h.1]; exact hi)]) 9 Try.underlying9
  rw [ints_str] at this
  exact this
theorem below_bytes {B : Nat} {w W : World} (h : Below B w W) (hB : B ≤ W.heap.size) (e : TypeId) (s : ByteArray) : Below B w (Lib.bytesWorld W e s) := by
  refine h.trans ⟨?_, ?_, ?_, by rw [Lib.bytesWorld_size]; omega, fun k hk => Lib.bytesWorld_at_old W e s k (by omega)⟩
  all_goals (unfold Lib.bytesWorld World.freeze; split <;> rfl)

theorem burst_short (s : ByteArray) (a bits : Nat) (h : ¬ (s.size ≤ 4096 ∧ bits ≠ 0)) (w : World) :
    Calls Try.prog 6 #[.string s, .int .u16 a, .int .u16 bits] w fun e w' => e = .returned (.bool true) ∧ Below w.heap.size w w' := by
  by_cases h1 : 4096 < s.size
  · have hd : decide ((4096 : Int) < (s.size : Int)) = true := by simp; omega
    have hd2 : decide (4096 < s.size) = true := by simp; omega
    go_enter Try.func6, Try.ntmps6
    go_wp2_with (first
      | (go_at_call 14; refine (halyardlaw02_alive.calls true _ alive_eq).mono ?_; rintro e w1 ⟨rfl, hb⟩))
    go_ret
    exact ⟨rfl, hb⟩
  · have h2 : bits = 0 := by
      rcases Nat.eq_zero_or_pos bits with e | e
      · exact e
      · exact absurd ⟨by omega, by omega⟩ h
    subst h2
    have hd : decide ((4096 : Int) < (s.size : Int)) = false := by simp; omega
    have hd2 : decide (4096 < s.size) = false := by simp; omega
    go_enter Try.func6, Try.ntmps6
    go_wp2_with (first
      | (go_at_call 14; refine (halyardlaw02_alive.calls true _ alive_eq).mono ?_; rintro e w1 ⟨rfl, hb⟩))
    go_ret
    exact ⟨rfl, hb⟩

theorem cell_lt {W : World} {a : Addr} {v : Value} (h : W.cell? a = some v) : a.block < W.heap.size := by
  rcases Nat.lt_or_ge a.block W.heap.size with h' | h'
  · exact h'
  · unfold World.cell? at h
    rw [Array.getElem?_eq_none h'] at h
    cases h
theorem CRow.below {W w : World} {B m : Nat} {l : List UInt8} (h : CRow W B m l) (hb : Below W.heap.size W w) (hm : 0 < m) : CRow w B m l := by
  have hlt : B < W.heap.size := cell_lt (h.2 0 hm).1
  exact ⟨h.1, fun j hj => ⟨(hb.cell (p := ⟨B, j, none⟩) hlt).trans (h.2 j hj).1, (hb.frozen (p := ⟨B, j, none⟩) hlt).trans (h.2 j hj).2⟩⟩
theorem bit_eq (bits j : Nat) : ((bits : Int) / 2 ^ j).tmod 2 = ((bits / 2 ^ j % 2 : Nat) : Int) := by
  rw [show ((2 : Int) ^ j) = ((2 ^ j : Nat) : Int) from by simp, ← Int.natCast_ediv, show (2 : Int) = ((2 : Nat) : Int) from rfl, ← Int.ofNat_tmod]
set_option maxRecDepth 100000 in
theorem burst_main (s : ByteArray) (a bits : Nat) (hs : s.size ≤ 4096) (ha : a < 65536) (hb : bits < 65536) (h0 : bits ≠ 0) (w : World) :
    Calls Try.prog 6 #[.string s, .int .u16 a, .int .u16 bits] w fun e w' => e = .returned (.bool true) ∧ Below w.heap.size w w' := by
  have hd : decide ((4096 : Int) < (s.size : Int)) = false := by simp; omega
  have hd2 : decide (4096 < s.size) = false := by simp; omega
  have hz : ((bits : Int) == 0) = false := by simp; omega
  obtain ⟨t, ht, hnt, htake, htsz⟩ := seal_eq s (by omega)
  obtain ⟨g1, g2, g3, g4⟩ := good_of_seal s t (by omega) ht
  have hne : (((t.size : Nat) : Int) != (s.size : Int) + 2) = false := by simp; omega
  have hcv := fun W : World => Lib.run_convert_string_bytes (P := Try.prog) W 9 24 5 t Try.underlying9 Try.underlying24 Try.underlying5
  have G := Lib.hid g2
  clear hnt htake g2 g4
  have Hs := Lib.hid htsz
  obtain ⟨n, hn⟩ : ∃ n : Nat, (a : Int) % (8 * (s.size + 2) - 15) = (n : Int) := ⟨((a : Int) % (8 * (s.size + 2) - 15)).toNat, by have := Int.emod_nonneg (a : Int) (show (8 * ((s.size : Int) + 2) - 15) ≠ 0 by omega); omega⟩
  have hnb : n + 16 ≤ 8 * (s.size + 2) := by have := Int.emod_lt_of_pos (a : Int) (show 0 < (8 * ((s.size : Int) + 2) - 15) by omega); omega
  have Hn := Lib.hid hn
  go_enter Try.func6, Try.ntmps6
  go_wp2_with (first
    | (go_at_call 21; refine (fcs_Seal.calls s t _ ht).mono ?_; rintro e w1 ⟨rfl, hb1⟩))
  have hr0 := crow_new w1 5 t
  have hB0 := below_bytes hb1 hb1.size 5 t
  rw [Hs.out] at hr0
  generalize Lib.bytesWorld w1 5 t = W0 at *
  generalize grownCap w1 (s.size + 2) 0 5 = cap at *
  obtain ⟨m, hm⟩ : ∃ m, s.size + 2 = m := ⟨_, rfl⟩
  rw [hm] at hr0 ⊢
  have hB1 : w.heap.size ≤ w1.heap.size := hb1.size
  generalize w1.heap.size = B at *
  go_loopg [10, 11] 16 (fun q i k wr => ∃ (j : Nat) (l : List UInt8), j ≤ 16 ∧ q = 16 - j ∧ i = .int .i64 j ∧ Hid (l = fls bits n j t.data.toList) ∧ CRow wr B m l ∧ Below w.heap.size w wr)
  case atStart => exact ⟨0, _, by omega, rfl, rfl, Lib.hid rfl, hr0, hB0⟩
  case round =>
    obtain ⟨j, l, hj, hq, rfl, Hl, hrow, hB⟩ := hrel
    have A := Lib.hid hq; clear hq
    by_cases hlt : j < 16
    · have hh : decide ((j : Int) < 16) = true := by simp; omega
      have hfl : Hid (fls bits n (j + 1) t.data.toList = fl bits n j l) := Lib.hid (by rw [Hl.out]; rfl)
      by_cases hbit : bits / 2 ^ j % 2 = 1
      · have hbt : (((bits : Int) / 2 ^ j).tmod 2 == 1) = true := by rw [bit_eq, beq_iff_eq]; omega
        obtain ⟨hc, hf⟩ := hrow.2 ((n + j) / 8) (by omega)
        have hx : Go.bits BinOp.xor IntKind.u8 (((l.getD ((n + j) / 8) 0).toNat : Nat) : Int) (2 ^ ((n + j) % 8) % 256) = (((l.getD ((n + j) / 8) 0 ^^^ UInt8.ofNat (2 ^ ((n + j) % 8))).toNat : Nat) : Int) := by
          have e := xor_u8 (l.getD ((n + j) / 8) 0).toNat (2 ^ ((n + j) % 8) % 256) (UInt8.toNat_lt _) (Nat.mod_lt _ (by decide))
          rw [UInt8.toNat_xor, UInt8.toNat_ofNat', ← e]
          congr 1
        rw [List.getD_eq_getElem?_getD] at hx
        have Hx := Lib.hid hx
        clear hx
        go_wp2
        go_roundg (16 - (j + 1))
        case measure => have := A.out; omega
        case rel => exact ⟨j + 1, _, by omega, rfl, by go_num, Lib.hid (by rw [hfl.out, fl, if_pos hbit]), by rw [Hx.out, ← List.getD_eq_getElem?_getD]; exact hrow.set _ _ (by omega), hB.setCell hB1 _⟩
      · have hbt : (((bits : Int) / 2 ^ j).tmod 2 == 1) = false := by rw [bit_eq, beq_eq_false_iff_ne]; omega
        go_wp2
        go_roundg (16 - (j + 1))
        case measure => have := A.out; omega
        case rel => exact ⟨j + 1, l, by omega, rfl, by go_num, Lib.hid (by rw [hfl.out, fl, if_neg hbit]), hrow, hB⟩
    · obtain rfl : j = 16 := by omega
      have hbad : Fcs.more 65535 (nats l) ≠ 61624 := by rw [Hl.out]; exact burst_bad _ bits n hb h0 (by rw [data_len, Hs.out]; omega) G.out
      have hl := hrow.1
      have hlist : (⟨l.toArray⟩ : ByteArray).data.toList = l := by simp
      have hls : (⟨l.toArray⟩ : ByteArray).size = m := by simp [ByteArray.size, hl]
      have ho := open_bad ⟨l.toArray⟩ (by omega) (by rw [hlist]; exact fun h => hbad h.2)
      rw [hls, if_neg (by omega)] at ho
      have hg := good_eq ⟨l.toArray⟩ (by omega)
      rw [hlist, hls, decide_eq_false (fun h => hbad h.2)] at hg
      have hcs := hrow.str cap
      have Hbad := Lib.hid hbad
      clear hbad
      go_wp2_with (first
        | (go_at_call 16; refine (fcs_Open.calls _ _ _ _ ho).mono ?_; rintro e w3 ⟨rfl, hb3⟩; have hcs3 := (hrow.below hb3 (by omega)).str cap)
        | (go_at_call 23; refine (fcs_Good.calls _ _ _ hg).mono ?_; rintro e w4 ⟨rfl, hb4⟩)
        | (go_at_call 14; refine (halyardlaw02_alive.calls true _ alive_eq).mono ?_; rintro e w5 ⟨rfl, hb5⟩))
      go_ret
      exact ⟨rfl, below_step (below_step (below_step hB hb3) hb4) hb5⟩
theorem burst_calls (s : ByteArray) (a bits : Int) (ha : 0 ≤ a ∧ a ≤ 65535) (hb : 0 ≤ bits ∧ bits ≤ 65535) (w : World) :
    Calls Try.prog 6 #[.string s, .int .u16 a, .int .u16 bits] w fun e w' => e = .returned (.bool true) ∧ Below w.heap.size w w' := by
  obtain ⟨a, rfl⟩ := Int.eq_ofNat_of_zero_le ha.1
  obtain ⟨bits, rfl⟩ := Int.eq_ofNat_of_zero_le hb.1
  by_cases h : s.size ≤ 4096 ∧ bits ≠ 0
  · exact burst_main s a bits h.1 (by omega) (by omega) h.2 w
  · exact burst_short s a bits h w
end Go.Proofs.Ytphoemgnfmlngaa
