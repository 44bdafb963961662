/-
  Layer 3 (escape): the law EscapeBack, walked.
-/
import Derived.Test.YtphoemgnfmlngaaPureEscapeBack
import Derived.Test.YtphoemgnfmlngaaEscKit
import Derived.Test.YtphoemgnfmlngaaBridge
import Derived.Test.YtphoemgnfmlngaaGet
import Derived.Test.YtphoemgnfmlngaaPut
import Derived.Deep.LoopGhost
import Derived.Lib.ConvBytes
import Derived.Lib.Hide
import Derived.Laws.BytesArg
import Derived.Below
set_option linter.unusedVariables false
set_option linter.unusedSimpArgs false
namespace Go.Proofs.Ytphoemgnfmlngaa
open Go.RowKit Go.Shelf Go.Proofs.YtphoemgnfmlngaaW.PrintLast Go.Proofs.YtphoemgnfmlngaaW.PrintWords Go.Proofs.Ytphoemgnfmlngaa.Pure Go.Proofs.Ytphoemgnfmlngaa.PEscapeBack

theorem cell_lt {W : World} {a : Addr} {v : Value} (h : W.cell? a = some v) : a.block < W.heap.size := by
  rcases Nat.lt_or_ge a.block W.heap.size with h' | h'
  · exact h'
  · unfold World.cell? at h
    rw [Array.getElem?_eq_none h'] at h
    cases h
/-- A row of bytes that can be read: v's cells are l's. -/
def Rd (W : World) (v : Value) (l : List UInt8) : Prop :=
  ∃ g cap, v = .slice (some ⟨g, 0, none⟩) l.length cap ∧ l.length ≤ cap ∧ g < W.heap.size ∧ ∀ j, j < l.length → W.cell? ⟨g, j, none⟩ = some (.int .u8 (((l.getD j 0).toNat : Nat) : Int))
theorem rd_new (w : World) (e : TypeId) (s : ByteArray) (l : List UInt8) (h : s.data.toList = l) : Rd (Lib.bytesWorld w e s) (.slice (some ⟨w.heap.size, 0, none⟩) s.size (grownCap w s.size 0 e)) l := by
  have hl : l.length = s.size := by rw [← h, Array.length_toList]; rfl
  refine ⟨w.heap.size, _, by rw [hl], by rw [hl]; exact grownCap_ge w s.size 0 e, by rw [Lib.bytesWorld_size]; omega, fun j hj => ?_⟩
  rw [← h]
  exact Lib.bytesWorld_cell w e s j (by omega)
theorem rd_news {W : World} {g o : Nat} {l : List UInt8} (h : ∀ j, j < l.length → W.cell? ⟨g, o + j, none⟩ = some (.int .u8 (((l.getD j 0).toNat : Nat) : Int))) :
    ∀ j u, (nums .u8 (ints l))[j]? = some u → W.cell? ((⟨g, o, none⟩ : Addr).add j) = some u := by
  intro j u hj
  have hlt : j < l.length := by
    rcases Nat.lt_or_ge j l.length with h' | h'
    · exact h'
    · rw [List.getElem?_eq_none (by simp [nums, ints]; exact h')] at hj; cases hj
  have ha : (⟨g, o, none⟩ : Addr).add j = ⟨g, o + j, none⟩ := by unfold Addr.add; split <;> simp_all
  rw [ha, h j hlt]
  simp [nums, ints, List.getElem?_eq_getElem hlt] at hj
  rw [← hj]
  simp [List.getD_eq_getElem?_getD, List.getElem?_eq_getElem hlt]
theorem rd_below {W w : World} {v : Value} {l : List UInt8} (h : Rd W v l) (hb : Below W.heap.size W w) : Rd w v l := by
  obtain ⟨g, cap, rfl, h1, h2, h3⟩ := h
  exact ⟨g, cap, rfl, h1, Nat.lt_of_lt_of_le h2 hb.size, fun j hj => (hb.cell (p := ⟨g, j, none⟩) h2).trans (h3 j hj)⟩
theorem rd_own {W : World} {base n : Nat} {v : Value} {l : List UInt8} (h : W.ownsRow base 5 1 v n (nums .u8 (ints l))) (hn : n = l.length) (hp : 0 < l.length) : Rd W v l := by
  subst hn
  rcases h.2 with ⟨rfl, h0⟩ | ⟨g, cap, cur, rfl, hg, hh, hnc, _⟩
  · omega
  · refine ⟨g, cap, rfl, hnc, (Array.getElem?_eq_some_iff.1 hh).1, fun j hj => ?_⟩
    have hc := h.cells (g := g) rfl j (.int .u8 (((l.getD j 0).toNat : Nat) : Int)) (by simp [nums, ints, List.getElem?_eq_getElem hj, List.getD_eq_getElem?_getD])
    have ha : (⟨g, 0, none⟩ : Addr).add j = ⟨g, 0 + j, none⟩ := by unfold Addr.add; split <;> simp_all
    rw [ha, Nat.zero_add] at hc
    exact hc
theorem rd_str {W : World} {v : Value} {l : List UInt8} (h : Rd W v l) : (convert 24 9 v).run Try.prog W = .ok (.string ⟨l.toArray⟩) W := by
  obtain ⟨g, cap, rfl, h1, h2, h3⟩ := h
  have := run_convert_bytes_arg (P := Try.prog) W 24 5 Try.underlying24 Try.underlying5 g 0 l.length cap (ints l) (by simp [ints]) (fun i hi => by
    rw [Nat.zero_add, h3 i hi]
    simp [ints, List.getD_eq_getElem?_getD, List.getElem?_eq_getElem hi]) 9 Try.underlying9
  rw [ints_str] at this
  exact this
theorem below_bytes {B : Nat} {w W : World} (h : Below B w W) (hB : B ≤ W.heap.size) (e : TypeId) (s : ByteArray) : Below B w (Lib.bytesWorld W e s) := by
  refine h.trans ⟨?_, ?_, ?_, by rw [Lib.bytesWorld_size]; omega, fun k hk => Lib.bytesWorld_at_old W e s k (by omega)⟩
  all_goals (unfold Lib.bytesWorld World.freeze; split <;> rfl)
/-- What is known of a slice of whole numbers that came in. -/
def IsRow (k : IntKind) (w : World) (a : Option Addr) (len cap : Nat) (zs : List Int) : Prop :=
  (a = none ∧ len = 0 ∧ cap = 0 ∧ zs = []) ∨
  ∃ x, a = some x ∧ len ≤ cap ∧ cap ≤ maxLen ∧ zs.length = cap ∧ (∀ i, i < zs.length → w.cell? (x.add i) = some (.int k (zs.getD i 0))) ∧ ∀ n ∈ zs, (Lit.int k n).wf = true
theorem IsRow.at_ {k : IntKind} {w W : World} {a : Option Addr} {len cap : Nat} {zs : List Int} (h : IsRow k w a len cap zs) (hb : Below w.heap.size w W) (i : Nat) (hi : i < len) :
    ∃ x, a = some x ∧ W.cell? (x.add i) = some (.int k (zs.getD i 0)) ∧ (Lit.int k (zs.getD i 0)).wf = true := by
  rcases h with ⟨_, h0, _⟩ | ⟨x, rfl, h1, h2, h3, h4, h5⟩
  · omega
  · have hc := h4 i (by omega)
    refine ⟨x, rfl, (hb.cell (cell_lt hc)).trans hc, h5 _ ?_⟩
    rw [List.getD_eq_getElem?_getD, List.getElem?_eq_getElem (by omega)]
    exact List.getElem_mem _

theorem short_walk (s : ByteArray) (a : Nat) (a2 : Option Addr) (len2 cap2 : Nat) (a3 : Option Addr) (len3 cap3 : Nat) (h : ¬ (s.size ≤ 4096 ∧ len2 ≤ 200 ∧ len3 ≤ 200)) (w : World) :
    Calls Try.prog 8 #[.string s, .int .u32 a, .slice a2 len2 cap2, .slice a3 len3 cap3] w fun e w' => e = .returned (.bool true) ∧ Below w.heap.size w w' := by
  by_cases h1 : 4096 < s.size
  · have hd : decide ((4096 : Int) < (s.size : Int)) = true := by simp; omega
    have hd2 : decide (4096 < s.size) = true := by simp; omega
    go_enter Try.func8, Try.ntmps8
    go_wp2_with (first
      | (go_at_call 25; refine (halyardlaw03_alive.calls true _ alive_eq).mono ?_; rintro e w1 ⟨rfl, hb⟩))
    go_ret
    exact ⟨rfl, hb⟩
  · have hd : decide ((4096 : Int) < (s.size : Int)) = false := by simp; omega
    have hd2 : decide (4096 < s.size) = false := by simp; omega
    by_cases h2 : 200 < len2
    · have he : decide ((200 : Int) < (len2 : Int)) = true := by simp; omega
      have he2 : decide (200 < len2) = true := by simp; omega
      go_enter Try.func8, Try.ntmps8
      go_wp2_with (first
        | (go_at_call 25; refine (halyardlaw03_alive.calls true _ alive_eq).mono ?_; rintro e w1 ⟨rfl, hb⟩))
      go_ret
      exact ⟨rfl, hb⟩
    · have he : decide ((200 : Int) < (len2 : Int)) = false := by simp; omega
      have he2 : decide (200 < len2) = false := by simp; omega
      have h3 : 200 < len3 := by omega
      have hf : decide ((200 : Int) < (len3 : Int)) = true := by simp; omega
      have hf2 : decide (200 < len3) = true := by simp; omega
      go_enter Try.func8, Try.ntmps8
      go_wp2_with (first
        | (go_at_call 25; refine (halyardlaw03_alive.calls true _ alive_eq).mono ?_; rintro e w1 ⟨rfl, hb⟩))
      go_ret
      exact ⟨rfl, hb⟩

set_option maxRecDepth 100000 in
set_option maxHeartbeats 8000000 in
theorem long_walk (s : ByteArray) (a : Nat) (ha : a < 4294967296) (a2 : Option Addr) (len2 cap2 : Nat) (z2 : List Int) (a3 : Option Addr) (len3 cap3 : Nat) (z3 : List Int) (hs : s.size ≤ 4096) (hl2 : len2 ≤ 200) (hl3 : len3 ≤ 200)
    (w : World) (w2 : IsRow .u16 w a2 len2 cap2 z2) (w3 : IsRow .u8 w a3 len3 cap3 z3) :
    Calls Try.prog 8 #[.string s, .int .u32 a, .slice a2 len2 cap2, .slice a3 len3 cap3] w fun e w' => e = .returned (.bool true) ∧ Below w.heap.size w w' := by
  have hd : decide ((4096 : Int) < (s.size : Int)) = false := by simp; omega
  have hd2 : decide (4096 < s.size) = false := by simp; omega
  have he : decide ((200 : Int) < (len2 : Int)) = false := by simp; omega
  have he2 : decide (200 < len2) = false := by simp; omega
  have hf : decide ((200 : Int) < (len3 : Int)) = false := by simp; omega
  have hf2 : decide (200 < len3) = false := by simp; omega
  have hsl : s.data.toList.length = s.size := by rw [Array.length_toList]; rfl
  have hle := Esc.put_le a s.data.toList
  obtain ⟨p, hp⟩ : ∃ p : ByteArray, (⟨(Esc.put a s.data.toList).toArray⟩ : ByteArray) = p := ⟨_, rfl⟩
  have hpl : p.data.toList = Esc.put a s.data.toList := by rw [← hp]
  have hps : p.size ≤ 8192 := by rw [← hp]; simp [ByteArray.size]; omega
  have hput := put_calls a ha s (by omega)
  rw [hp] at hput
  have hget : ∀ w : World, Calls Try.prog 26 #[.string p] w fun e w' => e = .returned (.tuple #[.string s, .int .i64 0]) ∧ Below w.heap.size w w' := by
    intro w
    have h := get_calls p (by omega) w
    rw [hpl, errPair, get_put] at h
    exact h
  have hcv := fun W : World => Lib.run_convert_string_bytes (P := Try.prog) W 9 24 5 p Try.underlying9 Try.underlying24 Try.underlying5
  have G := Lib.hid hp
  clear hp
  go_enter Try.func8, Try.ntmps8
  go_wp2_with (first
    | (go_at_call 31; refine (hput _).mono ?_; rintro e w1 ⟨rfl, hb1⟩)
    | (go_at_call 26; refine (hget _).mono ?_; rintro e w1' ⟨rfl, hb1'⟩))
  have hr0 := rd_new w1' 5 p _ hpl
  have hB0 := below_bytes (below_step hb1 hb1') (below_step hb1 hb1').size 5 p
  generalize Value.slice (some ⟨w1'.heap.size, 0, none⟩) p.size (grownCap w1' p.size 0 5) = v0 at *
  generalize Lib.bytesWorld w1' 5 p = W0 at *
  go_loopg [12, 13, 14, 15] (len2 + 1) (fun q v i b k wr => ∃ (j : Nat) (l : List UInt8), j ≤ len2 ∧ q = len2 + 1 - j ∧ i = .int .i64 j ∧ Rd wr v l ∧ Hid (Esc.strip a l = Esc.put a s.data.toList) ∧ l.length ≤ 8192 + j ∧ Below w.heap.size w wr)
  case atStart => exact ⟨0, _, by omega, rfl, rfl, hr0, Lib.hid (strip_put a _), by omega, hB0⟩
  case round =>
    obtain ⟨j, l, hj, hq, rfl, hrd, Hs, hll, hB⟩ := hrel
    have A := Lib.hid hq; clear hq
    by_cases hlt : j < len2 ∧ j < len3
    · have h1 : decide ((j : Int) < (len2 : Int)) = true := by simp; omega
      have h2 : decide ((j : Int) < (len3 : Int)) = true := by simp; omega
      obtain ⟨hlt1, hlt2⟩ := hlt
      obtain ⟨x2, rfl, hc2, hw2⟩ := w2.at_ hB j hlt1
      obtain ⟨x3, rfl, hc3, hw3⟩ := w3.at_ hB j hlt2
      have hb2 : 0 ≤ z2.getD j 0 ∧ z2.getD j 0 ≤ 65535 := by simpa [Lit.wf, IntKind.min, IntKind.max, IntKind.signed, IntKind.bits] using hw2
      have hb3 : 0 ≤ z3.getD j 0 ∧ z3.getD j 0 ≤ 255 := by simpa [Lit.wf, IntKind.min, IntKind.max, IntKind.signed, IntKind.bits] using hw3
      clear hw2 hw3
      obtain ⟨c2, e2⟩ := Int.eq_ofNat_of_zero_le hb2.1
      obtain ⟨c3, e3⟩ := Int.eq_ofNat_of_zero_le hb3.1
      rw [e2] at hb2 hc2
      rw [e3] at hb3 hc3
      clear e2 e3
      obtain ⟨g, cap, rfl, hlc, hg, hcell⟩ := hrd
      have hrd : Rd wr (.slice (some ⟨g, 0, none⟩) l.length cap) l := ⟨g, cap, rfl, hlc, hg, hcell⟩
      have Hcell := Lib.hid hcell
      clear hcell
      cases hm : Esc.mapped a (c3 % 32) with
      | false =>
        have hmc := mapped_calls a (c3 % 32) ha (by omega)
        rw [hm] at hmc
        go_wp2_with (first
          | (go_at_call 29; refine (hmc _).mono ?_; rintro e w' ⟨rfl, rfl⟩))
        go_roundg (len2 + 1 - (j + 1))
        case measure => have := A.out; omega
        case rel => exact ⟨j + 1, l, by omega, rfl, by go_num, hrd, Hs, by omega, hB⟩
      | true =>
        have hmc := mapped_calls a (c3 % 32) ha (by omega)
        rw [hm] at hmc
        go_wp2_with (first
          | (go_at_call 29; refine (hmc _).mono ?_; rintro e w' ⟨rfl, rfl⟩))
        obtain ⟨b, hbn⟩ : ∃ b : UInt8, b.toNat = c3 % 32 := ⟨UInt8.ofNat (c3 % 32), by rw [UInt8.toNat_ofNat']; omega⟩
        have hbv : ((c3 : Int) % 32) = ((b.toNat : Nat) : Int) := by rw [hbn]; rfl
        have hmb : Esc.mapped a b.toNat = true := by rw [hbn]; exact hm
        obtain ⟨k, hk⟩ : ∃ k : Nat, (c2 : Int) % ((l.length : Int) + 1) = (k : Int) := ⟨c2 % (l.length + 1), by rfl⟩
        have hkl : k ≤ l.length := by have := Int.emod_lt_of_pos (c2 : Int) (show 0 < ((l.length : Int) + 1) by omega); omega
        rw [hk, hbv]
        have Hbk := Lib.hid (And.intro hbn (And.intro hbv hk))
        clear hbn hbv hk
        obtain ⟨i0, hi, hz0, hz1, hz2⟩ := info_parts infoE5
        have htake : ∀ W, Below wr.heap.size wr.drew W → ∀ j, j < (l.take k).length → W.cell? ⟨g, 0 + j, none⟩ = some (.int .u8 ((((l.take k).getD j 0).toNat : Nat) : Int)) := by
          intro W hW j hj
          have hj' : j < k ∧ j < l.length := by simp at hj; omega
          rw [Nat.zero_add, hW.cell (p := ⟨g, j, none⟩) hg]
          show wr.cell? _ = _
          rw [Hcell.out j hj'.2, List.getD_eq_getElem?_getD, List.getD_eq_getElem?_getD, List.getElem?_take, if_pos hj'.1]
        obtain ⟨ad, had, hdrop⟩ : ∃ ad : Addr, (∀ W, (Instr.slice 24 (.slice (some ⟨g, 0, none⟩) l.length cap) (some (.int .i64 (k : Int))) none none).run Try.prog W = .ok (.slice (some ad) (l.length - k) (cap - k)) W) ∧ (∀ W, Below wr.heap.size wr.drew W → ∀ j u, (nums .u8 (ints (l.drop k)))[j]? = some u → W.cell? (ad.add j) = some u) := by
          have h := cut_from (P := Try.prog) 24 5 .i64 Try.underlying24 hi 1 hz1 (some ⟨g, 0, none⟩) l.length cap (k : Int) (by omega) (by omega)
          by_cases hck : cap = k
          · refine ⟨⟨g, 0, none⟩, fun W => by have := h W; simpa [hck] using this, fun W hW j u hj => ?_⟩
            rw [List.drop_of_length_le (by omega)] at hj
            simp [nums, ints] at hj
          · refine ⟨⟨g, k, none⟩, fun W => by have := h W; simpa [hck, add_at] using this, fun W hW => rd_news (fun j hj => ?_)⟩
            have hj' : k + j < l.length := by simp at hj; omega
            rw [hW.cell (p := ⟨g, k + j, none⟩) hg]
            show wr.cell? _ = _
            rw [Hcell.out (k + j) hj', List.getD_eq_getElem?_getD, List.getD_eq_getElem?_getD, List.getElem?_drop]
        have hcut : ∀ W, (Instr.slice 24 (.slice (some ⟨g, 0, none⟩) l.length cap) none (some (.int .i64 (k : Int))) none).run Try.prog W = .ok (.slice (some ⟨g, 0, none⟩) k cap) W := fun W => by
          have h := cut_to (P := Try.prog) 24 5 .i64 Try.underlying24 hi (some ⟨g, 0, none⟩) l.length cap (k : Int) (by omega) (by omega) hlc W
          simpa using h
        refine start_ (n := 12) (S := fun _ => True) (ds := []) (Array.replicate 12 false) (by kernel_rfl) rfl rfl trivial (fun _ => ?_)
        refine take_ (i := 0) (N := some 79) (v := Value.slice (some ⟨g, 0, none⟩) l.length cap) (a' := ?_) #[true, false, false, false, false, false, false, false, false, false, false, false] rfl rfl (by kernel_rfl) (fun _ _ _ h => h) (.inl ⟨by rfl, fun w' _ => ?_⟩) trivial ?_ ?_
        · go_simp
        rotate_left
        · simp only [Act.put, List.setIfInBounds_toArray, List.set_cons_zero, List.set_cons_succ]
          rfl
        refine take_ (i := 1) (N := some 80) (v := .int .i64 (k : Int)) (a' := ?_) #[true, true, false, false, false, false, false, false, false, false, false, false] rfl rfl (by kernel_rfl) (fun _ _ _ h => h) (.inl ⟨by rfl, fun w' _ => ?_⟩) trivial ?_ ?_
        · go_simp
        rotate_left
        · simp only [Act.put, List.setIfInBounds_toArray, List.set_cons_zero, List.set_cons_succ]
          rfl
        refine take_ (i := 2) (N := some 81) (v := .slice (some ⟨g, 0, none⟩) k cap) (a' := ?_) #[true, true, true, false, false, false, false, false, false, false, false, false] rfl rfl (by kernel_rfl) (fun _ _ _ h => h) (.inl ⟨by rfl, fun w' _ => ?_⟩) trivial ?_ ?_
        · go_simp
        rotate_left
        · simp only [Act.put, List.setIfInBounds_toArray, List.set_cons_zero, List.set_cons_succ]
          rfl
        refine take_ (i := 4) (N := some 83) (v := .int .u8 ((b.toNat : Nat) : Int)) (a' := ?_) #[true, true, true, false, true, false, false, false, false, false, false, false] rfl rfl (by kernel_rfl) (fun _ _ _ h => h) (.inl ⟨by rfl, fun w' _ => ?_⟩) trivial ?_ ?_
        · go_simp
        rotate_left
        · simp only [Act.put, List.setIfInBounds_toArray, List.set_cons_zero, List.set_cons_succ]
          rfl
        refine take_ (i := 7) (N := some 86) (v := Value.slice (some ⟨g, 0, none⟩) l.length cap) (a' := ?_) #[true, true, true, false, true, false, false, true, false, false, false, false] rfl rfl (by kernel_rfl) (fun _ _ _ h => h) (.inl ⟨by rfl, fun w' _ => ?_⟩) trivial ?_ ?_
        · go_simp
        rotate_left
        · simp only [Act.put, List.setIfInBounds_toArray, List.set_cons_zero, List.set_cons_succ]
          rfl
        refine take_ (i := 8) (N := some 87) (v := .int .i64 (k : Int)) (a' := ?_) #[true, true, true, false, true, false, false, true, true, false, false, false] rfl rfl (by kernel_rfl) (fun _ _ _ h => h) (.inl ⟨by rfl, fun w' _ => ?_⟩) trivial ?_ ?_
        · go_simp
        rotate_left
        · simp only [Act.put, List.setIfInBounds_toArray, List.set_cons_zero, List.set_cons_succ]
          rfl
        refine take_ (i := 9) (N := some 88) (v := .slice (some ad) (l.length - k) (cap - k)) (a' := ?_) #[true, true, true, false, true, false, false, true, true, true, false, false] rfl rfl (by kernel_rfl) (fun _ _ _ h => h) (.inl ⟨by rfl, fun w' _ => ?_⟩) trivial ?_ ?_
        · go_simp
        rotate_left
        · simp only [Act.put, List.setIfInBounds_toArray, List.set_cons_zero, List.set_cons_succ]
          rfl
        refine wpAnyLast_all (rs := [3, 5]) (by kernel_rfl) (by simp) ?_
        intro i hi'
        rcases List.mem_cons.1 hi' with rfl | hi'
        · refine wpOp_step rfl (fun K' hK => ?_)
          refine if_wanted rfl ?_
          refine wp_append_own _ (.const (.slice none 0 0)) (.tmp 81) 24 rfl wr.heap.size 5 i0 (.int .u8 0) 1 1 Try.underlying24 hi hz0 hz1 hz2 rfl (by decide) (.slice none 0 0) 0 [] rfl (World.ownsRow_nil _ _ _ _) ⟨g, 0, none⟩ k cap (nums .u8 (ints (l.take k))) rfl (by simp [nums, ints]; omega) (rd_news (fun j hj => htake wr.drew (Below.refl _ _) j hj)) (fun u hu => by simp only [nums, List.mem_map] at hu; obtain ⟨_, _, rfl⟩ := hu; rfl) (by unfold maxLen; omega) (by omega) (Nat.le_refl _) ?_
          intro v1 w1 hown1 hgrow1 _
          have hB1 : Below wr.heap.size wr.drew w1 := (Below.refl _ _).grown hgrow1 (Nat.le_refl _) (fun k hk => by simp [Value.ownBlock] at hk)
          refine hK _ _ ⟨fun _ _ => trivial, ?_⟩
          clear hK K'
          (try simp only [Act.put, List.setIfInBounds_toArray, List.set_cons_zero, List.set_cons_succ])
          refine wpAnyLast_all (rs := [5]) (by kernel_rfl) (by simp) ?_
          intro i hi'
          obtain rfl := List.mem_singleton.1 hi'
          refine wpOp_step rfl (fun K' hK => ?_)
          go_simp
          refine hK _ _ ⟨fun _ _ => trivial, ?_⟩
          clear hK K'
          (try simp only [Act.put, List.setIfInBounds_toArray, List.set_cons_zero, List.set_cons_succ])
          obtain ⟨hb, hhb⟩ : ∃ hb, w1.heap.size = hb := ⟨_, rfl⟩
          have hown1' := hown1.alloc (.cells #[.int .u8 ((b.toNat : Nat) : Int)] 5)
          have hB1' := hB1.alloc hB1.size (.cells #[.int .u8 ((b.toNat : Nat) : Int)] 5)
          have hone' := cell_one_new w1 (.int .u8 ((b.toNat : Nat) : Int)) 5
          rw [hhb] at hone' ⊢
          refine wpAnyLast_all (rs := [6]) (by kernel_rfl) (by simp) ?_
          intro i hi'
          obtain rfl := List.mem_singleton.1 hi'
          refine wpOp_step rfl (fun K' hK => ?_)
          refine if_wanted rfl ?_
          refine wp_append_own _ (.tmp 82) (.tmp 84) 24 rfl wr.heap.size 5 i0 (.int .u8 0) 1 1 Try.underlying24 hi hz0 hz1 hz2 rfl (by decide) v1 _ _ rfl hown1' ⟨hb, 0, none⟩ 1 1 [.int .u8 ((b.toNat : Nat) : Int)] rfl rfl hone' (by simp [Value.oneCell']) (by unfold maxLen; omega) (by omega) hB1'.size ?_
          intro v2 w2 hown2 hgrow2 _
          have hB2 : Below wr.heap.size wr.drew w2 := hB1'.grown hgrow2 hB1'.size (own_base hown1')
          refine hK _ _ ⟨fun _ _ => trivial, ?_⟩
          clear hK K'
          (try simp only [Act.put, List.setIfInBounds_toArray, List.set_cons_zero, List.set_cons_succ])
          refine wpAnyLast_all (rs := [10]) (by kernel_rfl) (by simp) ?_
          intro i hi'
          obtain rfl := List.mem_singleton.1 hi'
          refine wpOp_step rfl (fun K' hK => ?_)
          refine if_wanted rfl ?_
          refine wp_append_own _ (.tmp 85) (.tmp 88) 24 rfl wr.heap.size 5 i0 (.int .u8 0) 1 1 Try.underlying24 hi hz0 hz1 hz2 rfl (by decide) v2 _ _ rfl hown2 ad (l.length - k) (cap - k) (nums .u8 (ints (l.drop k))) rfl (by simp [nums, ints]) (hdrop w2 hB2) (fun u hu => by simp only [nums, List.mem_map] at hu; obtain ⟨_, _, rfl⟩ := hu; rfl) (by unfold maxLen; omega) (by omega) hB2.size ?_
          intro v3 w3' hown3 hgrow3 _
          have hB3 : Below wr.heap.size wr.drew w3' := hB2.grown hgrow3 hB2.size (own_base hown2)
          refine hK _ _ ⟨fun _ _ => trivial, ?_⟩
          clear hK K'
          (try simp only [Act.put, List.setIfInBounds_toArray, List.set_cons_zero, List.set_cons_succ])
          refine wpAnyLast_all (rs := [11]) (by kernel_rfl) (by simp) ?_
          intro i hi'
          obtain rfl := List.mem_singleton.1 hi'
          refine wpOp_step rfl (fun K' hK => ?_)
          go_simp
          refine hK _ _ ⟨fun _ _ => trivial, ?_⟩
          clear hK K'
          (try simp only [Act.put, List.setIfInBounds_toArray, List.set_cons_zero, List.set_cons_succ])
          refine wpAnyLast_done (by kernel_rfl) ?_ _
          have hrd3 : Rd w3' v3 (l.take k ++ [b] ++ l.drop k) := rd_own (n := 0 + k + 1 + (l.length - k)) (by simpa [nums, ints] using hown3) (by simp; omega) (by simp; omega)
          go_wp2
          go_roundg (len2 + 1 - (j + 1))
          case measure => have := A.out; omega
          case rel => exact ⟨j + 1, _, by omega, rfl, by go_num, hrd3, Lib.hid (by rw [strip_in_any _ _ _ _ hmb]; exact Hs.out), by simp; omega, below_step (below_drew hB) hB3⟩
        · obtain rfl := List.mem_singleton.1 hi'
          refine wpOp_step rfl (fun K' hK => ?_)
          go_simp
          refine hK _ _ ⟨fun _ _ => trivial, ?_⟩
          clear hK K'
          (try simp only [Act.put, List.setIfInBounds_toArray, List.set_cons_zero, List.set_cons_succ])
          have hone0 := cell_one_new wr.drew (.int .u8 ((b.toNat : Nat) : Int)) 5
          have hB0' : Below wr.heap.size wr.drew (wr.drew.alloc (.cells #[.int .u8 ((b.toNat : Nat) : Int)] 5)) := (Below.refl wr.heap.size wr.drew).alloc (Nat.le_refl _) _
          have hbig : wr.heap.size < (wr.drew.alloc (.cells #[.int .u8 ((b.toNat : Nat) : Int)] 5)).heap.size := by simp
          have hsw : wr.drew.alloc (.cells #[.int .u8 ((b.toNat : Nat) : Int)] 5) = (wr.alloc (.cells #[.int .u8 ((b.toNat : Nat) : Int)] 5)).drew := rfl
          rw [hsw] at hone0 hB0' hbig
          obtain ⟨wa, hwa⟩ : ∃ wa, (wr.alloc (.cells #[.int .u8 ((b.toNat : Nat) : Int)] 5)).drew = wa := ⟨_, rfl⟩
          rw [hwa] at hone0 hB0' hbig ⊢
          refine wpAnyLast_all (rs := [3]) (by kernel_rfl) (by simp) ?_
          intro i hi'
          obtain rfl := List.mem_singleton.1 hi'
          refine wpOp_step rfl (fun K' hK => ?_)
          refine if_wanted rfl ?_
          refine wp_append_own _ (.const (.slice none 0 0)) (.tmp 81) 24 rfl wr.heap.size 5 i0 (.int .u8 0) 1 1 Try.underlying24 hi hz0 hz1 hz2 rfl (by decide) (.slice none 0 0) 0 [] rfl (World.ownsRow_nil _ _ _ _) ⟨g, 0, none⟩ k cap (nums .u8 (ints (l.take k))) rfl (by simp [nums, ints]; omega) (rd_news (fun j hj => htake wa hB0' j hj)) (fun u hu => by simp only [nums, List.mem_map] at hu; obtain ⟨_, _, rfl⟩ := hu; rfl) (by unfold maxLen; omega) (by omega) hB0'.size ?_
          intro v1 w1 hown1 hgrow1 _
          have hB1 : Below wr.heap.size wr.drew w1 := hB0'.grown hgrow1 hB0'.size (fun k hk => by simp [Value.ownBlock] at hk)
          refine hK _ _ ⟨fun _ _ => trivial, ?_⟩
          clear hK K'
          (try simp only [Act.put, List.setIfInBounds_toArray, List.set_cons_zero, List.set_cons_succ])
          have hb := wr.heap.size
          have hown1' := hown1
          have hB1' := hB1
          have hone' : ∀ j u, [Value.int .u8 ((b.toNat : Nat) : Int)][j]? = some u → w1.cell? ((⟨wr.drew.heap.size, 0, none⟩ : Addr).add j) = some u := fun j u hj => by
            have ha : (⟨wr.drew.heap.size, 0, none⟩ : Addr).add j = ⟨wr.drew.heap.size, 0 + j, none⟩ := by unfold Addr.add; split <;> simp_all
            rw [ha]
            refine Go.cell_kept ?_ hgrow1 (by simp [Value.ownBlock])
            rw [← ha]
            exact hone0 j u hj
          refine wpAnyLast_all (rs := [6]) (by kernel_rfl) (by simp) ?_
          intro i hi'
          obtain rfl := List.mem_singleton.1 hi'
          refine wpOp_step rfl (fun K' hK => ?_)
          refine if_wanted rfl ?_
          refine wp_append_own _ (.tmp 82) (.tmp 84) 24 rfl wr.heap.size 5 i0 (.int .u8 0) 1 1 Try.underlying24 hi hz0 hz1 hz2 rfl (by decide) v1 _ _ rfl hown1' ⟨wr.drew.heap.size, 0, none⟩ 1 1 [.int .u8 ((b.toNat : Nat) : Int)] rfl rfl hone' (by simp [Value.oneCell']) (by unfold maxLen; omega) (by omega) hB1'.size ?_
          intro v2 w2 hown2 hgrow2 _
          have hB2 : Below wr.heap.size wr.drew w2 := hB1'.grown hgrow2 hB1'.size (own_base hown1')
          refine hK _ _ ⟨fun _ _ => trivial, ?_⟩
          clear hK K'
          (try simp only [Act.put, List.setIfInBounds_toArray, List.set_cons_zero, List.set_cons_succ])
          refine wpAnyLast_all (rs := [10]) (by kernel_rfl) (by simp) ?_
          intro i hi'
          obtain rfl := List.mem_singleton.1 hi'
          refine wpOp_step rfl (fun K' hK => ?_)
          refine if_wanted rfl ?_
          refine wp_append_own _ (.tmp 85) (.tmp 88) 24 rfl wr.heap.size 5 i0 (.int .u8 0) 1 1 Try.underlying24 hi hz0 hz1 hz2 rfl (by decide) v2 _ _ rfl hown2 ad (l.length - k) (cap - k) (nums .u8 (ints (l.drop k))) rfl (by simp [nums, ints]) (hdrop w2 hB2) (fun u hu => by simp only [nums, List.mem_map] at hu; obtain ⟨_, _, rfl⟩ := hu; rfl) (by unfold maxLen; omega) (by omega) hB2.size ?_
          intro v3 w3' hown3 hgrow3 _
          have hB3 : Below wr.heap.size wr.drew w3' := hB2.grown hgrow3 hB2.size (own_base hown2)
          refine hK _ _ ⟨fun _ _ => trivial, ?_⟩
          clear hK K'
          (try simp only [Act.put, List.setIfInBounds_toArray, List.set_cons_zero, List.set_cons_succ])
          refine wpAnyLast_all (rs := [11]) (by kernel_rfl) (by simp) ?_
          intro i hi'
          obtain rfl := List.mem_singleton.1 hi'
          refine wpOp_step rfl (fun K' hK => ?_)
          go_simp
          refine hK _ _ ⟨fun _ _ => trivial, ?_⟩
          clear hK K'
          (try simp only [Act.put, List.setIfInBounds_toArray, List.set_cons_zero, List.set_cons_succ])
          refine wpAnyLast_done (by kernel_rfl) ?_ _
          have hrd3 : Rd w3' v3 (l.take k ++ [b] ++ l.drop k) := rd_own (n := 0 + k + 1 + (l.length - k)) (by simpa [nums, ints] using hown3) (by simp; omega) (by simp; omega)
          go_wp2
          go_roundg (len2 + 1 - (j + 1))
          case measure => have := A.out; omega
          case rel => exact ⟨j + 1, _, by omega, rfl, by go_num, hrd3, Lib.hid (by rw [strip_in_any _ _ _ _ hmb]; exact Hs.out), by simp; omega, below_step (below_drew hB) hB3⟩
    · have hand : (¬ j < len2) ∨ (j < len2 ∧ ¬ j < len3) := by omega
      have hcs := rd_str hrd
      have hst : ∀ w : World, Calls Try.prog 33 #[.string ⟨l.toArray⟩, .int .u32 a] w fun e w' => e = .returned (.string p) ∧ Below w.heap.size w w' := by
        intro w
        have h := strip_calls a ha ⟨l.toArray⟩ (by simp [ByteArray.size]; omega) w
        rw [show (⟨l.toArray⟩ : ByteArray).data.toList = l from by simp, Hs.out, G.out] at h
        exact h
      rcases hand with h1 | ⟨h1, h2⟩
      · have h1' : decide ((j : Int) < (len2 : Int)) = false := by simp; omega
        clear hj hlt
        go_wp2_with (first
          | (go_at_call 33; refine (hst _).mono ?_; rintro e w3' ⟨rfl, hb3⟩)
          | (go_at_call 26; refine (hget _).mono ?_; rintro e w4 ⟨rfl, hb4⟩)
          | (go_at_call 25; refine (halyardlaw03_alive.calls true _ alive_eq).mono ?_; rintro e w5 ⟨rfl, hb5⟩))
        go_ret
        exact ⟨rfl, below_step (below_step (below_step hB hb3) hb4) hb5⟩
      · have h1' : decide ((j : Int) < (len2 : Int)) = true := by simp; omega
        have h2' : decide ((j : Int) < (len3 : Int)) = false := by simp; omega
        clear hj hlt
        go_wp2_with (first
          | (go_at_call 33; refine (hst _).mono ?_; rintro e w3' ⟨rfl, hb3⟩)
          | (go_at_call 26; refine (hget _).mono ?_; rintro e w4 ⟨rfl, hb4⟩)
          | (go_at_call 25; refine (halyardlaw03_alive.calls true _ alive_eq).mono ?_; rintro e w5 ⟨rfl, hb5⟩))
        go_ret
        exact ⟨rfl, below_step (below_step (below_step hB hb3) hb4) hb5⟩
theorem back_calls (s : ByteArray) (a : Int) (ha : 0 ≤ a ∧ a ≤ 4294967295) (a2 : Option Addr) (len2 cap2 : Nat) (z2 : List Int) (a3 : Option Addr) (len3 cap3 : Nat) (z3 : List Int)
    (w : World) (w2 : IsRow .u16 w a2 len2 cap2 z2) (w3 : IsRow .u8 w a3 len3 cap3 z3) :
    Calls Try.prog 8 #[.string s, .int .u32 a, .slice a2 len2 cap2, .slice a3 len3 cap3] w fun e w' => e = .returned (.bool true) ∧ Below w.heap.size w w' := by
  obtain ⟨a, rfl⟩ := Int.eq_ofNat_of_zero_le ha.1
  by_cases h : s.size ≤ 4096 ∧ len2 ≤ 200 ∧ len3 ≤ 200
  · exact long_walk s a (by omega) a2 len2 cap2 z2 a3 len3 cap3 z3 h.1 h.2.1 h.2.2 w w2 w3
  · exact short_walk s a a2 len2 cap2 a3 len3 cap3 h w
end Go.Proofs.Ytphoemgnfmlngaa
