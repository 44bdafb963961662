/-
  Layer 1 (octet): Put32, walked.
-/
import Derived.Test.YthenjbonncbniaaEch
import Derived.Laws.BytesArg
set_option linter.unusedVariables false
set_option linter.unusedSimpArgs false
namespace Go.Proofs.Ythenjbonncbniaa
open Go.RowKit Go.Proofs.YthenjbonncbniaaW.PrintWords Go.Proofs.YthenjbonncbniaaW.PrintLast

/-- A number's four bytes, the highest first. -/
def oct (v : Nat) : ByteArray := ⟨#[UInt8.ofNat (v / 16777216), UInt8.ofNat (v / 65536), UInt8.ofNat (v / 256), UInt8.ofNat v]⟩
def octs (v : Nat) : List Int := [(v : Int) / 16777216, (v : Int) / 65536 % 256, (v : Int) / 256 % 256, (v : Int) % 256]
theorem u8_mod (n : Nat) : UInt8.ofNat (n % 256) = UInt8.ofNat n := by
  apply UInt8.toNat_inj.1
  simp
theorem octs_str (v : Nat) : strOfNums (octs v) = oct v := by
  unfold strOfNums octs oct
  simp only [List.map_cons, List.map_nil, ByteArray.mk.injEq, List.toArray_inj, List.cons.injEq, and_true]
  refine congrArg List.toArray ?_
  have e1 : ((v : Int) / 16777216).toNat = v / 16777216 := rfl
  have e2 : ((v : Int) / 65536 % 256).toNat = v / 65536 % 256 := rfl
  have e3 : ((v : Int) / 256 % 256).toNat = v / 256 % 256 := rfl
  have e4 : ((v : Int) % 256).toNat = v % 256 := rfl
  rw [e1, e2, e3, e4, u8_mod, u8_mod, u8_mod]
/-- The four cells, of which k are laid. -/
def octc (v k : Nat) : Array Value := #[.int .u8 (if 0 < k then (v : Int) / 16777216 else 0), .int .u8 (if 1 < k then (v : Int) / 65536 % 256 else 0), .int .u8 (if 2 < k then (v : Int) / 256 % 256 else 0), .int .u8 (if 3 < k then (v : Int) % 256 else 0)]
set_option maxHeartbeats 2000000 in
theorem put32_calls (v : Nat) (hv : v < 4294967296) (w : World) : Calls Try.prog 52 #[.int .u32 (v : Int)] w fun e w' => e = .returned (.string (oct v)) ∧ Below w.heap.size w w' := by
  go_enter Try.func52, Try.ntmps52
  go_wp2
  go_loopg [4, 5] 4 (fun q a4 i wr => ∃ k : Nat, k ≤ 4 ∧ q = 4 - k ∧ i = .int .i64 k ∧ wr.heap[w.heap.size]? = some (.cells (octc v k) 103 (0, 0)) ∧ Below w.heap.size w wr)
  case atStart => exact ⟨0, by omega, rfl, rfl, alloc_new _ _ _ rfl, (Below.refl _ _).alloc (Nat.le_refl _) _⟩
  case round =>
    obtain ⟨k, hk, hq, rfl, hc, hB⟩ := hrel
    have A := Lib.hid hq; clear hq
    have f0 := fun i => blk_frozen hc i
    by_cases hlt : k < 4
    · have c0 := fun i => blk_cell hc i
      have C := Lib.hid hc
      clear hc
      rcases (show k = 0 ∨ k = 1 ∨ k = 2 ∨ k = 3 by omega) with rfl | rfl | rfl | rfl
      · go_wp2
        go_roundg 3
        case measure => have := A.out; omega
        case rel => exact ⟨1, by omega, rfl, rfl, by rw [blk_set C.out]; rfl, hB.setCell (Nat.le_refl _) _⟩
      · go_wp2
        go_roundg 2
        case measure => have := A.out; omega
        case rel => exact ⟨2, by omega, rfl, rfl, by rw [blk_set C.out]; rfl, hB.setCell (Nat.le_refl _) _⟩
      · go_wp2
        go_roundg 1
        case measure => have := A.out; omega
        case rel => exact ⟨3, by omega, rfl, rfl, by rw [blk_set C.out]; rfl, hB.setCell (Nat.le_refl _) _⟩
      · go_wp2
        go_roundg 0
        case measure => have := A.out; omega
        case rel => exact ⟨4, by omega, rfl, rfl, by rw [blk_set C.out]; rfl, hB.setCell (Nat.le_refl _) _⟩
    · obtain rfl : k = 4 := by omega
      have hcv := run_convert_bytes_arg (P := Try.prog) wr 22 5 Try.underlying22 Try.underlying5 w.heap.size 0 4 4 (octs v) rfl (fun i hi => by
        rw [Nat.zero_add, blk_cell hc]
        match i, hi with
        | 0, _ => rfl
        | 1, _ => rfl
        | 2, _ => rfl
        | 3, _ => rfl) 9 Try.underlying9
      rw [octs_str] at hcv
      have C := Lib.hid hc
      clear hc
      go_wp2

      go_ret
      exact ⟨rfl, hB⟩
theorem own_calls (s : Ech) (hm : s.magic < 4294967296) (B : Nat) (w : World) (h : s.Reads w B) : Calls Try.prog 47 #[.pointer (some ⟨B, 0, none⟩)] w fun e w' => e = .returned (.string (oct s.magic)) ∧ Below w.heap.size w w' := by
  have r4 := h.magic
  go_enter Try.func47, Try.ntmps47
  go_wp2_with (first
    | (go_at_call 52; with_reducible refine (put32_calls _ hm _).mono ?_; rintro e w1 ⟨rfl, hb⟩))
  go_ret
  exact ⟨rfl, hb⟩
end Go.Proofs.Ythenjbonncbniaa
