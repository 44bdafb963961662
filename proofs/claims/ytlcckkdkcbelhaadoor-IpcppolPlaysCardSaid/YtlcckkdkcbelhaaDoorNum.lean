/-
  Layer 15 (ipcppol): numbers as bytes (octet), and which kind an option is, walked.
-/
import Derived.Test.YtlcckkdkcbelhaaDoorFnd
import Derived.Laws.BytesArg
import Derived.Laws.BitsLemmas
import Derived.Laws.Strings
import Derived.Laws.Shifts
set_option linter.unusedVariables false
set_option linter.unusedSimpArgs false
namespace Go.Proofs.YtlcckkdkcbelhaaDoor
open Go.RowKit Go.Proofs.YtlcckkdkcbelhaaDoorW.PrintWords Go.Proofs.YtlcckkdkcbelhaaDoorW.PrintLast

/-- An address's number. -/
def nv (u : UInt32) : Int := (u.toNat : Int)
theorem nv_range (u : UInt32) : 0 ≤ nv u ∧ nv u ≤ 4294967295 := by unfold nv; have := u.toNat_lt; omega
theorem nv_inj {a b : UInt32} (h : nv a = nv b) : a = b := by unfold nv at h; exact UInt32.toNat_inj.1 (by omega)
theorem ni_bool (a b : UInt32) : (nv a == nv b) = decide (a = b) := by
  rw [Bool.eq_iff_iff, beq_iff_eq, decide_eq_true_eq]; exact ⟨nv_inj, fun h => by rw [h]⟩
/-- A number's four bytes, the highest first. -/
def oct (v : UInt32) : ByteArray := ⟨#[UInt8.ofNat (v.toNat / 16777216), UInt8.ofNat (v.toNat / 65536), UInt8.ofNat (v.toNat / 256), UInt8.ofNat v.toNat]⟩
def octs (v : Nat) : List Int := [(v : Int) / 16777216, (v : Int) / 65536 % 256, (v : Int) / 256 % 256, (v : Int) % 256]
theorem u8_mod (n : Nat) : UInt8.ofNat (n % 256) = UInt8.ofNat n := by
  apply UInt8.toNat_inj.1
  simp
theorem octs_str (v : UInt32) : strOfNums (octs v.toNat) = oct v := by
  unfold strOfNums octs oct
  simp only [List.map_cons, List.map_nil, ByteArray.mk.injEq, List.toArray_inj, List.cons.injEq, and_true]
  refine congrArg List.toArray ?_
  have e1 : ((v.toNat : Int) / 16777216).toNat = v.toNat / 16777216 := rfl
  have e2 : ((v.toNat : Int) / 65536 % 256).toNat = v.toNat / 65536 % 256 := rfl
  have e3 : ((v.toNat : Int) / 256 % 256).toNat = v.toNat / 256 % 256 := rfl
  have e4 : ((v.toNat : Int) % 256).toNat = v.toNat % 256 := rfl
  rw [e1, e2, e3, e4, u8_mod, u8_mod, u8_mod]
/-- The four cells, of which k are laid. -/
def octc (v k : Nat) : Array Value := #[.int .u8 (if 0 < k then (v : Int) / 16777216 else 0), .int .u8 (if 1 < k then (v : Int) / 65536 % 256 else 0), .int .u8 (if 2 < k then (v : Int) / 256 % 256 else 0), .int .u8 (if 3 < k then (v : Int) % 256 else 0)]
theorem alloc_new (W : World) (B : Nat) (o : Obj) (h : B = W.heap.size) : (W.alloc o).heap[B]? = some o := by
  subst h
  unfold World.alloc
  simp only
  exact Array.getElem?_push_size
set_option maxHeartbeats 2000000 in
theorem put32_calls (u : UInt32) (w : World) : Calls Tryd.prog 47 #[.int .u32 (nv u)] w fun e w' => e = .returned (.string (oct u)) ∧ Below w.heap.size w w' := by
  have hv := u.toNat_lt
  have hos := octs_str u
  unfold nv
  generalize oct u = ou at *
  generalize u.toNat = v at *
  have Hos := Lib.hid hos; clear hos
  go_enter Tryd.func47, Tryd.ntmps47
  go_wp2
  go_loopg [4, 5] 4 (fun q a4 i wr => ∃ k : Nat, k ≤ 4 ∧ q = 4 - k ∧ i = .int .i64 k ∧ wr.heap[w.heap.size]? = some (.cells (octc v k) 111 (0, 0)) ∧ Below w.heap.size w wr)
  case atStart => exact ⟨0, by omega, rfl, rfl, alloc_new _ _ _ rfl, (Below.refl _ _).alloc (Nat.le_refl _) _⟩
  case round =>
    obtain ⟨k, hk, hq, rfl, hc, hB⟩ := hrel
    have A := Lib.hid hq; clear hq
    have f0 := fun i => blk_frozen hc i
    by_cases hlt : k < 4
    · have c0 := fun i => blk_cell hc i
      have C := Lib.hid hc
      clear hc
      rcases (show k = 0 ∨ k = 1 ∨ k = 2 ∨ k = 3 by omega) with rfl | rfl | rfl | rfl
      · go_wp2
        go_roundg 3
        case measure => have := A.out; omega
        case rel => exact ⟨1, by omega, rfl, rfl, by rw [blk_set C.out]; rfl, hB.setCell (Nat.le_refl _) _⟩
      · go_wp2
        go_roundg 2
        case measure => have := A.out; omega
        case rel => exact ⟨2, by omega, rfl, rfl, by rw [blk_set C.out]; rfl, hB.setCell (Nat.le_refl _) _⟩
      · go_wp2
        go_roundg 1
        case measure => have := A.out; omega
        case rel => exact ⟨3, by omega, rfl, rfl, by rw [blk_set C.out]; rfl, hB.setCell (Nat.le_refl _) _⟩
      · go_wp2
        go_roundg 0
        case measure => have := A.out; omega
        case rel => exact ⟨4, by omega, rfl, rfl, by rw [blk_set C.out]; rfl, hB.setCell (Nat.le_refl _) _⟩
    · obtain rfl : k = 4 := by omega
      have hcv := run_convert_bytes_arg (P := Tryd.prog) wr 92 5 Tryd.underlying92 Tryd.underlying5 w.heap.size 0 4 4 (octs v) rfl (fun i hi => by
        rw [Nat.zero_add, blk_cell hc]
        match i, hi with
        | 0, _ => rfl
        | 1, _ => rfl
        | 2, _ => rfl
        | 3, _ => rfl) 9 Tryd.underlying9
      rw [Hos.out] at hcv
      have C := Lib.hid hc
      clear hc
      go_wp2
      go_ret
      exact ⟨rfl, hB⟩
def valL (l : List UInt8) : Nat := l.foldl (fun v b => v * 256 + b.toNat) 0
def val4 (s : ByteArray) (k : Nat) : Nat := valL (s.data.toList.take k)
theorem valL_snoc (l : List UInt8) (b : UInt8) : valL (l ++ [b]) = valL l * 256 + b.toNat := by simp [valL]
theorem fold_lt : ∀ (l : List UInt8) (v : Nat), l.foldl (fun v b => v * 256 + b.toNat) v < (v + 1) * 256 ^ l.length
  | [], v => by simp
  | b :: l, v => by
    have h := fold_lt l (v * 256 + b.toNat)
    have hb := b.toNat_lt
    simp only [List.foldl_cons, List.length_cons, Nat.pow_succ]
    have h2 : (v * 256 + b.toNat + 1) * 256 ^ l.length ≤ (v + 1) * 256 * 256 ^ l.length := Nat.mul_le_mul_right _ (by omega)
    have h3 : (v + 1) * (256 ^ l.length * 256) = (v + 1) * 256 * 256 ^ l.length := by rw [Nat.mul_comm (256 ^ l.length) 256, Nat.mul_assoc]
    omega
theorem valL_lt (l : List UInt8) : valL l < 256 ^ l.length := by
  have := fold_lt l 0
  unfold valL
  omega
theorem val4_succ (s : ByteArray) (k : Nat) (h : k < s.size) : val4 s (k + 1) = val4 s k * 256 + s[k].toNat := by
  unfold val4
  rw [List.take_succ_eq_append_getElem (by simpa using h), valL_snoc]; rfl
theorem val4_lt (s : ByteArray) (k : Nat) (h : k ≤ 4) : val4 s k < 4294967296 := by
  unfold val4
  have h1 := valL_lt (s.data.toList.take k)
  have h2 : 256 ^ (s.data.toList.take k).length ≤ 256 ^ 4 := Nat.pow_le_pow_right (by decide) (by rw [List.length_take]; omega)
  omega
theorem val4_small (s : ByteArray) (k : Nat) (h : k < 4) : val4 s k < 16777216 := by
  unfold val4
  have h1 := valL_lt (s.data.toList.take k)
  have h2 : 256 ^ (s.data.toList.take k).length ≤ 256 ^ 3 := Nat.pow_le_pow_right (by decide) (by rw [List.length_take]; omega)
  omega
theorem or_step (v : Nat) (b : UInt8) (hv : v < 16777216) : bits .or .u32 ((v : Int) * 256 % 4294967296) ((b.toNat : Int) % 4294967296) = ((v * 256 + b.toNat : Nat) : Int) := by
  have hb := b.toNat_lt
  rw [Int.emod_eq_of_lt (by omega) (by omega), Int.emod_eq_of_lt (by omega) (by omega)]
  rw [bits_join .u32 32 (by decide) (fun n h0 h1 => by rw [IntKind.wrap_u32]; omega) 8 _ _ (by omega) (by omega) (by omega) (by omega) (by omega) (by omega)]
  omega
/-- The number of four bytes. -/
def ad4 (s : ByteArray) : UInt32 := UInt32.ofNat (val4 s 4)
theorem nv_ad4 (s : ByteArray) : nv (ad4 s) = (val4 s 4 : Nat) := by
  unfold nv ad4
  have := val4_lt s 4 (Nat.le_refl _)
  simp
  omega
/-- What Get32 says. -/
def num32 (s : ByteArray) : UInt32 × Int := if s.size < 4 then (0, 6) else if 4 < s.size then (0, 7) else (ad4 s, 0)
set_option maxHeartbeats 1000000 in
theorem number_calls (s : ByteArray) (w : World) :
    Calls Tryd.prog 56 #[.string s, .int .i64 4] w fun e w' => e = .returned (.tuple #[.int .u32 (nv (num32 s).1), .int .i64 (num32 s).2]) ∧ w' = w := by
  unfold num32
  by_cases h1 : s.size < 4
  · rw [if_pos h1]
    have q1 : decide ((s.size : Int) < 4) = true := by simp; omega
    have q1' : decide (s.size < 4) = true := by simp; omega
    go_enter Tryd.func56, Tryd.ntmps56
    go_wp2
    go_ret2
    exact ⟨rfl, rfl⟩
  · rw [if_neg h1]
    have q1 : decide ((s.size : Int) < 4) = false := by simp; omega
    have q1' : decide (s.size < 4) = false := by simp; omega
    by_cases h2 : 4 < s.size
    · rw [if_pos h2]
      have q2 : decide ((4 : Int) < (s.size : Int)) = true := by simp; omega
      have q2' : decide (4 < s.size) = true := by simp; omega
      go_enter Tryd.func56, Tryd.ntmps56
      go_wp2
      go_ret2
      exact ⟨rfl, rfl⟩
    · rw [if_neg h2]
      rw [nv_ad4]
      have hs : s.size = 4 := by omega
      have hst := fun k (h : k < s.size) => Lib.hid (val4_succ s k h)
      have hsm := fun k (h : k < 4) => val4_small s k h
      clear q1 q1' h1 h2
      have q1 : decide ((s.size : Int) < 4) = false := by rw [hs]; rfl
      have q2 : decide ((4 : Int) < (s.size : Int)) = false := by rw [hs]; rfl
      go_enter Tryd.func56, Tryd.ntmps56
      go_wp2
      go_loopg [4, 19] 4 (fun q v i wr => ∃ k : Nat, k ≤ 4 ∧ q = 4 - k ∧ i = .int .i64 (k : Int) ∧ v = .int .u32 (val4 s k : Nat) ∧ wr = w)
      case atStart => exact ⟨0, by omega, rfl, rfl, rfl, rfl⟩
      case round =>
        obtain ⟨k, hk, hq, rfl, rfl, rfl⟩ := hrel
        have A := Lib.hid hq; clear hq
        by_cases hlt : k < 4
        · have h1 : decide ((k : Int) < 4) = true := by simp; omega
          have hks : k < s.size := by omega
          have hn := hst k hks
          have hor := Lib.hid (or_step (val4 s k) s[k] (hsm k hlt))
          go_wp2
          go_roundg (4 - (k + 1))
          case measure => have := A.out; omega
          case rel => exact ⟨k + 1, by omega, rfl, by go_num, by rw [hor.out, hn.out], rfl⟩
        · obtain rfl : k = 4 := by omega
          go_wp2
          go_ret2
          exact ⟨rfl, rfl⟩
theorem get32_calls (s : ByteArray) (w : World) :
    Calls Tryd.prog 46 #[.string s] w fun e w' => e = .returned (.tuple #[.int .u32 (nv (num32 s).1), .int .i64 (num32 s).2]) ∧ w' = w := by
  generalize hp : num32 s = p at *
  have hN := fun w => number_calls s w
  rw [hp] at hN
  clear hp
  go_enter Tryd.func46, Tryd.ntmps46
  go_wp2_with (first
    | (go_at_call 56; with_reducible refine (hN _).mono ?_; rintro e w1 ⟨rfl, h⟩; obtain rfl := h.symm))
  go_ret2
  exact ⟨rfl, rfl⟩
end Go.Proofs.YtlcckkdkcbelhaaDoor
