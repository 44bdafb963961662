/-
  Layer 17 (echo): a script that came in; long, Copy, and what is asked of nothing, walked.
-/
import Derived.Test.YthenjbonncbniaaAlive17
import Derived.Test.YthenjbonncbniaaSteps
set_option linter.unusedVariables false
set_option linter.unusedSimpArgs false
namespace Go.Proofs.Ythenjbonncbniaa
open Go.RowKit Go.Proofs.YthenjbonncbniaaW.PrintWords Go.Proofs.YthenjbonncbniaaW.PrintLast

/-- A step. -/
structure Stp where
  what : Int
  after : Int
  code : Int
  id : Int
  data : ByteArray
  magic : Nat
  hm : magic < 4294967296
  hd : data.size ≤ 140737488355328
def noStp : Stp := ⟨0, 0, 0, 0, ⟨#[]⟩, 0, by decide, by decide⟩
def IsSt (w : World) (a : Option Addr) (len cap : Nat) (f : Nat → Stp) : Prop :=
  (len = 0) ∨ ∃ x, a = some x ∧ len ≤ cap ∧ ∀ i, i < len → w.cell? (x.add (i * 6)) = some (.int .i64 (f i).what) ∧ w.cell? (x.add (i * 6 + 1)) = some (.int .i64 (f i).after) ∧ w.cell? (x.add (i * 6 + 2)) = some (.int .u8 (f i).code) ∧
    w.cell? (x.add (i * 6 + 3)) = some (.int .u8 (f i).id) ∧ w.cell? (x.add (i * 6 + 4)) = some (.string (f i).data) ∧ w.cell? (x.add (i * 6 + 5)) = some (.int .u32 ((f i).magic : Int))
theorem IsSt.at_ {w W : World} {a : Option Addr} {len cap : Nat} {f : Nat → Stp} (h : IsSt w a len cap f) (hb : Below w.heap.size w W) (i : Nat) (hi : i < len) :
    ∃ x, a = some x ∧ W.cell? (x.add (i * 6)) = some (.int .i64 (f i).what) ∧ W.cell? ⟨(x.add (i * 6)).block, (x.add (i * 6)).off + 1, none⟩ = some (.int .i64 (f i).after) ∧ W.cell? ⟨(x.add (i * 6)).block, (x.add (i * 6)).off + 2, none⟩ = some (.int .u8 (f i).code) ∧
      W.cell? ⟨(x.add (i * 6)).block, (x.add (i * 6)).off + 3, none⟩ = some (.int .u8 (f i).id) ∧ W.cell? ⟨(x.add (i * 6)).block, (x.add (i * 6)).off + 4, none⟩ = some (.string (f i).data) ∧ W.cell? ⟨(x.add (i * 6)).block, (x.add (i * 6)).off + 5, none⟩ = some (.int .u32 ((f i).magic : Int)) := by
  rcases h with h0 | ⟨x, rfl, h1, h2⟩
  · omega
  · obtain ⟨c0, c1, c2, c3, c4, c5⟩ := h2 i hi
    rw [add_field x _ 1 (by decide)] at c1
    rw [add_field x _ 2 (by decide)] at c2
    rw [add_field x _ 3 (by decide)] at c3
    rw [add_field x _ 4 (by decide)] at c4
    rw [add_field x _ 5 (by decide)] at c5
    exact ⟨x, rfl, (hb.cell (cell_lt c0)).trans c0, (hb.cell (cell_lt c1)).trans c1, (hb.cell (cell_lt c2)).trans c2, (hb.cell (cell_lt c3)).trans c3, (hb.cell (cell_lt c4)).trans c4, (hb.cell (cell_lt c5)).trans c5⟩
/-- The data of the first k steps, in bytes. -/
def tot (f : Nat → Stp) : Nat → Nat
  | 0 => 0
  | k + 1 => tot f k + (f k).data.size
theorem tot_le (f : Nat → Stp) : ∀ k, tot f k ≤ k * 140737488355328
  | 0 => by simp [tot]
  | k + 1 => by have := tot_le f k; have := (f k).hd; rw [tot]; omega
theorem tot_at (f : Nat → Stp) : ∀ (k i : Nat), i < k → (f i).data.size ≤ tot f k
  | 0, _, h => by omega
  | k + 1, i, h => by
    rw [tot]
    by_cases e : i = k
    · subst e; omega
    · have := tot_at f k i (by omega); omega
set_option maxRecDepth 100000 in
theorem longE_calls (a : Option Addr) (len cap : Nat) (f : Nat → Stp) (w : World) (h : IsSt w a len cap f) :
    Calls Try.prog 26 #[.slice a len cap] w fun e w' => ∃ b, e = .returned (.bool b) ∧ w' = w ∧ (b = false → len ≤ 150 ∧ ∀ i, i < len → (f i).data.size ≤ 8192) := by
  go_enter Try.func26, Try.ntmps26
  go_wp2
  go_loopg [3, 4] (len + 1) (fun q n i wr => ∃ (k : Nat), k ≤ len ∧ k ≤ 200 ∧ q = len + 1 - k ∧ n = .int .i64 ((tot f k : Nat) : Int) ∧ i = .int .i64 (k : Int) ∧ wr = w)
  case atStart => exact ⟨0, by omega, by omega, rfl, rfl, rfl, rfl⟩
  case round =>
    obtain ⟨k, hk, hk2, hq, rfl, rfl, rfl⟩ := hrel
    have A := Lib.hid hq; clear hq
    have hT := Lib.hid (tot_at f k)
    have htl := tot_le f k
    have htn : ((tot f k : Nat) : Int) ≤ 28147497671065600 := by omega
    by_cases hlt : k < len
    · have h1 : decide ((k : Int) < (len : Int)) = true := by simp; omega
      by_cases hl2 : k < 200
      · have h2 : decide ((k : Int) < 200) = true := by simp; omega
        obtain ⟨x, rfl, c0, c1, c2, c3, c4, c5⟩ := h.at_ (Below.refl _ _) k hlt
        have hdz := (f k).hd
        have hdn : (((f k).data.size : Nat) : Int) ≤ 140737488355328 := by omega
        have hnx := Lib.hid (show tot f (k + 1) = tot f k + (f k).data.size from rfl)
        clear htl c0 c1 c2 c3 c5
        generalize tot f k = tk at *
        generalize (f k).data = dk at *
        go_wp2
        go_roundg (len + 1 - (k + 1))
        case measure => have := A.out; omega
        case rel => exact ⟨k + 1, by omega, by omega, rfl, by rw [hnx.out]; rfl, by go_num, rfl⟩
      · obtain rfl : k = 200 := by omega
        have h3 : decide ((150 : Int) < (len : Int)) = true := by simp; omega
        have h3' : decide (150 < len) = true := by simp; omega
        generalize tot f 200 = tk at *
        go_wp2
        go_ret
        exact ⟨true, rfl, rfl, fun e => by cases e⟩
    · obtain rfl : k = len := by omega
      have h1 : decide ((k : Int) < (k : Int)) = false := by simp
      by_cases h4 : 150 < k
      · have h3 : decide ((150 : Int) < (k : Int)) = true := by simp; omega
        have h3' : decide (150 < k) = true := by simp; omega
        generalize tot f k = tk at *
        go_wp2
        go_ret
        exact ⟨true, rfl, rfl, fun e => by cases e⟩
      · have h3 : decide ((150 : Int) < (k : Int)) = false := by simp; omega
        have h3' : decide (150 < k) = false := by simp; omega
        generalize tot f k = tk at *
        by_cases h5 : 8192 < tk
        · have h6 : decide ((8192 : Int) < (tk : Int)) = true := by simp; omega
          have h6' : decide (8192 < tk) = true := by simp; omega
          go_wp2
          go_ret
          exact ⟨true, rfl, rfl, fun e => by cases e⟩
        · have h6 : decide ((8192 : Int) < (tk : Int)) = false := by simp; omega
          have h6' : decide (8192 < tk) = false := by simp; omega
          go_wp2
          go_ret
          exact ⟨false, rfl, rfl, fun _ => ⟨by omega, fun i hi => Nat.le_trans (hT.out i hi) (by omega)⟩⟩
theorem ntick_calls (t : Int) (w : World) : Calls Try.prog 18 #[.pointer none, .int .i64 t] w fun e w' => e = .returned (.tuple #[.slice none 0 0, .int .i64 1]) ∧ w' = w := by
  go_enter Try.func18, Try.ntmps18
  go_wp2
  go_ret2
  exact ⟨rfl, rfl⟩
theorem npkt_calls (code id : Int) (d : ByteArray) (w : World) : Calls Try.prog 21 #[.pointer none, .agg #[.int .u8 code, .int .u8 id, .string d]] w fun e w' => e = .returned (.tuple #[.slice none 0 0, .int .i64 1]) ∧ Below w.heap.size w w' := by
  go_enter Try.func21, Try.ntmps21
  go_wp2
  go_ret2
  exact ⟨rfl, (Below.refl _ _).alloc (Nat.le_refl _) _⟩
theorem nnext_calls (w : World) : Calls Try.prog 20 #[.pointer none] w fun e w' => e = .returned (.tuple #[.int .i64 0, .bool false]) ∧ w' = w := by
  go_enter Try.func20, Try.ntmps20
  go_wp2
  go_ret2
  exact ⟨rfl, rfl⟩
theorem ndead_calls (w : World) : Calls Try.prog 19 #[.pointer none] w fun e w' => e = .returned (.bool false) ∧ w' = w := by
  go_enter Try.func19, Try.ntmps19
  go_wp2
  go_ret
  exact ⟨rfl, rfl⟩
theorem nmissed_calls (w : World) : Calls Try.prog 22 #[.pointer none] w fun e w' => e = .returned (.int .i64 0) ∧ w' = w := by
  go_enter Try.func22, Try.ntmps22
  go_wp2
  go_ret
  exact ⟨rfl, rfl⟩
theorem ncopy_calls (w : World) : Calls Try.prog 27 #[.pointer none] w fun e w' => e = .returned (.pointer none) ∧ w' = w := by
  go_enter Try.func27, Try.ntmps27
  go_wp2
  go_ret
  exact ⟨rfl, rfl⟩
theorem copy_calls (s : Ech) (B : Nat) (w : World) (h : IsEch w B s) : Calls Try.prog 27 #[.pointer (some ⟨B, 0, none⟩)] w fun e w' => e = .returned (.pointer (some ⟨w.heap.size, 0, none⟩)) ∧ Below w.heap.size w w' ∧ IsEch w' w.heap.size s := by
  obtain ⟨r0, r1, r2, r3, r4, r5, r6, r7⟩ := h.reads
  go_enter Try.func27, Try.ntmps27
  go_wp2
  trace_state
  go_ret
  exact ⟨rfl, (Below.refl _ _).alloc (Nat.le_refl _) _, alloc_new _ _ _ rfl⟩
end Go.Proofs.Ythenjbonncbniaa
