/-
  Layer 4 (hdlc): fcs's Seal, Good, Open, and hdlc's Frame, may, walked; what a piece is, over lists.
-/
import Derived.Test.YtphoemgnfmlngaaSum
import Derived.Test.YtphoemgnfmlngaaPut
import Derived.Test.YtphoemgnfmlngaaGet
import Derived.Test.YtphoemgnfmlngaaEscKit
import Derived.Test.YtphoemgnfmlngaaWEqStruct
import Derived.Test.YtphoemgnfmlngaaWLast
import Derived.Test.YtphoemgnfmlngaaWMore
import Derived.WalkKit
import Derived.Deep.LoopGhost
import Derived.Deep.OwnRows
import Derived.Deep.CutRange
import Derived.Deep.CutBlock
import Derived.Deep.RegionWith
import Derived.RegionTactic
import Derived.BigQuiet
import Derived.Lib.Hide
import Derived.Below
import Derived.KernelRfl
import Derived.Laws.AppendOwn
import Derived.Laws.Strings
import Derived.Laws.BytesArg
import Derived.Maps.AppendAt
set_option linter.unusedVariables false
set_option linter.unusedSimpArgs false
namespace Go.Proofs.Ytphoemgnfmlngaa
open Go.RowKit Go.Proofs.YtphoemgnfmlngaaW.PrintWords Go.Proofs.YtphoemgnfmlngaaW.PrintLast

/-- A text of bytes. -/
def str (l : List UInt8) : ByteArray := ⟨l.toArray⟩
theorem str_list (l : List UInt8) : (str l).data.toList = l := rfl
theorem str_of (s : ByteArray) : str s.data.toList = s := by cases s; rfl
theorem str_size (l : List UInt8) : (str l).size = l.length := by simp [str, ByteArray.size]
namespace Hd
/-- The two bytes of a sum. -/
def two (l : List UInt8) : List UInt8 := [UInt8.ofNat (Fcs.sum (nats l) % 256), UInt8.ofNat (Fcs.sum (nats l) / 256)]
def sealL (l : List UInt8) : List UInt8 := l ++ two l
def good (l : List UInt8) : Bool := decide (2 ≤ l.length) && decide (Fcs.more 65535 (nats l) = 61624)
def frame (l : List UInt8) (accm : Nat) : List UInt8 := 126 :: (Esc.put accm (sealL l) ++ [126])
end Hd
theorem alloc_new (W : World) (B : Nat) (o : Obj) (h : B = W.heap.size) : (W.alloc o).heap[B]? = some o := by
  subst h
  unfold World.alloc
  simp only
  exact Array.getElem?_push_size
theorem below_drewN {B : Nat} {a w : World} (h : Below B a w) (n : Nat) : Below B a (w.drewN n) := h.trans ⟨rfl, rfl, rfl, Nat.le_refl _, fun _ _ => rfl⟩
theorem two_conv (a b : Int) (ha : 0 ≤ a ∧ a ≤ 255) (hb : 0 ≤ b ∧ b ≤ 255) (W : World) : (convert 24 9 (.slice (some ⟨W.heap.size, 0, none⟩) 2 2)).run Try.prog (W.alloc (.cells #[.int .u8 a, .int .u8 b] 5)) = .ok (.string (strOfNums [a, b])) (W.alloc (.cells #[.int .u8 a, .int .u8 b] 5)) :=
  run_convert_bytes_arg (P := Try.prog) _ 24 5 Try.underlying24 Try.underlying5 W.heap.size 0 2 2 [a, b] rfl (fun i hi => by
    rw [Nat.zero_add, blk_cell (alloc_new W _ _ rfl)]
    match i, hi with
    | 0, _ => rfl
    | 1, _ => rfl) 9 Try.underlying9
theorem str_append (l m : List UInt8) : str l ++ str m = str (l ++ m) := by
  apply ByteArray.ext
  simp [str, ByteArray.data_append]
theorem two_str (a b : Nat) : strOfNums [(a : Int), (b : Int)] = str [UInt8.ofNat a, UInt8.ofNat b] := by
  unfold strOfNums str
  simp
set_option maxRecDepth 100000 in
theorem seal_calls (s : ByteArray) (hs : s.size ≤ 1000000) (w : World) : Calls Try.prog 21 #[.string s] w fun e w' => e = .returned (.string (str (Hd.sealL s.data.toList))) ∧ Below w.heap.size w w' := by
  have hlt := Fcs.sum_lt (nats s.data.toList) (nats_lt _)
  have hcv := two_conv ((Fcs.sum (nats s.data.toList) : Int) % 256) ((Fcs.sum (nats s.data.toList) : Int) / 256) (by omega) (by omega)
  have hS := fun W => sum_calls s (by omega) W
  have hT : strOfNums [(Fcs.sum (nats s.data.toList) : Int) % 256, (Fcs.sum (nats s.data.toList) : Int) / 256] = str (Hd.two s.data.toList) := two_str (Fcs.sum (nats s.data.toList) % 256) (Fcs.sum (nats s.data.toList) / 256)
  have hres : Hid (s ++ str (Hd.two s.data.toList) = str (Hd.sealL s.data.toList)) := Lib.hid (by
    unfold Hd.sealL
    rw [← str_append, str_of])
  have hsz : (str (Hd.two s.data.toList)).size = 2 := rfl
  rw [hT] at hcv
  generalize str (Hd.two s.data.toList) = T at *
  generalize str (Hd.sealL s.data.toList) = R at *
  generalize Fcs.sum (nats s.data.toList) = c at *
  have hf : ¬ 9223372036854775807 < s.size + T.size := by omega
  clear hT hsz
  go_enter Try.func21, Try.ntmps21
  go_wp2_with (first
    | (go_at_call 19; with_reducible refine (hS _).mono ?_; rintro e w1 ⟨rfl, hb1⟩))
  go_ret
  exact ⟨by rw [← hres.out]; rfl, hb1.alloc hb1.size _⟩
set_option maxRecDepth 100000 in
theorem good_calls (s : ByteArray) (hs : s.size ≤ 1000000) (w : World) : Calls Try.prog 23 #[.string s] w fun e w' => e = .returned (.bool (Hd.good s.data.toList)) ∧ Below w.heap.size w w' := by
  have hl : s.data.toList.length = s.size := by rw [Array.length_toList]; rfl
  have hM : ∀ W : World, Calls Try.prog 15 #[.int .u16 65535, .string s] W fun e w' => e = .returned (.int .u16 (Fcs.more 65535 (nats s.data.toList) : Int)) ∧ Below W.heap.size W w' := fun W => more_calls 65535 (by decide) s (by omega) W
  have hres : Hid (Hd.good s.data.toList = (decide (2 ≤ s.size) && decide (Fcs.more 65535 (nats s.data.toList) = 61624))) := Lib.hid (by unfold Hd.good; rw [hl])
  generalize Fcs.more 65535 (nats s.data.toList) = m at *
  have hm : ((m : Int) == 61624) = decide (m = 61624) := by rw [Bool.eq_iff_iff, beq_iff_eq, decide_eq_true_eq]; omega
  have hm' : (m == 61624) = decide (m = 61624) := by rw [Bool.eq_iff_iff, beq_iff_eq, decide_eq_true_eq]
  by_cases h2 : 2 ≤ s.size
  · have q1 : decide ((2 : Int) ≤ (s.size : Int)) = true := by simp; omega
    have q2 : decide (2 ≤ s.size) = true := by simpa using h2
    rw [q2] at hres
    generalize decide (m = 61624) = b at *
    go_enter Try.func23, Try.ntmps23
    go_wp2_with (first
      | (go_at_call 15; with_reducible refine (hM _).mono ?_; rintro e w1 ⟨rfl, hb1⟩))
    go_ret
    exact ⟨by rw [hres.out]; cases b <;> rfl, hb1⟩
  · have q1 : decide ((2 : Int) ≤ (s.size : Int)) = false := by simp; omega
    have q2 : decide (2 ≤ s.size) = false := by simpa using h2
    rw [q2] at hres
    clear h2 hM hm hm' hl
    go_enter Try.func23, Try.ntmps23
    go_wp2
    go_ret
    exact ⟨by rw [hres.out]; rfl, Below.refl _ _⟩
theorem str_take (s : ByteArray) (n : Nat) : s.extract 0 n = str (s.data.toList.take n) := by
  apply ByteArray.ext
  rw [ByteArray.data_extract, ← Array.toArray_toList (xs := s.data.extract 0 n), Array.toList_extract]
  simp [str, List.extract]
set_option maxRecDepth 100000 in
theorem open_calls (s : ByteArray) (hs : s.size ≤ 1000000) (hg : Hd.good s.data.toList = true) (w : World) : Calls Try.prog 16 #[.string s] w fun e w' => e = .returned (.tuple #[.string (str (s.data.toList.take (s.size - 2))), .int .i64 0]) ∧ Below w.heap.size w w' := by
  have hl : s.data.toList.length = s.size := by rw [Array.length_toList]; rfl
  have h2 : 2 ≤ s.size := by
    unfold Hd.good at hg
    simp only [Bool.and_eq_true, decide_eq_true_eq] at hg
    omega
  have hG := fun W => good_calls s hs W
  rw [hg] at hG
  have q1 : decide ((s.size : Int) < 2) = false := by simp; omega
  have q2 : decide (s.size < 2) = false := by simp; omega
  have hR : Hid (str (s.data.toList.take (s.size - 2)) = s.extract 0 (s.size - 2)) := Lib.hid (str_take s _).symm
  go_enter Try.func16, Try.ntmps16
  go_wp2_with (first
    | (go_at_call 23; with_reducible refine (hG _).mono ?_; rintro e w1 ⟨rfl, hb1⟩))
  go_ret2
  rw [hR.out]
  exact ⟨by first | rfl | (simp; done), hb1⟩
set_option maxRecDepth 100000 in
theorem frame_calls (s : ByteArray) (hs : s.size ≤ 900000) (c : Nat) (hc : c < 4294967296) (w : World) : Calls Try.prog 39 #[.string s, .int .u32 c] w fun e w' => e = .returned (.string (str (Hd.frame s.data.toList c))) ∧ Below w.heap.size w w' := by
  have hl : s.data.toList.length = s.size := by rw [Array.length_toList]; rfl
  have hS := fun W => seal_calls s (by omega) W
  have hsl : (Hd.sealL s.data.toList).length = s.size + 2 := by unfold Hd.sealL Hd.two; simp [hl]
  have hP := fun W => put_calls c hc (str (Hd.sealL s.data.toList)) (by rw [str_size, hsl]; omega) W
  have hpl := Esc.put_le c (Hd.sealL s.data.toList)
  rw [str_list] at hP
  have hR : Hid ((⟨#[126]⟩ : ByteArray) ++ str (Esc.put c (Hd.sealL s.data.toList)) ++ (⟨#[126]⟩ : ByteArray) = str (Hd.frame s.data.toList c)) := Lib.hid (by
    rw [show (⟨#[126]⟩ : ByteArray) = str [126] from rfl, str_append, str_append]
    unfold Hd.frame
    simp)
  have hf1 : ¬ 9223372036854775807 < (⟨#[126]⟩ : ByteArray).size + (str (Esc.put c (Hd.sealL s.data.toList))).size := by rw [str_size, show (⟨#[126]⟩ : ByteArray).size = 1 from rfl]; omega
  have hf2 : ¬ 9223372036854775807 < ((⟨#[126]⟩ : ByteArray) ++ str (Esc.put c (Hd.sealL s.data.toList))).size + (⟨#[126]⟩ : ByteArray).size := by
    rw [show (⟨#[126]⟩ : ByteArray) = str [126] from rfl, str_append, str_size, show (str [126]).size = 1 from rfl]
    simp
    omega
  have hP2 : ∀ W : World, Calls Try.prog 31 #[.string (str (Hd.sealL s.data.toList)), .int .u32 c] W fun e w' => e = .returned (.string (str (Esc.put c (Hd.sealL s.data.toList)))) ∧ Below W.heap.size W w' := hP
  clear hP
  generalize str (Esc.put c (Hd.sealL s.data.toList)) = T at *
  generalize str (Hd.sealL s.data.toList) = S at *
  generalize str (Hd.frame s.data.toList c) = R at *
  go_enter Try.func39, Try.ntmps39
  go_wp2_with (first
    | (go_at_call 21; with_reducible refine (hS _).mono ?_; rintro e w1 ⟨rfl, hb1⟩)
    | (go_at_call 31; with_reducible refine (hP2 _).mono ?_; rintro e w2 ⟨rfl, hb2⟩))
  go_ret
  exact ⟨by rw [← hR.out]; rfl, hb1.trans (hb2.mono hb1.size)⟩
theorem may_calls (m : Int) (w : World) : Calls Try.prog 57 #[.int .i64 m] w fun e w' => e = .returned (.bool (decide (2 ≤ m ∧ m ≤ 1508))) ∧ w' = w := by
  by_cases h1 : 2 ≤ m
  · have q1 : decide (2 ≤ m) = true := decide_eq_true h1
    by_cases h2 : m ≤ 1508
    · have q2 : decide (m ≤ 1508) = true := decide_eq_true h2
      rw [decide_eq_true ⟨h1, h2⟩]
      clear h1 h2
      go_enter Try.func57, Try.ntmps57
      go_wp2
      go_ret
      exact ⟨rfl, rfl⟩
    · have q2 : decide (m ≤ 1508) = false := decide_eq_false h2
      rw [decide_eq_false (fun h => h2 h.2)]
      clear h1 h2
      go_enter Try.func57, Try.ntmps57
      go_wp2
      go_ret
      exact ⟨rfl, rfl⟩
  · have q1 : decide (2 ≤ m) = false := decide_eq_false h1
    rw [decide_eq_false (fun h => h1 h.1)]
    clear h1
    go_enter Try.func57, Try.ntmps57
    go_wp2
    go_ret
    exact ⟨rfl, rfl⟩
/-- A receiver. -/
structure Rc where
  g : Nat
  ab : Nat
  lo : Nat
  sh : Nat
  su : Nat
  most : Int
  accm : Nat
  inn : Bool
  p : List UInt8
def Rc.cells (r : Rc) (v : Value) : Array Value := #[.int .i64 (r.g : Int), .int .i64 (r.ab : Int), .int .i64 (r.lo : Int), .int .i64 (r.sh : Int), .int .i64 (r.su : Int), .int .i64 r.most, .int .u32 r.accm, .bool r.inn, v]
/-- A receiver as it lies: the piece is its own row. -/
structure IsRc (w : World) (B b : Nat) (r : Rc) (v : Value) : Prop where
  blk : w.heap[b]? = some (.cells (r.cells v) 78 (0, 0))
  own : w.ownsRow B 5 1 v r.p.length (nums .u8 (ints r.p))
def newR (m : Int) (c : Nat) : Rc := ⟨0, 0, 0, 0, 0, m, c, false, []⟩
set_option maxRecDepth 100000 in
theorem new_good (m : Int) (c : Nat) (h : 2 ≤ m ∧ m ≤ 1508) (w : World) : Calls Try.prog 37 #[.int .i64 m, .int .u32 c] w fun e w' => e = .returned (.tuple #[.pointer (some ⟨w.heap.size, 0, none⟩), .int .i64 0]) ∧ Below w.heap.size w w' ∧ IsRc w' w.heap.size w.heap.size (newR m c) (.slice none 0 0) := by
  have hM := fun W => may_calls m W
  rw [decide_eq_true h] at hM
  go_enter Try.func37, Try.ntmps37
  go_wp2_with (first
    | (go_at_call 57; with_reducible refine (hM _).mono ?_; rintro e w1 ⟨rfl, hw⟩; obtain rfl := hw.symm))
  go_ret2
  exact ⟨rfl, (Below.refl _ _).alloc (Nat.le_refl _) _, alloc_new _ _ _ rfl, World.ownsRow_nil _ _ _ _⟩
set_option maxRecDepth 100000 in
theorem new_bad (m : Int) (c : Nat) (h : ¬ (2 ≤ m ∧ m ≤ 1508)) (w : World) : Calls Try.prog 37 #[.int .i64 m, .int .u32 c] w fun e w' => e = .returned (.tuple #[.pointer none, .int .i64 2]) ∧ Below w.heap.size w w' := by
  have hM := fun W => may_calls m W
  rw [decide_eq_false h] at hM
  go_enter Try.func37, Try.ntmps37
  go_wp2_with (first
    | (go_at_call 57; with_reducible refine (hM _).mono ?_; rintro e w1 ⟨rfl, hw⟩; obtain rfl := hw.symm))
  go_ret2
  exact ⟨rfl, Below.refl _ _⟩
end Go.Proofs.Ytphoemgnfmlngaa
