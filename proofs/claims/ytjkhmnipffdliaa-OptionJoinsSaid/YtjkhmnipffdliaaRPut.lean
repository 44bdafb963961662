/-
  Layer 8 (option): the document's Put, walked.
-/
import Derived.Test.YtjkhmnipffdliaaPut
import Derived.Laws.Concat
import Derived.Laws.BytesArg
set_option linter.unusedVariables false
set_option linter.unusedSimpArgs false
namespace Go.Proofs.Ytjkhmnipffdliaa
open Go.RowKit Go.Proofs.YtjkhmnipffdliaaW.PrintWords Go.Proofs.YtjkhmnipffdliaaW.PrintLast

theorem opt_conv (u : UInt8) (n : Nat) (hn : n ≤ 253) (W : World) : (convert 43 9 (.slice (some ⟨W.heap.size, 0, none⟩) 2 2)).run Try.prog (W.alloc (.cells #[.int .u8 (tv u), .int .u8 (2 + (n : Int))] 5)) = .ok (.string ⟨#[u, UInt8.ofNat (2 + n)]⟩) (W.alloc (.cells #[.int .u8 (tv u), .int .u8 (2 + (n : Int))] 5)) := by
  have := run_convert_bytes_arg (P := Try.prog) (W.alloc (.cells #[.int .u8 (tv u), .int .u8 (2 + (n : Int))] 5)) 43 5 Try.underlying43 Try.underlying5 W.heap.size 0 2 2 [tv u, 2 + (n : Int)] rfl (fun i hi => by
    match i, hi with
    | 0, _ => simp
    | 1, _ => simp) 9 Try.underlying9
  rw [this, show strOfNums [tv u, 2 + (n : Int)] = ⟨#[u, UInt8.ofNat (2 + n)]⟩ from by
    unfold strOfNums
    simp only [List.map_cons, List.map_nil, tv]
    rw [show (2 + (n : Int)).toNat = 2 + n from by omega]
    simp]
theorem enc_next (bs : List UInt8) (o : Opt) : ((⟨bs.toArray⟩ : ByteArray) ++ (⟨#[o.t, UInt8.ofNat (2 + o.d.size)]⟩ : ByteArray)) ++ o.d = ⟨(bs ++ enc1 o).toArray⟩ := by
  apply ByteArray.ext
  simp [ByteArray.data_append, enc1]
set_option maxHeartbeats 2000000 in
set_option maxRecDepth 100000 in
theorem rput_calls (l : List Opt) (a : Option Addr) (c : Nat) (w : World) (h : Row w a c l) (hs : l.length < 1000000) :
    Calls Try.prog 10 #[.slice a l.length c] w fun e w' => e = .returned (putV l) ∧ Below w.heap.size w w' := by
  have c0 := Lib.hid h.1
  have hu32 := Try.underlying32
  unfold putV
  by_cases h64 : 64 < l.length
  · have h1 : decide ((64 : Int) < (l.length : Int)) = true := by simp; omega
    have h2 : decide (64 < l.length) = true := by simp; omega
    rw [put_full h64]
    clear h64
    go_enter Try.func10, Try.ntmps10
    go_wp2
    go_ret2
    exact ⟨rfl, Below.refl _ _⟩
  · have h1 : decide ((64 : Int) < (l.length : Int)) = false := by simp; omega
    have h2 : decide (64 < l.length) = false := by simp; omega
    have h64 : l.length ≤ 64 := by omega
    go_enter Try.func10, Try.ntmps10
    go_wp2
    clear h1 h2
    go_loopg [4, 5] l.length (fun q s i wr => ∃ k : Nat, k ≤ l.length ∧ q = l.length - k ∧ i = .int .i64 (k : Int) ∧ Hid (fits (l.take k) = true) ∧ s = .string ⟨(enc (l.take k)).toArray⟩ ∧ Below w.heap.size w wr)
    case atStart => exact ⟨0, by omega, rfl, rfl, Lib.hid rfl, rfl, Below.refl _ _⟩
    case round =>
      obtain ⟨k, hk, hq, rfl, hfit, rfl, hB⟩ := hrel
      have A := Lib.hid hq; clear hq
      by_cases hlt : k < l.length
      · have h1 : decide ((k : Int) < (l.length : Int)) = true := by simp; omega
        have hlt2 : (k : Int) < (l.length : Int) := by omega
        obtain ⟨x, rfl, x0, x1⟩ := (h.below hB).at_ k hlt
        have hsn : Hid (enc (l.take (k + 1)) = enc (l.take k) ++ enc1 l[k] ∧ fits (l.take (k + 1)) = (fits (l.take k) && decide (l[k].d.size ≤ 253))) := Lib.hid (by
          rw [List.take_succ_eq_append_getElem hlt, enc_snoc, fits_snoc]; exact ⟨rfl, rfl⟩)
        have hnf := Lib.hid (fits_not l k hlt)
        have hel := enc_len (l.take k) hfit.out
        rw [List.length_take, Nat.min_eq_left hk] at hel
        generalize l[k] = o at *
        generalize enc (l.take k) = bs at *
        by_cases hz : o.d.size ≤ 253
        · have h2 : decide ((253 : Int) < (o.d.size : Int)) = false := by simp; omega
          have h2' : decide (253 < o.d.size) = false := by simp; omega
          have h3 : (o.d.size : Int) ≤ 253 := by omega
          have hcv : ∀ W : World, (convert 43 9 (.slice (some ⟨W.heap.size, 0, none⟩) 2 2)).run Try.prog (W.alloc (.cells #[.int .u8 (tv o.t), .int .u8 (2 + (o.d.size : Int))] 5)).drew = .ok (.string ⟨#[o.t, UInt8.ofNat (2 + o.d.size)]⟩) (W.alloc (.cells #[.int .u8 (tv o.t), .int .u8 (2 + (o.d.size : Int))] 5)).drew := fun W => opt_conv o.t o.d.size hz W.drew
          have hw1 : IntKind.i64.wrap (2 + (o.d.size : Int)) = 2 + (o.d.size : Int) := by simp [IntKind.wrap, IntKind.bits, IntKind.signed, Int.bmod]; omega
          have hw2 : IntKind.u8.wrap (2 + (o.d.size : Int)) = 2 + (o.d.size : Int) := by simp [IntKind.wrap, IntKind.bits, IntKind.signed]; omega
          have hnx := Lib.hid (enc_next bs o)
          have hsz1 : ¬ (9223372036854775807 < bs.toArray.size + 2) := by simp; omega
          have hsz2 : ¬ (9223372036854775807 < bs.toArray.size + 2 + o.d.size) := by simp; omega
          have hsa := fun W => run_string_add_sum (P := Try.prog) W ⟨bs.toArray⟩ ⟨#[o.t, UInt8.ofNat (2 + o.d.size)]⟩ (by show bs.toArray.size + 2 ≤ _; omega)
          have hsb := fun W => run_string_add_sum (P := Try.prog) W (⟨bs.toArray⟩ ++ ⟨#[o.t, UInt8.ofNat (2 + o.d.size)]⟩) o.d (by rw [ByteArray.size_append]; show bs.toArray.size + 2 + o.d.size ≤ _; omega)
          clear hsz1 hsz2
          generalize hu : UInt8.ofNat (2 + o.d.size) = u2 at *
          have Hu := Lib.hid hu; clear hu
          go_wp2
          have hBd := below_drew hB
          have x0d : wr.drew.cell? (x.add (k * 2)) = some (.int .u8 (tv o.t)) := x0
          have x1d : wr.drew.cell? ⟨(x.add (k * 2)).block, (x.add (k * 2)).off + 1, none⟩ = some (.string o.d) := x1
          clear x0 x1
          refine start_ (n := 24) (S := fun W' => W'.cell? (x.add (k * 2)) = some (.int .u8 (tv o.t)) ∧ W'.cell? ⟨(x.add (k * 2)).block, (x.add (k * 2)).off + 1, none⟩ = some (.string o.d)) (ds := [22, 23]) (#[false, false, false, false, false, false, false, false, false, false, false, false, false, false, false, false, false, false, false, false, false, false, false, false]) (by kernel_rfl) rfl rfl (⟨x0d, x1d⟩) (fun hS => ?_)
          refine take_ (i := 0) (N := some 22) (v := ?_) (a' := ?_) #[true, false, false, false, false, false, false, false, false, false, false, false, false, false, false, false, false, false, false, false, false, false, false, false] rfl rfl (by kernel_rfl) (fun _ _ _ h => h) (.inl ⟨by rfl, fun w' hS' => ?_⟩) hS ?_ ?_
          rotate_left
          · obtain ⟨x0', x1'⟩ := hS'
            go_simp
            with_reducible rfl
          rotate_left
          · simp only [Act.put, List.setIfInBounds_toArray, List.set_cons_zero, List.set_cons_succ]
            rfl
          refine take_ (i := 1) (N := some 23) (v := ?_) (a' := ?_) #[true, true, false, false, false, false, false, false, false, false, false, false, false, false, false, false, false, false, false, false, false, false, false, false] rfl rfl (by kernel_rfl) (fun _ _ _ h => h) (.inl ⟨by rfl, fun w' hS' => ?_⟩) hS ?_ ?_
          rotate_left
          · obtain ⟨x0', x1'⟩ := hS'
            go_simp
            with_reducible rfl
          rotate_left
          · simp only [Act.put, List.setIfInBounds_toArray, List.set_cons_zero, List.set_cons_succ]
            rfl
          refine take_ (i := 2) (N := some 24) (v := ?_) (a' := ?_) #[true, true, true, false, false, false, false, false, false, false, false, false, false, false, false, false, false, false, false, false, false, false, false, false] rfl rfl (by kernel_rfl) (fun _ _ _ h => h) (.inl ⟨by rfl, fun w' hS' => ?_⟩) hS ?_ ?_
          rotate_left
          · obtain ⟨x0', x1'⟩ := hS'
            go_simp
            with_reducible rfl
          rotate_left
          · simp only [Act.put, List.setIfInBounds_toArray, List.set_cons_zero, List.set_cons_succ]
            rfl
          refine take_ (i := 3) (N := some 25) (v := ?_) (a' := ?_) #[true, true, true, true, false, false, false, false, false, false, false, false, false, false, false, false, false, false, false, false, false, false, false, false] rfl rfl (by kernel_rfl) (fun _ _ _ h => h) (.inl ⟨by rfl, fun w' hS' => ?_⟩) hS ?_ ?_
          rotate_left
          · obtain ⟨x0', x1'⟩ := hS'
            go_simp
            with_reducible rfl
          rotate_left
          · simp only [Act.put, List.setIfInBounds_toArray, List.set_cons_zero, List.set_cons_succ]
            rfl
          refine take_ (i := 4) (N := some 26) (v := ?_) (a' := ?_) #[true, true, true, true, true, false, false, false, false, false, false, false, false, false, false, false, false, false, false, false, false, false, false, false] rfl rfl (by kernel_rfl) (fun _ _ _ h => h) (.inl ⟨by rfl, fun w' hS' => ?_⟩) hS ?_ ?_
          rotate_left
          · obtain ⟨x0', x1'⟩ := hS'
            go_simp
            with_reducible rfl
          rotate_left
          · simp only [Act.put, List.setIfInBounds_toArray, List.set_cons_zero, List.set_cons_succ]
            rfl
          refine take_ (i := 5) (N := some 27) (v := ?_) (a' := ?_) #[true, true, true, true, true, true, false, false, false, false, false, false, false, false, false, false, false, false, false, false, false, false, false, false] rfl rfl (by kernel_rfl) (fun _ _ _ h => h) (.inl ⟨by rfl, fun w' hS' => ?_⟩) hS ?_ ?_
          rotate_left
          · obtain ⟨x0', x1'⟩ := hS'
            go_simp
            with_reducible rfl
          rotate_left
          · simp only [Act.put, List.setIfInBounds_toArray, List.set_cons_zero, List.set_cons_succ]
            rfl
          refine take_ (i := 6) (N := some 28) (v := ?_) (a' := ?_) #[true, true, true, true, true, true, true, false, false, false, false, false, false, false, false, false, false, false, false, false, false, false, false, false] rfl rfl (by kernel_rfl) (fun _ _ _ h => h) (.inl ⟨by rfl, fun w' hS' => ?_⟩) hS ?_ ?_
          rotate_left
          · obtain ⟨x0', x1'⟩ := hS'
            go_simp
            with_reducible rfl
          rotate_left
          · simp only [Act.put, List.setIfInBounds_toArray, List.set_cons_zero, List.set_cons_succ]
            rfl
          refine take_ (i := 7) (N := some 29) (v := ?_) (a' := ?_) #[true, true, true, true, true, true, true, true, false, false, false, false, false, false, false, false, false, false, false, false, false, false, false, false] rfl rfl (by kernel_rfl) (fun _ _ _ h => h) (.inl ⟨by rfl, fun w' hS' => ?_⟩) hS ?_ ?_
          rotate_left
          · obtain ⟨x0', x1'⟩ := hS'
            go_simp
            with_reducible rfl
          rotate_left
          · simp only [Act.put, List.setIfInBounds_toArray, List.set_cons_zero, List.set_cons_succ]
            rfl
          refine take_ (i := 8) (N := some 30) (v := ?_) (a' := ?_) #[true, true, true, true, true, true, true, true, true, false, false, false, false, false, false, false, false, false, false, false, false, false, false, false] rfl rfl (by kernel_rfl) (fun _ _ _ h => h) (.inl ⟨by rfl, fun w' hS' => ?_⟩) hS ?_ ?_
          rotate_left
          · obtain ⟨x0', x1'⟩ := hS'
            go_simp
            with_reducible rfl
          rotate_left
          · simp only [Act.put, List.setIfInBounds_toArray, List.set_cons_zero, List.set_cons_succ]
            rfl
          refine take_ (i := 9) (N := some 31) (v := ?_) (a' := ?_) #[true, true, true, true, true, true, true, true, true, true, false, false, false, false, false, false, false, false, false, false, false, false, false, false] rfl rfl (by kernel_rfl) (fun _ _ _ h => h) (.inl ⟨by rfl, fun w' hS' => ?_⟩) hS ?_ ?_
          rotate_left
          · obtain ⟨x0', x1'⟩ := hS'
            go_simp
            with_reducible rfl
          rotate_left
          · simp only [Act.put, List.setIfInBounds_toArray, List.set_cons_zero, List.set_cons_succ]
            rfl
          refine take_ (i := 10) (N := some 32) (v := ?_) (a' := ?_) #[true, true, true, true, true, true, true, true, true, true, true, false, false, false, false, false, false, false, false, false, false, false, false, false] rfl rfl (by kernel_rfl) (fun _ _ _ h => h) (.inl ⟨by rfl, fun w' hS' => ?_⟩) hS ?_ ?_
          rotate_left
          · obtain ⟨x0', x1'⟩ := hS'
            go_simp
            with_reducible rfl
          rotate_left
          · simp only [Act.put, List.setIfInBounds_toArray, List.set_cons_zero, List.set_cons_succ]
            rfl
          refine take_ (i := 11) (N := some 33) (v := ?_) (a' := ?_) #[true, true, true, true, true, true, true, true, true, true, true, true, false, false, false, false, false, false, false, false, false, false, false, false] rfl rfl (by kernel_rfl) (fun _ _ _ h => h) (.inl ⟨by rfl, fun w' hS' => ?_⟩) hS ?_ ?_
          rotate_left
          · obtain ⟨x0', x1'⟩ := hS'
            go_simp
            with_reducible rfl
          rotate_left
          · simp only [Act.put, List.setIfInBounds_toArray, List.set_cons_zero, List.set_cons_succ]
            rfl
          refine take_ (i := 12) (N := some 34) (v := ?_) (a' := ?_) #[true, true, true, true, true, true, true, true, true, true, true, true, true, false, false, false, false, false, false, false, false, false, false, false] rfl rfl (by kernel_rfl) (fun _ _ _ h => h) (.inl ⟨by rfl, fun w' hS' => ?_⟩) hS ?_ ?_
          rotate_left
          · obtain ⟨x0', x1'⟩ := hS'
            go_simp
            with_reducible rfl
          rotate_left
          · simp only [Act.put, List.setIfInBounds_toArray, List.set_cons_zero, List.set_cons_succ]
            rfl
          refine take_ (i := 13) (N := some 35) (v := ?_) (a' := ?_) #[true, true, true, true, true, true, true, true, true, true, true, true, true, true, false, false, false, false, false, false, false, false, false, false] rfl rfl (by kernel_rfl) (fun _ _ _ h => h) (.inl ⟨by rfl, fun w' hS' => ?_⟩) hS ?_ ?_
          rotate_left
          · obtain ⟨x0', x1'⟩ := hS'
            go_simp
            with_reducible rfl
          rotate_left
          · simp only [Act.put, List.setIfInBounds_toArray, List.set_cons_zero, List.set_cons_succ]
            rfl
          refine take_ (i := 17) (N := some 39) (v := ?_) (a' := ?_) #[true, true, true, true, true, true, true, true, true, true, true, true, true, true, false, false, false, true, false, false, false, false, false, false] rfl rfl (by kernel_rfl) (fun _ _ _ h => h) (.inl ⟨by rfl, fun w' hS' => ?_⟩) hS ?_ ?_
          rotate_left
          · obtain ⟨x0', x1'⟩ := hS'
            go_simp
            with_reducible rfl
          rotate_left
          · simp only [Act.put, List.setIfInBounds_toArray, List.set_cons_zero, List.set_cons_succ]
            rfl
          refine take_ (i := 18) (N := some 40) (v := ?_) (a' := ?_) #[true, true, true, true, true, true, true, true, true, true, true, true, true, true, false, false, false, true, true, false, false, false, false, false] rfl rfl (by kernel_rfl) (fun _ _ _ h => h) (.inl ⟨by rfl, fun w' hS' => ?_⟩) hS ?_ ?_
          rotate_left
          · obtain ⟨x0', x1'⟩ := hS'
            go_simp
            with_reducible rfl
          rotate_left
          · simp only [Act.put, List.setIfInBounds_toArray, List.set_cons_zero, List.set_cons_succ]
            rfl
          refine take_ (i := 19) (N := some 41) (v := ?_) (a' := ?_) #[true, true, true, true, true, true, true, true, true, true, true, true, true, true, false, false, false, true, true, true, false, false, false, false] rfl rfl (by kernel_rfl) (fun _ _ _ h => h) (.inl ⟨by rfl, fun w' hS' => ?_⟩) hS ?_ ?_
          rotate_left
          · obtain ⟨x0', x1'⟩ := hS'
            go_simp
            with_reducible rfl
          rotate_left
          · simp only [Act.put, List.setIfInBounds_toArray, List.set_cons_zero, List.set_cons_succ]
            rfl
          refine take_ (i := 20) (N := some 42) (v := ?_) (a' := ?_) #[true, true, true, true, true, true, true, true, true, true, true, true, true, true, false, false, false, true, true, true, true, false, false, false] rfl rfl (by kernel_rfl) (fun _ _ _ h => h) (.inl ⟨by rfl, fun w' hS' => ?_⟩) hS ?_ ?_
          rotate_left
          · obtain ⟨x0', x1'⟩ := hS'
            go_simp
            with_reducible rfl
          rotate_left
          · simp only [Act.put, List.setIfInBounds_toArray, List.set_cons_zero, List.set_cons_succ]
            rfl
          refine take_ (i := 21) (N := some 43) (v := ?_) (a' := ?_) #[true, true, true, true, true, true, true, true, true, true, true, true, true, true, false, false, false, true, true, true, true, true, false, false] rfl rfl (by kernel_rfl) (fun _ _ _ h => h) (.inl ⟨by rfl, fun w' hS' => ?_⟩) hS ?_ ?_
          rotate_left
          · obtain ⟨x0', x1'⟩ := hS'
            go_simp
            with_reducible rfl
          rotate_left
          · simp only [Act.put, List.setIfInBounds_toArray, List.set_cons_zero, List.set_cons_succ]
            rfl
          refine wpAnyLast_all (rs := [14]) (by kernel_rfl) (by simp) ?_
          intro i hi'
          obtain rfl := List.mem_singleton.1 hi'
          refine wpOp_step rfl (fun K' hK => ?_)
          go_simp
          refine hK _ _ ⟨fun _ h => ⟨(((Below.refl _ _).alloc (Nat.le_refl _) _).cell (cell_lt h.1)).trans h.1, (((Below.refl _ _).alloc (Nat.le_refl _) _).cell (cell_lt h.2)).trans h.2⟩, ?_⟩
          clear hK K'
          simp only [Act.put, List.setIfInBounds_toArray, List.set_cons_zero, List.set_cons_succ]
          refine wpAnyLast_all (rs := [15]) (by kernel_rfl) (by simp) ?_
          intro i hi'
          obtain rfl := List.mem_singleton.1 hi'
          refine wpOp_step rfl (fun K' hK => ?_)
          go_simp
          refine hK _ _ ⟨fun _ h => h, ?_⟩
          clear hK K'
          simp only [Act.put, List.setIfInBounds_toArray, List.set_cons_zero, List.set_cons_succ]
          refine wpAnyLast_all (rs := [16]) (by kernel_rfl) (by simp) ?_
          intro i hi'
          obtain rfl := List.mem_singleton.1 hi'
          refine wpOp_step rfl (fun K' hK => ?_)
          go_simp
          refine hK _ _ ⟨fun _ h => h, ?_⟩
          clear hK K'
          simp only [Act.put, List.setIfInBounds_toArray, List.set_cons_zero, List.set_cons_succ]
          refine wpAnyLast_all (rs := [22]) (by kernel_rfl) (by simp) ?_
          intro i hi'
          obtain rfl := List.mem_singleton.1 hi'
          refine wpOp_step rfl (fun K' hK => ?_)
          go_simp
          refine hK _ _ ⟨fun h => by simp at h, ?_⟩
          clear hK K'
          simp only [Act.put, List.setIfInBounds_toArray, List.set_cons_zero, List.set_cons_succ]
          refine wpAnyLast_all (rs := [23]) (by kernel_rfl) (by simp) ?_
          intro i hi'
          obtain rfl := List.mem_singleton.1 hi'
          refine wpOp_step rfl (fun K' hK => ?_)
          go_simp
          refine hK _ _ ⟨fun h => by simp at h, ?_⟩
          clear hK K'
          simp only [Act.put, List.setIfInBounds_toArray, List.set_cons_zero, List.set_cons_succ]
          refine wpAnyLast_done (by kernel_rfl) ?_ _
          go_wp2
          go_roundg (l.length - (k + 1))
          case measure => have := A.out; omega
          case rel =>
            refine ⟨k + 1, by omega, rfl, by go_num, Lib.hid (by rw [hsn.out.2, hfit.out, decide_eq_true hz]; rfl), ?_, hBd.alloc hBd.size _⟩
            rw [hsn.out.1, ← hnx.out]
        · have h2 : decide ((253 : Int) < (o.d.size : Int)) = true := by simp; omega
          have h2' : decide (253 < o.d.size) = true := by simp; omega
          have hp := Lib.hid (put_arg h64 (hnf.out hz))
          go_wp2
          go_ret2
          exact ⟨by rw [hp.out]; rfl, hB⟩
      · obtain rfl : k = l.length := by omega
        have h1 : decide ((l.length : Int) < (l.length : Int)) = false := by simp
        have hf := hfit.out
        rw [List.take_length] at hf
        simp only [List.take_length]
        by_cases h5 : 1496 < (enc l).length
        · have hp := Lib.hid (put_long h64 hf h5)
          have h6 : decide ((1496 : Int) < ((enc l).toArray.size : Int)) = true := by simp; omega
          have h6' : decide (1496 < (enc l).toArray.size) = true := by simp; omega
          generalize enc l = bs at *
          go_wp2
          go_ret2
          exact ⟨by rw [hp.out]; rfl, hB⟩
        · have hp := Lib.hid (put_ok h64 hf (by omega))
          have h6 : decide ((1496 : Int) < ((enc l).length : Int)) = false := by simp; omega
          have h6' : decide (1496 < (enc l).length) = false := by simp; omega
          have h7 : decide ((1496 : Int) < ((enc l).toArray.size : Int)) = false := by simp; omega
          generalize enc l = bs at *
          go_wp2
          go_ret2
          exact ⟨by rw [hp.out]; rfl, hB⟩
end Go.Proofs.Ytjkhmnipffdliaa
