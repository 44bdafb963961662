/-
  Layer 8 (option): the law OptionParts, walked.
-/
import Derived.Test.YtjkhmnipffdliaaLng
import Derived.Test.YtjkhmnipffdliaaAlive
set_option linter.unusedVariables false
set_option linter.unusedSimpArgs false
namespace Go.Proofs.Ytjkhmnipffdliaa
open Go.RowKit Go.Proofs.YtjkhmnipffdliaaW.PrintWords Go.Proofs.YtjkhmnipffdliaaW.PrintLast

theorem head_told (f : List Opt) : headV f = .tuple #[.agg #[.int .u8 (tv (f.headD noOpt).t), .string (f.headD noOpt).d], .bool (!f.isEmpty)] := by
  cases f with
  | nil => rfl
  | cons o f => rfl
theorem split_at (l : List Opt) (j : Nat) (hj : j < l.length) (p : Opt → Bool) : l.filter p = (l.take j).filter p ++ ((if p l[j] = true then [l[j]] else []) ++ (l.drop (j + 1)).filter p) := by
  rw [← List.append_assoc, ← filter_snoc, ← List.take_succ_eq_append_getElem hj, ← List.filter_append, List.take_append_drop]
theorem first_is (l : List Opt) (u : UInt8) (j : Nat) (hj : j < l.length) (h1 : hasT u l[j] = true) (h2 : ((l.take j).filter (hasT u)).isEmpty = true) : (!(l.filter (hasT u)).isEmpty) = true ∧ (l.filter (hasT u)).headD noOpt = l[j] := by
  rw [split_at l j hj, if_pos h1, List.isEmpty_iff.1 h2]
  simp
theorem kept_is (l : List Opt) (u : UInt8) (j : Nat) (hj : j < l.length) (h1 : notT u l[j] = true) : ∃ hk : ((l.take j).filter (notT u)).length < (l.filter (notT u)).length, (l.filter (notT u))[((l.take j).filter (notT u)).length] = l[j] := by
  have e := split_at l j hj (notT u)
  rw [if_pos h1] at e
  have hk : ((l.take j).filter (notT u)).length < (l.filter (notT u)).length := by rw [e]; simp
  refine ⟨hk, ?_⟩
  have : (l.filter (notT u))[((l.take j).filter (notT u)).length]? = some l[j] := by
    rw [e, List.getElem?_append_right (Nat.le_refl _)]
    simp
  rw [List.getElem?_eq_getElem hk] at this
  exact Option.some.inj this
theorem parts_short (l : List Opt) (u : UInt8) (a : Option Addr) (c : Nat) (w : World) (hl : Row w a c l) (zl : ∀ o ∈ l, o.d.size ≤ 140737488355328) (h1 : longB l = true) :
    Calls Try.prog 6 #[.slice a l.length c, .int .u8 (tv u)] w fun e w' => e = .returned (.bool true) ∧ Below w.heap.size w w' := by
  go_enter Try.func6, Try.ntmps6
  go_wp2_with (first
    | (go_at_call 7; with_reducible refine (long_det l a c _ hl zl).mono ?_; rintro e w1 ⟨rfl, hw⟩; obtain rfl := hw.symm; rw [h1])
    | (go_at_call 8; with_reducible refine (alive_calls _).mono ?_; rintro e w1 ⟨rfl, hb1⟩))
  go_ret
  exact ⟨rfl, hb1⟩
attribute [local go_sem high] eqA32
set_option maxRecDepth 100000 in
set_option maxHeartbeats 4000000 in
theorem parts_long (l : List Opt) (u : UInt8) (a : Option Addr) (c : Nat) (w : World) (hl : Row w a c l) (zl : ∀ o ∈ l, o.d.size ≤ 140737488355328) (h1 : longB l = false) :
    Calls Try.prog 6 #[.slice a l.length c, .int .u8 (tv u)] w fun e w' => e = .returned (.bool true) ∧ Below w.heap.size w w' := by
  have hu32 := Try.underlying32
  have c0 := Lib.hid hl.1
  obtain ⟨l70, _⟩ := longB_spec h1
  have hls : l.length < 1000000 := by omega
  have hF : ∀ (a : Option Addr) (c : Nat) (w : World), Row w a c l → Calls Try.prog 13 #[.int .u8 (tv u), .slice a l.length c] w fun e w' => e = .returned (headV (l.filter (hasT u))) ∧ Below w.heap.size w w' := fun a c w h => find_calls u l a c w h hls
  rw [head_told] at hF
  have hW : ∀ (a : Option Addr) (c : Nat) (w : World), Row w a c l → Calls Try.prog 16 #[.int .u8 (tv u), .slice a l.length c] w fun e w' => ∃ v, e = .returned v ∧ IsRow w' v (l.filter (notT u)) ∧ Below w.heap.size w w' := fun a c w h => without_calls u l a c w h hls
  have hfl : (l.filter (notT u)).length ≤ l.length := List.length_filter_le (notT u) l
  have PF := Lib.hid (first_is l u)
  have PN := Lib.hid (kept_is l u)
  have PE : Hid ((((l.take l.length).filter (notT u)).length = (l.filter (notT u)).length) ∧ ((!(l.filter (hasT u)).isEmpty) = !((l.take l.length).filter (hasT u)).isEmpty)) := Lib.hid (by rw [List.take_length]; exact ⟨rfl, rfl⟩)
  generalize l.filter (notT u) = f at *
  generalize (l.filter (hasT u)).headD noOpt = h0 at *
  generalize (!(l.filter (hasT u)).isEmpty) = isb at *
  go_enter Try.func6, Try.ntmps6
  go_wp2_with (first
    | (go_at_call 7; with_reducible refine (long_det l a c _ hl zl).mono ?_; rintro e w1 ⟨rfl, hw⟩; obtain rfl := hw.symm; rw [h1])
    | (go_at_call 16; with_reducible refine (hW _ _ _ hl).mono ?_; rintro e w1 ⟨v1, rfl, hx, B1⟩
       obtain ⟨fa, fc, rfl, f1⟩ := hx)
    | (go_at_call 13; with_reducible refine (hF _ _ _ (hl.below B1)).mono ?_; rintro e w2 ⟨rfl, hb2⟩
       have B2 := B1.trans (hb2.mono B1.size)
       have f2 := f1.below hb2
       clear hb2 f1 B1))
  have B3 := B2.alloc B2.size (.cells #[.int .u8 (tv h0.t), .string h0.d] 32)
  have f3 := f2.below ((Below.refl w2.heap.size w2).alloc (Nat.le_refl _) (.cells #[.int .u8 (tv h0.t), .string h0.d] 32))
  have n3 := heap_alloc_new w2 (.cells #[.int .u8 (tv h0.t), .string h0.d] 32)
  have hG : w2.heap.size < (w2.alloc (.cells #[.int .u8 (tv h0.t), .string h0.d] 32)).heap.size := by simp
  generalize w2.alloc (.cells #[.int .u8 (tv h0.t), .string h0.d] 32) = w3 at *
  generalize w2.heap.size = G at *
  clear hF hW f2 B2 h1 zl
  have fc0 := Lib.hid f3.1
  have e0 : w3.cell? ⟨G, 0, none⟩ = some (.int .u8 (tv h0.t)) := by rw [Lib.cell_of_heap n3]; rfl
  have e1 : w3.cell? ⟨G, 1, none⟩ = some (.string h0.d) := by rw [Lib.cell_of_heap n3]; rfl
  go_loopg [8, 9, 10] l.length (fun q k fi i wr => ∃ j : Nat, j ≤ l.length ∧ q = l.length - j ∧ k = .int .i64 (((l.take j).filter (notT u)).length : Int) ∧ fi = .bool ((l.take j).filter (hasT u)).isEmpty ∧ i = .int .i64 (j : Int) ∧ ∃ n, wr = w3.drewN n)
  case atStart => exact ⟨0, by omega, rfl, rfl, rfl, rfl, 0, rfl⟩
  case round =>
    obtain ⟨j, hj, hq, rfl, rfl, rfl, n, rfl⟩ := hrel
    have A := Lib.hid hq; clear hq
    have hl' := hl.below B3
    have f' := f3
    by_cases hlt : j < l.length
    · have q1 : decide ((j : Int) < (l.length : Int)) = true := by simp; omega
      obtain ⟨x, rfl, x0, x1⟩ := hl'.at_ j hlt
      have hsH : Hid ((l.take (j + 1)).filter (hasT u) = (l.take j).filter (hasT u) ++ (if hasT u l[j] = true then [l[j]] else [])) := Lib.hid (by
        rw [List.take_succ_eq_append_getElem hlt, filter_snoc])
      have hsN : Hid ((l.take (j + 1)).filter (notT u) = (l.take j).filter (notT u) ++ (if notT u l[j] = true then [l[j]] else [])) := Lib.hid (by
        rw [List.take_succ_eq_append_getElem hlt, filter_snoc])
      have pf := Lib.hid (PF.out j hlt)
      have pn := Lib.hid (PN.out j hlt)
      generalize l[j] = o at *
      have d0 := e0
      have d1 := e1
      have hkl : ((l.take j).filter (notT u)).length ≤ j := by have := List.length_filter_le (notT u) (l.take j); rw [List.length_take] at this; omega
      generalize hfb : ((l.take j).filter (hasT u)).isEmpty = fb at *
      generalize hkk : ((l.take j).filter (notT u)).length = k at *
      have Hfb := Lib.hid hfb; clear hfb
      have Hkk := Lib.hid hkk; clear hkk
      by_cases ht : o.t = u
      · subst ht
        have hhas : hasT o.t o = true := by simp [hasT]
        have hnot : notT o.t o = false := by simp [notT]
        cases fb with
        | true =>
          obtain ⟨e3, e4⟩ := pf.out hhas rfl
          subst e3 e4
          go_wp2
          go_quiet (fail)
          go_wp2
          go_roundg (l.length - (j + 1))
          case measure => have := A.out; omega
          case rel =>
            refine ⟨j + 1, by omega, rfl, ?_, ?_, by go_num, n + nq, rfl⟩
            · rw [hsN.out, if_neg (by rw [hnot]; decide), List.append_nil, Hkk.out]
            · rw [hsH.out, if_pos hhas]; simp
        | false =>
          go_wp2
          go_quiet (fail)
          go_wp2
          go_roundg (l.length - (j + 1))
          case measure => have := A.out; omega
          case rel =>
            refine ⟨j + 1, by omega, rfl, ?_, ?_, by go_num, n + nq, rfl⟩
            · rw [hsN.out, if_neg (by rw [hnot]; decide), List.append_nil, Hkk.out]
            · rw [hsH.out, if_pos hhas]; simp
      · have hhas : hasT u o = false := by simp [hasT, ht]
        have hnot : notT u o = true := by simp [notT, ht]
        have e2 : (tv o.t == tv u) = false := by rw [ti_bool, decide_eq_false ht]
        obtain ⟨hk, hfk⟩ := pn.out hnot
        obtain ⟨y, rfl, y0, y1⟩ := f'.at_ k hk
        rw [hfk] at y0 y1
        have q2 : decide ((f.length : Int) ≤ (k : Int)) = false := by simp; omega
        have q3 : decide (f.length ≤ k) = false := by simp; omega
        have ho := differ_bool o o
        rw [decide_eq_true (Eq.refl o)] at ho
        clear hl' f' hfk pf pn d0 d1
        have Hh := Lib.hid hhas; clear hhas
        have Hn := Lib.hid hnot; clear hnot
        clear ht
        generalize hz1 : tv o.t = z1 at *
        generalize hz2 : tv u = z2 at *
        have Hz1 := Lib.hid hz1; clear hz1
        have Hz2 := Lib.hid hz2; clear hz2
        go_wp2
        go_quiet (fail)
        go_wp2
        go_roundg (l.length - (j + 1))
        case measure => have := A.out; omega
        case rel =>
          refine ⟨j + 1, by omega, rfl, ?_, ?_, by go_num, n + nq, rfl⟩
          · rw [hsN.out, if_pos Hn.out, List.length_append, Hkk.out]; go_num
          · rw [hsH.out, if_neg (by rw [Hh.out]; decide), List.append_nil, Hfb.out]
    · obtain rfl : j = l.length := by omega
      have q1 : decide ((l.length : Int) < (l.length : Int)) = false := by simp
      have hE1 := PE.out.1
      have hE2 := PE.out.2
      rw [hE1]
      generalize ((l.take l.length).filter (hasT u)).isEmpty = fb at *
      subst hE2
      have B4 := below_drewN B3 n
      go_wp2_with (first
        | (go_at_call 8; with_reducible refine (alive_calls _).mono ?_; rintro e w7 ⟨rfl, hb7⟩
           have B7 := B4.trans (hb7.mono B4.size)))
      go_ret
      exact ⟨rfl, B7⟩
theorem parts_walk (l : List Opt) (u : UInt8) (a : Option Addr) (c : Nat) (w : World) (hl : Row w a c l) (zl : ∀ o ∈ l, o.d.size ≤ 140737488355328) :
    Calls Try.prog 6 #[.slice a l.length c, .int .u8 (tv u)] w fun e w' => e = .returned (.bool true) ∧ Below w.heap.size w w' := by
  cases h1 : longB l with
  | true => exact parts_short l u a c w hl zl h1
  | false => exact parts_long l u a c w hl zl h1
end Go.Proofs.Ytjkhmnipffdliaa
