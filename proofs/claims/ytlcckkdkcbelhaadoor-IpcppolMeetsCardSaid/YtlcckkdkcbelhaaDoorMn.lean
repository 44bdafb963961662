/-
  Layer 15 (ipcppol): the law's mended, walked.
-/
import Derived.Test.YtlcckkdkcbelhaaDoorPureMeets
set_option linter.unusedVariables false
set_option linter.unusedSimpArgs false
namespace Go.Proofs.YtlcckkdkcbelhaaDoor
open Go.RowKit Go.Proofs.YtlcckkdkcbelhaaDoorW.PrintWords Go.Proofs.YtlcckkdkcbelhaaDoorW.PrintLast

theorem flat_len (z : Int) (x : List Opt) (l : List Opt) : (l.flatMap (mend1 z x)).length ≤ l.length := by
  induction l with
  | nil => simp
  | cons o l ih =>
    rw [List.flatMap_cons, List.length_append, List.length_cons]
    have : (mend1 z x o).length ≤ 1 := by
      unfold mend1
      split
      · simp
      · split <;> simp
    omega
theorem mend1_no {z : Int} {x : List Opt} {o : Opt} (h : (x.filter (hasT o.t)).isEmpty = true) : mend1 z x o = [o] := if_pos h
theorem mend1_3 {x : List Opt} {o : Opt} (h : (x.filter (hasT o.t)).isEmpty = false) : mend1 3 x o = [(x.filter (hasT o.t)).headD noOpt] := by
  unfold mend1
  rw [if_neg (by rw [h]; decide), if_pos rfl]
theorem mend1_4 {x : List Opt} {o : Opt} (h : (x.filter (hasT o.t)).isEmpty = false) : mend1 4 x o = [] := by
  unfold mend1
  rw [if_neg (by rw [h]; decide), if_neg (by decide)]
theorem find_told (u : UInt8) (l : List Opt) (a : Option Addr) (c : Nat) (w : World) (h : Row w a c l) (hs : l.length < 1000000) :
    Calls Tryd.prog 32 #[.int .u8 (tv u), .slice a l.length c] w fun e w' => e = .returned (.tuple #[.agg #[.int .u8 (tv ((l.filter (hasT u)).headD noOpt).t), .string ((l.filter (hasT u)).headD noOpt).d], .bool (!(l.filter (hasT u)).isEmpty)]) ∧ Below w.heap.size w w' := by
  have := rfind_calls u l a c w h hs
  rw [head_told] at this
  exact this
theorem own_add {w2 : World} {B : Nat} {v : Value} {acc : List Opt} {o : Opt} {n : Nat} (hn : n = acc.length + 1) (h : w2.ownsRow B 57 2 v n (optCells acc ++ [.int .u8 (tv o.t), .string o.d])) : w2.ownsRow B 57 2 v (acc ++ [o]).length (optCells (acc ++ [o])) := by
  subst hn
  rw [List.length_append, optCells_snoc]
  exact h
theorem mendL_3 (l x : List Opt) : mendL 3 l x = l.flatMap (mend1 3 x) ++ x.filter (fun o => (l.filter (hasT o.t)).isEmpty) := by unfold mendL; rw [if_pos rfl]
theorem mendL_4 (l x : List Opt) : mendL 4 l x = l.flatMap (mend1 4 x) := by unfold mendL; rw [if_neg (by decide), List.append_nil]
set_option maxRecDepth 100000 in
set_option maxHeartbeats 4000000 in
theorem mended3 (l x : List Opt) (a b : Option Addr) (c d : Nat) (w : World) (hl : Row w a c l) (hx : Row w b d x) (sl : l.length < 1000) (sx : x.length < 1000) :
    Calls Tryd.prog 14 #[.slice a l.length c, .int .u8 3, .slice b x.length d] w fun e w' => ∃ v, e = .returned v ∧ IsRow w' v (mendL 3 l x) ∧ Below w.heap.size w w' := by
  have hu57 := Tryd.underlying57
  have c0 := Lib.hid hl.1
  have d0 := Lib.hid hx.1
  obtain ⟨i0, hi, hz⟩ := Option.map_eq_some_iff.1 info57
  simp only [Prod.mk.injEq] at hz
  obtain ⟨hz0, hz1, hz2⟩ := hz
  go_enter Tryd.func14, Tryd.ntmps14
  go_upto_block 0 with fail
  go_cut [7] from 8 to 14 (fun s7 wx => wx.ownsRow w.heap.size 57 2 s7 (l.flatMap (mend1 3 x)).length (optCells (l.flatMap (mend1 3 x))) ∧ Below w.heap.size w wx)
  case first =>
    go_wp2
    go_loopg [7, 8] l.length (fun q out i wr => ∃ k : Nat, k ≤ l.length ∧ q = l.length - k ∧ i = .int .i64 (k : Int) ∧ wr.ownsRow w.heap.size 57 2 out ((l.take k).flatMap (mend1 3 x)).length (optCells ((l.take k).flatMap (mend1 3 x))) ∧ Below w.heap.size w wr)
    case atStart => exact ⟨0, by omega, rfl, rfl, World.ownsRow_nil _ _ _ _, Below.refl _ _⟩
    case round =>
      obtain ⟨k, hk, hq, rfl, hrow, hB⟩ := hrel
      have A := Lib.hid hq; clear hq
      by_cases hlt : k < l.length
      · have h1 : decide ((k : Int) < (l.length : Int)) = true := by simp; omega
        have hxr := hx.below hB
        obtain ⟨y, rfl, x00, x10⟩ := hl.at_ k hlt
        have x0 := (hB.cell (cell_lt x00)).trans x00
        have x1 := (hB.cell (cell_lt x10)).trans x10
        have hsn : Hid ((l.take (k + 1)).flatMap (mend1 3 x) = (l.take k).flatMap (mend1 3 x) ++ mend1 3 x l[k]) := Lib.hid (by
          rw [List.take_succ_eq_append_getElem hlt, List.flatMap_append, List.flatMap_cons, List.flatMap_nil, List.append_nil])
        have hml := flat_len 3 x (l.take k)
        rw [List.length_take, Nat.min_eq_left hk] at hml
        have m0 : ∀ o, (x.filter (hasT o.t)).isEmpty = true → mend1 3 x o = [o] := fun o h => mend1_no h
        have m1 : ∀ o, (x.filter (hasT o.t)).isEmpty = false → mend1 3 x o = [(x.filter (hasT o.t)).headD noOpt] := fun o h => mend1_3 h
        replace m0 := Lib.hid (m0 l[k])
        replace m1 := Lib.hid (m1 l[k])
        have hcl := optCells_length ((l.take k).flatMap (mend1 3 x))
        generalize l[k] = o at *
        generalize mend1 3 x o = mo at *
        generalize (l.take k).flatMap (mend1 3 x) = acc at *
        have hF := fun W hr => find_told o.t x b d W hr (by omega)
        generalize (x.filter (hasT o.t)).headD noOpt = h0 at *
        generalize (x.filter (hasT o.t)).isEmpty = em at *
        go_upto_region 6 with (first
          | (go_at_call 32; with_reducible refine (hF _ hxr).mono ?_; rintro e w1 ⟨rfl, hb1⟩))
        have hrow1 := own_below hrow hb1
        have B1 := hB.trans (hb1.mono hB.size)
        have hs1 := B1.size
        have hrow2 := hrow1.alloc (.cells #[.int .u8 (tv h0.t), .string h0.d] 57)
        have B2 := B1.alloc hs1 (.cells #[.int .u8 (tv h0.t), .string h0.d] 57)
        have n2 := alloc_new w1 _ (.cells #[.int .u8 (tv h0.t), .string h0.d] 57) rfl
        have c2 := fun i => blk_cell n2 i
        clear hrow1 hb1 n2 hrow B1 hs1
        generalize w1.alloc (.cells #[.int .u8 (tv h0.t), .string h0.d] 57) = w2 at *
        generalize w1.heap.size = G at *
        have hs2 := B2.size
        have z0 := (B2.cell (cell_lt x00)).trans x00
        have z1 := (B2.cell (cell_lt x10)).trans x10
        clear x0 x1 x00 x10 hB
        cases em with
        | true =>
          obtain rfl := m0.out rfl
          clear m0 m1
          go_wp2_with (first
            | (at_builtin; refine wpList_append_own _ rfl _ _ 32 rfl w.heap.size 57 i0 (.agg #[.int .u8 0, .string ⟨#[]⟩]) 2 24 und32 hi hz0 hz1 hz2 rfl (by decide) _ _ _ rfl (hrow2.alloc _) ⟨w2.heap.size, 0, none⟩ 1 1 [.int .u8 (tv o.t), .string o.d] rfl rfl (cell_two _ _ _ _) (by simp [Value.oneCell']) (by unfold maxLen; omega) (by omega) (by simp; omega) ?_; intro v' w3 hown' hgrow _))
          go_roundg (l.length - (k + 1))
          case measure => have := A.out; omega
          case rel =>
            refine ⟨k + 1, by omega, rfl, by go_num, ?_, (B2.alloc hs2 _).grown hgrow (by simp; omega) (own_base hrow2)⟩
            rw [hsn.out]
            exact own_add (by omega) hown'
        | false =>
          obtain rfl := m1.out rfl
          clear m0 m1
          go_wp2_with (first
            | (at_builtin; refine wpList_append_own _ rfl _ _ 32 rfl w.heap.size 57 i0 (.agg #[.int .u8 0, .string ⟨#[]⟩]) 2 24 und32 hi hz0 hz1 hz2 rfl (by decide) _ _ _ rfl (hrow2.alloc _) ⟨w2.heap.size, 0, none⟩ 1 1 [.int .u8 (tv h0.t), .string h0.d] rfl rfl (cell_two _ _ _ _) (by simp [Value.oneCell']) (by unfold maxLen; omega) (by omega) (by simp; omega) ?_; intro v' w3 hown' hgrow _))
          go_roundg (l.length - (k + 1))
          case measure => have := A.out; omega
          case rel =>
            refine ⟨k + 1, by omega, rfl, by go_num, ?_, (B2.alloc hs2 _).grown hgrow (by simp; omega) (own_base hrow2)⟩
            rw [hsn.out]
            exact own_add (by omega) hown'
      · obtain rfl : k = l.length := by omega
        have h1 : decide ((l.length : Int) < (l.length : Int)) = false := by simp
        rw [List.take_length] at hrow
        go_wp2
        go_meet
        exact ⟨hrow, hB⟩
  case rest =>
    obtain ⟨hrow0, hB0⟩ := hcut
    go_wp2
    have H3 := Lib.hid (mendL_3 l x)
    have hA0 := flat_len 3 x l
    generalize l.flatMap (mend1 3 x) = A0 at *
    go_loopg [7, 11] x.length (fun q out i wr => ∃ k : Nat, k ≤ x.length ∧ q = x.length - k ∧ i = .int .i64 (k : Int) ∧ wr.ownsRow w.heap.size 57 2 out (A0 ++ (x.take k).filter (fun o => (l.filter (hasT o.t)).isEmpty)).length (optCells (A0 ++ (x.take k).filter (fun o => (l.filter (hasT o.t)).isEmpty))) ∧ Below w.heap.size w wr)
    case atStart => exact ⟨0, by omega, rfl, rfl, by simpa using hrow0, hB0⟩
    case round =>
      obtain ⟨k, hk, hq, rfl, hrow, hB⟩ := hrel
      have A := Lib.hid hq; clear hq
      by_cases hlt : k < x.length
      · have h1 : decide ((k : Int) < (x.length : Int)) = true := by simp; omega
        have hlr := hl.below hB
        obtain ⟨y, rfl, x00, x10⟩ := hx.at_ k hlt
        have x0 := (hB.cell (cell_lt x00)).trans x00
        have x1 := (hB.cell (cell_lt x10)).trans x10
        have hsn : Hid ((x.take (k + 1)).filter (fun o => (l.filter (hasT o.t)).isEmpty) = (x.take k).filter (fun o => (l.filter (hasT o.t)).isEmpty) ++ (if (l.filter (hasT x[k].t)).isEmpty = true then [x[k]] else [])) := Lib.hid (by
          rw [List.take_succ_eq_append_getElem hlt, filter_snoc])
        have hml := filter_len (fun o => (l.filter (hasT o.t)).isEmpty) x k
        generalize x[k] = o at *
        generalize (x.take k).filter (fun o => (l.filter (hasT o.t)).isEmpty) = acc0 at *
        obtain ⟨acc, hacc⟩ : ∃ acc, A0 ++ acc0 = acc := ⟨_, rfl⟩
        have hal : acc.length ≤ 1000 + k := by rw [← hacc, List.length_append]; omega
        rw [hacc] at hrow
        have hcl := optCells_length acc
        have hF := fun W hr => find_told o.t l a c W hr (by omega)
        generalize (l.filter (hasT o.t)).headD noOpt = h0 at *
        generalize (l.filter (hasT o.t)).isEmpty = em at *
        go_upto_region 14 with (first
          | (go_at_call 32; with_reducible refine (hF _ hlr).mono ?_; rintro e w1 ⟨rfl, hb1⟩))
        have hrow1 := own_below hrow hb1
        have B1 := hB.trans (hb1.mono hB.size)
        have hs1 := B1.size
        have hrow2 := hrow1.alloc (.cells #[.int .u8 (tv h0.t), .string h0.d] 57)
        have B2 := B1.alloc hs1 (.cells #[.int .u8 (tv h0.t), .string h0.d] 57)
        have n2 := alloc_new w1 _ (.cells #[.int .u8 (tv h0.t), .string h0.d] 57) rfl
        have c2 := fun i => blk_cell n2 i
        clear hrow1 hb1 n2 hrow B1 hs1
        generalize w1.alloc (.cells #[.int .u8 (tv h0.t), .string h0.d] 57) = w2 at *
        generalize w1.heap.size = G at *
        have hs2 := B2.size
        have z0 := (B2.cell (cell_lt x00)).trans x00
        have z1 := (B2.cell (cell_lt x10)).trans x10
        clear x0 x1 x00 x10 hB
        cases em with
        | true =>
          go_wp2_with (first
            | (at_builtin; refine wpList_append_own _ rfl _ _ 32 rfl w.heap.size 57 i0 (.agg #[.int .u8 0, .string ⟨#[]⟩]) 2 24 und32 hi hz0 hz1 hz2 rfl (by decide) _ _ _ rfl (hrow2.alloc _) ⟨w2.heap.size, 0, none⟩ 1 1 [.int .u8 (tv o.t), .string o.d] rfl rfl (cell_two _ _ _ _) (by simp [Value.oneCell']) (by unfold maxLen; omega) (by omega) (by simp; omega) ?_; intro v' w3 hown' hgrow _))
          go_roundg (x.length - (k + 1))
          case measure => have := A.out; omega
          case rel =>
            refine ⟨k + 1, by omega, rfl, by go_num, ?_, (B2.alloc hs2 _).grown hgrow (by simp; omega) (own_base hrow2)⟩
            rw [hsn.out, if_pos (by simp), ← List.append_assoc, hacc]
            exact own_add (by omega) hown'
        | false =>
          go_wp2
          go_roundg (x.length - (k + 1))
          case measure => have := A.out; omega
          case rel =>
            refine ⟨k + 1, by omega, rfl, by go_num, ?_, B2⟩
            rw [hsn.out, if_neg (by simp), List.append_nil, hacc]
            exact hrow2
      · obtain rfl : k = x.length := by omega
        have h1 : decide ((x.length : Int) < (x.length : Int)) = false := by simp
        rw [List.take_length] at hrow
        go_wp2
        go_ret
        rw [H3.out]
        exact ⟨_, rfl, row_own hrow, hB⟩
set_option maxRecDepth 100000 in
set_option maxHeartbeats 4000000 in
theorem mended4 (l x : List Opt) (a b : Option Addr) (c d : Nat) (w : World) (hl : Row w a c l) (hx : Row w b d x) (sl : l.length < 1000) (sx : x.length < 1000) :
    Calls Tryd.prog 14 #[.slice a l.length c, .int .u8 4, .slice b x.length d] w fun e w' => ∃ v, e = .returned v ∧ IsRow w' v (mendL 4 l x) ∧ Below w.heap.size w w' := by
  have hu57 := Tryd.underlying57
  have c0 := Lib.hid hl.1
  have d0 := Lib.hid hx.1
  obtain ⟨i0, hi, hz⟩ := Option.map_eq_some_iff.1 info57
  simp only [Prod.mk.injEq] at hz
  obtain ⟨hz0, hz1, hz2⟩ := hz
  go_enter Tryd.func14, Tryd.ntmps14
  go_upto_block 0 with fail
  go_cut [7] from 8 to 14 (fun s7 wx => wx.ownsRow w.heap.size 57 2 s7 (l.flatMap (mend1 4 x)).length (optCells (l.flatMap (mend1 4 x))) ∧ Below w.heap.size w wx)
  case first =>
    go_wp2
    go_loopg [7, 8] l.length (fun q out i wr => ∃ k : Nat, k ≤ l.length ∧ q = l.length - k ∧ i = .int .i64 (k : Int) ∧ wr.ownsRow w.heap.size 57 2 out ((l.take k).flatMap (mend1 4 x)).length (optCells ((l.take k).flatMap (mend1 4 x))) ∧ Below w.heap.size w wr)
    case atStart => exact ⟨0, by omega, rfl, rfl, World.ownsRow_nil _ _ _ _, Below.refl _ _⟩
    case round =>
      obtain ⟨k, hk, hq, rfl, hrow, hB⟩ := hrel
      have A := Lib.hid hq; clear hq
      by_cases hlt : k < l.length
      · have h1 : decide ((k : Int) < (l.length : Int)) = true := by simp; omega
        have hxr := hx.below hB
        obtain ⟨y, rfl, x00, x10⟩ := hl.at_ k hlt
        have x0 := (hB.cell (cell_lt x00)).trans x00
        have x1 := (hB.cell (cell_lt x10)).trans x10
        have hsn : Hid ((l.take (k + 1)).flatMap (mend1 4 x) = (l.take k).flatMap (mend1 4 x) ++ mend1 4 x l[k]) := Lib.hid (by
          rw [List.take_succ_eq_append_getElem hlt, List.flatMap_append, List.flatMap_cons, List.flatMap_nil, List.append_nil])
        have hml := flat_len 4 x (l.take k)
        rw [List.length_take, Nat.min_eq_left hk] at hml
        have m0 : ∀ o, (x.filter (hasT o.t)).isEmpty = true → mend1 4 x o = [o] := fun o h => mend1_no h
        have m1 : ∀ o, (x.filter (hasT o.t)).isEmpty = false → mend1 4 x o = [] := fun o h => mend1_4 h
        replace m0 := Lib.hid (m0 l[k])
        replace m1 := Lib.hid (m1 l[k])
        have hcl := optCells_length ((l.take k).flatMap (mend1 4 x))
        generalize l[k] = o at *
        generalize mend1 4 x o = mo at *
        generalize (l.take k).flatMap (mend1 4 x) = acc at *
        have hF := fun W hr => find_told o.t x b d W hr (by omega)
        generalize (x.filter (hasT o.t)).headD noOpt = h0 at *
        generalize (x.filter (hasT o.t)).isEmpty = em at *
        go_upto_region 6 with (first
          | (go_at_call 32; with_reducible refine (hF _ hxr).mono ?_; rintro e w1 ⟨rfl, hb1⟩))
        have hrow1 := own_below hrow hb1
        have B1 := hB.trans (hb1.mono hB.size)
        have hs1 := B1.size
        have hrow2 := hrow1.alloc (.cells #[.int .u8 (tv h0.t), .string h0.d] 57)
        have B2 := B1.alloc hs1 (.cells #[.int .u8 (tv h0.t), .string h0.d] 57)
        have n2 := alloc_new w1 _ (.cells #[.int .u8 (tv h0.t), .string h0.d] 57) rfl
        have c2 := fun i => blk_cell n2 i
        clear hrow1 hb1 n2 hrow B1 hs1
        generalize w1.alloc (.cells #[.int .u8 (tv h0.t), .string h0.d] 57) = w2 at *
        generalize w1.heap.size = G at *
        have hs2 := B2.size
        have z0 := (B2.cell (cell_lt x00)).trans x00
        have z1 := (B2.cell (cell_lt x10)).trans x10
        clear x0 x1 x00 x10 hB
        cases em with
        | true =>
          obtain rfl := m0.out rfl
          clear m0 m1
          go_wp2_with (first
            | (at_builtin; refine wpList_append_own _ rfl _ _ 32 rfl w.heap.size 57 i0 (.agg #[.int .u8 0, .string ⟨#[]⟩]) 2 24 und32 hi hz0 hz1 hz2 rfl (by decide) _ _ _ rfl (hrow2.alloc _) ⟨w2.heap.size, 0, none⟩ 1 1 [.int .u8 (tv o.t), .string o.d] rfl rfl (cell_two _ _ _ _) (by simp [Value.oneCell']) (by unfold maxLen; omega) (by omega) (by simp; omega) ?_; intro v' w3 hown' hgrow _))
          go_roundg (l.length - (k + 1))
          case measure => have := A.out; omega
          case rel =>
            refine ⟨k + 1, by omega, rfl, by go_num, ?_, (B2.alloc hs2 _).grown hgrow (by simp; omega) (own_base hrow2)⟩
            rw [hsn.out]
            exact own_add (by omega) hown'
        | false =>
          obtain rfl := m1.out rfl
          clear m0 m1
          go_wp2
          go_roundg (l.length - (k + 1))
          case measure => have := A.out; omega
          case rel =>
            refine ⟨k + 1, by omega, rfl, by go_num, ?_, B2⟩
            rw [hsn.out, List.append_nil]
            exact hrow2
      · obtain rfl : k = l.length := by omega
        have h1 : decide ((l.length : Int) < (l.length : Int)) = false := by simp
        rw [List.take_length] at hrow
        go_wp2
        go_meet
        exact ⟨hrow, hB⟩
  case rest =>
    obtain ⟨hrow0, hB0⟩ := hcut
    go_wp2
    go_loopg [7, 11] 1 (fun q out i wr => q = 1 ∧ i = .int .i64 0 ∧ wr.ownsRow w.heap.size 57 2 out (l.flatMap (mend1 4 x)).length (optCells (l.flatMap (mend1 4 x))) ∧ Below w.heap.size w wr)
    case atStart => exact ⟨rfl, rfl, hrow0, hB0⟩
    case round =>
      obtain ⟨hq, rfl, hrow, hB⟩ := hrel
      rcases Nat.eq_zero_or_pos x.length with h0 | h0
      · have h1 : decide ((0 : Int) < (x.length : Int)) = false := by rw [h0]; rfl
        have h2 : decide (0 < x.length) = false := by rw [h0]; rfl
        go_wp2
        go_ret
        rw [mendL_4]
        exact ⟨_, rfl, row_own hrow, hB⟩
      · have h1 : decide ((0 : Int) < (x.length : Int)) = true := by simp; omega
        have h2 : decide (0 < x.length) = true := by simp; omega
        go_wp2
        go_ret
        rw [mendL_4]
        exact ⟨_, rfl, row_own hrow, hB⟩
end Go.Proofs.YtlcckkdkcbelhaaDoor
