/-
  Layer 25 (table): the law TableBoth, walked.
-/
import Derived.Test.YthenjbonncbniaaSteps
import Derived.BigQuiet
import Derived.Deep.CutRange
import Derived.Deep.CutBlock
set_option linter.unusedVariables false
set_option linter.unusedSimpArgs false
namespace Go.Proofs.Ythenjbonncbniaa
open Go.RowKit Go.Proofs.YthenjbonncbniaaW.PrintWords Go.Proofs.YthenjbonncbniaaW.PrintLast

/-- What is known of a row that List handed over. -/
def IsList (W : World) (a : Option Addr) (l : List (Nat × ByteArray)) : Prop :=
  ∀ j p, l[j]? = some p → ∃ g, a = some ⟨g, 0, none⟩ ∧ W.cell? ⟨g, 2 * j, none⟩ = some (.int .i64 (p.1 : Int)) ∧ W.cell? ⟨g, 2 * j + 1, none⟩ = some (.string p.2)
theorem IsList.below {W w : World} {a : Option Addr} {l : List (Nat × ByteArray)} (h : IsList W a l) (hb : Below W.heap.size W w) : IsList w a l := fun j p hp => by
  obtain ⟨g, ha, h1, h2⟩ := h j p hp
  exact ⟨g, ha, (hb.cell (cell_lt h1)).trans h1, (hb.cell (cell_lt h2)).trans h2⟩
theorem add_zero' (g j : Nat) : (⟨g, 0, none⟩ : Addr).add j = ⟨g, j, none⟩ := by unfold Addr.add; split <;> simp_all
theorem IsTab.drewN {W : World} {B : Nat} {s : Tab} (h : IsTab W B s) (n : Nat) : IsTab (W.drewN n) B s := h
theorem below_drewN {B : Nat} {a w : World} (h : Below B a w) (n : Nat) : Below B a (w.drewN n) := h.trans ⟨rfl, rfl, rfl, Nat.le_refl _, fun _ _ => rfl⟩
theorem list_ents (s : Tab) (hw : s.Wf) (B : Nat) (w : World) (h : IsTab w B s) :
    Calls Try.prog 15 #[.pointer (some ⟨B, 0, none⟩)] w fun e w' => (∃ a cap, e = .returned (.slice a s.cnt cap) ∧ s.cnt ≤ cap ∧ IsList w' a (ent (s.ns.take s.n) 0)) ∧ Below w.heap.size w w' := by
  refine (list_calls s hw B w h).mono ?_
  rintro e w' ⟨v, rfl, hown, hb⟩
  rw [bound_len, show 2 * cnt (s.ns.take s.n) / 2 = s.cnt from by unfold Tab.cnt; omega] at hown
  refine ⟨?_, hb⟩
  have hc := hown
  rcases hown.2 with ⟨rfl, h0⟩ | ⟨g, cap, cur, rfl, hg, hh, hnc, _⟩
  · refine ⟨none, 0, by rw [h0], by omega, fun j p hp => ?_⟩
    have := (List.getElem?_eq_some_iff.1 hp).1
    rw [ent_len] at this
    unfold Tab.cnt at h0
    omega
  · refine ⟨_, _, rfl, hnc, fun j p hp => ⟨g, rfl, ?_, ?_⟩⟩
    · have := hc.cells (g := g) rfl (2 * j) _ (bound_at _ 0 j p hp).1
      rwa [add_zero'] at this
    · have := hc.cells (g := g) rfl (2 * j + 1) _ (bound_at _ 0 j p hp).2
      rwa [add_zero'] at this
set_option maxHeartbeats 8000000 in
set_option maxRecDepth 100000 in
theorem both_walk (n : Nat) (hn : n < 256) (a1 : Option Addr) (len cap : Nat) (f : Nat → Int × Int × ByteArray) (w : World) (hS : IsSteps w a1 len cap f) :
    Calls Try.prog 6 #[.int .u8 (n : Int), .slice a1 len cap] w fun e w' => e = .returned (.bool true) ∧ Below w.heap.size w w' := by
  obtain ⟨m, hm⟩ : ∃ m : Nat, 1 + (n : Int) % 64 = (m : Int) := ⟨1 + n % 64, by omega⟩
  have hm1 : 1 ≤ m ∧ m ≤ 64 := by omega
  have hN := new_good m hm1.1 hm1.2
  have hz : w.heap.size ≤ w.heap.size := Nat.le_refl _
  go_enter Try.func6, Try.ntmps6
  go_upto_if 24 with (first
    | (go_at_call 23; with_reducible refine (long_calls a1 len cap f _ hS).mono ?_; rintro e w1 ⟨b, rfl, rfl, hb⟩))
  cases b with
  | true =>
    go_wp2_with (first
      | (go_at_call 10; with_reducible refine (alive_calls _).mono ?_; rintro e w2 ⟨rfl, hb2⟩))
    go_ret
    exact ⟨rfl, hb2⟩
  | false =>
    have hl := hb rfl
    clear hb
    go_wp2_with (first
      | (go_at_call 9; with_reducible refine (hN _).mono ?_; rintro e w1' ⟨rfl, hb1, ht1⟩))
    clear hN
    go_loopg [8, 9, 10, 11, 12, 13, 14, 15, 16, 17, 18, 19, 20, 21, 22] len (fun q i a9 a10 a11 a12 a13 a14 a15 a16 a17 a18 a19 a20 a21 a22 wr => ∃ (j : Nat) (s : Tab), j ≤ len ∧ q = len - j ∧ i = .int .i64 j ∧ s.Ok j ∧ s.Inv ∧ s.n = m ∧ IsTab wr w1.heap.size s ∧ Below w1.heap.size w1 wr)
    case atStart => exact ⟨0, newT m, by omega, rfl, rfl, newT_ok m hm1.1 hm1.2, newT_inv m, rfl, ht1, hb1⟩
    case round =>
      clear ht1 hb1
      obtain ⟨j, s, hj, hq, rfl, ho, hi, hsn, ht, hB⟩ := hrel
      have A := Lib.hid hq; clear hq
      by_cases hlt : j < len
      · have h1 : decide ((j : Int) < (len : Int)) = true := by simp; omega
        obtain ⟨x, rfl, c0, c1, c2⟩ := hS.at_ hB j hlt
        generalize (f j).1 = d at *
        generalize (f j).2.1 = k at *
        generalize (f j).2.2 = y at *
        go_upto_block 2 with fail
        have htA := ht.alloc (.cells #[.int .i64 d, .int .i64 k, .string y] 56)
        have hBA := hB.alloc hB.size (.cells #[.int .i64 d, .int .i64 k, .string y] 56)
        have hnew := heap_alloc_new wr (.cells #[.int .i64 d, .int .i64 k, .string y] 56)
        have e1 := blk_cell hnew 1
        have e2 := blk_cell hnew 2
        clear hnew c0 c1 c2 ht hB
        generalize wr.alloc (.cells #[.int .i64 d, .int .i64 k, .string y] 56) = W at *
        have hcn : s.cnt ≤ 64 := by have := cnt_le (s.ns.take s.n); rw [List.length_take] at this; have := ho.n64; unfold Tab.cnt; omega
        go_cut [10] from 41 to 181 (fun s10 wx => ∃ s' : Tab, s'.Ok (j + 1) ∧ s'.Inv ∧ s'.n = m ∧ IsTab wx w1.heap.size s' ∧ Below w1.heap.size w1 wx)
        case first =>
          by_cases d0 : d = 0
          · subst d0
            have hob := ok_bindR ho k y
            have hib := hi.bindR ho k y
            have hnb := Tab.bindR_n s k y
            have hcb := Tab.cnt_bindR ho k y
            have hbc := fun w1' h => bind_all s (ho.wf (by omega)) w1.heap.size k y w1' h
            generalize s.bindR k y = p at *
            obtain ⟨r, s'⟩ := p
            simp only at hob hib hnb hcb hbc
            by_cases r0 : r = 0
            · subst r0
              have hcc := hcb rfl
              clear hcb
              go_wp2_with (first
                | (go_at_call 15; with_reducible refine (list_ents s (ho.wf (by omega)) w1.heap.size _ htA).mono ?_; rintro e w3 ⟨⟨la, lc, rfl, hlc, hlist⟩, hb3⟩
                   have ht3 := htA.below hb3
                   have e1 : w3.cell? _ = _ := (hb3.cell (cell_lt e1)).trans e1
                   have e2 : w3.cell? _ = _ := (hb3.cell (cell_lt e2)).trans e2)
                | (go_at_call 12; with_reducible refine (hbc _ ht3).mono ?_; rintro e w4 ⟨rfl, hb4, ht4⟩)
                | (go_at_call 15; with_reducible refine (list_ents s' (hob.wf (by omega)) w1.heap.size _ ht4).mono ?_; rw [hcc]; rintro e w5 ⟨⟨la5, lc5, rfl, hlc5, hlist5⟩, hb5⟩))
              have k4 := hb4.below (hBA.trans (hb3.mono hBA.size)) (Nat.le_refl _) (hBA.trans (hb3.mono hBA.size)).size
              go_meet
              exact ⟨s', hob, hib, hnb.trans hsn, ht4.below hb5, k4.trans (hb5.mono k4.size)⟩
            · have g0 : (r == 0) = false := by simpa using r0
              clear hcb
              go_wp2_with (first
                | (go_at_call 15; with_reducible refine (list_ents s (ho.wf (by omega)) w1.heap.size _ htA).mono ?_; rintro e w3 ⟨⟨la, lc, rfl, hlc, hlist⟩, hb3⟩
                   have ht3 := htA.below hb3
                   have e1 : w3.cell? _ = _ := (hb3.cell (cell_lt e1)).trans e1
                   have e2 : w3.cell? _ = _ := (hb3.cell (cell_lt e2)).trans e2)
                | (go_at_call 12; with_reducible refine (hbc _ ht3).mono ?_; rintro e w4 ⟨rfl, hb4, ht4⟩))
              have k4 := hb4.below (hBA.trans (hb3.mono hBA.size)) (Nat.le_refl _) (hBA.trans (hb3.mono hBA.size)).size
              go_meet
              exact ⟨s', hob, hib, hnb.trans hsn, ht4, k4⟩
          · have f0 : (d == 0) = false := by simpa using d0
            by_cases d1 : d = 1
            · subst d1
              have hob := ok_unbindR ho k
              have hib := hi.unbindR ho k
              have hnb := Tab.unbindR_n s k
              have hbc := fun w1' h => unbind_all s (ho.wf (by omega)) w1.heap.size k w1' h
              generalize s.unbindR k = p at *
              obtain ⟨r, s'⟩ := p
              simp only at hob hib hnb hbc
              go_wp2_with (first
                | (go_at_call 13; with_reducible refine (hbc _ htA).mono ?_; rintro e w4 ⟨rfl, hb4, ht4⟩))
              have k4 := hb4.below hBA (Nat.le_refl _) hBA.size
              go_meet
              exact ⟨s', hob, hib, hnb.trans hsn, ht4, k4⟩
            · have f1 : (d == 1) = false := by simpa using d1
              go_wp2
              go_meet
              exact ⟨s, ho.up (by omega), hi, hsn, htA, hBA⟩
        case rest =>
          clear ho hi hsn htA hBA e1 e2 hcn
          obtain ⟨s', ho, hi, hsn, ht, hB⟩ := hcut
          have hw := ho.wf (by omega)
          have hcm : s'.ns.take s'.n = s'.ns.take m := by rw [hsn]
          go_wp2
          go_loopg [11, 12, 13, 14, 15, 16] m (fun q bnd i a13 a14 a15 a16 wq => ∃ k : Nat, k ≤ m ∧ q = m - k ∧ bnd = .int .i64 ((cnt (s'.ns.take k) : Nat) : Int) ∧ i = .int .i64 (k : Int) ∧ IsTab wq w1.heap.size s' ∧ Below w1.heap.size w1 wq)
          case atStart => exact ⟨0, by omega, rfl, by rw [List.take_zero]; rfl, rfl, ht, hB⟩
          case round =>
            clear ht hB
            obtain ⟨k, hk, hq2, rfl, rfl, ht, hB⟩ := hrel
            have A2 := Lib.hid hq2; clear hq2
            by_cases hkm : k < m
            · have h3 : decide ((k : Int) < (m : Int)) = true := by simp; omega
              have hcs := Lib.hid (Tab.cnt_step ho k (by omega))
              have hcl := cnt_le (s'.ns.take k)
              rw [List.length_take] at hcl
              have hcl2 : ((cnt (s'.ns.take k) : Nat) : Int) ≤ 64 := by omega
              have hnm := name_calls s' hw w1.heap.size k _ ht (by omega)
              have htu := fun w' h => turn_calls s' hw w1.heap.size k w' h (by omega)
              have hpar := hi.par k (by omega)
              have hof := fun w' h => of_calls s' hw w1.heap.size (s'.ns.getD k ⟨#[]⟩) w' h
              have hfk := hi.of ho k (by omega)
              generalize s'.ts.getD k 0 = tk at *
              generalize cnt (s'.ns.take k) = ck at *
              generalize s'.ns.getD k ⟨#[]⟩ = x' at *
              by_cases hx : x' = ⟨#[]⟩
              · rw [if_pos hx] at hpar
                have hs := hcs.out
                rw [if_pos hx] at hs
                subst hx
                have hp2 : (tk : Int) % 2 = 0 := by omega
                clear hof hfk hcs hpar
                rw [decide_eq_true (p := (⟨#[]⟩ : ByteArray) = ⟨#[]⟩) rfl] at hnm
                have S := Lib.hid hs
                clear hs
                go_wp2_with (first
                  | (go_at_call 24; with_reducible refine hnm.mono ?_; rintro e w3 ⟨rfl, hb3⟩; have ht3 := ht.below hb3)
                  | (go_at_call 25; with_reducible refine (htu _ ht3).mono ?_; rintro e w4 ⟨rfl, hb4⟩; have ht4 := ht3.below hb4))
                go_roundg (m - (k + 1))
                case measure => have := A2.out; omega
                case rel =>
                  have k3 := hB.trans (hb3.mono hB.size)
                  exact ⟨k + 1, by omega, rfl, by rw [S.out]; rfl, by go_num, ht4, k3.trans (hb4.mono k3.size)⟩
              · rw [if_neg hx] at hpar
                have hs := hcs.out
                rw [if_neg hx] at hs
                have hp2 : (tk : Int) % 2 = 1 := by omega
                have he1 := str_ne0 hx
                have he2 := str_ne0' hx
                have hfk' := hfk hx
                rw [decide_eq_false hx] at hnm
                rw [if_neg hx, hfk', show max (k : Int) 0 = k by omega, decide_eq_true (by omega)] at hof
                clear hfk hcs hpar hfk'
                have S := Lib.hid hs
                clear hs
                go_wp2_with (first
                  | (go_at_call 24; with_reducible refine hnm.mono ?_; rintro e w3 ⟨rfl, hb3⟩; have ht3 := ht.below hb3)
                  | (go_at_call 25; with_reducible refine (htu _ ht3).mono ?_; rintro e w4 ⟨rfl, hb4⟩; have ht4 := ht3.below hb4)
                  | (go_at_call 14; with_reducible refine (hof _ ht4).mono ?_; rintro e w5 ⟨rfl, hb5⟩; have ht5 := ht4.below hb5))
                go_roundg (m - (k + 1))
                case measure => have := A2.out; omega
                case rel =>
                  have k3 := hB.trans (hb3.mono hB.size)
                  have k4 := k3.trans (hb4.mono k3.size)
                  exact ⟨k + 1, by omega, rfl, by rw [S.out]; go_num, by go_num, ht5, k4.trans (hb5.mono k4.size)⟩
            · obtain rfl : k = m := by omega
              have h3 : decide ((k : Int) < (k : Int)) = false := by simp
              rw [← hcm]
              have hle := list_ents s' hw w1.heap.size _ ht
              have hck : cnt (s'.ns.take s'.n) = s'.cnt := rfl
              rw [hck]
              have hc64 : s'.cnt ≤ 64 := by have := cnt_le (s'.ns.take s'.n); rw [List.length_take] at this; have := ho.n64; unfold Tab.cnt; omega
              go_wp2_with (first
                | (go_at_call 15; with_reducible refine hle.mono ?_; rintro e w3 ⟨⟨la, lc, rfl, hlc, hlist⟩, hb3⟩))
              have ht3 := ht.below hb3
              have hB3 := hB.trans (hb3.mono hB.size)
              clear ht hB hle hck
              go_loopg [18, 19, 20] s'.cnt (fun q i a19 a20 wq => ∃ v : Nat, v ≤ s'.cnt ∧ q = s'.cnt - v ∧ i = .int .i64 (v : Int) ∧ IsTab wq w1.heap.size s' ∧ IsList wq la (ent (s'.ns.take s'.n) 0) ∧ Below w1.heap.size w1 wq)
              case atStart => exact ⟨0, by omega, rfl, rfl, ht3, hlist, hB3⟩
              case round =>
                clear ht3 hlist hB3
                obtain ⟨v, hv, hq3, rfl, ht, hli, hB⟩ := hrel
                have A3 := Lib.hid hq3; clear hq3
                by_cases hvl : v < s'.cnt
                · have h4 : decide ((v : Int) < (s'.cnt : Int)) = true := by simp; omega
                  have hel : v < (ent (s'.ns.take s'.n) 0).length := by rw [ent_len]; exact hvl
                  obtain ⟨p, hp⟩ : ∃ p, (ent (s'.ns.take s'.n) 0)[v]? = some p := ⟨_, List.getElem?_eq_getElem hel⟩
                  obtain ⟨g, rfl, q0, q1⟩ := hli v p hp
                  obtain ⟨hm1', hm2, hm3, hm4⟩ := ent_mem _ 0 p (List.mem_of_getElem? hp)
                  rw [List.length_take, Nat.zero_add] at hm2
                  rw [Nat.sub_zero, List.getD_eq_getElem?_getD, List.getElem?_take_of_lt (by omega), ← List.getD_eq_getElem?_getD] at hm3
                  have hnm := name_calls s' hw w1.heap.size p.1 _ ht (by omega)
                  rw [hm3, decide_eq_false hm4] at hnm
                  obtain ⟨K, x'⟩ := p
                  simp only at q0 q1 hm2 hm3 hm4 hnm
                  rw [Nat.mul_comm 2 v] at q0 q1
                  have hne := str_ne0 hm4
                  have hself : (x'.toList != x'.toList) = false := by simp
                  clear hm3 hm4
                  by_cases hv0 : v = 0
                  · subst hv0
                    go_wp2_with (first
                      | (go_at_call 24; with_reducible refine hnm.mono ?_; rintro e w4 ⟨rfl, hb4⟩
                         have ht4 := ht.below hb4
                         have hli4 := hli.below hb4
                         have q0 : w4.cell? _ = _ := (hb4.cell (cell_lt q0)).trans q0
                         have q1 : w4.cell? _ = _ := (hb4.cell (cell_lt q1)).trans q1))
                    go_quiet (fail)
                    go_wp2
                    go_roundg (s'.cnt - (0 + 1))
                    case measure => have := A3.out; omega
                    case rel => exact ⟨0 + 1, by omega, rfl, by go_num, ht4.drewN nq, hli4, below_drewN (hB.trans (hb4.mono hB.size)) nq⟩
                  · obtain ⟨p2, hp2⟩ : ∃ p2, (ent (s'.ns.take s'.n) 0)[v - 1]? = some p2 := ⟨_, List.getElem?_eq_getElem (by omega)⟩
                    have hlt2 : p2.1 < K := by
                      have := List.pairwise_iff_getElem.1 (ent_sorted (s'.ns.take s'.n) 0) (v - 1) v (by omega) hel (by omega)
                      rw [(List.getElem?_eq_some_iff.1 hp2).2, (List.getElem?_eq_some_iff.1 hp).2] at this
                      exact this
                    obtain ⟨g2, hg2, r0, _⟩ := hli (v - 1) p2 hp2
                    cases hg2
                    obtain ⟨K2, x2'⟩ := p2
                    simp only at r0 hlt2
                    rw [Nat.mul_comm 2 (v - 1)] at r0
                    have h6 : decide ((0 : Int) < (v : Int)) = true := by simp; omega
                    have h6n : 0 < v := by omega
                    have h6b : decide (0 < v) = true := by simp; omega
                    have h7 : decide ((K : Int) ≤ (K2 : Int)) = false := by simp; omega
                    have h8 : IntKind.i64.wrap ((v : Int) - 1) = (v : Int) - 1 := IntWalk.i64_in _ (by omega)
                    have h9 : (0 : Int) ≤ (v : Int) - 1 := by omega
                    have h10 : ((v : Int) - 1).toNat = v - 1 := by omega
                    have h11 : (v : Int) - 1 < (s'.cnt : Int) := by omega
                    go_wp2_with (first
                      | (go_at_call 24; with_reducible refine hnm.mono ?_; rintro e w4 ⟨rfl, hb4⟩
                         have ht4 := ht.below hb4
                         have hli4 := hli.below hb4
                         have q0 : w4.cell? _ = _ := (hb4.cell (cell_lt q0)).trans q0
                         have q1 : w4.cell? _ = _ := (hb4.cell (cell_lt q1)).trans q1
                         have r0 : w4.cell? _ = _ := (hb4.cell (cell_lt r0)).trans r0))
                    go_quiet (fail)
                    go_wp2
                    go_roundg (s'.cnt - (v + 1))
                    case measure => have := A3.out; omega
                    case rel => exact ⟨v + 1, by omega, rfl, by go_num, ht4.drewN nq, hli4, below_drewN (hB.trans (hb4.mono hB.size)) nq⟩
                · obtain rfl : v = s'.cnt := by omega
                  have h4 : decide ((s'.cnt : Int) < (s'.cnt : Int)) = false := by simp
                  have hfr := free_calls s' hw w1.heap.size _ ht
                  rw [fnd_free] at hfr
                  have hll : (s'.ns.take s'.n).length = k := by rw [List.length_take]; have := ho.ns; have := ho.n64; omega
                  rw [hll] at hfr
                  change Calls _ _ _ _ (fun e w' => e = .returned (.tuple #[_, .bool (decide (s'.cnt < k))]) ∧ _) at hfr
                  generalize max (fnd ⟨#[]⟩ (s'.ns.take s'.n) 0) 0 = fz at *
                  by_cases hck : s'.cnt < k
                  · rw [decide_eq_true hck] at hfr
                    have h5 : decide ((s'.cnt : Int) < (k : Int)) = true := by simp; omega
                    go_wp2_with (first
                      | (go_at_call 11; with_reducible refine hfr.mono ?_; rintro e w4 ⟨rfl, hb4⟩))
                    go_roundg (len - (j + 1))
                    case measure => have := A.out; omega
                    case rel => exact ⟨j + 1, s', by omega, rfl, by go_num, ho, hi, hsn, ht.below hb4, hB.trans (hb4.mono hB.size)⟩
                  · rw [decide_eq_false hck] at hfr
                    have h5 : decide ((s'.cnt : Int) < (k : Int)) = false := by simp; omega
                    go_wp2_with (first
                      | (go_at_call 11; with_reducible refine hfr.mono ?_; rintro e w4 ⟨rfl, hb4⟩))
                    go_roundg (len - (j + 1))
                    case measure => have := A.out; omega
                    case rel => exact ⟨j + 1, s', by omega, rfl, by go_num, ho, hi, hsn, ht.below hb4, hB.trans (hb4.mono hB.size)⟩
      · have h1 : decide ((j : Int) < (len : Int)) = false := by simp; omega
        go_wp2_with (first
          | (go_at_call 10; with_reducible refine (alive_calls _).mono ?_; rintro e w2 ⟨rfl, hb2⟩))
        go_ret
        exact ⟨rfl, hB.trans (hb2.mono hB.size)⟩
end Go.Proofs.Ythenjbonncbniaa
