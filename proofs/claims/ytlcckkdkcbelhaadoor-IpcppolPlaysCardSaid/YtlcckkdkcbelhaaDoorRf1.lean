/-
  Layer 15 (ipcppol), the document's policy: its small functions, Put, Request, and one, walked.
-/
import Derived.Test.YtlcckkdkcbelhaaDoorCp
import Derived.BigQuiet
import Derived.Deep.CutRange
import Derived.Deep.CutBlock
import Derived.RegionTactic
import Derived.Deep.RegionWith
set_option linter.unusedVariables false
set_option linter.unusedSimpArgs false
namespace Go.Proofs.YtlcckkdkcbelhaaDoor
open Go.RowKit Go.Proofs.YtlcckkdkcbelhaaDoorW.PrintWords Go.Proofs.YtlcckkdkcbelhaaDoorW.PrintLast

theorem oct_conv (v : Nat) (W : World) : (convert 92 9 (.slice (some ⟨W.heap.size, 0, none⟩) 4 4)).run Tryd.prog (W.alloc (.cells #[.int .u8 ((v : Int) / 16777216), .int .u8 ((v : Int) / 65536 % 256), .int .u8 ((v : Int) / 256 % 256), .int .u8 ((v : Int) % 256)] 5)) = .ok (.string (strOfNums (octs v))) (W.alloc (.cells #[.int .u8 ((v : Int) / 16777216), .int .u8 ((v : Int) / 65536 % 256), .int .u8 ((v : Int) / 256 % 256), .int .u8 ((v : Int) % 256)] 5)) :=
  run_convert_bytes_arg (P := Tryd.prog) _ 92 5 Tryd.underlying92 Tryd.underlying5 W.heap.size 0 4 4 (octs v) rfl (fun i hi => by
    rw [Nat.zero_add, blk_cell (alloc_new W _ _ rfl)]
    match i, hi with
    | 0, _ => rfl
    | 1, _ => rfl
    | 2, _ => rfl
    | 3, _ => rfl) 9 Tryd.underlying9
set_option maxRecDepth 100000 in
theorem rnum_calls (u : UInt32) (w : World) : Calls Tryd.prog 53 #[.int .u32 (nv u)] w fun e w' => e = .returned (.string (oct u)) ∧ Below w.heap.size w w' := by
  have hv := u.toNat_lt
  have hcv := oct_conv u.toNat w
  rw [octs_str u] at hcv
  unfold nv
  generalize oct u = ou at *
  generalize u.toNat = v at *
  go_enter Tryd.func53, Tryd.ntmps53
  go_wp2
  go_ret
  exact ⟨rfl, (Below.refl _ _).alloc (Nat.le_refl _) _⟩
set_option maxRecDepth 100000 in
theorem raddr_calls (t : UInt8) (u : UInt32) (w : World) : Calls Tryd.prog 51 #[.int .u8 (tv t), .int .u32 (nv u)] w fun e w' => e = .returned (.agg #[.int .u8 (tv t), .string (oct u)]) ∧ Below w.heap.size w w' := by
  have hv := u.toNat_lt
  have hcv := oct_conv u.toNat (w.alloc (.cells #[.int .u8 0, .string ⟨#[]⟩] 57))
  rw [octs_str u, World.size_alloc] at hcv
  unfold nv
  generalize oct u = ou at *
  generalize u.toNat = v at *
  go_enter Tryd.func51, Tryd.ntmps51
  go_wp2
  (try simp only [Exit.inBlock, Exit.then])
  refine bodyPost_ret (v := .agg #[.int .u8 (tv t), .string ou]) ?_ rfl ⟨rfl, ?_⟩
  · exact results_cell1 rfl _ _ _ rfl (by go_simp; try rfl)
  · exact ((Below.refl _ _).alloc (Nat.le_refl _) _).alloc (by simp) _
theorem or4 (a b c d : UInt8) : bits .or .u32 (bits .or .u32 (bits .or .u32 ((a.toNat : Int) % 4294967296 * 16777216 % 4294967296) ((b.toNat : Int) % 4294967296 * 65536 % 4294967296)) ((c.toNat : Int) % 4294967296 * 256 % 4294967296)) ((d.toNat : Int) % 4294967296) =
    ((((a.toNat * 256 + b.toNat) * 256 + c.toNat) * 256 + d.toNat : Nat) : Int) := by
  have ha := a.toNat_lt
  have hb := b.toNat_lt
  have hc := c.toNat_lt
  have hd := d.toNat_lt
  have hw : ∀ n : Int, 0 ≤ n → n < 2 ^ 32 → IntKind.u32.wrap n = n := fun n h0 h1 => by rw [IntKind.wrap_u32]; omega
  have e1 : (a.toNat : Int) % 4294967296 * 16777216 % 4294967296 = a.toNat * 16777216 := by omega
  have e2 : (b.toNat : Int) % 4294967296 * 65536 % 4294967296 = b.toNat * 65536 := by omega
  have e3 : (c.toNat : Int) % 4294967296 * 256 % 4294967296 = c.toNat * 256 := by omega
  have e4 : (d.toNat : Int) % 4294967296 = d.toNat := by omega
  rw [e1, e2, e3, e4]
  rw [bits_join .u32 32 (by decide) hw 24 ((a.toNat : Int) * 16777216) ((b.toNat : Int) * 65536) (by omega) (by omega) (by omega) (by omega) (by omega) (by omega)]
  rw [bits_join .u32 32 (by decide) hw 16 ((a.toNat : Int) * 16777216 + (b.toNat : Int) * 65536) ((c.toNat : Int) * 256) (by omega) (by omega) (by omega) (by omega) (by omega) (by omega)]
  rw [bits_join .u32 32 (by decide) hw 8 ((a.toNat : Int) * 16777216 + (b.toNat : Int) * 65536 + (c.toNat : Int) * 256) (d.toNat : Int) (by omega) (by omega) (by omega) (by omega) (by omega) (by omega)]
  omega
theorem ad4_four (s : ByteArray) (h : s.size = 4) : nv (ad4 s) = ((((s[0].toNat * 256 + s[1].toNat) * 256 + s[2].toNat) * 256 + s[3].toNat : Nat) : Int) := by
  rw [nv_ad4, val4_succ s 3 (by omega), val4_succ s 2 (by omega), val4_succ s 1 (by omega), val4_succ s 0 (by omega)]
  rw [show val4 s 0 = 0 from rfl]
  omega
set_option maxRecDepth 100000 in
theorem rvalue_calls (s : ByteArray) (hs : s.size = 4) (w : World) : Calls Tryd.prog 59 #[.string s] w fun e w' => e = .returned (.int .u32 (nv (ad4 s))) ∧ Below w.heap.size w w' := by
  have hr := Lib.hid (ad4_four s hs)
  have h0 : 0 < s.size := by omega
  have h1 : 1 < s.size := by omega
  have h2 : 2 < s.size := by omega
  have h3 : 3 < s.size := by omega
  go_enter Tryd.func59, Tryd.ntmps59
  go_wp2
  go_quiet (fail)
  go_wp2
  go_ret
  refine ⟨?_, below_drewN (Below.refl _ _) _⟩
  rw [hr.out, or4]
  rfl
theorem oct_ad4 (s : ByteArray) (h : s.size = 4) : oct (ad4 s) = s := by
  obtain ⟨⟨l⟩⟩ := s
  match l, h with
  | [a, b, c, d], _ =>
    have ha := a.toNat_lt
    have hb := b.toNat_lt
    have hc := c.toNat_lt
    have hd := d.toNat_lt
    have e : (ad4 ⟨⟨[a, b, c, d]⟩⟩).toNat = ((a.toNat * 256 + b.toNat) * 256 + c.toNat) * 256 + d.toNat := by
      have := ad4_four ⟨⟨[a, b, c, d]⟩⟩ rfl
      unfold nv at this
      exact Int.ofNat.inj this
    unfold oct
    rw [e]
    refine congrArg ByteArray.mk (congrArg Array.mk ?_)
    have k1 : UInt8.ofNat ((((a.toNat * 256 + b.toNat) * 256 + c.toNat) * 256 + d.toNat) / 16777216) = a := UInt8.toNat_inj.1 (by rw [UInt8.toNat_ofNat']; omega)
    have k2 : UInt8.ofNat ((((a.toNat * 256 + b.toNat) * 256 + c.toNat) * 256 + d.toNat) / 65536) = b := UInt8.toNat_inj.1 (by rw [UInt8.toNat_ofNat']; omega)
    have k3 : UInt8.ofNat ((((a.toNat * 256 + b.toNat) * 256 + c.toNat) * 256 + d.toNat) / 256) = c := UInt8.toNat_inj.1 (by rw [UInt8.toNat_ofNat']; omega)
    have k4 : UInt8.ofNat (((a.toNat * 256 + b.toNat) * 256 + c.toNat) * 256 + d.toNat) = d := UInt8.toNat_inj.1 (by rw [UInt8.toNat_ofNat']; omega)
    rw [k1, k2, k3, k4]
set_option maxRecDepth 100000 in
theorem rgood_calls (o : Opt) (w : World) : Calls Tryd.prog 57 #[.agg #[.int .u8 (tv o.t), .string o.d]] w fun e w' => e = .returned (.bool (goodO o)) ∧ Below w.heap.size w w' := by
  have b3 : (tv o.t == 3) = decide (o.t = 3) := ti_bool o.t 3
  have b129 : (tv o.t == 129) = decide (o.t = 129) := ti_bool o.t 129
  have b131 : (tv o.t == 131) = decide (o.t = 131) := ti_bool o.t 131
  have b4 : ((o.d.size : Int) == 4) = decide (o.d.size = 4) := by
    rw [Bool.eq_iff_iff, beq_iff_eq, decide_eq_true_eq]; omega
  have b4' : (o.d.size == 4) = decide (o.d.size = 4) := by
    rw [Bool.eq_iff_iff, beq_iff_eq, decide_eq_true_eq]
  have hg : Hid (goodO o = ((decide (o.t = 3) || decide (o.t = 129) || decide (o.t = 131)) && decide (o.d.size = 4))) := Lib.hid (by
    unfold goodO
    rw [Bool.eq_iff_iff]
    simp only [decide_eq_true_eq, Bool.and_eq_true, Bool.or_eq_true, or_assoc])
  generalize decide (o.t = 3) = x3 at *
  generalize decide (o.t = 129) = x129 at *
  generalize decide (o.t = 131) = x131 at *
  generalize decide (o.d.size = 4) = x4 at *
  have hb := (Below.refl w.heap.size w).alloc (Nat.le_refl _) (.cells #[.int .u8 (tv o.t), .string o.d] 57)
  cases x3 <;> cases x129 <;> cases x131 <;> cases x4 <;>
    (go_enter Tryd.func57, Tryd.ntmps57
     go_wp2
     go_ret
     exact ⟨by rw [hg.out]; rfl, hb⟩)
/-- The document's policy, as it lies. -/
def Pol.rcells (s : Pol) : Array Value := #[.int .u32 (nv s.c.addr), .int .u32 (nv s.c.peer), .int .u32 (nv s.c.dns1), .int .u32 (nv s.c.dns2), .bool s.c.want, .int .i64 s.c.max,
  .bool s.w.ha, .int .u32 (nv s.w.a), .bool s.w.h1, .int .u32 (nv s.w.d1), .bool s.w.h2, .int .u32 (nv s.w.d2),
  .bool s.mine.ha, .int .u32 (nv s.mine.a), .bool s.mine.h1, .int .u32 (nv s.mine.d1), .bool s.mine.h2, .int .u32 (nv s.mine.d2),
  .bool s.peer.ha, .int .u32 (nv s.peer.a), .bool s.peer.h1, .int .u32 (nv s.peer.d1), .bool s.peer.h2, .int .u32 (nv s.peer.d2), .int .i64 s.naks]
def IsRef (w : World) (b : Nat) (s : Pol) : Prop := w.heap[b]? = some (.cells s.rcells 61 (0, 0))
theorem IsRef.lt {w : World} {b : Nat} {s : Pol} (h : IsRef w b s) : b < w.heap.size := (Array.getElem?_eq_some_iff.1 h).1
theorem IsRef.below {w W : World} {b : Nat} {s : Pol} (h : IsRef w b s) (hb : Below w.heap.size w W) : IsRef W b s := (hb.block b h.lt).trans h
theorem IsRef.but {w W : World} {b p : Nat} {s : Pol} (h : IsRef w b s) (hb : But p w W) (hne : b ≠ p) : IsRef W b s := (hb.block b h.lt hne).trans h
/-- Which address the document's policy demands. -/
def givT (c : Conf) (t : UInt8) : UInt32 := if t = 3 then c.peer else if t = 129 then c.dns1 else c.dns2
theorem rgiven_calls (s : Pol) (pb : Nat) (t : UInt8) (w : World) (hp : IsRef w pb s) : Calls Tryd.prog 58 #[.pointer (some ⟨pb, 0, none⟩), .int .u8 (tv t)] w fun e w' => e = .returned (.int .u32 (nv (givT s.c t))) ∧ w' = w := by
  have b3 : (tv t == 3) = decide (t = 3) := ti_bool t 3
  have b129 : (tv t == 129) = decide (t = 129) := ti_bool t 129
  have t1 := fun i => blk_cell hp i
  simp only [Pol.rcells] at t1
  have hg : Hid (givT s.c t = if decide (t = 3) = true then s.c.peer else if decide (t = 129) = true then s.c.dns1 else s.c.dns2) := Lib.hid (by unfold givT; simp only [decide_eq_true_eq])
  generalize decide (t = 3) = x3 at *
  generalize decide (t = 129) = x129 at *
  cases x3 <;> cases x129 <;>
    (go_enter Tryd.func58, Tryd.ntmps58
     go_wp2
     go_ret
     exact ⟨by rw [hg.out]; rfl, rfl⟩)
theorem rmay_calls (c : Conf) (w : World) : Calls Tryd.prog 24 #[.agg c.cells] w fun e w' => e = .returned (.bool (decide (1 ≤ c.max ∧ c.max ≤ 10))) ∧ Below w.heap.size w w' := by
  obtain ⟨a, b, d, e, f, g⟩ := c
  rw [show (Conf.mk a b d e f g).cells = #[.int .u32 (nv a), .int .u32 (nv b), .int .u32 (nv d), .int .u32 (nv e), .bool f, .int .i64 g] from rfl]
  simp only
  by_cases h1 : 1 ≤ g
  · have q1 : decide (1 ≤ g) = true := decide_eq_true h1
    by_cases h2 : g ≤ 10
    · have q2 : decide (g ≤ 10) = true := decide_eq_true h2
      rw [decide_eq_true ⟨h1, h2⟩]
      clear h1 h2
      go_enter Tryd.func24, Tryd.ntmps24
      go_wp2
      go_ret
      exact ⟨rfl, (Below.refl _ _).alloc (Nat.le_refl _) _⟩
    · have q2 : decide (g ≤ 10) = false := decide_eq_false h2
      rw [decide_eq_false (fun h => h2 h.2)]
      clear h1 h2
      go_enter Tryd.func24, Tryd.ntmps24
      go_wp2
      go_ret
      exact ⟨rfl, (Below.refl _ _).alloc (Nat.le_refl _) _⟩
  · have q1 : decide (1 ≤ g) = false := decide_eq_false h1
    rw [decide_eq_false (fun h => h1 h.1)]
    clear h1
    go_enter Tryd.func24, Tryd.ntmps24
    go_wp2
    go_ret
    exact ⟨rfl, (Below.refl _ _).alloc (Nat.le_refl _) _⟩
set_option maxRecDepth 100000 in
theorem rnew_calls (c : Conf) (w : World) : Calls Tryd.prog 25 #[.agg c.cells] w fun e w' => ∃ b, e = .returned (.pointer (some ⟨b, 0, none⟩)) ∧ w.heap.size ≤ b ∧ IsRef w' b (resetP c) ∧ Below w.heap.size w w' := by
  obtain ⟨a, b, d, e, f, g⟩ := c
  rw [show (Conf.mk a b d e f g).cells = #[.int .u32 (nv a), .int .u32 (nv b), .int .u32 (nv d), .int .u32 (nv e), .bool f, .int .i64 g] from rfl]
  go_enter Tryd.func25, Tryd.ntmps25
  go_wp2
  go_ret
  exact ⟨_, rfl, by omega, alloc_new _ _ _ (by simp), ((Below.refl _ _).alloc (Nat.le_refl _) _).alloc (by simp) _⟩
end Go.Proofs.YtlcckkdkcbelhaaDoor
namespace Go.Proofs.YtlcckkdkcbelhaaDoor
open Go.RowKit Go.Proofs.YtlcckkdkcbelhaaDoorW.PrintWords Go.Proofs.YtlcckkdkcbelhaaDoorW.PrintLast

theorem putL_le (x : Icp) (k : Nat) (h : k ≤ 3) : (putL x k).length ≤ 3 := Nat.le_trans (putL_len x k) h
set_option maxHeartbeats 8000000 in
set_option maxRecDepth 100000 in
theorem rput_calls (x : Icp) (w : World) :
    Calls Tryd.prog 42 #[.agg x.cells] w fun e w' => ∃ v, e = .returned v ∧ OwnL w' w.heap.size v (putL x 3) ∧ Below w.heap.size w w' := by
  obtain ⟨i0, hi, hz⟩ := Option.map_eq_some_iff.1 info57
  simp only [Prod.mk.injEq] at hz
  obtain ⟨hz0, hz1, hz2⟩ := hz
  have hxc : x.cells = #[.bool x.ha, .int .u32 (nv x.a), .bool x.h1, .int .u32 (nv x.d1), .bool x.h2, .int .u32 (nv x.d2)] := rfl
  have s1 : putL x 1 = [] ++ (if x.ha = true then [⟨3, oct x.a⟩] else []) := rfl
  have s2 : putL x 2 = putL x 1 ++ (if x.h1 = true then [⟨129, oct x.d1⟩] else []) := rfl
  have s3 : putL x 3 = putL x 2 ++ (if x.h2 = true then [⟨131, oct x.d2⟩] else []) := rfl
  have l1 := putL_le x 1 (by omega)
  have l2 := putL_le x 2 (by omega)
  have l3 := putL_le x 3 (by omega)
  rw [hxc]
  obtain ⟨ha, a, h1, d1, h2, d2⟩ := x
  simp only at s1 s2 s3
  clear hxc
  generalize putL ⟨ha, a, h1, d1, h2, d2⟩ 1 = q1 at *
  generalize putL ⟨ha, a, h1, d1, h2, d2⟩ 2 = q2 at *
  generalize putL ⟨ha, a, h1, d1, h2, d2⟩ 3 = q3 at *
  replace s1 := Lib.hid s1
  replace s2 := Lib.hid s2
  replace s3 := Lib.hid s3
  go_enter Tryd.func42, Tryd.ntmps42
  go_upto_region 2 with fail
  have B0 := (Below.refl w.heap.size w).alloc (Nat.le_refl _) (.cells #[.bool ha, .int .u32 (nv a), .bool h1, .int .u32 (nv d1), .bool h2, .int .u32 (nv d2)] 36)
  have b0 := alloc_new w _ (.cells #[.bool ha, .int .u32 (nv a), .bool h1, .int .u32 (nv d1), .bool h2, .int .u32 (nv d2)] 36) rfl
  have o0 : OwnL (w.alloc (.cells #[.bool ha, .int .u32 (nv a), .bool h1, .int .u32 (nv d1), .bool h2, .int .u32 (nv d2)] 36)) w.heap.size (.slice none 0 0) [] := World.ownsRow_nil _ _ _ _
  have hzz : w.heap.size ≤ (w.alloc (.cells #[.bool ha, .int .u32 (nv a), .bool h1, .int .u32 (nv d1), .bool h2, .int .u32 (nv d2)] 36)).heap.size := by simp
  generalize w.alloc (.cells #[.bool ha, .int .u32 (nv a), .bool h1, .int .u32 (nv d1), .bool h2, .int .u32 (nv d2)] 36) = wc at *
  have c0 := fun i => blk_cell b0 i
  go_upto_if 5 with fail
  clear c0
  go_cut [3] from 6 to 12 (fun s3 wx => ∃ v, s3 = v ∧ OwnL wx w.heap.size v q1 ∧ wx.heap[w.heap.size]? = some (.cells #[.bool ha, .int .u32 (nv a), .bool h1, .int .u32 (nv d1), .bool h2, .int .u32 (nv d2)] 36 (0, 0)) ∧ Below w.heap.size w wx)
  case first =>
    cases ha with
    | false =>
      have c0 := fun i => blk_cell b0 i
      go_wp2
      go_meet
      refine ⟨_, rfl, ?_, b0, B0⟩
      have es : q1 = [] := by rw [s1.out]; exact List.append_nil _
      rw [es]
      exact o0
    | true =>
      have c0 := fun i => blk_cell b0 i
      have hal := optCells_length ([] : List Opt)
      go_wp2_with (first
        | (go_at_call 53; with_reducible refine (rnum_calls a _).mono ?_; rintro e w1 ⟨rfl, hb1⟩
           have oA := OwnL.below o0 hb1
           have bA := (hb1.block _ ((Array.getElem?_eq_some_iff.1 b0).1)).trans b0
           have BA := B0.trans (hb1.mono B0.size)
           have hlow := BA.size)
        | (at_builtin; refine wpList_append_own _ rfl _ _ 32 rfl w.heap.size 57 i0 (.agg #[.int .u8 0, .string ⟨#[]⟩]) 2 24 und32 hi hz0 hz1 hz2 rfl (by decide) (.slice none 0 0) ([] : List Opt).length (optCells []) rfl (oA.alloc (.cells #[.int .u8 3, .string (oct a)] 57)) ⟨w1.heap.size, 0, none⟩ 1 1 [.int .u8 3, .string (oct a)] rfl rfl (cell_two _ _ _ _) (by simp [Value.oneCell']) (by unfold maxLen; first | omega | (simp; done) | (simp; omega)) (by first | omega | (simp; done) | (simp; omega)) (by have := BA.size; simp; omega) ?_
           intro v5 w5 hown5 hg5 _
           have b3a := (Lib.alloc_old w1 (.cells #[.int .u8 3, .string (oct a)] 57) _ ((Array.getElem?_eq_some_iff.1 bA).1)).trans bA
           have b5 := (hg5.block w.heap.size ((Array.getElem?_eq_some_iff.1 b3a).1) (own_ne (oA.alloc _) b3a (by decide))).trans b3a
           have B5 := (BA.alloc BA.size (.cells #[.int .u8 3, .string (oct a)] 57)).grown hg5 (by have := BA.size; simp; omega) (own_base oA)))
      go_meet
      refine ⟨_, rfl, ?_, b5, B5⟩
      have es : q1 = [] ++ [⟨3, oct a⟩] := by rw [s1.out]; rfl
      rw [es]
      unfold OwnL
      rw [List.length_append, optCells_append]
      exact hown5
  case rest =>
    obtain ⟨v1, hv, o1, b1, B1⟩ := hcut
    obtain rfl := hv.symm
    clear o0 b0 B0 hzz
    have hx1 := B1.size
    have c0 := fun i => blk_cell b1 i
    go_upto_if 14 with fail
    clear c0
    go_cut [3] from 15 to 21 (fun s3 wx => ∃ v, s3 = v ∧ OwnL wx w.heap.size v q2 ∧ wx.heap[w.heap.size]? = some (.cells #[.bool ha, .int .u32 (nv a), .bool h1, .int .u32 (nv d1), .bool h2, .int .u32 (nv d2)] 36 (0, 0)) ∧ Below w.heap.size w wx)
    case first =>
      cases h1 with
      | false =>
        have c0 := fun i => blk_cell b1 i
        go_wp2
        go_meet
        refine ⟨_, rfl, ?_, b1, B1⟩
        have es : q2 = q1 := by rw [s2.out]; exact List.append_nil _
        rw [es]
        exact o1
      | true =>
        have c0 := fun i => blk_cell b1 i
        have hal := optCells_length q1
        go_wp2_with (first
          | (go_at_call 53; with_reducible refine (rnum_calls d1 _).mono ?_; rintro e w1 ⟨rfl, hb1⟩
             have oA := OwnL.below o1 hb1
             have bA := (hb1.block _ ((Array.getElem?_eq_some_iff.1 b1).1)).trans b1
             have BA := B1.trans (hb1.mono B1.size)
             have hlow := BA.size)
          | (at_builtin; refine wpList_append_own _ rfl _ _ 32 rfl w.heap.size 57 i0 (.agg #[.int .u8 0, .string ⟨#[]⟩]) 2 24 und32 hi hz0 hz1 hz2 rfl (by decide) (v1) q1.length (optCells q1) rfl (oA.alloc (.cells #[.int .u8 129, .string (oct d1)] 57)) ⟨w1.heap.size, 0, none⟩ 1 1 [.int .u8 129, .string (oct d1)] rfl rfl (cell_two _ _ _ _) (by simp [Value.oneCell']) (by unfold maxLen; first | omega | (simp; done) | (simp; omega)) (by first | omega | (simp; done) | (simp; omega)) (by have := BA.size; simp; omega) ?_
             intro v5 w5 hown5 hg5 _
             have b3a := (Lib.alloc_old w1 (.cells #[.int .u8 129, .string (oct d1)] 57) _ ((Array.getElem?_eq_some_iff.1 bA).1)).trans bA
             have b5 := (hg5.block w.heap.size ((Array.getElem?_eq_some_iff.1 b3a).1) (own_ne (oA.alloc _) b3a (by decide))).trans b3a
             have B5 := (BA.alloc BA.size (.cells #[.int .u8 129, .string (oct d1)] 57)).grown hg5 (by have := BA.size; simp; omega) (own_base oA)))
        go_meet
        refine ⟨_, rfl, ?_, b5, B5⟩
        have es : q2 = q1 ++ [⟨129, oct d1⟩] := by rw [s2.out]; rfl
        rw [es]
        unfold OwnL
        rw [List.length_append, optCells_append]
        exact hown5
    case rest =>
      obtain ⟨v2, hv, o2, b2, B2⟩ := hcut
      obtain rfl := hv.symm
      clear o1 b1 B1
      have hx2 := B2.size
      clear hx1
      have c0 := fun i => blk_cell b2 i
      go_upto_if 23 with fail
      clear c0
      go_cut [3] from 24 to 30 (fun s3 wx => ∃ v, s3 = v ∧ OwnL wx w.heap.size v q3 ∧ wx.heap[w.heap.size]? = some (.cells #[.bool ha, .int .u32 (nv a), .bool h1, .int .u32 (nv d1), .bool h2, .int .u32 (nv d2)] 36 (0, 0)) ∧ Below w.heap.size w wx)
      case first =>
        cases h2 with
        | false =>
          have c0 := fun i => blk_cell b2 i
          go_wp2
          go_meet
          refine ⟨_, rfl, ?_, b2, B2⟩
          have es : q3 = q2 := by rw [s3.out]; exact List.append_nil _
          rw [es]
          exact o2
        | true =>
          have c0 := fun i => blk_cell b2 i
          have hal := optCells_length q2
          go_wp2_with (first
            | (go_at_call 53; with_reducible refine (rnum_calls d2 _).mono ?_; rintro e w1 ⟨rfl, hb1⟩
               have oA := OwnL.below o2 hb1
               have bA := (hb1.block _ ((Array.getElem?_eq_some_iff.1 b2).1)).trans b2
               have BA := B2.trans (hb1.mono B2.size)
               have hlow := BA.size)
            | (at_builtin; refine wpList_append_own _ rfl _ _ 32 rfl w.heap.size 57 i0 (.agg #[.int .u8 0, .string ⟨#[]⟩]) 2 24 und32 hi hz0 hz1 hz2 rfl (by decide) (v2) q2.length (optCells q2) rfl (oA.alloc (.cells #[.int .u8 131, .string (oct d2)] 57)) ⟨w1.heap.size, 0, none⟩ 1 1 [.int .u8 131, .string (oct d2)] rfl rfl (cell_two _ _ _ _) (by simp [Value.oneCell']) (by unfold maxLen; first | omega | (simp; done) | (simp; omega)) (by first | omega | (simp; done) | (simp; omega)) (by have := BA.size; simp; omega) ?_
               intro v5 w5 hown5 hg5 _
               have b3a := (Lib.alloc_old w1 (.cells #[.int .u8 131, .string (oct d2)] 57) _ ((Array.getElem?_eq_some_iff.1 bA).1)).trans bA
               have b5 := (hg5.block w.heap.size ((Array.getElem?_eq_some_iff.1 b3a).1) (own_ne (oA.alloc _) b3a (by decide))).trans b3a
               have B5 := (BA.alloc BA.size (.cells #[.int .u8 131, .string (oct d2)] 57)).grown hg5 (by have := BA.size; simp; omega) (own_base oA)))
          go_meet
          refine ⟨_, rfl, ?_, b5, B5⟩
          have es : q3 = q2 ++ [⟨131, oct d2⟩] := by rw [s3.out]; rfl
          rw [es]
          unfold OwnL
          rw [List.length_append, optCells_append]
          exact hown5
      case rest =>
        obtain ⟨v3, hv, o3, b3, B3⟩ := hcut
        obtain rfl := hv.symm
        clear o2 b2 B2
        have hx3 := B3.size
        clear hx2
        go_wp2
        go_ret
        exact ⟨_, rfl, o3, B3⟩
theorem rreq_calls (s : Pol) (pb : Nat) (w : World) (hp : IsRef w pb s) :
    Calls Tryd.prog 28 #[.pointer (some ⟨pb, 0, none⟩)] w fun e w' => ∃ v, e = .returned v ∧ OwnL w' w.heap.size v (putL s.w 3) ∧ Below w.heap.size w w' := by
  have hP := rput_calls s.w w
  rw [show s.w.cells = #[.bool s.w.ha, .int .u32 (nv s.w.a), .bool s.w.h1, .int .u32 (nv s.w.d1), .bool s.w.h2, .int .u32 (nv s.w.d2)] from rfl] at hP
  generalize putL s.w 3 = P at *
  have t1 := fun i => blk_cell hp i
  simp only [Pol.rcells] at t1
  go_enter Tryd.func28, Tryd.ntmps28
  go_wp2_with (first
    | (go_at_call 42; with_reducible refine hP.mono ?_; rintro e w1 ⟨v, rfl, ho, hb1⟩))
  go_ret
  exact ⟨_, rfl, ho, hb1⟩
end Go.Proofs.YtlcckkdkcbelhaaDoor
namespace Go.Proofs.YtlcckkdkcbelhaaDoor
open Go.RowKit Go.Proofs.YtlcckkdkcbelhaaDoorW.PrintWords Go.Proofs.YtlcckkdkcbelhaaDoorW.PrintLast

theorem results_tc {fn : Func} {p q : Tmp} {tp : TypeId} (h : fn.results = #[.tmp q, .cell p tp]) (tmps : Array Value) (P : Program) (w : World) {a : Addr} {u x : Value}
    (ha : tmps.getD p undef = .pointer (some a)) (hx : tmps.getD q undef = x) (la : (loadVar tp a).run P w = .ok u w) : (results fn tmps).run P w = .ok (.tuple #[x, u]) w := by
  have ha' : tmps[p]?.getD undef = .pointer (some a) := by simpa using ha
  have hx' : tmps[q]?.getD undef = x := by simpa using hx
  simp [results, h, ha', hx', asAddr, la]
/-- What the document says of an option: 0 it is good, 1 it is to be another one, 2 it is refused. -/
def oneO (c : Conf) (o : Opt) : Int × Opt :=
  if goodO o = false then (2, o) else if givT c o.t = 0 then (if o.t ≠ 3 ∨ o.d = oct 0 then (2, o) else (0, o)) else if o.d = oct (givT c o.t) then (0, o) else (1, ⟨o.t, oct (givT c o.t)⟩)
attribute [local go_sem high] eqA57
set_option maxHeartbeats 8000000 in
set_option maxRecDepth 100000 in
theorem rone_calls (s : Pol) (pb : Nat) (o : Opt) (w : World) (hp : IsRef w pb s) :
    Calls Tryd.prog 50 #[.pointer (some ⟨pb, 0, none⟩), .agg #[.int .u8 (tv o.t), .string o.d]] w fun e w' => e = .returned (.tuple #[.int .i64 (oneO s.c o).1, .agg #[.int .u8 (tv (oneO s.c o).2.t), .string (oneO s.c o).2.d]]) ∧ Below w.heap.size w w' := by
  have hu57 := Tryd.underlying57
  have hO : Hid (oneO s.c o = if goodO o = false then (2, o) else if givT s.c o.t = 0 then (if o.t ≠ 3 ∨ o.d = oct 0 then (2, o) else (0, o)) else if o.d = oct (givT s.c o.t) then (0, o) else (1, ⟨o.t, oct (givT s.c o.t)⟩)) := Lib.hid rfl
  have hG := fun W => rgood_calls o W
  have hV := fun W h => rgiven_calls s pb o.t W h
  have hA := fun u W => raddr_calls o.t u W
  have hA0 : ∀ W : World, Calls Tryd.prog 51 #[.int .u8 3, .int .u32 0] W fun e w' => e = .returned (.agg #[.int .u8 3, .string (oct 0)]) ∧ Below W.heap.size W w' := fun W => raddr_calls 3 0 W
  generalize oneO s.c o = R at *
  generalize givT s.c o.t = want at *
  have B0 := (Below.refl w.heap.size w).alloc (Nat.le_refl _) (.cells #[.int .u8 (tv o.t), .string o.d] 57)
  have ob := alloc_new w _ (.cells #[.int .u8 (tv o.t), .string o.d] 57) rfl
  have ol := (Array.getElem?_eq_some_iff.1 ob).1
  go_enter Tryd.func50, Tryd.ntmps50
  go_upto_region 1 with fail
  have B1 := B0.alloc B0.size (.cells #[.int .u8 0, .string ⟨#[]⟩] 57)
  have hcl : (w.alloc (.cells #[.int .u8 (tv o.t), .string o.d] 57)).heap.size = w.heap.size + 1 := by simp
  have cb := alloc_new (w.alloc (.cells #[.int .u8 (tv o.t), .string o.d] 57)) (w.heap.size + 1) (.cells #[.int .u8 0, .string ⟨#[]⟩] 57) hcl.symm
  have ob1 := (Lib.alloc_old _ (.cells #[.int .u8 0, .string ⟨#[]⟩] 57) _ ol).trans ob
  clear B0 ob ol
  generalize (w.alloc (.cells #[.int .u8 (tv o.t), .string o.d] 57)).alloc (.cells #[.int .u8 0, .string ⟨#[]⟩] 57) = wA at *
  have hp1 := hp.below B1
  have c0 := fun i => blk_cell ob1 i
  have ox := (Array.getElem?_eq_some_iff.1 ob1).1
  have cx := (Array.getElem?_eq_some_iff.1 cb).1
  go_upto_region 1 with fail
  have ob1' := ob1
  clear ob1
  have ob1 := ob1'
  clear ob1'
  have cb1 := cb
  clear cb
  cases hg : goodO o with
  | false =>
    rw [hg] at hG
    have hR : Hid (R = (2, o)) := Lib.hid (by rw [hO.out, if_pos hg])
    clear hg hO hV hA hA0
    go_upto_region 2 with (first
      | (go_at_call 57; with_reducible refine (hG _).mono ?_; rintro e w1 ⟨rfl, hb2⟩
         have B2 := B1.trans (hb2.mono B1.size)
         have ob2 := (hb2.block _ ((Array.getElem?_eq_some_iff.1 ob1).1)).trans ob1
         have cb2 := (hb2.block _ ((Array.getElem?_eq_some_iff.1 cb1).1)).trans cb1))
    clear c0
    have c0 := fun i => blk_cell ob2 i
    have c1 := fun i => blk_cell cb2 i
    have c2 := fun i => blk_frozen cb2 i
    have c3 := fun u v i => blk_cell (blk_set (blk_set cb2 0 u) 1 v) i
    go_region
    go_wp2
    (try simp only [Exit.inBlock, Exit.then])
    refine bodyPost_ret (v := .tuple #[.int .i64 2, .agg #[.int .u8 (tv o.t), .string o.d]]) ?_ rfl ⟨by rw [hR.out], ?_⟩
    · exact results_tc rfl _ _ _ rfl rfl (by go_simp; try rfl)
    · exact below_drew ((B2.setCell (p := ⟨w.heap.size + 1, 0, none⟩) (by simp only; omega) _).setCell (p := ⟨w.heap.size + 1, 1, none⟩) (by simp only; omega) _)
  | true =>
    rw [hg] at hG
    have hv0 : (nv want == 0) = decide (want = 0) := ni_bool want 0
    by_cases h0 : want = 0
    · rw [decide_eq_true h0] at hv0
      have hO1 : Hid (R = if o.t ≠ 3 ∨ o.d = oct 0 then (2, o) else (0, o)) := Lib.hid (by rw [hO.out, if_neg (by rw [hg]; simp), if_pos h0])
      have HW := Lib.hid h0
      clear h0
      have b3 : (tv o.t != 3) = !decide (o.t = 3) := by rw [bne, show (3 : Int) = tv 3 from rfl, ti_bool]
      have b3' : (tv o.t == 3) = decide (o.t = 3) := ti_bool o.t 3
      clear hO
      go_upto_region 5 with (first
        | (go_at_call 57; with_reducible refine (hG _).mono ?_; rintro e w1 ⟨rfl, hb2⟩
           have B2 := B1.trans (hb2.mono B1.size)
           have ob2 := (hb2.block _ ((Array.getElem?_eq_some_iff.1 ob1).1)).trans ob1
           have cb2 := (hb2.block _ ((Array.getElem?_eq_some_iff.1 cb1).1)).trans cb1
           have c0' := fun i => blk_cell ob2 i)
        | (go_at_call 58; with_reducible refine (hV _ (hp1.below hb2)).mono ?_; rintro e w3 ⟨rfl, h3⟩; obtain rfl := h3.symm))
      clear c0 c0'
      have c0 := fun i => blk_cell ob2 i
      have c1 := fun i => blk_cell cb2 i
      have c2 := fun i => blk_frozen cb2 i
      by_cases ht : o.t = 3
      · rw [decide_eq_true ht] at b3 b3'
        have hdd : (o.d.toList == (oct 0).toList) = decide (o.d = oct 0) := str_toList _ _
        by_cases hd : o.d = oct 0
        · rw [decide_eq_true hd] at hdd
          have hR : Hid (R = (2, o)) := Lib.hid (by rw [hO1.out, if_pos (.inr hd)])
          have HD := Lib.hid hd
          have HT := Lib.hid ht
          clear hd ht hO1
          go_region_with (go_at_call 51; with_reducible refine (hA0 _).mono ?_; rintro e w4 ⟨rfl, hb4⟩; have c8 := fun i => blk_cell ((hb4.block _ ((Array.getElem?_eq_some_iff.1 ob2).1)).trans ob2) i)
          all_goals go_simp
          all_goals
            have B4 := (below_drew B2).trans (hb4.mono B2.size)
            have ob4 := (hb4.block _ ((Array.getElem?_eq_some_iff.1 ob2).1)).trans ob2
            have cb4 := (hb4.block _ ((Array.getElem?_eq_some_iff.1 cb2).1)).trans cb2
            clear c0 c1 c2
            have c0 := fun i => blk_cell ob4 i
            have c1 := fun i => blk_cell cb4 i
            have c2 := fun i => blk_frozen cb4 i
            go_upto_region 6 with fail
            have c3 := fun u v i => blk_cell (blk_set (blk_set cb4 0 u) 1 v) i
            go_region
            go_wp2
            (try simp only [Exit.inBlock, Exit.then])
            refine bodyPost_ret (v := .tuple #[.int .i64 2, .agg #[.int .u8 (tv o.t), .string o.d]]) ?_ rfl ⟨by rw [hR.out], ?_⟩
            · exact results_tc rfl _ _ _ rfl rfl (by go_simp; try rfl)
            · exact below_drew ((B4.setCell (p := ⟨w.heap.size + 1, 0, none⟩) (by simp only; omega) _).setCell (p := ⟨w.heap.size + 1, 1, none⟩) (by simp only; omega) _)
        · rw [decide_eq_false hd] at hdd
          have hR : Hid (R = (0, o)) := Lib.hid (by rw [hO1.out, if_neg (by rintro (h | h); exact h ht; exact hd h)])
          have HD := Lib.hid hd
          have HT := Lib.hid ht
          clear hd ht hO1
          go_region_with (go_at_call 51; with_reducible refine (hA0 _).mono ?_; rintro e w4 ⟨rfl, hb4⟩; have c8 := fun i => blk_cell ((hb4.block _ ((Array.getElem?_eq_some_iff.1 ob2).1)).trans ob2) i)
          all_goals go_simp
          all_goals
            have B4 := (below_drew B2).trans (hb4.mono B2.size)
            have ob4 := (hb4.block _ ((Array.getElem?_eq_some_iff.1 ob2).1)).trans ob2
            have cb4 := (hb4.block _ ((Array.getElem?_eq_some_iff.1 cb2).1)).trans cb2
            clear c0 c1 c2
            have c0 := fun i => blk_cell ob4 i
            have c1 := fun i => blk_cell cb4 i
            have c2 := fun i => blk_frozen cb4 i
            go_upto_region 7 with fail
            have c3 := fun u v i => blk_cell (blk_set (blk_set cb4 0 u) 1 v) i
            go_region
            go_wp2
            (try simp only [Exit.inBlock, Exit.then])
            refine bodyPost_ret (v := .tuple #[.int .i64 0, .agg #[.int .u8 (tv o.t), .string o.d]]) ?_ rfl ⟨by rw [hR.out], ?_⟩
            · exact results_tc rfl _ _ _ rfl rfl (by go_simp; try rfl)
            · exact below_drew ((B4.setCell (p := ⟨w.heap.size + 1, 0, none⟩) (by simp only; omega) _).setCell (p := ⟨w.heap.size + 1, 1, none⟩) (by simp only; omega) _)
      · rw [decide_eq_false ht] at b3 b3'
        have hR : Hid (R = (2, o)) := Lib.hid (by rw [hO1.out, if_pos (.inl ht)])
        clear ht hO1
        go_region
        go_upto_region 6 with fail
        have c3 := fun u v i => blk_cell (blk_set (blk_set cb2 0 u) 1 v) i
        go_region
        go_wp2
        (try simp only [Exit.inBlock, Exit.then])
        refine bodyPost_ret (v := .tuple #[.int .i64 2, .agg #[.int .u8 (tv o.t), .string o.d]]) ?_ rfl ⟨by rw [hR.out], ?_⟩
        · exact results_tc rfl _ _ _ rfl rfl (by go_simp; try rfl)
        · exact below_drew (below_drew ((B2.setCell (p := ⟨w.heap.size + 1, 0, none⟩) (by simp only; omega) _).setCell (p := ⟨w.heap.size + 1, 1, none⟩) (by simp only; omega) _))
    · rw [decide_eq_false h0] at hv0
      have hO1 : Hid (R = if o.d = oct want then (0, o) else (1, ⟨o.t, oct want⟩)) := Lib.hid (by rw [hO.out, if_neg (by rw [hg]; simp), if_neg h0])
      clear h0 hO
      go_upto_region 8 with (first
        | (go_at_call 57; with_reducible refine (hG _).mono ?_; rintro e w1 ⟨rfl, hb2⟩
           have B2 := B1.trans (hb2.mono B1.size)
           have ob2 := (hb2.block _ ((Array.getElem?_eq_some_iff.1 ob1).1)).trans ob1
           have cb2 := (hb2.block _ ((Array.getElem?_eq_some_iff.1 cb1).1)).trans cb1
           have c0' := fun i => blk_cell ob2 i)
        | (go_at_call 58; with_reducible refine (hV _ (hp1.below hb2)).mono ?_; rintro e w3 ⟨rfl, h3⟩; obtain rfl := h3.symm))
      clear c0 c0'
      have c0 := fun i => blk_cell ob2 i
      have c1 := fun i => blk_cell cb2 i
      have c2 := fun i => blk_frozen cb2 i
      have hdd : (o.d.toList == (oct want).toList) = decide (o.d = oct want) := str_toList _ _
      by_cases hd : o.d = oct want
      · rw [decide_eq_true hd] at hdd
        have hR : Hid (R = (0, o)) := Lib.hid (by rw [hO1.out, if_pos hd])
        have HD := Lib.hid hd
        clear hd hO1
        go_region_with (go_at_call 51; with_reducible refine (hA want _).mono ?_; rintro e w4 ⟨rfl, hb4⟩; have c8 := fun i => blk_cell ((hb4.block _ ((Array.getElem?_eq_some_iff.1 ob2).1)).trans ob2) i)
        all_goals go_simp
        all_goals
          have B4 := (below_drew B2).trans (hb4.mono B2.size)
          have ob4 := (hb4.block _ ((Array.getElem?_eq_some_iff.1 ob2).1)).trans ob2
          have cb4 := (hb4.block _ ((Array.getElem?_eq_some_iff.1 cb2).1)).trans cb2
          clear c0 c1 c2
          have c0 := fun i => blk_cell ob4 i
          have c1 := fun i => blk_cell cb4 i
          have c2 := fun i => blk_frozen cb4 i
          go_upto_region 10 with fail
          have c3 := fun u v i => blk_cell (blk_set (blk_set cb4 0 u) 1 v) i
          go_region
          go_wp2
          (try simp only [Exit.inBlock, Exit.then])
          refine bodyPost_ret (v := .tuple #[.int .i64 0, .agg #[.int .u8 (tv o.t), .string o.d]]) ?_ rfl ⟨by rw [hR.out], ?_⟩
          · exact results_tc rfl _ _ _ rfl rfl (by go_simp; try rfl)
          · exact below_drew ((B4.setCell (p := ⟨w.heap.size + 1, 0, none⟩) (by simp only; omega) _).setCell (p := ⟨w.heap.size + 1, 1, none⟩) (by simp only; omega) _)
      · rw [decide_eq_false hd] at hdd
        have hR : Hid (R = (1, ⟨o.t, oct want⟩)) := Lib.hid (by rw [hO1.out, if_neg hd])
        have HD := Lib.hid hd
        clear hd hO1
        go_region_with (go_at_call 51; with_reducible refine (hA want _).mono ?_; rintro e w4 ⟨rfl, hb4⟩; have c8 := fun i => blk_cell ((hb4.block _ ((Array.getElem?_eq_some_iff.1 ob2).1)).trans ob2) i)
        all_goals go_simp
        all_goals
          have B4 := (below_drew B2).trans (hb4.mono B2.size)
          have ob4 := (hb4.block _ ((Array.getElem?_eq_some_iff.1 ob2).1)).trans ob2
          have cb4 := (hb4.block _ ((Array.getElem?_eq_some_iff.1 cb2).1)).trans cb2
          clear c0 c1 c2
          have c0 := fun i => blk_cell ob4 i
          have c1 := fun i => blk_cell cb4 i
          have c2 := fun i => blk_frozen cb4 i
          go_wp2_with (first
            | (go_at_call 51; with_reducible refine (hA want _).mono ?_; rintro e w5 ⟨rfl, hb5⟩
               have B5 := B4.trans (hb5.mono B4.size)
               have ob5 := (hb5.block _ ((Array.getElem?_eq_some_iff.1 ob4).1)).trans ob4
               have cb5 := (hb5.block _ ((Array.getElem?_eq_some_iff.1 cb4).1)).trans cb4
               have c4 := fun i => blk_cell cb5 i
               have c5 := fun i => blk_frozen cb5 i
               have c6 := fun u i => blk_cell (blk_set cb5 0 u) i
               have c7 := fun u i => blk_frozen (blk_set cb5 0 u) i))
          have c3 := fun u v i => blk_cell (blk_set (blk_set cb5 0 u) 1 v) i
          go_wp2
          (try simp only [Exit.inBlock, Exit.then])
          refine bodyPost_ret (v := .tuple #[.int .i64 1, .agg #[.int .u8 (tv o.t), .string (oct want)]]) ?_ rfl ⟨by rw [hR.out], ?_⟩
          · exact results_tc rfl _ _ _ rfl rfl (by go_simp; try rfl)
          · exact (B5.setCell (p := ⟨w.heap.size + 1, 0, none⟩) (by simp only; omega) _).setCell (p := ⟨w.heap.size + 1, 1, none⟩) (by simp only; omega) _
end Go.Proofs.YtlcckkdkcbelhaaDoor
