/-
  Layer 15 (ipcppol): the law IpcppolBoth, walked.
-/
import Derived.Test.YtlcckkdkcbelhaaDoorPureBoth
import Derived.Test.YtlcckkdkcbelhaaDoorAlive
set_option linter.unusedVariables false
set_option linter.unusedSimpArgs false
namespace Go.Proofs.YtlcckkdkcbelhaaDoor
open Go.RowKit Go.Proofs.YtlcckkdkcbelhaaDoorW.PrintWords Go.Proofs.YtlcckkdkcbelhaaDoorW.PrintLast

theorem field36_1 (W : World) (a1 a3 a4 a5 a6 : Value) (b : Int) : (Instr.field 36 (.agg #[a1, .int .u32 b, a3, a4, a5, a6]) 1).run Tryd.prog W = .ok (.int .u32 b) W := by kernel_rfl
theorem IsPol.but {w W : World} {pa pb : Nat} {s : Pol} (h : IsPol w pa s) (hb : But pb w W) (hne : pa ≠ pb) : IsPol W pa s := (hb.block _ h.lt hne).trans h
/-- Request, told. -/
theorem req_told {s : Pol} {q : List Opt} (hq : (putI s.w).1 = q) (pb : Nat) (w : World) (hK : K w) (hp : IsPol w pb s) :
    Calls Tryd.prog 15 #[.pointer (some ⟨pb, 0, none⟩)] w fun e w' => ∃ xa xc, e = .returned (.slice xa q.length xc) ∧ Row w' xa xc q ∧ Below w.heap.size w w' := by
  subst hq
  refine (request_calls s pb w hK hp).mono ?_
  rintro e w' ⟨v, rfl, ho, hb⟩
  obtain ⟨xa, xc, rfl, r⟩ := row_own ho
  exact ⟨xa, xc, rfl, r, hb⟩
theorem rej_told {s s' : Pol} {l : List Opt} (hr : rejd s l = (true, s')) (hl : l.length ≤ 3) (pb : Nat) (a : Option Addr) (c : Nat) (w : World) (h : Row w a c l) (hK : K w) (hp : IsPol w pb s) :
    Calls Tryd.prog 18 #[.pointer (some ⟨pb, 0, none⟩), .slice a l.length c] w fun e w' => e = .returned (.bool true) ∧ But pb w w' ∧ IsPol w' pb s' := by
  have := rejected_calls s pb l a c w h (by omega) hK hp
  rw [hr] at this
  exact this
theorem nak_told {s s' : Pol} {l : List Opt} (hr : nakdP s l = (true, s')) (hl : l.length ≤ 3) (pb : Nat) (a : Option Addr) (c : Nat) (w : World) (h : Row w a c l) (hK : K w) (hp : IsPol w pb s) :
    Calls Tryd.prog 17 #[.pointer (some ⟨pb, 0, none⟩), .slice a l.length c] w fun e w' => e = .returned (.bool true) ∧ But pb w w' ∧ IsPol w' pb s' := by
  have := naked_calls s pb l a c w h (by omega) hK hp
  rw [hr] at this
  exact this
theorem ack_told {s : Pol} {l : List Opt} (hr : (putI s.w).1 = l) (pb : Nat) (a : Option Addr) (c : Nat) (w : World) (h : Row w a c l) (hK : K w) (hp : IsPol w pb s) :
    Calls Tryd.prog 16 #[.pointer (some ⟨pb, 0, none⟩), .slice a l.length c] w fun e w' => e = .returned (.bool true) ∧ But pb w w' ∧ IsPol w' pb { s with mine := s.w } := by
  subst hr
  have := acked_calls s pb _ a c w h (by have := puti_len s.w; omega) hK hp
  rw [decide_eq_true rfl, if_pos rfl] at this
  exact this
abbrev CReq (pb : Nat) (s : Pol) (q : List Opt) : Prop := ∀ W, K W → IsPol W pb s → Calls Tryd.prog 15 #[.pointer (some ⟨pb, 0, none⟩)] W fun e w' => ∃ xa xc, e = .returned (.slice xa q.length xc) ∧ Row w' xa xc q ∧ Below W.heap.size W w'
abbrev CJud (pa : Nat) (s : Pol) (q : List Opt) (z : Int) (x : List Opt) (s' : Pol) : Prop := ∀ a c W, Row W a c q → K W → IsPol W pa s → Calls Tryd.prog 10 #[.pointer (some ⟨pa, 0, none⟩), .slice a q.length c] W fun e w' => ∃ ya kn, e = .returned (.tuple #[.int .u8 z, .slice ya x.length kn]) ∧ Row w' ya kn x ∧ But pa W w' ∧ IsPol w' pa s'
abbrev CTake (f : FuncId) (pb : Nat) (s : Pol) (x : List Opt) (s' : Pol) : Prop := ∀ a c W, Row W a c x → K W → IsPol W pb s → Calls Tryd.prog f #[.pointer (some ⟨pb, 0, none⟩), .slice a x.length c] W fun e w' => e = .returned (.bool true) ∧ But pb W w' ∧ IsPol w' pb s'
abbrev CGet (f : FuncId) (pb : Nat) (s : Pol) (b : Bool) (u : Int) (b1 : Bool) (D1 : Int) (b2 : Bool) (D2 : Int) : Prop := ∀ W, IsPol W pb s → Calls Tryd.prog f #[.pointer (some ⟨pb, 0, none⟩)] W fun e w' => e = .returned (.agg #[.bool b, .int .u32 u, .bool b1, .int .u32 D1, .bool b2, .int .u32 D2]) ∧ Below W.heap.size W w'
set_option maxRecDepth 100000 in
theorem both_bad (own give dns1 dns2 : UInt32) (want : Bool) (w : World) (hK : K w) (h : own = 0 ∨ give = 0) :
    Calls Tryd.prog 5 #[.int .u32 (nv own), .int .u32 (nv give), .int .u32 (nv dns1), .int .u32 (nv dns2), .bool want] w fun e w' => e = .returned (.bool true) ∧ Below w.heap.size w w' := by
  by_cases h0 : own = 0
  · have p1 : nv own = 0 := by rw [h0]; rfl
    clear h0 h
    go_enter Tryd.func5, Tryd.ntmps5
    go_wp2_with (first
      | (go_at_call 7; with_reducible refine (alive_calls _ hK).mono ?_; rintro e w1 ⟨rfl, hb1⟩))
    go_ret
    exact ⟨rfl, hb1⟩
  · have p2 : nv give = 0 := by rw [h.resolve_left h0]; rfl
    obtain ⟨p1, p3⟩ := nv_ne0' h0
    clear h0 h
    go_enter Tryd.func5, Tryd.ntmps5
    go_wp2_with (first
      | (go_at_call 7; with_reducible refine (alive_calls _ hK).mono ?_; rintro e w1 ⟨rfl, hb1⟩))
    go_ret
    exact ⟨rfl, hb1⟩
/-- What is told of the last request. -/
structure Told (dns1 dns2 : UInt32) (want b1 b2 : Bool) (D1 D2 : Int) : Prop where
  one : want = false → b1 = false ∧ b2 = false
  p1 : want = true → (nv dns1 != 0) = b1
  p2 : want = true → (nv dns2 != 0) = b2
  d1 : D1 = if b1 = true then nv dns1 else 0
  d2 : D2 = if b2 = true then nv dns2 else 0
theorem told_g (dns1 dns2 : UInt32) (want : Bool) : Told dns1 dns2 want (g1 dns1 want) (g1 dns2 want) (nv (dd1 dns1 want)) (nv (dd1 dns2 want)) := by
  have q : ∀ d : UInt32, (nv d != 0) = decide (d ≠ 0) := fun d => by
    rw [show (0 : Int) = nv 0 from rfl, bne, ni_bool]
    by_cases h : d = 0 <;> simp [h]
  refine ⟨fun h => by simp [g1, h], fun h => by rw [q]; simp [g1, h], fun h => by rw [q]; simp [g1, h], ?_, ?_⟩
  · unfold dd1; cases g1 dns1 want <;> rfl
  · unfold dd1; cases g1 dns2 want <;> rfl
end Go.Proofs.YtlcckkdkcbelhaaDoor
