/-
  Layer 15 (ipcppol): the tables' functions, walked; a policy as it lies; what look says, over lists.
-/
import Derived.Test.YtlcckkdkcbelhaaDoorVer
set_option linter.unusedVariables false
set_option linter.unusedSimpArgs false
namespace Go.Proofs.YtlcckkdkcbelhaaDoor
open Go.RowKit Go.Proofs.YtlcckkdkcbelhaaDoorW.PrintWords Go.Proofs.YtlcckkdkcbelhaaDoorW.PrintLast

/-- A conf. -/
structure Conf where
  addr : UInt32
  peer : UInt32
  dns1 : UInt32
  dns2 : UInt32
  want : Bool
  max : Int
def Conf.cells (c : Conf) : Array Value := #[.int .u32 (nv c.addr), .int .u32 (nv c.peer), .int .u32 (nv c.dns1), .int .u32 (nv c.dns2), .bool c.want, .int .i64 c.max]
def Conf.given (c : Conf) (k : Nat) : UInt32 := if k = 0 then c.peer else if k = 1 then c.dns1 else c.dns2
theorem given0_calls (c : Conf) (w : World) : Calls Tryd.prog 77 #[.agg c.cells] w fun e w' => e = .returned (.int .u32 (nv (c.given 0))) ∧ Below w.heap.size w w' := by
  obtain ⟨a, b, d, e, f, g⟩ := c
  rw [show (Conf.mk a b d e f g).cells = #[.int .u32 (nv a), .int .u32 (nv b), .int .u32 (nv d), .int .u32 (nv e), .bool f, .int .i64 g] from rfl]
  go_enter Tryd.func77, Tryd.ntmps77
  go_wp2
  go_ret
  exact ⟨rfl, (Below.refl _ _).alloc (Nat.le_refl _) _⟩
theorem says0_calls (x : Icp) (w : World) : Calls Tryd.prog 78 #[.agg x.cells] w fun e w' => e = .returned (.int .u32 (nv (x.val 0))) ∧ Below w.heap.size w w' := by
  obtain ⟨a, b, d, e, f, g⟩ := x
  rw [show (Icp.mk a b d e f g).cells = #[.bool a, .int .u32 (nv b), .bool d, .int .u32 (nv e), .bool f, .int .u32 (nv g)] from rfl]
  go_enter Tryd.func78, Tryd.ntmps78
  go_wp2
  go_ret
  exact ⟨rfl, (Below.refl _ _).alloc (Nat.le_refl _) _⟩
theorem make0_calls (u : UInt32) (w : World) : Calls Tryd.prog 79 #[.int .u32 (nv u)] w fun e w' => e = .returned (.agg (noI.set 0 u).cells) ∧ Below w.heap.size w w' := by
  go_enter Tryd.func79, Tryd.ntmps79
  go_wp2
  (try simp only [Exit.inBlock, Exit.then])
  refine bodyPost_ret (v := .agg (noI.set 0 u).cells) ?_ rfl ⟨rfl, ?_⟩
  · exact results_cell1 rfl _ _ _ rfl (by go_simp; rfl)
  · exact (Below.refl _ _).alloc (Nat.le_refl _) _
theorem given1_calls (c : Conf) (w : World) : Calls Tryd.prog 81 #[.agg c.cells] w fun e w' => e = .returned (.int .u32 (nv (c.given 1))) ∧ Below w.heap.size w w' := by
  obtain ⟨a, b, d, e, f, g⟩ := c
  rw [show (Conf.mk a b d e f g).cells = #[.int .u32 (nv a), .int .u32 (nv b), .int .u32 (nv d), .int .u32 (nv e), .bool f, .int .i64 g] from rfl]
  go_enter Tryd.func81, Tryd.ntmps81
  go_wp2
  go_ret
  exact ⟨rfl, (Below.refl _ _).alloc (Nat.le_refl _) _⟩
theorem says1_calls (x : Icp) (w : World) : Calls Tryd.prog 82 #[.agg x.cells] w fun e w' => e = .returned (.int .u32 (nv (x.val 1))) ∧ Below w.heap.size w w' := by
  obtain ⟨a, b, d, e, f, g⟩ := x
  rw [show (Icp.mk a b d e f g).cells = #[.bool a, .int .u32 (nv b), .bool d, .int .u32 (nv e), .bool f, .int .u32 (nv g)] from rfl]
  go_enter Tryd.func82, Tryd.ntmps82
  go_wp2
  go_ret
  exact ⟨rfl, (Below.refl _ _).alloc (Nat.le_refl _) _⟩
theorem make1_calls (u : UInt32) (w : World) : Calls Tryd.prog 83 #[.int .u32 (nv u)] w fun e w' => e = .returned (.agg (noI.set 1 u).cells) ∧ Below w.heap.size w w' := by
  go_enter Tryd.func83, Tryd.ntmps83
  go_wp2
  (try simp only [Exit.inBlock, Exit.then])
  refine bodyPost_ret (v := .agg (noI.set 1 u).cells) ?_ rfl ⟨rfl, ?_⟩
  · exact results_cell1 rfl _ _ _ rfl (by go_simp; rfl)
  · exact (Below.refl _ _).alloc (Nat.le_refl _) _
theorem given2_calls (c : Conf) (w : World) : Calls Tryd.prog 85 #[.agg c.cells] w fun e w' => e = .returned (.int .u32 (nv (c.given 2))) ∧ Below w.heap.size w w' := by
  obtain ⟨a, b, d, e, f, g⟩ := c
  rw [show (Conf.mk a b d e f g).cells = #[.int .u32 (nv a), .int .u32 (nv b), .int .u32 (nv d), .int .u32 (nv e), .bool f, .int .i64 g] from rfl]
  go_enter Tryd.func85, Tryd.ntmps85
  go_wp2
  go_ret
  exact ⟨rfl, (Below.refl _ _).alloc (Nat.le_refl _) _⟩
theorem says2_calls (x : Icp) (w : World) : Calls Tryd.prog 86 #[.agg x.cells] w fun e w' => e = .returned (.int .u32 (nv (x.val 2))) ∧ Below w.heap.size w w' := by
  obtain ⟨a, b, d, e, f, g⟩ := x
  rw [show (Icp.mk a b d e f g).cells = #[.bool a, .int .u32 (nv b), .bool d, .int .u32 (nv e), .bool f, .int .u32 (nv g)] from rfl]
  go_enter Tryd.func86, Tryd.ntmps86
  go_wp2
  go_ret
  exact ⟨rfl, (Below.refl _ _).alloc (Nat.le_refl _) _⟩
theorem make2_calls (u : UInt32) (w : World) : Calls Tryd.prog 87 #[.int .u32 (nv u)] w fun e w' => e = .returned (.agg (noI.set 2 u).cells) ∧ Below w.heap.size w w' := by
  go_enter Tryd.func87, Tryd.ntmps87
  go_wp2
  (try simp only [Exit.inBlock, Exit.then])
  refine bodyPost_ret (v := .agg (noI.set 2 u).cells) ?_ rfl ⟨rfl, ?_⟩
  · exact results_cell1 rfl _ _ _ rfl (by go_simp; rfl)
  · exact (Below.refl _ _).alloc (Nat.le_refl _) _
/-- A policy. -/
structure Pol where
  w : Icp
  c : Conf
  mine : Icp
  peer : Icp
  naks : Int
def Pol.cells (s : Pol) : Array Value := #[.bool s.w.ha, .int .u32 (nv s.w.a), .bool s.w.h1, .int .u32 (nv s.w.d1), .bool s.w.h2, .int .u32 (nv s.w.d2),
  .int .u32 (nv s.c.addr), .int .u32 (nv s.c.peer), .int .u32 (nv s.c.dns1), .int .u32 (nv s.c.dns2), .bool s.c.want, .int .i64 s.c.max,
  .bool s.mine.ha, .int .u32 (nv s.mine.a), .bool s.mine.h1, .int .u32 (nv s.mine.d1), .bool s.mine.h2, .int .u32 (nv s.mine.d2),
  .bool s.peer.ha, .int .u32 (nv s.peer.a), .bool s.peer.h1, .int .u32 (nv s.peer.d1), .bool s.peer.h2, .int .u32 (nv s.peer.d2), .int .i64 s.naks]
def IsPol (w : World) (b : Nat) (s : Pol) : Prop := w.heap[b]? = some (.cells s.cells 66 (0, 0))
theorem IsPol.lt {w : World} {b : Nat} {s : Pol} (h : IsPol w b s) : b < w.heap.size := (Array.getElem?_eq_some_iff.1 h).1
theorem IsPol.below {w W : World} {b : Nat} {s : Pol} (h : IsPol w b s) (hb : Below w.heap.size w W) : IsPol W b s := (hb.block b h.lt).trans h
theorem put_one (k : Nat) (hk : k < 3) (u : UInt32) : (putI (noI.set k u)).1 = [⟨tk k, oct u⟩] := by
  rcases (show k = 0 ∨ k = 1 ∨ k = 2 by omega) with rfl | rfl | rfl
  · have h : okI (noI.set 0 u) 3 := fun j hj => by
      rcases (show j = 0 ∨ j = 1 ∨ j = 2 by omega) with rfl | rfl | rfl
      · exact .inl rfl
      · exact .inr rfl
      · exact .inr rfl
    unfold putI; rw [if_pos h]; rfl
  · have h : okI (noI.set 1 u) 3 := fun j hj => by
      rcases (show j = 0 ∨ j = 1 ∨ j = 2 by omega) with rfl | rfl | rfl
      · exact .inr rfl
      · exact .inl rfl
      · exact .inr rfl
    unfold putI; rw [if_pos h]; rfl
  · have h : okI (noI.set 2 u) 3 := fun j hj => by
      rcases (show j = 0 ∨ j = 1 ∨ j = 2 by omega) with rfl | rfl | rfl
      · exact .inr rfl
      · exact .inr rfl
      · exact .inl rfl
    unfold putI; rw [if_pos h]; rfl
/-- What look says: refused, to be others, and what these came as. -/
structure V3 where
  r : List Opt
  n : List Opt
  c : List Opt
def twice (pre : List Opt) (o : Opt) : Bool := !(pre.filter (hasT o.t)).isEmpty
/-- What is said of an option: 0 nothing, 1 it is refused, 2 it is to be another one. -/
def verd (c : Conf) (pre : List Opt) (o : Opt) : Nat :=
  if twice pre o = true ∨ goodO o = false then 1 else if c.given (kof o) = 0 then (if kof o ≠ 0 ∨ ad4 o.d = 0 then 1 else 0) else if ad4 o.d = c.given (kof o) then 0 else 2
def step3 (c : Conf) (pre : List Opt) (o : Opt) (v : V3) : V3 :=
  if verd c pre o = 1 then ⟨v.r ++ [o], v.n, v.c⟩ else if verd c pre o = 2 then ⟨v.r, v.n ++ [⟨o.t, oct (c.given (kof o))⟩], v.c ++ [o]⟩ else v
def runL (c : Conf) : List Opt → List Opt → V3 → V3
  | [], _, v => v
  | o :: l, pre, v => runL c l (pre ++ [o]) (step3 c pre o v)
def lacks (c : Conf) (l : List Opt) : Bool := decide (c.peer ≠ 0) && l.all fun o => !decide (o.t = 3)
def look (c : Conf) (l : List Opt) : V3 :=
  if lacks c l = true then ⟨(runL c l [] ⟨[], [], []⟩).r, (runL c l [] ⟨[], [], []⟩).n ++ [⟨3, oct c.peer⟩], (runL c l [] ⟨[], [], []⟩).c⟩ else runL c l [] ⟨[], [], []⟩
theorem get_one (o : Opt) (k : Nat) (hk : k < 3) (h : isK k o) : getI [o] = (noI.set k (ad4 o.d), [], 0) := by
  unfold getI
  rw [get_new hk h (by rcases (show k = 0 ∨ k = 1 ∨ k = 2 by omega) with rfl | rfl | rfl <;> rfl)]
  rfl
end Go.Proofs.YtlcckkdkcbelhaaDoor
