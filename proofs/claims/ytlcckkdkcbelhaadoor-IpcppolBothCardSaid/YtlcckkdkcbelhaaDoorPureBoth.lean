/-
  Layer 15 (ipcppol): how two policies come to terms, over lists.
-/
import Derived.Test.YtlcckkdkcbelhaaDoorPureMeets
import Derived.Test.YtlcckkdkcbelhaaDoorNk
import Derived.Test.YtlcckkdkcbelhaaDoorRj
set_option linter.unusedVariables false
set_option linter.unusedSimpArgs false
namespace Go.Proofs.YtlcckkdkcbelhaaDoor

/-- A row of options: an address, and name servers where there are any. -/
def rowB (A : UInt32) (h1 : Bool) (D1 : UInt32) (h2 : Bool) (D2 : UInt32) : List Opt :=
  [⟨3, oct A⟩] ++ (if h1 = true then [⟨129, oct D1⟩] else []) ++ (if h2 = true then [⟨131, oct D2⟩] else [])
def IcpOk (x : Icp) : Prop := x.ha = true ∧ (x.h1 = true ∨ x.d1 = 0) ∧ (x.h2 = true ∨ x.d2 = 0)
theorem put_row (x : Icp) (h : IcpOk x) : (putI x).1 = rowB x.a x.h1 x.d1 x.h2 x.d2 := by
  have h2 : okI x 3 := fun j hj => by
    rcases (show j = 0 ∨ j = 1 ∨ j = 2 by omega) with rfl | rfl | rfl
    · exact .inl h.1
    · exact h.2.1
    · exact h.2.2
  unfold putI
  rw [if_pos h2]
  show putL x 3 = _
  simp only [putL, List.nil_append]
  rw [show x.has 0 = x.ha from rfl, h.1, show x.has 1 = x.h1 from rfl, show x.has 2 = x.h2 from rfl]
  rfl
theorem one_t (k : Nat) (u : UInt32) : (⟨tk k, oct u⟩ : Opt).t = tk k := rfl
theorem kof_tk (k : Nat) (hk : k < 3) (u : UInt32) : kof ⟨tk k, oct u⟩ = k := kof_of hk rfl
theorem good_tk (k : Nat) (hk : k < 3) (u : UInt32) : goodO ⟨tk k, oct u⟩ = true := (good_is hk ⟨rfl, rfl⟩).1
/-- What is said of one option of a kind. -/
def saidK (c : Conf) (k : Nat) (u : UInt32) : Nat := if c.given k = 0 then (if k ≠ 0 ∨ u = 0 then 1 else 0) else if u = c.given k then 0 else 2
theorem verd_tk {c : Conf} {pre : List Opt} {k : Nat} (hk : k < 3) (u : UInt32) (h : ∀ q ∈ pre, q.t ≠ tk k) : verd c pre ⟨tk k, oct u⟩ = saidK c k u := by
  unfold verd saidK
  rw [if_neg (by rw [twice_no (fun q hq => h q hq), good_tk k hk]; simp), kof_tk k hk, show ad4 (⟨tk k, oct u⟩ : Opt).d = u from ad4_oct u]
def addK (c : Conf) (k : Nat) (u : UInt32) (v : V3) : V3 := if saidK c k u = 1 then ⟨v.r ++ [⟨tk k, oct u⟩], v.n, v.c⟩ else if saidK c k u = 2 then ⟨v.r, v.n ++ [⟨tk k, oct (c.given k)⟩], v.c ++ [⟨tk k, oct u⟩]⟩ else v
theorem step_tk {c : Conf} {pre : List Opt} {k : Nat} (hk : k < 3) (u : UInt32) (h : ∀ q ∈ pre, q.t ≠ tk k) (v : V3) : step3 c pre ⟨tk k, oct u⟩ v = addK c k u v := by
  unfold step3 addK
  rw [verd_tk hk u h, kof_tk k hk]
theorem look_row (c : Conf) (A D1 D2 : UInt32) (h1 h2 : Bool) : look c (rowB A h1 D1 h2 D2) =
    (fun v => if h2 = true then addK c 2 D2 v else v) ((fun v => if h1 = true then addK c 1 D1 v else v) (addK c 0 A ⟨[], [], []⟩)) := by
  have hl : lacks c (rowB A h1 D1 h2 D2) = false := by
    unfold lacks rowB
    simp
  unfold look
  rw [if_neg (by rw [hl]; simp)]
  have s0 : ∀ v, step3 c [] ⟨3, oct A⟩ v = addK c 0 A v := fun v => step_tk (k := 0) (by omega) A (by simp) v
  have s1 : ∀ v, step3 c [⟨3, oct A⟩] ⟨129, oct D1⟩ v = addK c 1 D1 v := fun v => step_tk (k := 1) (by omega) D1 (by simp [tk]) v
  have s2 : ∀ v, step3 c [⟨3, oct A⟩] ⟨131, oct D2⟩ v = addK c 2 D2 v := fun v => step_tk (k := 2) (by omega) D2 (by simp [tk]) v
  have s3 : ∀ v, step3 c [⟨3, oct A⟩, ⟨129, oct D1⟩] ⟨131, oct D2⟩ v = addK c 2 D2 v := fun v => step_tk (k := 2) (by omega) D2 (by simp [tk]) v
  cases h1 <;> cases h2 <;> simp [rowB, runL, s0, s1, s2, s3]
theorem get_row (A D1 D2 : UInt32) (h1 h2 : Bool) : getI (rowB A h1 D1 h2 D2) = (⟨true, A, h1, if h1 = true then D1 else 0, h2, if h2 = true then D2 else 0⟩, [], 0) := by
  have g0 : ∀ (l : List Opt) (x : Icp) (odd : List Opt), x.ha = false → getL (⟨3, oct A⟩ :: l) x odd = getL l (x.set 0 A) odd := fun l x odd h => by
    have := get_new (l := l) (o := ⟨3, oct A⟩) (x := x) (odd := odd) (k := 0) (by omega) ⟨rfl, rfl⟩ h
    rw [this, show ad4 (⟨3, oct A⟩ : Opt).d = A from ad4_oct A]
  have g1 : ∀ (l : List Opt) (x : Icp) (odd : List Opt), x.h1 = false → getL (⟨129, oct D1⟩ :: l) x odd = getL l (x.set 1 D1) odd := fun l x odd h => by
    have := get_new (l := l) (o := ⟨129, oct D1⟩) (x := x) (odd := odd) (k := 1) (by omega) ⟨rfl, rfl⟩ h
    rw [this, show ad4 (⟨129, oct D1⟩ : Opt).d = D1 from ad4_oct D1]
  have g2 : ∀ (l : List Opt) (x : Icp) (odd : List Opt), x.h2 = false → getL (⟨131, oct D2⟩ :: l) x odd = getL l (x.set 2 D2) odd := fun l x odd h => by
    have := get_new (l := l) (o := ⟨131, oct D2⟩) (x := x) (odd := odd) (k := 2) (by omega) ⟨rfl, rfl⟩ h
    rw [this, show ad4 (⟨131, oct D2⟩ : Opt).d = D2 from ad4_oct D2]
  unfold getI rowB
  cases h1 <;> cases h2
  · simp only [Bool.false_eq_true, if_false, List.append_nil]
    rw [g0 _ _ _ rfl]; rfl
  · simp only [Bool.false_eq_true, if_false, List.append_nil, if_true, List.cons_append, List.nil_append]
    rw [g0 _ _ _ rfl, g2 _ _ _ rfl]; rfl
  · simp only [Bool.false_eq_true, if_false, List.append_nil, if_true, List.cons_append, List.nil_append]
    rw [g0 _ _ _ rfl, g1 _ _ _ rfl]; rfl
  · simp only [Bool.false_eq_true, if_false, List.append_nil, if_true, List.cons_append, List.nil_append]
    rw [g0 _ _ _ rfl, g1 _ _ _ rfl, g2 _ _ _ rfl]; rfl

section game
variable (own give dns1 dns2 : UInt32) (want : Bool)
def AC : Conf := ⟨own, give, dns1, dns2, false, 5⟩
def BC : Conf := ⟨0, 0, 0, 0, want, 5⟩
def g1 : Bool := want && decide (dns1 ≠ 0)
def dd1 : UInt32 := if g1 dns1 want = true then dns1 else 0
def W0 : Icp := ⟨true, 0, want, 0, want, 0⟩
def W1 : Icp := ⟨true, 0, g1 dns1 want, 0, g1 dns2 want, 0⟩
def W2 : Icp := ⟨true, give, g1 dns1 want, dd1 dns1 want, g1 dns2 want, dd1 dns2 want⟩
def sa0 (n : Int) : Pol := ⟨⟨true, own, false, 0, false, 0⟩, AC own give dns1 dns2, noI, noI, n⟩
def sb0 (x : Icp) : Pol := ⟨x, BC want, noI, noI, 0⟩
/-- How the two stand behind k rounds. -/
def St (k : Nat) (a b : Pol) : Prop :=
  (k = 0 ∧ want = true ∧ (dns1 = 0 ∨ dns2 = 0) ∧ a = sa0 own give dns1 dns2 0 ∧ b = sb0 want (W0 want)) ∨
  (k ≤ 1 ∧ a = sa0 own give dns1 dns2 0 ∧ b = sb0 want (W1 dns1 dns2 want)) ∨
  (k ≤ 2 ∧ a = sa0 own give dns1 dns2 1 ∧ b = sb0 want (W2 give dns1 dns2 want))
theorem st_start : St own give dns1 dns2 want 0 (resetP (AC own give dns1 dns2)) (resetP (BC want)) := by
  by_cases h : want = true ∧ (dns1 = 0 ∨ dns2 = 0)
  · exact .inl ⟨rfl, h.1, h.2, rfl, rfl⟩
  · refine .inr (.inl ⟨by omega, rfl, ?_⟩)
    cases want with
    | false => rfl
    | true =>
      have h1 : dns1 ≠ 0 := fun e => h ⟨rfl, .inl e⟩
      have h2 : dns2 ≠ 0 := fun e => h ⟨rfl, .inr e⟩
      simp [resetP, sb0, W1, g1, BC, h1, h2]
variable {own give dns1 dns2 want}
theorem judge0 (hg : give ≠ 0) (h : dns1 = 0 ∨ dns2 = 0) : ∃ x, judge (sa0 own give dns1 dns2 0) (putI (W0 true)).1 = (4, x, sa0 own give dns1 dns2 0) ∧ x.length ≤ 3 ∧ rejd (sb0 true (W0 true)) x = (true, sb0 true (W1 dns1 dns2 true)) := by
  have hp : (putI (W0 true)).1 = rowB 0 true 0 true 0 := put_row _ ⟨rfl, .inl rfl, .inl rfl⟩
  rw [hp]
  have hl := look_row (AC own give dns1 dns2) 0 0 0 true true
  have e0 : saidK (AC own give dns1 dns2) 0 0 = 2 := by simp [saidK, Conf.given, AC, hg, hg.symm]
  have hp2 : (putI (sb0 true (W0 true)).w).1 = rowB 0 true 0 true 0 := hp
  by_cases d1 : dns1 = 0
  · have e1 : saidK (AC own give dns1 dns2) 1 0 = 1 := by simp [saidK, Conf.given, AC, d1]
    by_cases d2 : dns2 = 0
    · have e2 : saidK (AC own give dns1 dns2) 2 0 = 1 := by simp [saidK, Conf.given, AC, d2]
      simp only [addK, e0, e1, e2, if_true] at hl
      simp at hl
      refine ⟨[⟨tk 1, oct 0⟩, ⟨tk 2, oct 0⟩], ?_, by simp, ?_⟩
      · unfold judge
        rw [show (sa0 own give dns1 dns2 0).c = AC own give dns1 dns2 from rfl, hl]
        rfl
      · unfold rejd
        rw [hp2]
        simp [rowB, subB, idxN, tk, clrs, kof, Icp.clr, sb0, W0, W1, g1, d1, d2]
    · have e2 : saidK (AC own give dns1 dns2) 2 0 = 2 := by simp [saidK, Conf.given, AC, d2, Ne.symm d2]
      simp only [addK, e0, e1, e2, if_true] at hl
      simp at hl
      refine ⟨[⟨tk 1, oct 0⟩], ?_, by simp, ?_⟩
      · unfold judge
        rw [show (sa0 own give dns1 dns2 0).c = AC own give dns1 dns2 from rfl, hl]
        rfl
      · unfold rejd
        rw [hp2]
        simp [rowB, subB, idxN, tk, clrs, kof, Icp.clr, sb0, W0, W1, g1, d1, d2]
  · have d2 : dns2 = 0 := h.resolve_left d1
    have e1 : saidK (AC own give dns1 dns2) 1 0 = 2 := by simp [saidK, Conf.given, AC, d1, Ne.symm d1]
    have e2 : saidK (AC own give dns1 dns2) 2 0 = 1 := by simp [saidK, Conf.given, AC, d2]
    simp only [addK, e0, e1, e2, if_true] at hl
    simp at hl
    refine ⟨[⟨tk 2, oct 0⟩], ?_, by simp, ?_⟩
    · unfold judge
      rw [show (sa0 own give dns1 dns2 0).c = AC own give dns1 dns2 from rfl, hl]
      rfl
    · unfold rejd
      rw [hp2]
      simp [rowB, subB, idxN, tk, clrs, kof, Icp.clr, sb0, W0, W1, g1, d1, d2]
theorem took_row (hg : give ≠ 0) : took (BC want) (W1 dns1 dns2 want) ⟨true, give, g1 dns1 want, dd1 dns1 want, g1 dns2 want, dd1 dns2 want⟩ = W2 give dns1 dns2 want := by
  have n0 : (nv 0 == 0) = true := rfl
  unfold took W1 W2 BC
  simp only [n0, Bool.and_true]
  cases e1 : g1 dns1 want <;> cases e2 : g1 dns2 want
  · simp [Icp.tA, Icp.t1, Icp.t2, dd1, e1, e2, hg]
  · have : dns2 ≠ 0 := by unfold g1 at e2; simp at e2; exact e2.2
    simp [Icp.tA, Icp.t1, Icp.t2, dd1, e1, e2, hg, this]
  · have : dns1 ≠ 0 := by unfold g1 at e1; simp at e1; exact e1.2
    simp [Icp.tA, Icp.t1, Icp.t2, dd1, e1, e2, hg, this]
  · have h1 : dns1 ≠ 0 := by unfold g1 at e1; simp at e1; exact e1.2
    have h2 : dns2 ≠ 0 := by unfold g1 at e2; simp at e2; exact e2.2
    simp [Icp.tA, Icp.t1, Icp.t2, dd1, e1, e2, hg, h1, h2]
theorem g1_ne {d : UInt32} (h : g1 d want = true) : d ≠ 0 := by unfold g1 at h; simp at h; exact h.2
theorem judge1 (hg : give ≠ 0) : ∃ x, judge (sa0 own give dns1 dns2 0) (putI (W1 dns1 dns2 want)).1 = (3, x, sa0 own give dns1 dns2 1) ∧ x.length ≤ 3 ∧ nakdP (sb0 want (W1 dns1 dns2 want)) x = (true, sb0 want (W2 give dns1 dns2 want)) := by
  have hp : (putI (W1 dns1 dns2 want)).1 = rowB 0 (g1 dns1 want) 0 (g1 dns2 want) 0 := put_row _ ⟨rfl, .inr rfl, .inr rfl⟩
  rw [hp]
  have hl := look_row (AC own give dns1 dns2) 0 0 0 (g1 dns1 want) (g1 dns2 want)
  have e0 : saidK (AC own give dns1 dns2) 0 0 = 2 := by simp [saidK, Conf.given, AC, hg, hg.symm]
  have e1 : g1 dns1 want = true → saidK (AC own give dns1 dns2) 1 0 = 2 := fun h => by simp [saidK, Conf.given, AC, g1_ne h, Ne.symm (g1_ne h)]
  have e2 : g1 dns2 want = true → saidK (AC own give dns1 dns2) 2 0 = 2 := fun h => by simp [saidK, Conf.given, AC, g1_ne h, Ne.symm (g1_ne h)]
  have hn : (look (AC own give dns1 dns2) (rowB 0 (g1 dns1 want) 0 (g1 dns2 want) 0)).r = [] ∧ (look (AC own give dns1 dns2) (rowB 0 (g1 dns1 want) 0 (g1 dns2 want) 0)).n = rowB give (g1 dns1 want) dns1 (g1 dns2 want) dns2 := by
    rw [hl]
    cases f1 : g1 dns1 want <;> cases f2 : g1 dns2 want <;> simp only [addK, e0, Bool.false_eq_true, if_false, if_true]
    · simp [rowB, tk, Conf.given, AC]
    · rw [e2 f2]; simp [rowB, tk, Conf.given, AC]
    · rw [e1 f1]; simp [rowB, tk, Conf.given, AC]
    · rw [e1 f1, e2 f2]; simp [rowB, tk, Conf.given, AC]
  refine ⟨rowB give (g1 dns1 want) dns1 (g1 dns2 want) dns2, ?_, by unfold rowB; split <;> split <;> simp, ?_⟩
  · unfold judge
    rw [show (sa0 own give dns1 dns2 0).c = AC own give dns1 dns2 from rfl, hn.1, if_neg (by simp), hn.2, if_pos ⟨by simp [rowB], by show (0 : Int) < 5; decide⟩]
    rfl
  · unfold nakdP
    rw [get_row, if_neg (by simp [rowB])]
    exact congrArg (fun x => (true, sb0 want x)) (took_row hg)
theorem judge2 (hg : give ≠ 0) : judge (sa0 own give dns1 dns2 1) (putI (W2 give dns1 dns2 want)).1 = (2, (putI (W2 give dns1 dns2 want)).1, { sa0 own give dns1 dns2 0 with peer := W2 give dns1 dns2 want }) := by
  have hp : (putI (W2 give dns1 dns2 want)).1 = rowB give (g1 dns1 want) (dd1 dns1 want) (g1 dns2 want) (dd1 dns2 want) := put_row _ ⟨rfl, by unfold W2 dd1; cases g1 dns1 want <;> simp, by unfold W2 dd1; cases g1 dns2 want <;> simp⟩
  rw [hp]
  have hl := look_row (AC own give dns1 dns2) give (dd1 dns1 want) (dd1 dns2 want) (g1 dns1 want) (g1 dns2 want)
  have e0 : saidK (AC own give dns1 dns2) 0 give = 0 := by simp [saidK, Conf.given, AC, hg]
  have e1 : g1 dns1 want = true → saidK (AC own give dns1 dns2) 1 (dd1 dns1 want) = 0 := fun h => by simp [saidK, Conf.given, AC, g1_ne h, dd1, h]
  have e2 : g1 dns2 want = true → saidK (AC own give dns1 dns2) 2 (dd1 dns2 want) = 0 := fun h => by simp [saidK, Conf.given, AC, g1_ne h, dd1, h]
  have hn : look (AC own give dns1 dns2) (rowB give (g1 dns1 want) (dd1 dns1 want) (g1 dns2 want) (dd1 dns2 want)) = ⟨[], [], []⟩ := by
    rw [hl]
    cases f1 : g1 dns1 want <;> cases f2 : g1 dns2 want <;> simp only [addK, e0, Bool.false_eq_true, if_false, if_true]
    · rfl
    · rw [e2 f2]; rfl
    · rw [e1 f1]; rfl
    · rw [e1 f1, e2 f2]; rfl
  unfold judge
  rw [show (sa0 own give dns1 dns2 1).c = AC own give dns1 dns2 from rfl, hn, if_neg (by simp), if_neg (by simp), if_neg (by simp), get_row]
  have q1 : (if g1 dns1 want = true then dd1 dns1 want else 0) = dd1 dns1 want := by unfold dd1; cases g1 dns1 want <;> simp
  have q2 : (if g1 dns2 want = true then dd1 dns2 want else 0) = dd1 dns2 want := by unfold dd1; cases g1 dns2 want <;> simp
  rw [q1, q2]
  rfl
/-- The other way: what a asks for is what b acks. -/
theorem judge3 (ho : own ≠ 0) : judge { sb0 want (W2 give dns1 dns2 want) with mine := W2 give dns1 dns2 want } (putI (sa0 own give dns1 dns2 0).w).1 = (2, (putI (sa0 own give dns1 dns2 0).w).1, { sb0 want (W2 give dns1 dns2 want) with mine := W2 give dns1 dns2 want, peer := (sa0 own give dns1 dns2 0).w }) := by
  have hp : (putI (sa0 own give dns1 dns2 0).w).1 = rowB own false 0 false 0 := put_row _ ⟨rfl, .inr rfl, .inr rfl⟩
  rw [hp]
  have hl := look_row (BC want) own 0 0 false false
  have e0 : saidK (BC want) 0 own = 0 := by simp [saidK, Conf.given, BC, ho]
  simp only [addK, e0, Bool.false_eq_true, if_false] at hl
  simp at hl
  unfold judge
  rw [show ({ sb0 want (W2 give dns1 dns2 want) with mine := W2 give dns1 dns2 want } : Pol).c = BC want from rfl, hl, if_neg (by simp), if_neg (by simp), if_neg (by simp), get_row]
  rfl
end game
end Go.Proofs.YtlcckkdkcbelhaaDoor
