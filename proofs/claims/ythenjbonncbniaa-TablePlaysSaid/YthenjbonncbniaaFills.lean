/-
  Layer 25 (table): what the methods answer of a table whose names are "k x", some of them bound.
-/
import Derived.Test.YthenjbonncbniaaAlive25
set_option linter.unusedVariables false
set_option linter.unusedSimpArgs false
namespace Go.Proofs.Ythenjbonncbniaa
open Go.RowKit Go.Proofs.YthenjbonncbniaaW.PrintWords Go.Proofs.YthenjbonncbniaaW.PrintLast

theorem fnd_no (x : ByteArray) : ∀ (l : List ByteArray) (o : Nat), (∀ y ∈ l, x ≠ y) → fnd x l o = -1
  | [], _, _ => rfl
  | y :: l, o, h => by
    rw [fnd, if_neg (h y (List.mem_cons_self ..))]
    exact fnd_no x l (o + 1) (fun z hz => h z (List.mem_cons_of_mem _ hz))
theorem fnd_at (x : ByteArray) : ∀ (l : List ByteArray) (o k : Nat), k < l.length → l.getD k ⟨#[]⟩ = x → (∀ j, j < k → l.getD j ⟨#[]⟩ ≠ x) → fnd x l o = ((o + k : Nat) : Int)
  | [], _, _, h, _, _ => by simp at h
  | y :: l, o, 0, _, h, _ => by
    simp at h
    rw [fnd, if_pos h.symm, Nat.add_zero]
  | y :: l, o, k + 1, hk, h, h' => by
    have h0 := h' 0 (by omega)
    simp at h0
    rw [fnd, if_neg (fun e => h0 e.symm), fnd_at x l (o + 1) k (by simpa using hk) (by simpa using h) (fun j hj => by simpa using h' (j + 1) (by omega))]
    congr 1; omega
theorem fnd_lt (x : ByteArray) (l : List ByteArray) (h : ∀ j, j < l.length → l.getD j ⟨#[]⟩ ≠ x) : fnd x l 0 = -1 := by
  refine fnd_no x l 0 (fun y hy e => ?_)
  obtain ⟨j, hj, rfl⟩ := List.mem_iff_getElem.1 hy
  refine h j hj ?_
  rw [List.getD_eq_getElem?_getD, List.getElem?_eq_getElem hj, e]; rfl
def nm (k : Nat) : ByteArray := ⟨#[UInt8.ofNat k, 120]⟩
theorem nm_ne (k : Nat) : nm k ≠ ⟨#[]⟩ := by intro h; injection h with h; simp at h
theorem nm_size (k : Nat) : (nm k).size = 2 := rfl
theorem nm_inj {j k : Nat} (hj : j < 64) (hk : k < 64) (h : nm j = nm k) : j = k := by
  injection h with h
  simp at h
  have := congrArg UInt8.toNat h
  simp at this
  omega
structure Tab.Full (s : Tab) (m : Nat) (p : Nat → Bool) : Prop where
  n : s.n = m
  ns : ∀ j, j < m → s.ns.getD j ⟨#[]⟩ = cond (p j) (nm j) ⟨#[]⟩
theorem Tab.Full.take {s : Tab} {m : Nat} {p : Nat → Bool} (h : s.Full m p) (j : Nat) (hj : j < m) : (s.ns.take s.n).getD j ⟨#[]⟩ = cond (p j) (nm j) ⟨#[]⟩ := by
  rw [← h.ns j hj, h.n, List.getD_eq_getElem?_getD, List.getD_eq_getElem?_getD, List.getElem?_take_of_lt hj]
theorem Tab.Full.len {s : Tab} {m : Nat} {p : Nat → Bool} {c : Nat} (h : s.Full m p) (ho : s.Ok c) : (s.ns.take s.n).length = m := by
  have := ho.n64; have := ho.ns; rw [List.length_take, h.n]; have := h.n; omega
theorem Tab.Full.free {s : Tab} {m : Nat} {p : Nat → Bool} {c : Nat} (h : s.Full m p) (ho : s.Ok c) (k : Nat) (hk : k < m) (h0 : p k = false) (h1 : ∀ j, j < k → p j = true) : fnd ⟨#[]⟩ (s.ns.take s.n) 0 = (k : Int) := by
  have hl := h.len ho
  rw [fnd_at ⟨#[]⟩ _ 0 k (by omega) (by rw [h.take k hk, h0]; rfl) (fun j hj => by rw [h.take j (by omega), h1 j hj]; exact nm_ne j), Nat.zero_add]
theorem Tab.Full.none {s : Tab} {m : Nat} {p : Nat → Bool} {c : Nat} (h : s.Full m p) (ho : s.Ok c) (h1 : ∀ j, j < m → p j = true) : fnd ⟨#[]⟩ (s.ns.take s.n) 0 = -1 := by
  have hl := h.len ho
  exact fnd_lt _ _ (fun j hj => by rw [h.take j (by omega), h1 j (by omega)]; exact nm_ne j)
theorem Tab.Full.of {s : Tab} {m : Nat} {p : Nat → Bool} {c : Nat} (h : s.Full m p) (ho : s.Ok c) (k : Nat) (hk : k < m) (h0 : p k = false) : fnd (nm k) (s.ns.take s.n) 0 = -1 := by
  have hl := h.len ho
  have := ho.n64; have := h.n
  refine fnd_lt _ _ (fun j hj => ?_)
  rw [h.take j (by omega)]
  by_cases hp : p j = true
  · rw [hp]
    intro e
    have := nm_inj (by omega) (by omega) e
    subst this
    rw [h0] at hp; cases hp
  · rw [show p j = false by simpa using hp]
    exact fun e => nm_ne k e.symm
theorem getD_set (l : List ByteArray) (k j : Nat) (x : ByteArray) (hk : k < l.length) : (l.set k x).getD j ⟨#[]⟩ = if j = k then x else l.getD j ⟨#[]⟩ := by
  rw [List.getD_eq_getElem?_getD, List.getD_eq_getElem?_getD, List.getElem?_set]
  by_cases h : k = j
  · subst h; rw [if_pos rfl, if_pos hk, if_pos rfl]; rfl
  · rw [if_neg h, if_neg (fun e => h e.symm)]
theorem Tab.Full.bindR {s : Tab} {m : Nat} {p : Nat → Bool} {c : Nat} (h : s.Full m p) (ho : s.Ok c) (k : Nat) (hk : k < m) (h0 : p k = false) :
    (s.bindR (k : Int) (nm k)).1 = 0 ∧ (s.bindR (k : Int) (nm k)).2.Full m (fun j => decide (j = k) || p j) := by
  have := h.n; have := ho.n64; have := ho.ns
  unfold Tab.bindR
  rw [if_neg (by omega), if_neg (by rw [nm_size]; intro e; rcases e with e | e; exact nm_ne k e; omega), Int.toNat_natCast, if_pos ⟨by rw [h.ns k hk, h0]; rfl, by rw [h.of ho k hk h0]; decide⟩]
  refine ⟨rfl, h.n, fun j hj => ?_⟩
  rw [Tab.bind]
  simp only
  rw [getD_set _ _ _ _ (by omega)]
  by_cases e : j = k
  · subst e; rw [if_pos rfl]; simp
  · rw [if_neg e, h.ns j hj]; simp [e]
theorem Tab.Full.unbindR {s : Tab} {m : Nat} {p : Nat → Bool} {c : Nat} (h : s.Full m p) (ho : s.Ok c) (k : Nat) (hk : k < m) (h0 : p k = true) :
    (s.unbindR (k : Int)).1 = 0 ∧ (s.unbindR (k : Int)).2.Full m (fun j => !decide (j = k) && p j) := by
  have := h.n; have := ho.n64; have := ho.ns
  unfold Tab.unbindR
  rw [if_neg (by omega), Int.toNat_natCast, if_neg (by rw [h.ns k hk, h0]; exact nm_ne k)]
  refine ⟨rfl, h.n, fun j hj => ?_⟩
  rw [Tab.bind]
  simp only
  rw [getD_set _ _ _ _ (by omega)]
  by_cases e : j = k
  · subst e; rw [if_pos rfl]; simp
  · rw [if_neg e, h.ns j hj]; simp [e]
theorem Tab.Full.unbind3 {s : Tab} {m : Nat} {p : Nat → Bool} {c : Nat} (h : s.Full m p) (ho : s.Ok c) (k : Nat) (hk : k < m) (h0 : p k = false) : s.unbindR (k : Int) = (3, s) := by
  have := h.n
  unfold Tab.unbindR
  rw [if_neg (by omega), Int.toNat_natCast, if_pos (by rw [h.ns k hk, h0]; rfl)]
def more : ByteArray := ⟨#[109, 111, 114, 101]⟩
theorem Tab.Full.more {s : Tab} {m : Nat} {p : Nat → Bool} {c : Nat} (h : s.Full m p) (ho : s.Ok c) (h0 : p 0 = true) : s.bindR 0 more = (9, s) := by
  have := h.n; have := ho.n1
  unfold Tab.bindR
  rw [if_neg (by omega), if_neg (by rintro (e | e); exact absurd e (by decide); exact absurd e (by decide)), if_neg (fun e => ?_)]
  have h1 := h.ns 0 (by omega)
  rw [h0] at h1
  exact nm_ne 0 (h1.symm.trans e.1)
theorem Tab.Full.congr {s : Tab} {m : Nat} {p q : Nat → Bool} (h : s.Full m p) (e : ∀ j, j < m → p j = q j) : s.Full m q := ⟨h.n, fun j hj => by rw [← e j hj]; exact h.ns j hj⟩
theorem newT_full (m : Nat) : (newT m).Full m (fun j => decide (j < 0)) := ⟨rfl, fun j hj => by
  rw [show (newT m).ns = List.replicate 64 ⟨#[]⟩ from rfl, List.getD_eq_getElem?_getD, List.getElem?_replicate, show decide (j < 0) = false from rfl]
  split <;> rfl⟩
theorem bound_full : ∀ (l : List ByteArray) (k : Nat), (∀ x ∈ l, x ≠ ⟨#[]⟩) → (bound l k).length = 2 * l.length
  | [], _, _ => rfl
  | y :: l, k, h => by
    rw [bound, if_neg (h y (List.mem_cons_self ..)), List.length_append, bound_full l (k + 1) (fun x hx => h x (List.mem_cons_of_mem _ hx))]
    simp; omega
theorem Tab.Full.list {s : Tab} {m : Nat} {p : Nat → Bool} {c : Nat} (h : s.Full m p) (ho : s.Ok c) (h1 : ∀ j, j < m → p j = true) : (bound (s.ns.take s.n) 0).length / 2 = m := by
  have hl := h.len ho
  rw [bound_full, hl]
  · omega
  · intro x hx
    obtain ⟨j, hj, rfl⟩ := List.mem_iff_getElem.1 hx
    have := h.take j (by omega)
    rw [h1 j (by omega), List.getD_eq_getElem?_getD, List.getElem?_eq_getElem hj] at this
    exact fun e => nm_ne j (this.symm.trans e)
end Go.Proofs.Ythenjbonncbniaa
