/-
  Layer 25 (table): no name at two sessions, a turn odd just if it is bound; what List has.
-/
import Derived.Test.YthenjbonncbniaaFillsW
set_option linter.unusedVariables false
set_option linter.unusedSimpArgs false
namespace Go.Proofs.Ythenjbonncbniaa
open Go.RowKit Go.Proofs.YthenjbonncbniaaW.PrintWords Go.Proofs.YthenjbonncbniaaW.PrintLast

/-- How many are bound. -/
def cnt : List ByteArray → Nat
  | [] => 0
  | x :: l => (if x = ⟨#[]⟩ then 0 else 1) + cnt l
/-- Those that are bound, from k on. -/
def ent : List ByteArray → Nat → List (Nat × ByteArray)
  | [], _ => []
  | x :: l, k => (if x = ⟨#[]⟩ then [] else [(k, x)]) ++ ent l (k + 1)
theorem ent_len : ∀ (l : List ByteArray) (k : Nat), (ent l k).length = cnt l
  | [], _ => rfl
  | x :: l, k => by
    rw [ent, cnt, List.length_append, ent_len l (k + 1)]
    split <;> rfl
theorem bound_len : ∀ (l : List ByteArray) (k : Nat), (bound l k).length = 2 * cnt l
  | [], _ => rfl
  | x :: l, k => by
    rw [bound, cnt, List.length_append, bound_len l (k + 1)]
    split <;> simp <;> omega
theorem bound_at : ∀ (l : List ByteArray) (k j : Nat) (p : Nat × ByteArray), (ent l k)[j]? = some p → (bound l k)[2 * j]? = some (.int .i64 (p.1 : Int)) ∧ (bound l k)[2 * j + 1]? = some (.string p.2)
  | [], _, _, _, h => by simp [ent] at h
  | x :: l, k, j, p, h => by
    rw [ent] at h
    rw [bound]
    by_cases e : x = ⟨#[]⟩
    · rw [if_pos e, List.nil_append] at h ⊢
      exact bound_at l (k + 1) j p h
    · rw [if_neg e] at h ⊢
      match j with
      | 0 =>
        simp at h
        subst h
        simp
      | j + 1 =>
        simp at h
        have := bound_at l (k + 1) j p h
        rw [show 2 * (j + 1) = 2 * j + 2 from by omega]
        simpa using this
theorem ent_mem : ∀ (l : List ByteArray) (o : Nat) (p : Nat × ByteArray), p ∈ ent l o → o ≤ p.1 ∧ p.1 < o + l.length ∧ l.getD (p.1 - o) ⟨#[]⟩ = p.2 ∧ p.2 ≠ ⟨#[]⟩
  | [], _, _, h => by simp [ent] at h
  | x :: l, o, p, h => by
    rw [ent, List.mem_append] at h
    rcases h with h | h
    · by_cases e : x = ⟨#[]⟩
      · rw [if_pos e] at h; simp at h
      · rw [if_neg e] at h
        simp at h
        subst h
        simp [e]
    · obtain ⟨h1, h2, h3, h4⟩ := ent_mem l (o + 1) p h
      refine ⟨by omega, by simp; omega, ?_, h4⟩
      rw [show p.1 - o = (p.1 - (o + 1)) + 1 from by omega]
      simpa using h3
theorem ent_sorted : ∀ (l : List ByteArray) (o : Nat), (ent l o).Pairwise (fun p q => p.1 < q.1)
  | [], _ => List.Pairwise.nil
  | x :: l, o => by
    rw [ent, List.pairwise_append]
    refine ⟨by split <;> simp, ent_sorted l (o + 1), fun p hp q hq => ?_⟩
    have := (ent_mem l (o + 1) q hq).1
    by_cases e : x = ⟨#[]⟩
    · rw [if_pos e] at hp; simp at hp
    · rw [if_neg e] at hp
      simp at hp
      subst hp
      show o < q.1
      omega
theorem cnt_set : ∀ (l : List ByteArray) (k : Nat) (y : ByteArray), k < l.length → l.getD k ⟨#[]⟩ = ⟨#[]⟩ → y ≠ ⟨#[]⟩ → cnt (l.set k y) = cnt l + 1
  | [], _, _, h, _, _ => by simp at h
  | x :: l, 0, y, _, h, hy => by
    simp at h
    rw [List.set_cons_zero, cnt, cnt, if_neg hy, if_pos h]
    omega
  | x :: l, k + 1, y, hk, h, hy => by
    rw [List.set_cons_succ, cnt, cnt, cnt_set l k y (by simpa using hk) (by simpa using h) hy]
    omega
theorem cnt_snoc (x : ByteArray) : ∀ (l : List ByteArray), cnt (l ++ [x]) = cnt l + (if x = ⟨#[]⟩ then 0 else 1)
  | [] => by simp [cnt]
  | y :: l => by
    rw [List.cons_append, cnt, cnt, cnt_snoc x l]
    omega
theorem cnt_le : ∀ (l : List ByteArray), cnt l ≤ l.length
  | [] => Nat.le_refl _
  | x :: l => by
    have := cnt_le l
    rw [cnt, List.length_cons]
    split <;> omega
theorem fnd_free : ∀ (l : List ByteArray) (o : Nat), decide (0 ≤ fnd ⟨#[]⟩ l o) = decide (cnt l < l.length)
  | [], _ => rfl
  | x :: l, o => by
    rw [fnd, cnt]
    have := cnt_le l
    by_cases e : x = ⟨#[]⟩
    · rw [if_pos e.symm, if_pos e, decide_eq_true (by omega), decide_eq_true (by simp; omega)]
    · rw [if_neg (fun h => e h.symm), if_neg e, fnd_free l (o + 1)]
      apply decide_eq_decide.2
      simp; omega
/-- What is kept. -/
structure Tab.Inv (s : Tab) : Prop where
  dist : ∀ i j, i < s.n → j < s.n → s.ns.getD i ⟨#[]⟩ = s.ns.getD j ⟨#[]⟩ → s.ns.getD i ⟨#[]⟩ ≠ ⟨#[]⟩ → i = j
  par : ∀ k, k < s.n → s.ts.getD k 0 % 2 = if s.ns.getD k ⟨#[]⟩ = ⟨#[]⟩ then 0 else 1
theorem newT_inv (n : Nat) : (newT n).Inv := by
  have h1 : ∀ k, (List.replicate 64 (⟨#[]⟩ : ByteArray)).getD k ⟨#[]⟩ = ⟨#[]⟩ := fun k => by
    rw [List.getD_eq_getElem?_getD, List.getElem?_replicate]; split <;> rfl
  have h2 : ∀ k, (List.replicate 64 0).getD k 0 = 0 := fun k => by
    rw [List.getD_eq_getElem?_getD, List.getElem?_replicate]; split <;> rfl
  refine ⟨fun i j _ _ _ h => absurd (h1 i) h, fun k _ => ?_⟩
  rw [show (newT n).ts = List.replicate 64 0 from rfl, show (newT n).ns = List.replicate 64 ⟨#[]⟩ from rfl, h1, h2, if_pos rfl]
theorem getN_set (l : List Nat) (k j : Nat) (x : Nat) (hk : k < l.length) : (l.set k x).getD j 0 = if j = k then x else l.getD j 0 := by
  rw [List.getD_eq_getElem?_getD, List.getD_eq_getElem?_getD, List.getElem?_set]
  by_cases h : k = j
  · subst h; rw [if_pos rfl, if_pos hk, if_pos rfl]; rfl
  · rw [if_neg h, if_neg (fun e => h e.symm)]
theorem fnd_none (x : ByteArray) : ∀ (l : List ByteArray) (o : Nat), fnd x l o < 0 → ∀ j, j < l.length → l.getD j ⟨#[]⟩ ≠ x
  | [], _, _, j, h => by simp at h
  | y :: l, o, h, j, hj => by
    rw [fnd] at h
    by_cases e : x = y
    · rw [if_pos e] at h; omega
    · rw [if_neg e] at h
      match j with
      | 0 => simpa using fun he => e he.symm
      | j + 1 => simpa using fnd_none x l (o + 1) h j (by simpa using hj)
theorem Tab.Inv.bindR {s : Tab} {c : Nat} (h : s.Inv) (ho : s.Ok c) (k : Int) (y : ByteArray) : (s.bindR k y).2.Inv := by
  have h64 := ho.n64; have hns := ho.ns; have hts := ho.ts
  unfold Tab.bindR
  split
  · exact h
  · rename_i h1
    split
    · exact h
    · rename_i h2
      split
      · rename_i h3
        obtain ⟨m, rfl⟩ := Int.eq_ofNat_of_zero_le (show 0 ≤ k by omega)
        rw [Int.toNat_natCast] at h3 ⊢
        have hm : m < s.n := by omega
        have hno := fnd_none y _ 0 h3.2
        rw [List.length_take] at hno
        have hno' : ∀ j, j < s.n → s.ns.getD j ⟨#[]⟩ ≠ y := fun j hj e => hno j (by omega) (by rw [List.getD_eq_getElem?_getD, List.getElem?_take_of_lt hj, ← List.getD_eq_getElem?_getD]; exact e)
        have hy : y ≠ ⟨#[]⟩ := fun e => h2 (.inl e)
        refine ⟨fun i j hi hj he hne => ?_, fun j hj => ?_⟩
        · simp only [Tab.bind] at hi hj he hne
          rw [getD_set _ _ _ _ (by omega)] at he hne
          rw [getD_set _ _ _ _ (by omega)] at he
          by_cases ei : i = m
          · by_cases ej : j = m
            · omega
            · rw [if_pos ei, if_neg ej] at he; exact absurd he.symm (hno' j hj)
          · rw [if_neg ei] at he hne
            by_cases ej : j = m
            · rw [if_pos ej] at he; exact absurd he (hno' i hi)
            · rw [if_neg ej] at he; exact h.dist i j hi hj he hne
        · change j < s.n at hj
          show (s.ts.set m (s.ts.getD m 0 + 1)).getD j 0 % 2 = if (s.ns.set m y).getD j ⟨#[]⟩ = ⟨#[]⟩ then 0 else 1
          rw [getD_set _ _ _ _ (by omega), getN_set _ _ _ _ (by omega)]
          by_cases ej : j = m
          · subst ej
            have := h.par j hj
            rw [if_pos h3.1] at this
            rw [if_pos rfl, if_pos rfl, if_neg hy]
            omega
          · rw [if_neg ej, if_neg ej]; exact h.par j hj
      · exact h
theorem Tab.Inv.unbindR {s : Tab} {c : Nat} (h : s.Inv) (ho : s.Ok c) (k : Int) : (s.unbindR k).2.Inv := by
  have h64 := ho.n64; have hns := ho.ns; have hts := ho.ts
  unfold Tab.unbindR
  split
  · exact h
  · rename_i h1
    split
    · exact h
    · rename_i h2
      obtain ⟨m, rfl⟩ := Int.eq_ofNat_of_zero_le (show 0 ≤ k by omega)
      rw [Int.toNat_natCast] at h2 ⊢
      have hm : m < s.n := by omega
      refine ⟨fun i j hi hj he hne => ?_, fun j hj => ?_⟩
      · simp only [Tab.bind] at hi hj he hne
        rw [getD_set _ _ _ _ (by omega)] at he hne
        rw [getD_set _ _ _ _ (by omega)] at he
        by_cases ei : i = m
        · rw [if_pos ei] at hne; exact absurd rfl hne
        · rw [if_neg ei] at he hne
          by_cases ej : j = m
          · rw [if_pos ej] at he; exact absurd he hne
          · rw [if_neg ej] at he; exact h.dist i j hi hj he hne
      · change j < s.n at hj
        show (s.ts.set m (s.ts.getD m 0 + 1)).getD j 0 % 2 = if (s.ns.set m ⟨#[]⟩).getD j ⟨#[]⟩ = ⟨#[]⟩ then 0 else 1
        rw [getD_set _ _ _ _ (by omega), getN_set _ _ _ _ (by omega)]
        by_cases ej : j = m
        · subst ej
          have := h.par j hj
          rw [if_neg h2] at this
          rw [if_pos rfl, if_pos rfl, if_pos rfl]
          omega
        · rw [if_neg ej, if_neg ej]; exact h.par j hj
def Tab.cnt (s : Tab) : Nat := Ythenjbonncbniaa.cnt (s.ns.take s.n)
theorem Tab.cnt_bindR {s : Tab} {c : Nat} (ho : s.Ok c) (k : Int) (y : ByteArray) (h0 : (s.bindR k y).1 = 0) : (s.bindR k y).2.cnt = s.cnt + 1 := by
  have h64 := ho.n64; have hns := ho.ns
  unfold Tab.bindR at h0 ⊢
  split at h0
  · cases h0
  · rename_i h1
    split at h0
    · cases h0
    · rename_i h2
      split at h0
      · rename_i h3
        rw [if_neg h1, if_neg h2, if_pos h3]
        obtain ⟨m, rfl⟩ := Int.eq_ofNat_of_zero_le (show 0 ≤ k by omega)
        rw [Int.toNat_natCast] at h3 ⊢
        unfold Tab.cnt Tab.bind
        simp only
        rw [List.take_set]
        refine cnt_set _ _ _ (by rw [List.length_take]; omega) ?_ (fun e => h2 (.inl e))
        rw [List.getD_eq_getElem?_getD, List.getElem?_take_of_lt (by omega), ← List.getD_eq_getElem?_getD]; exact h3.1
      · cases h0
theorem Tab.bindR_n (s : Tab) (k : Int) (y : ByteArray) : (s.bindR k y).2.n = s.n := by
  unfold Tab.bindR; split <;> (try split) <;> (try split) <;> rfl
theorem Tab.unbindR_n (s : Tab) (k : Int) : (s.unbindR k).2.n = s.n := by
  unfold Tab.unbindR; split <;> (try split) <;> rfl
/-- Of, of a name that is there. -/
theorem Tab.Inv.of {s : Tab} {c : Nat} (h : s.Inv) (ho : s.Ok c) (k : Nat) (hk : k < s.n) (hne : s.ns.getD k ⟨#[]⟩ ≠ ⟨#[]⟩) : fnd (s.ns.getD k ⟨#[]⟩) (s.ns.take s.n) 0 = (k : Int) := by
  have h64 := ho.n64; have hns := ho.ns
  have ht : ∀ j, j < s.n → (s.ns.take s.n).getD j ⟨#[]⟩ = s.ns.getD j ⟨#[]⟩ := fun j hj => by
    rw [List.getD_eq_getElem?_getD, List.getElem?_take_of_lt hj, ← List.getD_eq_getElem?_getD]
  rw [fnd_at _ _ 0 k (by rw [List.length_take]; omega) (ht k hk) (fun j hj e => by
    rw [ht j (by omega)] at e
    have := h.dist j k (by omega) hk e (by rw [e]; exact hne)
    omega), Nat.zero_add]
theorem Tab.cnt_step {s : Tab} {c : Nat} (ho : s.Ok c) (k : Nat) (hk : k < s.n) : Ythenjbonncbniaa.cnt (s.ns.take (k + 1)) = Ythenjbonncbniaa.cnt (s.ns.take k) + (if s.ns.getD k ⟨#[]⟩ = ⟨#[]⟩ then 0 else 1) := by
  have h64 := ho.n64; have hns := ho.ns
  have hl : k < s.ns.length := by omega
  rw [List.take_succ_eq_append_getElem hl, cnt_snoc, List.getD_eq_getElem?_getD, List.getElem?_eq_getElem hl]
  rfl
end Go.Proofs.Ythenjbonncbniaa
