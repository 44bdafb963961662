/-
  Layer 15 (ipcppol): what Judge answers, over lists: what is to be others, and what is acked, reads well.
-/
import Derived.Test.YtlcckkdkcbelhaaDoorJd
set_option linter.unusedVariables false
set_option linter.unusedSimpArgs false
namespace Go.Proofs.YtlcckkdkcbelhaaDoor

theorem u8_div (n k : Nat) : (UInt8.ofNat (n / k)).toNat = n / k % 256 := by simp
theorem ad4_oct (u : UInt32) : ad4 (oct u) = u := by
  have hu := u.toNat_lt
  have h : val4 (oct u) 4 = u.toNat := by
    show valL [UInt8.ofNat (u.toNat / 16777216), UInt8.ofNat (u.toNat / 65536), UInt8.ofNat (u.toNat / 256), UInt8.ofNat u.toNat] = u.toNat
    simp only [valL, List.foldl_cons, List.foldl_nil, u8_div]
    have : (UInt8.ofNat u.toNat).toNat = u.toNat % 256 := by simp
    rw [this]
    omega
  unfold ad4
  rw [h]
  apply UInt32.toNat_inj.1
  simp
theorem oct_size (u : UInt32) : (oct u).size = 4 := rfl
theorem tk_inj {i j : Nat} (hi : i < 3) (hj : j < 3) (h : tk i = tk j) : i = j := by
  rcases (show i = 0 ∨ i = 1 ∨ i = 2 by omega) with rfl | rfl | rfl <;> rcases (show j = 0 ∨ j = 1 ∨ j = 2 by omega) with rfl | rfl | rfl <;> first | rfl | (exact absurd h (by decide))
theorem good_kof {o : Opt} (h : goodO o = true) : kof o < 3 ∧ isK (kof o) o := by
  rcases kinds_cases o with ⟨k, hk, hko⟩ | hno
  · obtain ⟨_, h2⟩ := good_is hk hko
    rw [h2]; exact ⟨hk, hko⟩
  · rw [(findV_no hno).2] at h; cases h
theorem has_set (x : Icp) (i j : Nat) (hi : i < 3) (hj : j < 3) (u : UInt32) : (x.set i u).has j = if j = i then true else x.has j := by
  rcases (show i = 0 ∨ i = 1 ∨ i = 2 by omega) with rfl | rfl | rfl <;> rcases (show j = 0 ∨ j = 1 ∨ j = 2 by omega) with rfl | rfl | rfl <;> rfl
theorem val_set2 (x : Icp) (i j : Nat) (hi : i < 3) (hj : j < 3) (u : UInt32) : (x.set i u).val j = if j = i then u else x.val j := by
  rcases (show i = 0 ∨ i = 1 ∨ i = 2 by omega) with rfl | rfl | rfl <;> rcases (show j = 0 ∨ j = 1 ∨ j = 2 by omega) with rfl | rfl | rfl <;> rfl
theorem twice_mem {pre : List Opt} {o q : Opt} (h : twice pre o = false) (hq : q ∈ pre) : q.t ≠ o.t := fun e => by
  unfold twice at h
  simp only [Bool.not_eq_false', List.isEmpty_iff] at h
  have := List.mem_filter.2 ⟨hq, show hasT o.t q = true from decide_eq_true e⟩
  rw [h] at this
  cases this
/-- What is acked reads well. -/
def Fine (c : Conf) (x : Icp) : Prop := ∀ k, k < 3 → x.has k = true → (c.given k ≠ 0 → x.val k = c.given k) ∧ (c.given k = 0 → k = 0 ∧ x.val k ≠ 0)
theorem run_grows (c : Conf) : ∀ (l pre : List Opt) (V : V3), (∃ a, (runL c l pre V).r = V.r ++ a) ∧ (∃ b, (runL c l pre V).c = V.c ++ b)
  | [], pre, V => ⟨⟨[], by simp [runL]⟩, ⟨[], by simp [runL]⟩⟩
  | o :: l, pre, V => by
    obtain ⟨⟨a, ha⟩, ⟨b, hb⟩⟩ := run_grows c l (pre ++ [o]) (step3 c pre o V)
    simp only [runL]
    rw [ha, hb]
    unfold step3
    split
    · exact ⟨⟨[o] ++ a, by simp⟩, ⟨b, rfl⟩⟩
    · split
      · exact ⟨⟨a, rfl⟩, ⟨[o] ++ b, by simp⟩⟩
      · exact ⟨⟨a, rfl⟩, ⟨b, rfl⟩⟩
theorem verd_cases (c : Conf) (pre : List Opt) (o : Opt) : verd c pre o = 0 ∨ verd c pre o = 1 ∨ verd c pre o = 2 := by
  unfold verd
  split
  · exact .inr (.inl rfl)
  · split
    · split
      · exact .inr (.inl rfl)
      · exact .inl rfl
    · split
      · exact .inl rfl
      · exact .inr (.inr rfl)
theorem verd_zero {c : Conf} {pre : List Opt} {o : Opt} (h : verd c pre o = 0) : twice pre o = false ∧ goodO o = true ∧ (c.given (kof o) ≠ 0 → ad4 o.d = c.given (kof o)) ∧ (c.given (kof o) = 0 → kof o = 0 ∧ ad4 o.d ≠ 0) := by
  unfold verd at h
  split at h
  · cases h
  · rename_i h1
    have h1a : twice pre o = false := by
      cases ht : twice pre o with
      | true => exact absurd (.inl ht) h1
      | false => rfl
    have h1b : goodO o = true := by
      cases ht : goodO o with
      | false => exact absurd (.inr ht) h1
      | true => rfl
    refine ⟨h1a, h1b, ?_⟩
    split at h
    · rename_i h2
      split at h
      · cases h
      · rename_i h3
        exact ⟨fun e => absurd h2 e, fun _ => ⟨Classical.not_not.1 (fun e => h3 (.inl e)), fun e => h3 (.inr e)⟩⟩
    · rename_i h2
      split at h
      · rename_i h3
        exact ⟨fun _ => h3, fun e => absurd e h2⟩
      · cases h
theorem verd_two {c : Conf} {pre : List Opt} {o : Opt} (h : verd c pre o = 2) : twice pre o = false ∧ goodO o = true := by
  unfold verd at h
  split at h
  · cases h
  · rename_i h1
    constructor
    · cases ht : twice pre o with
      | true => exact absurd (.inl ht) h1
      | false => rfl
    · cases ht : goodO o with
      | false => exact absurd (.inr ht) h1
      | true => rfl
theorem acked_reads (c : Conf) : ∀ (l pre : List Opt) (V : V3) (x : Icp), (runL c l pre V).r = [] → (runL c l pre V).c = [] → (∀ k, k < 3 → x.has k = true → ∃ o ∈ pre, o.t = tk k) → Fine c x →
    ∃ y, getL l x [] = (y, [], 0) ∧ Fine c y
  | [], pre, V, x, _, _, _, hf => ⟨x, rfl, hf⟩
  | o :: l, pre, V, x, h1, h2, hp, hf => by
    simp only [runL] at h1 h2
    obtain ⟨⟨a, ha⟩, ⟨b, hb⟩⟩ := run_grows c l (pre ++ [o]) (step3 c pre o V)
    rw [ha] at h1
    rw [hb] at h2
    have hv : verd c pre o = 0 := by
      rcases verd_cases c pre o with h | h | h
      · exact h
      · rw [step_rej h] at h1; simp at h1
      · rw [step_nak h] at h2; simp at h2
    obtain ⟨v1, v2, v3, v4⟩ := verd_zero hv
    obtain ⟨hk, hko⟩ := good_kof v2
    have hno : x.has (kof o) = false := by
      cases hx : x.has (kof o) with
      | false => rfl
      | true =>
        obtain ⟨q, hq, hqt⟩ := hp _ hk hx
        exact absurd (hqt.trans hko.1.symm) (twice_mem v1 hq)
    rw [get_new hk hko hno]
    rw [← ha] at h1
    rw [← hb] at h2
    refine acked_reads c l (pre ++ [o]) _ _ h1 h2 ?_ ?_
    · intro k hk' hh
      rw [has_set _ _ _ hk hk'] at hh
      by_cases e : k = kof o
      · subst e; exact ⟨o, by simp, hko.1⟩
      · rw [if_neg e] at hh
        obtain ⟨q, hq, hqt⟩ := hp k hk' hh
        exact ⟨q, by simp [hq], hqt⟩
    · intro k hk' hh
      rw [has_set _ _ _ hk hk'] at hh
      rw [val_set2 _ _ _ hk hk']
      by_cases e : k = kof o
      · subst e
        rw [if_pos rfl]
        exact ⟨v3, v4⟩
      · rw [if_neg e] at hh ⊢
        exact hf k hk' hh
/-- What is to be others: of unlike kinds, each as it is given. -/
def Naks (c : Conf) (pre n : List Opt) : Prop := n.Pairwise (fun a b => a.t ≠ b.t) ∧ ∀ q ∈ n, ∃ k, k < 3 ∧ q = ⟨tk k, oct (c.given k)⟩ ∧ ∃ o ∈ pre, o.t = tk k
theorem naks_run (c : Conf) : ∀ (l pre : List Opt) (V : V3), Naks c pre V.n → Naks c (pre ++ l) (runL c l pre V).n
  | [], pre, V, h => by simp only [runL, List.append_nil]; exact h
  | o :: l, pre, V, h => by
    have h2 : Naks c (pre ++ [o]) (step3 c pre o V).n := by
      have up : ∀ n, Naks c pre n → Naks c (pre ++ [o]) n := fun n hn => ⟨hn.1, fun q hq => by
        obtain ⟨k, hk, e, o', ho', he⟩ := hn.2 q hq
        exact ⟨k, hk, e, o', by simp [ho'], he⟩⟩
      rcases verd_cases c pre o with hv | hv | hv
      · rw [step_no hv]; exact up _ h
      · rw [step_rej hv]; exact up _ h
      · rw [step_nak hv]
        obtain ⟨v1, v2⟩ := verd_two hv
        obtain ⟨hk, hko⟩ := good_kof v2
        obtain ⟨u1, u2⟩ := up _ h
        refine ⟨?_, ?_⟩
        · rw [List.pairwise_append]
          refine ⟨u1, List.pairwise_singleton _ _, fun q hq p hp => ?_⟩
          rw [List.mem_singleton.1 hp]
          obtain ⟨k, hk', e, o', ho', he⟩ := h.2 q hq
          rw [e]
          exact fun e2 => twice_mem v1 ho' (he.trans e2)
        · intro q hq
          rcases List.mem_append.1 hq with hq | hq
          · exact u2 q hq
          · rw [List.mem_singleton.1 hq]
            exact ⟨kof o, hk, by rw [hko.1], o, by simp, hko.1⟩
    have h3 := naks_run c l (pre ++ [o]) (step3 c pre o V) h2
    simp only [runL]
    rw [List.append_assoc] at h3
    exact h3
theorem naks_look (c : Conf) (l : List Opt) : (look c l).n.Pairwise (fun a b => a.t ≠ b.t) ∧ ∀ q ∈ (look c l).n, ∃ k, k < 3 ∧ q = ⟨tk k, oct (c.given k)⟩ := by
  obtain ⟨h1, h2⟩ := naks_run c l [] ⟨[], [], []⟩ ⟨List.Pairwise.nil, fun q hq => by simp at hq⟩
  unfold look
  split
  · rename_i hl
    simp only
    refine ⟨?_, ?_⟩
    · rw [List.pairwise_append]
      refine ⟨h1, List.pairwise_singleton _ _, fun q hq p hp => ?_⟩
      rw [List.mem_singleton.1 hp]
      obtain ⟨k, hk, e, o, ho, he⟩ := h2 q hq
      unfold lacks at hl
      simp only [Bool.and_eq_true, List.all_eq_true] at hl
      have := hl.2 o (by simpa using ho)
      simp only [Bool.not_eq_true', decide_eq_false_iff_not] at this
      rw [e]
      exact fun e2 => this (he.trans e2)
    · intro q hq
      rcases List.mem_append.1 hq with hq | hq
      · obtain ⟨k, hk, e, _⟩ := h2 q hq
        exact ⟨k, hk, e⟩
      · exact ⟨0, by omega, by rw [List.mem_singleton.1 hq]; rfl⟩
  · exact ⟨h1, fun q hq => by
      obtain ⟨k, hk, e, _⟩ := h2 q hq
      exact ⟨k, hk, e⟩⟩
theorem naks_read (c : Conf) : ∀ (n : List Opt) (x : Icp), n.Pairwise (fun a b => a.t ≠ b.t) → (∀ q ∈ n, ∃ k, k < 3 ∧ q = ⟨tk k, oct (c.given k)⟩) → (∀ k, k < 3 → x.has k = true → ∀ q ∈ n, q.t ≠ tk k) → (x.has 0 = true → x.val 0 = c.given 0) →
    ∃ y, getL n x [] = (y, [], 0) ∧ (y.has 0 = true → y.val 0 = c.given 0)
  | [], x, _, _, _, h => ⟨x, rfl, h⟩
  | q :: n, x, hp, hq, hx, h => by
    obtain ⟨k, hk, e⟩ := hq q (List.mem_cons_self ..)
    have hkq : isK k q := by rw [e]; exact ⟨rfl, oct_size _⟩
    have hno : x.has k = false := by
      cases hh : x.has k with
      | false => rfl
      | true => exact absurd hkq.1 (hx k hk hh q (List.mem_cons_self ..))
    rw [get_new hk hkq hno]
    rw [List.pairwise_cons] at hp
    refine naks_read c n _ hp.2 (fun p hp' => hq p (List.mem_cons_of_mem _ hp')) ?_ ?_
    · intro j hj hh p hp'
      rw [has_set _ _ _ hk hj] at hh
      by_cases e2 : j = k
      · subst e2
        rw [← hkq.1]
        exact (hp.1 p hp').symm
      · rw [if_neg e2] at hh
        exact hx j hj hh p (List.mem_cons_of_mem _ hp')
    · intro hh
      rw [has_set _ _ _ hk (by omega)] at hh
      rw [val_set2 _ _ _ hk (by omega)]
      by_cases e2 : 0 = k
      · subst e2
        rw [if_pos rfl, e, ad4_oct]
      · rw [if_neg e2] at hh ⊢
        exact h hh
/-- A Nak's answer reads well. -/
theorem nak_fine (s : Pol) (l : List Opt) (h : (judge s l).1 = 3) : (judge s l).2.1 ≠ [] ∧ ∃ y, getI (judge s l).2.1 = (y, [], 0) ∧ (y.ha = true → y.a = s.c.peer) := by
  unfold judge at h ⊢
  split at h
  · cases h
  · rename_i h1
    rw [if_neg h1]
    split at h
    · rename_i h2
      rw [if_pos h2]
      refine ⟨h2.1, ?_⟩
      obtain ⟨n1, n2⟩ := naks_look s.c l
      obtain ⟨y, hy, hf⟩ := naks_read s.c (look s.c l).n noI n1 n2 (fun k hk hh => by
        rcases (show k = 0 ∨ k = 1 ∨ k = 2 by omega) with rfl | rfl | rfl <;> cases hh) (fun hh => by cases hh)
      exact ⟨y, hy, hf⟩
    · split at h <;> cases h
/-- An Ack's answer is what came, and reads well. -/
theorem ack_fine (s : Pol) (l : List Opt) (h : (judge s l).1 = 2) : (judge s l).2.1 = l ∧ ∃ y, getI l = (y, [], 0) ∧ (judge s l).2.2.peer = y ∧ (judge s l).2.2.c = s.c ∧ (judge s l).2.2.naks = 0 ∧ Fine s.c y := by
  unfold judge at h ⊢
  split at h
  · cases h
  · rename_i h1
    rw [if_neg h1]
    split at h
    · cases h
    · rename_i h2
      rw [if_neg h2]
      split at h
      · cases h
      · rename_i h3
        rw [if_neg h3]
        have e1 : (runL s.c l [] ⟨[], [], []⟩).r = [] := by
          have := Classical.not_not.1 h1
          unfold look at this
          split at this <;> exact this
        have e2 : (runL s.c l [] ⟨[], [], []⟩).c = [] := by
          have := Classical.not_not.1 h3
          unfold look at this
          split at this <;> exact this
        obtain ⟨y, hy, hf⟩ := acked_reads s.c l [] _ noI e1 e2 (fun k hk hh => by
          rcases (show k = 0 ∨ k = 1 ∨ k = 2 by omega) with rfl | rfl | rfl <;> cases hh) (fun k hk hh => by
          rcases (show k = 0 ∨ k = 1 ∨ k = 2 by omega) with rfl | rfl | rfl <;> cases hh)
        have hg : getI l = (y, [], 0) := hy
        exact ⟨rfl, y, hg, by rw [hg], rfl, rfl, hf⟩
/-- What Judge leaves. -/
theorem judge_keeps (s : Pol) (l : List Opt) (hn : 0 ≤ s.naks ∧ s.naks ≤ 10) (hm : s.c.max ≤ 10) : (judge s l).2.2.c = s.c ∧ (judge s l).2.2.w = s.w ∧ (judge s l).2.2.mine = s.mine ∧ 0 ≤ (judge s l).2.2.naks ∧ (judge s l).2.2.naks ≤ 10 := by
  unfold judge
  split
  · exact ⟨rfl, rfl, rfl, by simp, by simp⟩
  · split
    · rename_i h
      exact ⟨rfl, rfl, rfl, by simp only; omega, by simp only; omega⟩
    · split
      · exact ⟨rfl, rfl, rfl, by simp, by simp⟩
      · exact ⟨rfl, rfl, rfl, by simp, by simp⟩
end Go.Proofs.YtlcckkdkcbelhaaDoor
