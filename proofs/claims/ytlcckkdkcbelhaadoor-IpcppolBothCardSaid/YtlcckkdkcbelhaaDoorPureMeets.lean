/-
  Layer 15 (ipcppol): what mended makes, over lists; three rounds are enough.
-/
import Derived.Test.YtlcckkdkcbelhaaDoorOnlyW
set_option linter.unusedVariables false
set_option linter.unusedSimpArgs false
namespace Go.Proofs.YtlcckkdkcbelhaaDoor

/-- What mended makes of one option. -/
def mend1 (code : Int) (x : List Opt) (o : Opt) : List Opt :=
  if (x.filter (hasT o.t)).isEmpty = true then [o] else if code = 3 then [(x.filter (hasT o.t)).headD noOpt] else []
/-- What mended answers. -/
def mendL (code : Int) (l x : List Opt) : List Opt := l.flatMap (mend1 code x) ++ (if code = 3 then x.filter fun o => (l.filter (hasT o.t)).isEmpty else [])
def bad0 (c : Conf) (o : Opt) : Prop := goodO o = false ∨ (c.given (kof o) = 0 ∧ (kof o ≠ 0 ∨ ad4 o.d = 0))
def nakd (c : Conf) (o : Opt) : Bool := decide (c.given (kof o) ≠ 0 ∧ ad4 o.d ≠ c.given (kof o))
def fixO (c : Conf) (o : Opt) : Opt := ⟨o.t, oct (c.given (kof o))⟩
def fix1 (c : Conf) (o : Opt) : Opt := if nakd c o = true then fixO c o else o
/-- Nothing is refused. -/
structure Ok1 (c : Conf) (l : List Opt) : Prop where
  un : l.Pairwise (fun a b => a.t ≠ b.t)
  ok : ∀ o ∈ l, ¬ bad0 c o
/-- Nothing is refused, nothing is to be another, nothing lacks. -/
structure Done (c : Conf) (l : List Opt) : Prop where
  ok : Ok1 c l
  no : ∀ o ∈ l, nakd c o = false
  la : lacks c l = false
theorem verd_ok {c : Conf} {pre : List Opt} {o : Opt} (h1 : twice pre o = false) (h2 : ¬ bad0 c o) : verd c pre o = if nakd c o = true then 2 else 0 := by
  have hg : goodO o = true := by
    cases h : goodO o with
    | false => exact absurd (.inl h) h2
    | true => rfl
  unfold verd
  rw [if_neg (by rw [h1, hg]; simp)]
  by_cases e : c.given (kof o) = 0
  · rw [if_pos e, if_neg (fun h => h2 (.inr ⟨e, h⟩)), if_neg (by unfold nakd; simp [e])]
  · rw [if_neg e]
    by_cases e2 : ad4 o.d = c.given (kof o)
    · rw [if_pos e2, if_neg (by unfold nakd; simp [e2])]
    · rw [if_neg e2, if_pos (by unfold nakd; simp [e, e2])]
theorem verd_bad {c : Conf} {o : Opt} (pre : List Opt) (h : bad0 c o) : verd c pre o = 1 := by
  unfold verd
  by_cases e : twice pre o = true ∨ goodO o = false
  · rw [if_pos e]
  · rw [if_neg e]
    rcases h with h | ⟨h1, h2⟩
    · exact absurd (.inr h) e
    · rw [if_pos h1, if_pos h2]
theorem twice_no {pre : List Opt} {o : Opt} (h : ∀ q ∈ pre, q.t ≠ o.t) : twice pre o = false := by
  unfold twice
  simp only [Bool.not_eq_false', List.isEmpty_iff, List.filter_eq_nil_iff]
  intro q hq h2
  exact h q hq (of_decide_eq_true h2)
theorem twice_yes {pre : List Opt} {o q : Opt} (hq : q ∈ pre) (h : q.t = o.t) : twice pre o = true := by
  cases e : twice pre o with
  | true => rfl
  | false => exact absurd h (twice_mem e hq)
theorem run_ok (c : Conf) : ∀ (l pre : List Opt) (V : V3), (∀ o ∈ l, ¬ bad0 c o) → l.Pairwise (fun a b => a.t ≠ b.t) → (∀ q ∈ pre, ∀ o ∈ l, q.t ≠ o.t) →
    runL c l pre V = ⟨V.r, V.n ++ (l.filter (nakd c)).map (fixO c), V.c ++ l.filter (nakd c)⟩
  | [], pre, V, _, _, _ => by simp [runL]
  | o :: l, pre, V, h1, h2, h3 => by
    rw [List.pairwise_cons] at h2
    simp only [runL]
    have hv := verd_ok (c := c) (twice_no fun q hq => h3 q hq o (List.mem_cons_self ..)) (h1 o (List.mem_cons_self ..))
    rw [run_ok c l (pre ++ [o]) _ (fun p hp => h1 p (List.mem_cons_of_mem _ hp)) h2.2 (by
      intro q hq p hp
      rcases List.mem_append.1 hq with hq | hq
      · exact h3 q hq p (List.mem_cons_of_mem _ hp)
      · rw [List.mem_singleton.1 hq]; exact h2.1 p hp)]
    by_cases e : nakd c o = true
    · rw [if_pos e] at hv
      rw [step_nak hv, List.filter_cons_of_pos e]
      simp [fixO]
    · rw [if_neg e] at hv
      rw [step_no hv, List.filter_cons_of_neg e]
theorem look_ok {c : Conf} {l : List Opt} (h : Ok1 c l) : look c l = ⟨[], (l.filter (nakd c)).map (fixO c) ++ (if lacks c l = true then [⟨3, oct c.peer⟩] else []), l.filter (nakd c)⟩ := by
  unfold look
  rw [run_ok c l [] _ h.ok h.un (fun q hq => by simp at hq)]
  split
  · simp
  · simp
theorem look_r (c : Conf) (l : List Opt) : (look c l).r = (runL c l [] ⟨[], [], []⟩).r := by
  unfold look
  split <;> rfl
theorem run_rej (c : Conf) : ∀ (l pre : List Opt) (V : V3) (o : Opt), o ∈ l → bad0 c o → o ∈ (runL c l pre V).r
  | p :: l, pre, V, o, h1, h2 => by
    simp only [runL]
    rcases List.mem_cons.1 h1 with rfl | h1
    · obtain ⟨⟨a, ha⟩, _⟩ := run_grows c l (pre ++ [o]) (step3 c pre o V)
      rw [ha, step_rej (verd_bad pre h2)]
      simp
    · exact run_rej c l _ _ o h1 h2
theorem run_rej2 (c : Conf) : ∀ (l pre : List Opt) (V : V3) (o : Opt), o ∈ l → (∃ q ∈ pre, q.t = o.t) → ∃ p ∈ (runL c l pre V).r, p.t = o.t
  | p :: l, pre, V, o, h1, h2 => by
    simp only [runL]
    rcases List.mem_cons.1 h1 with rfl | h1
    · obtain ⟨q, hq, hqt⟩ := h2
      obtain ⟨⟨a, ha⟩, _⟩ := run_grows c l (pre ++ [o]) (step3 c pre o V)
      have hv : verd c pre o = 1 := by unfold verd; rw [if_pos (.inl (twice_yes hq hqt))]
      rw [ha, step_rej hv]
      exact ⟨o, by simp, rfl⟩
    · obtain ⟨q, hq, hqt⟩ := h2
      exact run_rej2 c l _ _ o h1 ⟨q, by simp [hq], hqt⟩
def keepO (R : List Opt) (o : Opt) : Bool := (R.filter (hasT o.t)).isEmpty
theorem keep_no {R : List Opt} {o q : Opt} (h : keepO R o = true) (hq : q ∈ R) : q.t ≠ o.t := fun e => by
  unfold keepO at h
  rw [List.isEmpty_iff, List.filter_eq_nil_iff] at h
  exact h q hq (decide_eq_true e)
theorem kept_un (c : Conf) (R : List Opt) : ∀ (l pre : List Opt) (V : V3), (∀ p ∈ (runL c l pre V).r, p ∈ R) → (l.filter (keepO R)).Pairwise (fun a b => a.t ≠ b.t)
  | [], pre, V, _ => List.Pairwise.nil
  | o :: l, pre, V, h => by
    simp only [runL] at h
    have ih := kept_un c R l _ _ h
    by_cases e : keepO R o = true
    · rw [List.filter_cons_of_pos e, List.pairwise_cons]
      refine ⟨fun q hq e2 => ?_, ih⟩
      obtain ⟨hq1, hq2⟩ := List.mem_filter.1 hq
      obtain ⟨p, hp, hpt⟩ := run_rej2 c l (pre ++ [o]) (step3 c pre o V) q hq1 ⟨o, by simp, e2⟩
      exact keep_no hq2 (h p hp) hpt
    · rw [List.filter_cons_of_neg e]; exact ih
theorem ok_kept (c : Conf) (l : List Opt) : Ok1 c (l.filter (keepO (look c l).r)) := by
  rw [look_r]
  refine ⟨kept_un c _ l [] _ (fun p hp => hp), fun o ho hb => ?_⟩
  obtain ⟨h1, h2⟩ := List.mem_filter.1 ho
  exact keep_no h2 (run_rej c l [] _ o h1 hb) rfl
theorem ok_of_r {c : Conf} {l : List Opt} (h : (look c l).r = []) : Ok1 c l := by
  have := ok_kept c l
  have e : l.filter (keepO []) = l := List.filter_eq_self.2 (fun _ _ => rfl)
  rw [h, e] at this
  exact this
theorem mend4 (l x : List Opt) : mendL 4 l x = l.filter (keepO x) := by
  unfold mendL
  rw [if_neg (by decide), List.append_nil]
  induction l with
  | nil => rfl
  | cons o l ih =>
    rw [List.flatMap_cons, ih]
    by_cases e : keepO x o = true
    · rw [List.filter_cons_of_pos e, mend1, if_pos (show (x.filter (hasT o.t)).isEmpty = true from e)]; rfl
    · rw [List.filter_cons_of_neg e, mend1, if_neg (show ¬ (x.filter (hasT o.t)).isEmpty = true from e), if_neg (by decide)]; rfl
theorem un_eq : ∀ {l : List Opt}, l.Pairwise (fun a b => a.t ≠ b.t) → ∀ {p o : Opt}, p ∈ l → o ∈ l → p.t = o.t → p = o
  | a :: l, h, p, o, hp, ho, e => by
    rw [List.pairwise_cons] at h
    rcases List.mem_cons.1 hp with e1 | hp'
    · rcases List.mem_cons.1 ho with e2 | ho'
      · rw [e1, e2]
      · rw [e1] at e; exact absurd e (h.1 o ho')
    · rcases List.mem_cons.1 ho with e2 | ho'
      · rw [e2] at e; exact absurd e.symm (h.1 p hp')
      · exact un_eq h.2 hp' ho' e
theorem lacks_no {c : Conf} {l : List Opt} (h : lacks c l = true) : c.peer ≠ 0 ∧ ∀ o ∈ l, o.t ≠ 3 := by
  unfold lacks at h
  simp only [Bool.and_eq_true, List.all_eq_true, decide_eq_true_eq, Bool.not_eq_true', decide_eq_false_iff_not] at h
  exact h
theorem flat_map {α β : Type} {g : α → List β} {f : α → β} : ∀ {l : List α}, (∀ o ∈ l, g o = [f o]) → l.flatMap g = l.map f
  | [], _ => rfl
  | a :: l, h => by
    rw [List.flatMap_cons, h a (List.mem_cons_self ..), flat_map (fun o ho => h o (List.mem_cons_of_mem _ ho))]; rfl
theorem nak_mem {c : Conf} {l : List Opt} (h : Ok1 c l) {o q : Opt} (ho : o ∈ l) (hq : q ∈ (look c l).n) (e : q.t = o.t) : nakd c o = true ∧ q = fixO c o := by
  rw [look_ok h] at hq
  rcases List.mem_append.1 hq with hq | hq
  · obtain ⟨p, hp, rfl⟩ := List.mem_map.1 hq
    obtain ⟨h1, h2⟩ := List.mem_filter.1 hp
    obtain rfl := un_eq h.un h1 ho e
    exact ⟨h2, rfl⟩
  · by_cases hl : lacks c l = true
    · rw [if_pos hl] at hq
      rw [List.mem_singleton.1 hq] at e
      exact absurd e.symm ((lacks_no hl).2 o ho)
    · rw [if_neg hl] at hq
      simp at hq
theorem head_mem {f : List Opt} (h : f ≠ []) : f.headD noOpt ∈ f := by
  cases f with
  | nil => exact absurd rfl h
  | cons a f => simp
theorem mend3 {c : Conf} {l : List Opt} (h : Ok1 c l) : mendL 3 l (look c l).n = l.map (fix1 c) ++ (if lacks c l = true then [⟨3, oct c.peer⟩] else []) := by
  unfold mendL
  rw [if_pos rfl]
  congr 1
  · refine flat_map fun o ho => ?_
    unfold mend1 fix1
    by_cases e : nakd c o = true
    · have hm : fixO c o ∈ (look c l).n.filter (hasT o.t) := by
        refine List.mem_filter.2 ⟨?_, decide_eq_true rfl⟩
        rw [look_ok h]
        exact List.mem_append.2 (.inl (List.mem_map.2 ⟨o, List.mem_filter.2 ⟨ho, e⟩, rfl⟩))
      have hne : (look c l).n.filter (hasT o.t) ≠ [] := fun e2 => by rw [e2] at hm; simp at hm
      rw [if_neg (by rw [List.isEmpty_iff]; exact hne), if_pos rfl, if_pos e]
      obtain ⟨g1, g2⟩ := List.mem_filter.1 (head_mem hne)
      rw [(nak_mem h ho g1 (of_decide_eq_true g2)).2]
    · have he : (look c l).n.filter (hasT o.t) = [] := by
        rw [List.filter_eq_nil_iff]
        intro q hq h2
        exact e (nak_mem h ho hq (of_decide_eq_true h2)).1
      rw [if_pos (by rw [he]; rfl), if_neg e]
  · rw [look_ok h]
    simp only [List.filter_append]
    have h1 : ((l.filter (nakd c)).map (fixO c)).filter (fun o => (l.filter (hasT o.t)).isEmpty) = [] := by
      rw [List.filter_eq_nil_iff]
      intro q hq h2
      obtain ⟨p, hp, rfl⟩ := List.mem_map.1 hq
      rw [List.isEmpty_iff, List.filter_eq_nil_iff] at h2
      exact h2 p (List.mem_filter.1 hp).1 (decide_eq_true rfl)
    rw [h1, List.nil_append]
    by_cases hl : lacks c l = true
    · rw [if_pos hl, List.filter_cons_of_pos, List.filter_nil]
      rw [List.isEmpty_iff, List.filter_eq_nil_iff]
      intro o ho h2
      exact (lacks_no hl).2 o ho (of_decide_eq_true h2)
    · rw [if_neg hl]; rfl
theorem fix1_t (c : Conf) (o : Opt) : (fix1 c o).t = o.t := by unfold fix1; split <;> rfl
theorem kof_t {o q : Opt} (h : o.t = q.t) : kof o = kof q := by unfold kof; rw [h]
theorem good_t {o : Opt} (h : goodO o = true) (c : Conf) : goodO (fixO c o) = true := by
  have := of_decide_eq_true h
  exact decide_eq_true ⟨this.1, oct_size _⟩
theorem fix_no (c : Conf) (o : Opt) : nakd c (fix1 c o) = false := by
  unfold fix1
  split
  · have : kof (fixO c o) = kof o := kof_t rfl
    unfold nakd
    rw [this, show (fixO c o).d = oct (c.given (kof o)) from rfl, ad4_oct]
    simp
  · rename_i h
    simpa using h
theorem fix_ok {c : Conf} {o : Opt} (h : ¬ bad0 c o) : ¬ bad0 c (fix1 c o) := by
  unfold fix1
  split
  · rename_i hn
    have hk : kof (fixO c o) = kof o := kof_t rfl
    have hg : goodO o = true := by
      cases h2 : goodO o with
      | false => exact absurd (.inl h2) h
      | true => rfl
    rintro (h2 | ⟨h2, _⟩)
    · rw [good_t hg] at h2; cases h2
    · rw [hk] at h2
      exact (of_decide_eq_true hn).1 h2
  · exact h
theorem lacks_types {c : Conf} {l m : List Opt} (h : l.map (·.t) = m.map (·.t)) : lacks c l = lacks c m := by
  have g : ∀ l : List Opt, (l.all fun o => !decide (o.t = 3)) = (l.map (·.t)).all fun t => !decide (t = 3) := fun l => by
    induction l with
    | nil => rfl
    | cons o l ih => simp only [List.all_cons, List.map_cons, ih]
  unfold lacks
  rw [g, g, h]
theorem done_mend3 {c : Conf} {l : List Opt} (h : Ok1 c l) : Done c (mendL 3 l (look c l).n) := by
  rw [mend3 h]
  have hm : l.map (fun o => (fix1 c o).t) = l.map (·.t) := List.map_congr_left fun o _ => fix1_t c o
  have un1 : (l.map (fix1 c)).Pairwise (fun a b => a.t ≠ b.t) := by
    rw [List.pairwise_map]
    refine h.un.imp fun {a b} hab => ?_
    rw [fix1_t, fix1_t]; exact hab
  have ok1 : ∀ o ∈ l.map (fix1 c), ¬ bad0 c o := fun o ho => by
    obtain ⟨p, hp, rfl⟩ := List.mem_map.1 ho
    exact fix_ok (h.ok p hp)
  have no1 : ∀ o ∈ l.map (fix1 c), nakd c o = false := fun o ho => by
    obtain ⟨p, hp, rfl⟩ := List.mem_map.1 ho
    exact fix_no c p
  by_cases hl : lacks c l = true
  · rw [if_pos hl]
    obtain ⟨l1, l2⟩ := lacks_no hl
    have hk : kof (⟨3, oct c.peer⟩ : Opt) = 0 := rfl
    have hg : c.given 0 = c.peer := rfl
    refine ⟨⟨?_, ?_⟩, ?_, ?_⟩
    · rw [List.pairwise_append]
      refine ⟨un1, List.pairwise_singleton _ _, fun a ha b hb => ?_⟩
      obtain ⟨p, hp, rfl⟩ := List.mem_map.1 ha
      rw [List.mem_singleton.1 hb, fix1_t]
      exact l2 p hp
    · intro o ho
      rcases List.mem_append.1 ho with ho | ho
      · exact ok1 o ho
      · rw [List.mem_singleton.1 ho]
        rintro (h2 | ⟨h2, _⟩)
        · rw [show goodO (⟨3, oct c.peer⟩ : Opt) = true from decide_eq_true ⟨.inl rfl, oct_size _⟩] at h2; cases h2
        · rw [hk, hg] at h2; exact l1 h2
    · intro o ho
      rcases List.mem_append.1 ho with ho | ho
      · exact no1 o ho
      · rw [List.mem_singleton.1 ho]
        unfold nakd
        rw [hk, hg, show (⟨3, oct c.peer⟩ : Opt).d = oct c.peer from rfl, ad4_oct]
        simp
    · unfold lacks
      simp
  · rw [if_neg hl, List.append_nil]
    refine ⟨⟨un1, ok1⟩, no1, ?_⟩
    have : (l.map (fix1 c)).map (·.t) = l.map (·.t) := by rw [List.map_map]; exact hm
    rw [lacks_types this]
    simpa using hl
theorem done_look {c : Conf} {l : List Opt} (h : Done c l) : look c l = ⟨[], [], []⟩ := by
  rw [look_ok h.ok, h.la]
  have : l.filter (nakd c) = [] := by
    rw [List.filter_eq_nil_iff]
    intro o ho h2
    rw [h.no o ho] at h2; cases h2
  rw [this]; rfl
theorem done_of_look {c : Conf} {l : List Opt} (h1 : (look c l).r = []) (h2 : (look c l).n = []) : Done c l := by
  have hk := ok_of_r h1
  rw [look_ok hk] at h2
  simp only [List.append_eq_nil_iff, List.map_eq_nil_iff] at h2
  refine ⟨hk, fun o ho => ?_, ?_⟩
  · have := List.filter_eq_nil_iff.1 h2.1 o ho
    simpa using this
  · cases e : lacks c l with
    | false => rfl
    | true => rw [e] at h2; simp at h2
/-- What holds ahead of a round. -/
def Ph (c : Conf) (i : Nat) (s : Pol) (m : List Opt) : Prop := s.c = c ∧ ((i = 0 ∧ s.naks = 0) ∨ (i = 1 ∧ s.naks = 0 ∧ Ok1 c m) ∨ Done c m)
theorem ph_step {c : Conf} (hm : 1 ≤ c.max) {i : Nat} (hi : i < 3) {s s' : Pol} {m x : List Opt} {z : Int} (h : Ph c i s m) (hj : judge s m = (z, x, s')) :
    (z = 2 ∧ Done c m) ∨ ((z = 3 ∨ z = 4) ∧ i < 2 ∧ Ph c (i + 1) s' (mendL z m x)) := by
  obtain ⟨hc, h⟩ := h
  have key : s.naks = 0 → (i = 0 ∨ (i = 1 ∧ Ok1 c m)) → (z = 2 ∧ Done c m) ∨ ((z = 3 ∨ z = 4) ∧ i < 2 ∧ Ph c (i + 1) s' (mendL z m x)) := by
    intro hn hi2
    unfold judge at hj
    rw [hc, hn] at hj
    by_cases e1 : (look c m).r ≠ []
    · rw [if_pos e1] at hj
      simp only [Prod.mk.injEq] at hj
      obtain ⟨rfl, rfl, rfl⟩ := hj
      rcases hi2 with rfl | ⟨rfl, hk⟩
      · refine .inr ⟨.inr rfl, by omega, rfl, .inr (.inl ⟨rfl, rfl, ?_⟩)⟩
        rw [mend4]
        exact ok_kept c m
      · exact absurd (by rw [look_ok hk]) e1
    · rw [if_neg e1] at hj
      have e1' := Classical.not_not.1 e1
      by_cases e2 : (look c m).n ≠ [] ∧ 0 < c.max
      · rw [if_pos e2] at hj
        simp only [Prod.mk.injEq] at hj
        obtain ⟨rfl, rfl, rfl⟩ := hj
        refine .inr ⟨.inl rfl, by omega, rfl, .inr (.inr ?_)⟩
        exact done_mend3 (ok_of_r e1')
      · have e3 : (look c m).n = [] := by
          by_cases e : (look c m).n = []
          · exact e
          · exact absurd ⟨e, by omega⟩ e2
        have hd := done_of_look e1' e3
        rw [if_neg e2, if_neg (by rw [done_look hd]; simp)] at hj
        simp only [Prod.mk.injEq] at hj
        exact .inl ⟨hj.1.symm, hd⟩
  rcases h with ⟨rfl, hn⟩ | ⟨rfl, hn, hk⟩ | hd
  · exact key hn (.inl rfl)
  · exact key hn (.inr ⟨rfl, hk⟩)
  · unfold judge at hj
    rw [hc, done_look hd] at hj
    simp only [ne_eq, not_true_eq_false, if_false, false_and, Prod.mk.injEq] at hj
    exact .inl ⟨hj.1.symm, hd⟩
theorem set_ha (x : Icp) (k : Nat) (u : UInt32) (h : x.ha = true) : (x.set k u).ha = true := by
  unfold Icp.set
  split
  · rfl
  · split <;> exact h
theorem get_ha : ∀ (l : List Opt) (x : Icp) (odd : List Opt), (getL l x odd).2.2 = 0 → (x.ha = true ∨ ∃ o ∈ l, o.t = 3 ∧ goodO o = true) → (getL l x odd).1.ha = true
  | [], x, odd, _, h => by
    rcases h with h | ⟨o, ho, _⟩
    · exact h
    · simp at ho
  | o :: l, x, odd, h0, h => by
    rw [getL] at h0 ⊢
    by_cases hg : goodO o = true
    · rw [if_pos hg] at h0 ⊢
      by_cases hx : x.has (kof o) = true
      · rw [if_pos hx] at h0; simp at h0
      · rw [if_neg hx] at h0 ⊢
        refine get_ha l _ odd h0 ?_
        rcases h with h | ⟨p, hp, ht, hpg⟩
        · exact .inl (set_ha x _ _ h)
        · rcases List.mem_cons.1 hp with rfl | hp
          · refine .inl ?_
            have : kof p = 0 := by unfold kof; rw [if_pos ht]
            rw [this]; rfl
          · exact .inr ⟨p, hp, ht, hpg⟩
    · rw [if_neg hg] at h0 ⊢
      refine get_ha l _ _ h0 ?_
      rcases h with h | ⟨p, hp, ht, hpg⟩
      · exact .inl h
      · rcases List.mem_cons.1 hp with rfl | hp
        · exact absurd hpg hg
        · exact .inr ⟨p, hp, ht, hpg⟩
/-- What is acked at last gives the peer its address, where there is one to give. -/
theorem done_peer {c : Conf} {s s' : Pol} {m x : List Opt} (hc : s.c = c) (hd : Done c m) (hj : judge s m = (2, x, s')) : c.peer = 0 ∨ (s'.peer.ha = true ∧ s'.peer.a = c.peer) := by
  by_cases hp : c.peer = 0
  · exact .inl hp
  · right
    have hz : (judge s m).1 = 2 := by rw [hj]
    obtain ⟨_, y, hg, hy, _, _, hF⟩ := ack_fine s m hz
    rw [hj] at hy
    simp only at hy
    have hm : ∃ o ∈ m, o.t = 3 := by
      refine Classical.byContradiction fun hno => ?_
      have : lacks c m = true := by
        unfold lacks
        simp only [Bool.and_eq_true, List.all_eq_true, decide_eq_true_eq, Bool.not_eq_true', decide_eq_false_iff_not]
        exact ⟨hp, fun o ho e => hno ⟨o, ho, e⟩⟩
      rw [hd.la] at this; cases this
    obtain ⟨o, ho, ht⟩ := hm
    have hgo : goodO o = true := by
      cases h2 : goodO o with
      | false => exact absurd (.inl h2) (hd.ok.ok o ho)
      | true => rfl
    have hha : y.ha = true := by
      have := get_ha m noI [] (by rw [show getL m noI [] = getI m from rfl, hg]) (.inr ⟨o, ho, ht, hgo⟩)
      rw [show getL m noI [] = getI m from rfl, hg] at this
      exact this
    rw [hy]
    refine ⟨hha, ?_⟩
    rw [hc] at hF
    exact (hF 0 (by decide) hha).1 hp
theorem mend_len (z : Int) (l x : List Opt) : (mendL z l x).length ≤ l.length + x.length := by
  have h1 : (l.flatMap (mend1 z x)).length ≤ l.length := by
    induction l with
    | nil => simp
    | cons o l ih =>
      rw [List.flatMap_cons, List.length_append, List.length_cons]
      have : (mend1 z x o).length ≤ 1 := by
        unfold mend1
        split
        · simp
        · split <;> simp
      omega
  unfold mendL
  rw [List.length_append]
  split
  · have := List.length_filter_le (fun o => (l.filter (hasT o.t)).isEmpty) x
    omega
  · rw [List.length_nil]; omega
end Go.Proofs.YtlcckkdkcbelhaaDoor
