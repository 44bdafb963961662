/-
  Layer 8 (option): what was put is got, and what is got is put as it stood: over lists alone.
-/
import Derived.Test.YtjkhmnipffdliaaRGet
import Derived.Test.YtjkhmnipffdliaaRPut
set_option linter.unusedVariables false
set_option linter.unusedSimpArgs false
namespace Go.Proofs.Ytjkhmnipffdliaa

theorem tail_list (s : ByteArray) (k : Nat) : (tail s k).data.toList = s.data.toList.drop k := by
  rw [tail_data, Array.toList_extract, List.extract_eq_take_drop]
  rw [List.take_of_length_le]
  rw [List.length_drop, Array.length_toList]
  exact Nat.le_refl _
theorem size_list (r : ByteArray) : r.size = r.data.toList.length := by rw [Array.length_toList]; rfl
theorem getD_list (r : ByteArray) (i : Nat) : r.data.getD i 0 = r.data.toList.getD i 0 := by
  rw [Array.getD_eq_getD_getElem?, List.getD_eq_getElem?_getD, Array.getElem?_toList]
theorem ext_list {a b : ByteArray} (h : a.data.toList = b.data.toList) : a = b := by
  cases a; cases b; simp only at h; congr; exact Array.toList_inj.1 h
theorem extract_list (r : ByteArray) (a b : Nat) : (r.extract a b).data.toList = (r.data.toList.drop a).take (b - a) := by
  rw [ByteArray.data_extract, Array.toList_extract, List.extract_eq_take_drop]
theorem len_b (n : Nat) (h : n ≤ 253) : (UInt8.ofNat (2 + n)).toNat = 2 + n := by simp; omega
theorem b1_enc {r : ByteArray} {o : Opt} {m : List UInt8} (h : r.data.toList = enc1 o ++ m) (ho : o.d.size ≤ 253) : (b1 r).toNat = 2 + o.d.size := by
  unfold b1
  rw [getD_list, h]
  simp only [enc1, List.cons_append, List.getD_cons_succ, List.getD_cons_zero]
  exact len_b _ ho
theorem opt_enc {r : ByteArray} {o : Opt} {m : List UInt8} (h : r.data.toList = enc1 o ++ m) (ho : o.d.size ≤ 253) : optOf r = o := by
  unfold optOf
  rw [b1_enc h ho, getD_list, h]
  cases o with
  | mk t d =>
    simp only [enc1, List.cons_append, List.getD_cons_zero, Opt.mk.injEq, true_and]
    apply ext_list
    rw [extract_list, h]
    simp only [enc1, List.cons_append, List.drop_succ_cons, List.drop_zero]
    rw [show 2 + d.size - 2 = d.data.toList.length from by rw [← size_list]; omega, List.take_left]
theorem steps_enc (s : ByteArray) (l : List Opt) (hs : s.data.toList = enc l) (hl : l.length ≤ 64) : ∀ (suf pre : List Opt) (f : Nat), l = pre ++ suf → fits suf = true → suf.length < f →
    (∀ x ∈ steps s f (enc pre).length pre.length, x.e = 0) ∧ (steps s f (enc pre).length pre.length).map (·.o) = suf := by
  intro suf
  induction suf with
  | nil =>
    intro pre f h1 h2 h3
    rw [List.append_nil] at h1
    subst h1
    rw [steps_end (by rw [size_list, hs]; omega)]
    exact ⟨fun x hx => by simp at hx, rfl⟩
  | cons o suf ih =>
    intro pre f h1 h2 h3
    obtain ⟨f, rfl⟩ : ∃ g, f = g + 1 := ⟨f - 1, by simp at h3; omega⟩
    have ht : (tail s (enc pre).length).data.toList = enc1 o ++ enc suf := by
      rw [tail_list, hs, h1, enc_append, List.drop_left]; rfl
    have h2' := h2
    simp only [fits, List.all_cons, Bool.and_eq_true, decide_eq_true_eq] at h2'
    obtain ⟨ho, hsf⟩ := h2'
    have hsz : (tail s (enc pre).length).size = 2 + o.d.size + (enc suf).length := by rw [size_list, ht, List.length_append, enc1_len]
    have hk : pre.length < 64 := by rw [h1] at hl; simp at hl; omega
    have hb := b1_enc ht ho
    have hbad : bad (tail s (enc pre).length) pre.length = none := by
      unfold bad
      rw [if_neg (by omega), if_neg (by omega), if_neg (by omega), if_neg (by omega)]
    have hlt : (enc pre).length < s.size := by
      rw [size_list, hs, h1, enc_append, List.length_append]
      simp only [enc, List.length_append, enc1_len]; omega
    rw [steps_ok hlt hbad, hb]
    have e1 : (enc pre).length + (2 + o.d.size) = (enc (pre ++ [o])).length := by rw [enc_snoc, List.length_append, enc1_len]
    have e2 : pre.length + 1 = (pre ++ [o]).length := by simp
    rw [e1, e2]
    obtain ⟨i1, i2⟩ := ih (pre ++ [o]) f (by rw [h1]; simp) hsf (by simp at h3; omega)
    refine ⟨fun x hx => ?_, ?_⟩
    · rcases List.mem_cons.1 hx with rfl | hx
      · rfl
      · exact i1 x hx
    · rw [List.map_cons, i2]
      simp only [opt_enc ht ho]
theorem get_enc (l : List Opt) (h1 : l.length ≤ 64) (h2 : fits l = true) (h3 : (enc l).length ≤ 1496) : getS ⟨(enc l).toArray⟩ = (l, ((enc l).length : Int), 0) := by
  have hsz : (⟨(enc l).toArray⟩ : ByteArray).size = (enc l).length := by rw [size_list]
  unfold getS
  rw [hsz, if_neg (by omega)]
  have hle : ∀ l : List Opt, l.length ≤ (enc l).length := by
    intro l
    induction l with
    | nil => simp
    | cons o l ih => simp only [enc, List.length_append, enc1_len, List.length_cons]; omega
  obtain ⟨i1, i2⟩ := steps_enc ⟨(enc l).toArray⟩ l rfl h1 l [] ((enc l).length + 1) rfl h2 (by have := hle l; omega)
  simp only [enc, List.length_nil] at i1 i2
  rw [fin_all i1, i2]
/-- What was put is got. -/
theorem get_put (l : List Opt) (h : (put l).2 = 0) : getS ⟨(put l).1.toArray⟩ = (l, ((put l).1.length : Int), 0) := by
  by_cases h1 : 64 < l.length
  · rw [put_full h1] at h; simp at h
  · by_cases h2 : fits l = true
    · by_cases h3 : 1496 < (enc l).length
      · rw [put_long (by omega) h2 h3] at h; simp at h
      · rw [put_ok (by omega) h2 (by omega)]
        exact get_enc l (by omega) h2 (by omega)
    · rw [put_arg (by omega) (by simpa using h2)] at h; simp at h
theorem steps_at (s : ByteArray) : ∀ (f at_ k : Nat), ∀ x ∈ steps s f at_ k, x.at_ ≤ s.size := by
  intro f
  induction f with
  | zero => intro at_ k x hx; simp [steps] at hx
  | succ f ih =>
    intro at_ k x hx
    unfold steps at hx
    split at hx
    · rename_i hlt
      split at hx
      · rw [List.mem_singleton.1 hx]; simp only; omega
      · rcases List.mem_cons.1 hx with rfl | hx
        · simp only; omega
        · exact ih _ _ x hx
    · simp at hx
theorem list_two {l : List UInt8} (h : 2 ≤ l.length) : ∃ x y m, l = x :: y :: m := by
  match l, h with
  | x :: y :: m, _ => exact ⟨x, y, m, rfl⟩
theorem enc1_opt (r : ByteArray) (h1 : 2 ≤ r.size) (h2 : 2 ≤ (b1 r).toNat) (h3 : (b1 r).toNat ≤ r.size) : enc1 (optOf r) = r.data.toList.take (b1 r).toNat := by
  obtain ⟨x, y, m, hl⟩ := list_two (l := r.data.toList) (by rw [← size_list]; exact h1)
  have hb : b1 r = y := by unfold b1; rw [getD_list, hl]; rfl
  have ht : (optOf r).t = x := by show r.data.getD 0 0 = x; rw [getD_list, hl]; rfl
  rw [hb] at h2 h3
  rw [size_list, hl] at h3
  simp only [List.length_cons] at h3
  obtain ⟨z, hz⟩ : ∃ z, y.toNat = z + 2 := ⟨y.toNat - 2, by omega⟩
  have hd : (optOf r).d.data.toList = m.take z := by
    show (r.extract 2 (b1 r).toNat).data.toList = _
    rw [extract_list, hb, hl, hz, Nat.add_sub_cancel]; rfl
  have hs : (optOf r).d.size = z := by rw [size_list, hd, List.length_take]; omega
  have hu := y.toNat_lt
  unfold enc1
  rw [ht, hd, hs, hb, hl, hz, List.take_succ_cons, List.take_succ_cons]
  rw [show UInt8.ofNat (2 + z) = y from UInt8.toNat_inj.1 (by rw [len_b _ (by omega)]; omega)]
theorem steps_back (s : ByteArray) : ∀ (f at_ k : Nat), at_ ≤ s.size → s.size - at_ < f → (∀ x ∈ steps s f at_ k, x.e = 0) →
    s.data.toList.drop at_ = enc ((steps s f at_ k).map (·.o)) ∧ fits ((steps s f at_ k).map (·.o)) = true ∧ ((steps s f at_ k).length = 0 ∨ (steps s f at_ k).length + k ≤ 64) := by
  intro f
  induction f with
  | zero => intro at_ k h1 h2; omega
  | succ f ih =>
    intro at_ k h1 h2 h3
    by_cases hlt : at_ < s.size
    · cases hb : bad (tail s at_) k with
      | some e =>
        rw [steps_bad hlt hb] at h3
        have := h3 _ (List.mem_singleton.2 rfl)
        simp only at this
        subst this
        unfold bad at hb
        split at hb
        · simp at hb
        · split at hb
          · simp at hb
          · split at hb
            · simp at hb
            · split at hb <;> simp at hb
      | none =>
        rw [steps_ok hlt hb] at h3 ⊢
        have hts : (tail s at_).size = s.size - at_ := tail_size s at_ (by omega)
        have hbb : k < 64 ∧ 2 ≤ (tail s at_).size ∧ 2 ≤ (b1 (tail s at_)).toNat ∧ (b1 (tail s at_)).toNat ≤ (tail s at_).size := by
          unfold bad at hb
          split at hb
          · simp at hb
          · split at hb
            · simp at hb
            · split at hb
              · simp at hb
              · split at hb
                · simp at hb
                · omega
        obtain ⟨c1, c2, c3, c4⟩ := hbb
        have hu := (b1 (tail s at_)).toNat_lt
        obtain ⟨j1, j2, j3⟩ := ih (at_ + (b1 (tail s at_)).toNat) (k + 1) (by omega) (by omega) (fun x hx => h3 x (List.mem_cons_of_mem _ hx))
        have htl := tail_list s at_
        have hd : (optOf (tail s at_)).d.size = (b1 (tail s at_)).toNat - 2 := by
          rw [size_list]; unfold optOf; rw [extract_list, List.length_take, List.length_drop, ← size_list]; omega
        refine ⟨?_, ?_, ?_⟩
        · rw [List.map_cons]
          simp only [enc]
          rw [← j1, ← List.drop_drop]
          rw [enc1_opt _ c2 c3 c4, htl, List.take_append_drop]
        · rw [List.map_cons]
          simp only [fits, List.all_cons, Bool.and_eq_true, decide_eq_true_eq]
          exact ⟨by rw [hd]; omega, j2⟩
        · right
          rw [List.length_cons]
          rcases j3 with j3 | j3 <;> omega
    · rw [steps_end hlt]
      refine ⟨?_, rfl, .inl rfl⟩
      rw [List.map_nil, List.drop_of_length_le (by rw [← size_list]; omega)]; rfl
/-- What is got is put as it stood. -/
theorem put_get (s : ByteArray) (h : (getS s).2.2 = 0) : put (getS s).1 = (s.data.toList, 0) ∧ (getS s).2.1 = (s.size : Int) := by
  unfold getS at h ⊢
  by_cases hs : 1496 < s.size
  · rw [if_pos hs] at h; simp at h
  · rw [if_neg hs] at h ⊢
    have hall : ∀ x ∈ steps s (s.size + 1) 0 0, x.e = 0 := by
      unfold fin at h
      split at h
      · rename_i x hx
        have := List.find?_some hx
        simp only [decide_eq_true_eq] at this
        exact absurd h this
      · rename_i hx
        intro x hm
        have := List.find?_eq_none.1 hx x hm
        simpa using this
    obtain ⟨j1, j2, j3⟩ := steps_back s (s.size + 1) 0 0 (by omega) (by omega) hall
    rw [fin_all hall]
    rw [List.drop_zero] at j1
    refine ⟨?_, rfl⟩
    simp only
    rw [put_ok (by rw [List.length_map]; omega) j2 (by rw [← j1, ← size_list]; omega), ← j1]
/-- Where the bytes are wrong there is no row, and a place in them. -/
theorem get_bad (s : ByteArray) (h : (getS s).2.2 ≠ 0) : (getS s).1 = [] ∧ 0 ≤ (getS s).2.1 ∧ (getS s).2.1 ≤ (s.size : Int) := by
  unfold getS at h ⊢
  by_cases hs : 1496 < s.size
  · rw [if_pos hs]; simp
  · rw [if_neg hs] at h ⊢
    unfold fin at h ⊢
    split
    · rename_i x hx
      have := steps_at s _ _ _ x (List.mem_of_find?_eq_some hx)
      simp only
      exact ⟨trivial, by omega, by omega⟩
    · rename_i hx
      rw [hx] at h
      simp at h
/-- Two rows, one behind the other. -/
theorem fits_append (l m : List Opt) : fits (l ++ m) = (fits l && fits m) := by simp [fits]
theorem put_cases (l : List Opt) : (64 < l.length ∧ put l = ([], 4)) ∨ (l.length ≤ 64 ∧ fits l = false ∧ put l = ([], 2)) ∨ (l.length ≤ 64 ∧ fits l = true ∧ 1496 < (enc l).length ∧ put l = ([], 5)) ∨ (l.length ≤ 64 ∧ fits l = true ∧ (enc l).length ≤ 1496 ∧ put l = (enc l, 0)) := by
  by_cases h1 : 64 < l.length
  · exact .inl ⟨h1, put_full h1⟩
  · by_cases h2 : fits l = true
    · by_cases h3 : 1496 < (enc l).length
      · exact .inr (.inr (.inl ⟨by omega, h2, h3, put_long (by omega) h2 h3⟩))
      · exact .inr (.inr (.inr ⟨by omega, h2, by omega, put_ok (by omega) h2 (by omega)⟩))
    · exact .inr (.inl ⟨by omega, by simpa using h2, put_arg (by omega) (by simpa using h2)⟩)
theorem joins_bad (l m : List Opt) (h : (put l).2 ≠ 0 ∨ (put m).2 ≠ 0) : (put (l ++ m)).2 ≠ 0 := by
  rcases put_cases (l ++ m) with ⟨_, e⟩ | ⟨_, _, e⟩ | ⟨_, _, _, e⟩ | ⟨a, b, c, e⟩
  · rw [e]; decide
  · rw [e]; decide
  · rw [e]; decide
  · rw [fits_append, Bool.and_eq_true] at b
    rw [List.length_append] at a
    rw [enc_append, List.length_append] at c
    rw [put_ok (by omega) b.1 (by omega), put_ok (by omega) b.2 (by omega)] at h
    simp at h
theorem put_zero {l : List Opt} (h : (put l).2 = 0) : l.length ≤ 64 ∧ fits l = true ∧ (enc l).length ≤ 1496 ∧ put l = (enc l, 0) := by
  rcases put_cases l with ⟨_, e⟩ | ⟨_, _, e⟩ | ⟨_, _, _, e⟩ | h'
  · rw [e] at h; simp at h
  · rw [e] at h; simp at h
  · rw [e] at h; simp at h
  · exact h'
theorem joins_full (l m : List Opt) (h : 64 < l.length + m.length) : put (l ++ m) = ([], 4) := put_full (by rw [List.length_append]; exact h)
theorem joins_long (l m : List Opt) (h1 : (put l).2 = 0) (h2 : (put m).2 = 0) (h : l.length + m.length ≤ 64) (h3 : 1496 < (put l).1.length + (put m).1.length) : put (l ++ m) = ([], 5) := by
  obtain ⟨a1, a2, a3, a4⟩ := put_zero h1
  obtain ⟨b1, b2, b3, b4⟩ := put_zero h2
  rw [a4, b4] at h3
  exact put_long (by rw [List.length_append]; exact h) (by rw [fits_append, a2, b2]; rfl) (by rw [enc_append, List.length_append]; exact h3)
theorem joins_ok (l m : List Opt) (h1 : (put l).2 = 0) (h2 : (put m).2 = 0) (h : l.length + m.length ≤ 64) (h3 : (put l).1.length + (put m).1.length ≤ 1496) : put (l ++ m) = ((put l).1 ++ (put m).1, 0) := by
  obtain ⟨a1, a2, a3, a4⟩ := put_zero h1
  obtain ⟨b1, b2, b3, b4⟩ := put_zero h2
  rw [a4, b4] at h3 ⊢
  rw [put_ok (by rw [List.length_append]; exact h) (by rw [fits_append, a2, b2]; rfl) (by rw [enc_append, List.length_append]; exact h3), enc_append]
end Go.Proofs.Ytjkhmnipffdliaa
