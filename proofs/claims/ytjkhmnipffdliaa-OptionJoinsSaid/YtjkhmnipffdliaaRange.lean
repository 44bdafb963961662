/-
  A range over a function whose round begins with a store: the element goes into a block of the round's own.
-/
import Derived.Test.YtjkhmnipffdliaaBridge
import Derived.RangeFuncFrom
import Derived.RangeFuncRecord
import Derived.RangeFuncKeeps
set_option linter.unusedVariables false
namespace Go.Proofs.Ytjkhmnipffdliaa
open Go.RowKit

/-- The two blocks that the loop lays: where the rounds' deferred calls go, and its record. -/
structure LoopAt (W : World) (d : Nat) (r : Loop) : Prop where
  rec_ : W.heap[d + 1]? = some (.loop r)
  mark : W.heap[d]? = some (.deferred (some []))
theorem LoopAt.keeps {W W' : World} {d : Nat} {r : Loop} (h : LoopAt W d r) (k : KeepsOthers W W') : LoopAt W' d r := ⟨k.same _ _ h.rec_ rfl, k.same _ _ h.mark rfl⟩
theorem LoopAt.put {W : World} {d : Nat} {r : Loop} (h : LoopAt W d r) (r' : Loop) : LoopAt (W.putObj (d + 1) (.loop r')) d r' :=
  ⟨World.putObj_heap_same (Array.getElem?_eq_some_iff.1 h.rec_).1, (World.putObj_heap_other (by omega)).trans h.mark⟩
theorem LoopAt.grown {W W' : World} {d : Nat} {r : Loop} (h : LoopAt W d r) {row : Option Nat} (hg : W.grownBy W' row) (hr : ∀ k, row = some k → ∃ o : Obj, W.heap[k]? = some o ∧ o.isWalk = true) : LoopAt W' d r :=
  ⟨(hg.block _ (Array.getElem?_eq_some_iff.1 h.rec_).1 (fun e => by obtain ⟨o, ho, hw⟩ := hr _ e.symm; rw [h.rec_] at ho; cases ho; cases hw)).trans h.rec_,
   (hg.block _ (Array.getElem?_eq_some_iff.1 h.mark).1 (fun e => by obtain ⟨o, ho, hw⟩ := hr _ e.symm; rw [h.mark] at ho; cases ho; cases hw)).trans h.mark⟩
theorem OwnFrom.rec_ {β : Type} {D : Nat} {I : β → World → Prop} (h : OwnFrom D I) {s : β} {W : World} {d : Nat} {r : Loop} (hs : I s W) (hd : D ≤ d + 1) (hl : LoopAt W d r) (r' : Loop) : I s (W.putObj (d + 1) (.loop r')) :=
  h.putObj _ hs hd hl.rec_ rfl
theorem rangeFunc_wide {n : Nat} {P : Program} {α : Type} {g : Operand} {ps : Array Tmp} {assign body : Code} {Q : Exit → Act → World → Prop} {a : Act} {w : World}
    (h1 : 1 ≤ n) {gf : Nat} {lb : Array Value} (hg : a.eval g = .func (.func gf) #[] lb) (eg : ∀ args w, (callFunc gf args).run P w = .ok (.enter gf args) w)
    {encs : α → Array Value} {Kp : World → World → Prop} {S Sp : List α → Prop} {N : Nat} (hseq : SeqStopsK Fence.wide (n - 1) P gf lb encs Kp S Sp N w)
    (hKt : ∀ {A B C : World}, Kp A B → Kp B C → Kp A C) (hKb : ∀ (W : World) (l : Nat) (o o' : Obj), w.heap.size ≤ l → W.heap[l]? = some o → o.isCells = false → o.isWalk = false → Kp W (W.putObj l o')) (hps : ∀ x, (encs x).size = ps.size)
    (I : List α → World → Prop) (Im : List α → α → Act → World → Prop) (Ix : Code → List α → World → Prop) (hI : OwnFrom w.heap.size I) (hIm : ∀ a', OwnFrom w.heap.size (fun (p : List α × α) W => Im p.1 p.2 a' W)) (hIx : ∀ c, OwnFrom w.heap.size (Ix c)) (h0 : I [] w)
    (hassign : ∀ (l : Nat) (pre : List α) (x : α) (W : World), I pre W → pre.length < N →
      assign.wpIn (Fence.wide.inRound l) (n - 1 - 1) P (Exit.then (fun a' W' => KeepsOthers W W' ∧ Kp W W' ∧ Im pre x a' W') (fun _ _ _ => False)) { tmps := (ps.zip (encs x)).foldl (fun t (p, v) => t.setIfInBounds p v) a.tmps, defers := [] } W)
    (hbody : ∀ (l : Nat) (pre : List α) (x : α) (a' : Act) (W : World), Im pre x a' W → pre.length < N → body.wpIn (Fence.wide.inRound l) (n - 1 - 1) P (ownPostK Kp I Ix (pre ++ [x]) W) a' W)
    (hdone : ∀ (D : Nat) (xs : List α) (W : World), w.heap.size ≤ D → S xs → I xs W → W.heap[D]? = some (.deferred (some [])) → Q .normal { a with defers := { target := .collected D, args := #[] } :: a.defers } W)
    (hstop : ∀ (D : Nat) (c : Code) (pre : List α) (W : World), w.heap.size ≤ D → Sp pre → Ix c pre W → W.heap[D]? = some (.deferred (some [])) → c.wpIn Fence.wide n P Q { a with defers := { target := .collected D, args := #[] } :: a.defers } W) :
    (Code.rangeFunc g ps assign body).wpIn Fence.wide n P Q a w := by
  refine wpIn_rangeFunc fun fn hfn => ?_
  let rdy : Loop := { state := .ready, pending := none, fn, tmps := a.tmps, params := ps, assign, body, defers := w.heap.size }
  have hrdy : rdy = { state := .ready, pending := none, fn, tmps := a.tmps, params := ps, assign, body, defers := w.heap.size } := rfl
  clear_value rdy
  obtain ⟨W1, hW1⟩ : ∃ W1, (w.alloc (.deferred (some []))).alloc (.loop rdy) = W1 := ⟨_, rfl⟩
  have hL1 : LoopAt W1 w.heap.size rdy := by
    constructor
    · rw [← hW1]; have := World.alloc_heap_new (w.alloc (.deferred (some []))) (.loop rdy); rwa [World.size_alloc] at this
    · rw [← hW1]; exact (Below.heap_alloc _ _ _ (by simp)).trans (World.alloc_heap_new w _)
  have hI1 : I [] W1 := by rw [← hW1]; exact hI.alloc _ (hI.alloc _ h0)
  have hb1 : Below w.heap.size w W1 := by rw [← hW1]; exact (((Below.refl _ w).alloc (Nat.le_refl _) _).alloc (by simp) _)
  have hs1 : w.heap.size + 2 = W1.heap.size := by rw [← hW1]; simp
  have seen : ∀ {A B : World} {row : Option Nat}, (∀ r, row = some r → W1.heap.size ≤ r ∧ ∃ o : Obj, A.heap[r]? = some o ∧ o.isWalk = true) → (∀ r, row = some r → w.heap.size ≤ r ∧ ∃ o : Obj, A.heap[r]? = some o ∧ o.isCells = false) :=
    fun hr r e => by obtain ⟨hB, o, ho, hw⟩ := hr r e; exact ⟨by omega, o, ho, Obj.not_cells_of_walk hw⟩
  refine ⟨w.heap.size + 1, [{ target := .collected w.heap.size, args := #[] }], W1, { target := .fn (.func gf) lb, args := #[.func (.yield (w.heap.size + 1)) #[] #[]] }, W1, gf,
    #[.func (.yield (w.heap.size + 1)) #[] #[]] ++ lb, W1, ?_, ?_, fun f' hf' => trivial, ?_, fun _ => h1, ?_⟩
  · rw [← hW1, hrdy]; exact run_enterLoop_outer _ _ _ _ _
  · simp only [resolve, hg]
    simp [go_sem]
  · simp [invoke, go_sem, eg]
  refine (hseq (w.heap.size + 1) (fun pre W => I pre W ∧ LoopAt W w.heap.size rdy) (fun pre W => ∃ c, Ix c pre W ∧ LoopAt W w.heap.size { rdy with state := .done, pending := some c }) W1 hb1
      (fun s A B row hs hgr hr => ⟨hI s A B row hs.1 hgr (seen (B := B) hr), hs.2.grown hgr (fun k e => (hr k e).2)⟩)
      (fun s A B row hs hgr hr => by
        obtain ⟨c, hc, hl⟩ := hs
        exact ⟨c, hIx c s A B row hc hgr (seen (B := B) hr), hl.grown hgr (fun k e => (hr k e).2)⟩) ?_ ⟨hI1, hL1⟩).mono ?_
  · rintro pre x W ⟨hi, hl⟩ hlen
    have hy := run_yield (P := P) (args := encs x) hl.rec_ (by rw [hrdy]; exact hps x)
    rw [hrdy] at hy
    refine ⟨fn, _, assign, body, hy, roundIn_of_wpIn hfn (wpIn_mono (hassign _ pre x W hi hlen) ?_)⟩
    rintro e a' W2 hp
    cases e with
    | normal =>
      obtain ⟨hk2, hkp2, him⟩ := hp
      have hl2 := hl.keeps hk2
      have hl3 := hl2.put { rdy with state := .busy }
      refine ⟨_, run_beginRound hl2.rec_ (by rw [hrdy]), ?_⟩
      have hkp3 := hKt hkp2 (hKb W2 (w.heap.size + 1) _ (.loop { rdy with state := .busy }) (by omega) hl2.rec_ rfl rfl)
      refine wpIn_mono (hbody _ pre x a' _ (OwnFrom.rec_ (s := (pre, x)) (hIm a') him (by omega) hl2 _) hlen) ?_
      rintro e a3 W3 hq
      cases e with
      | normal =>
        obtain ⟨hk4, hkp4, hi4⟩ := hq
        have hl4 := hl3.keeps hk4
        have hr := run_endRound (P := P) none hl4.rec_
        have hl5 := hl4.put rdy
        refine ⟨.bool true, W3.putObj (w.heap.size + 1) (.loop rdy), ?_, .inl ⟨rfl, ⟨OwnFrom.rec_ hI hi4 (by omega) hl4 _, hl5⟩, hKt (hKt hkp3 hkp4) (hKb _ _ _ _ (by omega) hl4.rec_ rfl rfl)⟩⟩
        rw [hr, hrdy]; rfl
      | ret =>
        obtain ⟨hk4, hi4⟩ := hq
        have hl4 := hl3.keeps hk4
        have hr := run_endRound (P := P) (some .ret) hl4.rec_
        exact ⟨_, _, hr, .inr ⟨rfl, .ret, OwnFrom.rec_ (hIx _) hi4 (by omega) hl4 _, hl4.put _⟩⟩
      | exit id =>
        obtain ⟨hk4, hi4⟩ := hq
        have hl4 := hl3.keeps hk4
        have hr := run_endRound (P := P) (some (.exit id)) hl4.rec_
        exact ⟨_, _, hr, .inr ⟨rfl, .exit id, OwnFrom.rec_ (hIx _) hi4 (by omega) hl4 _, hl4.put _⟩⟩
      | goto t =>
        obtain ⟨hk4, hi4⟩ := hq
        have hl4 := hl3.keeps hk4
        have hr := run_endRound (P := P) (some (.goto t)) hl4.rec_
        exact ⟨_, _, hr, .inr ⟨rfl, .goto t, OwnFrom.rec_ (hIx _) hi4 (by omega) hl4 _, hl4.put _⟩⟩
      | panic ch => exact hq.elim
      | outgrown => exact hq.elim
    | ret => exact hp.elim
    | exit id => exact hp.elim
    | goto t => exact hp.elim
    | panic ch => exact hp.elim
    | outgrown => exact hp.elim
  · rintro e W2 ⟨⟨v, rfl⟩, (⟨xs, hS, hi, hl⟩ | ⟨pre, hSp, c, hi, hl⟩)⟩
    · have hr := run_endLoop (P := P) hl.rec_ (by rw [hrdy]; simp)
      exact ⟨_, _, hr, by rw [hrdy]; exact hdone _ xs _ (Nat.le_refl _) hS (by rw [← hrdy]; exact OwnFrom.rec_ hI hi (by omega) hl _) (by rw [← hrdy]; exact (hl.put _).mark)⟩
    · have hr := run_endLoop (P := P) hl.rec_ (by simp)
      exact ⟨_, _, hr, hstop _ c pre _ (Nat.le_refl _) hSp (OwnFrom.rec_ (hIx c) hi (by omega) hl _) (hl.put _).mark⟩
end Go.Proofs.Ytjkhmnipffdliaa
