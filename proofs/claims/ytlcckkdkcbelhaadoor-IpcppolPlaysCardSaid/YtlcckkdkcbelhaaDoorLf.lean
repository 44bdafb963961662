/-
  Layer 15 (ipcppol): the look in a map without its second value, from the one with it.
-/
import Derived.Test.YtlcckkdkcbelhaaDoorKinds
set_option linter.unusedSimpArgs false
namespace Go.Proofs.YtlcckkdkcbelhaaDoor
theorem look_false {W : World} {bm : Nat} {k v : Value} {b : Bool} (h : (Instr.lookup 91 (.map (some bm)) k true).run Tryd.prog W = .ok (.tuple #[v, .bool b]) W) : (Instr.lookup 91 (.map (some bm)) k false).run Tryd.prog W = .ok v W := by
  unfold Instr.lookup at h ⊢
  simp only [Sem.run_bind] at h ⊢
  cases h1 : (underlying 91).run Tryd.prog W with
  | ok a w1 =>
    rw [h1] at h
    simp only [Result.andThen] at h ⊢
    cases a <;> simp only [Sem.run_bind] at h ⊢ <;> try (simp [stuck, Result.andThen] at h; done)
    cases h2 : (getObj bm).run Tryd.prog w1 with
    | ok ob w2 =>
      rw [h2] at h
      simp only [Result.andThen] at h ⊢
      cases ob <;> simp only [Sem.run_bind, Sem.run_pure, Result.andThen] at h ⊢ <;> try (simp [stuck, Result.andThen] at h; done)
      rename_i key elem es' clock'
      cases h3 : (Instr.checkKey es'.isEmpty 10000 key k).run Tryd.prog w2 with
      | halt hh w3 => rw [h3] at h; cases h
      | ok u w3 =>
        rw [h3] at h
        simp only at h ⊢
        cases h4 : (Instr.findKey key k es'.toList).run Tryd.prog w3 with
        | halt hh w4 => rw [h4] at h; cases h
        | ok q w4 =>
          rw [h4] at h
          cases q with
          | none =>
            simp only [Sem.run_bind] at h ⊢
            cases h5 : (zeroValue elem).run Tryd.prog w4 with
            | halt hh w5 => rw [h5] at h; cases h
            | ok z w5 =>
              rw [h5] at h
              simp [Result.andThen] at h ⊢
              exact ⟨h.1.1, h.2⟩
          | some q =>
            simp [Result.andThen] at h ⊢
            exact ⟨h.1.1, h.2⟩
    | _ => simp_all [Result.andThen]
  | _ => simp_all [Result.andThen]
end Go.Proofs.YtlcckkdkcbelhaaDoor
