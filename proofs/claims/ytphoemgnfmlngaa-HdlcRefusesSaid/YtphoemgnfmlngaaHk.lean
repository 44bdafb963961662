/-
  The plain law of HdlcRefuses: what is aborted, over lists.
-/
import Derived.Test.YtphoemgnfmlngaaHi
set_option linter.unusedVariables false
set_option linter.unusedSimpArgs false
namespace Go.Proofs.Ytphoemgnfmlngaa
open Go.RowKit

theorem Rc.abort (r : Rc) (info : List UInt8) (k : Nat) (hk : 1 ≤ k) (hk2 : k + 1 ≤ (Hd.frame info r.accm).length) (hp : r.p = []) :
    r.run ((Hd.frame info r.accm).take k ++ [125, 126]) = { r.add 1 with inn := true, p := [] } ∧ r.outs ((Hd.frame info r.accm).take k ++ [125, 126]) = [] := by
  obtain ⟨j, rfl⟩ : ∃ j, k = j + 1 := ⟨k - 1, by omega⟩
  obtain ⟨q, hq⟩ : ∃ q, Esc.put r.accm (Hd.sealL info) = q := ⟨_, rfl⟩
  have hc := Hd.put_clean r.accm (Hd.sealL info)
  have hst := Hd.strip_put r.accm (Hd.sealL info)
  rw [hq] at hc hst
  have hfr : Hd.frame info r.accm = 126 :: (q ++ [126]) := by unfold Hd.frame; rw [hq]
  rw [hfr] at hk2 ⊢
  have hj : j ≤ q.length := by simp at hk2; omega
  have htk : (126 :: (q ++ [126])).take (j + 1) ++ [125, 126] = 126 :: ((q.take j ++ [125]) ++ [126]) := by
    rw [List.take_succ_cons, List.take_append_of_le_length hj]
    simp
  rw [htk]
  obtain ⟨n1, n2⟩ := Rc.next_nil r hp
  have hcl : ∀ b ∈ q.take j ++ [125], b ≠ 126 ∧ Esc.mapped r.accm b.toNat = false := by
    intro b hb
    rcases List.mem_append.1 hb with hb | hb
    · exact ⟨u8_ne (hc b (List.mem_of_mem_take hb)).1, (hc b (List.mem_of_mem_take hb)).2⟩
    · obtain rfl := List.mem_singleton.1 hb
      exact ⟨by decide, by simp [Esc.mapped]⟩
  have hs2 : Esc.strip r.accm (q.take j ++ [125]) = q.take j ++ [125] := by
    rw [Esc.strip, List.filter_eq_self]
    intro b hb
    rw [(hcl b hb).2]; rfl
  obtain ⟨f1, f2⟩ := Rc.feed (q.take j ++ [125]) { r with inn := true, p := [] } rfl (fun b hb => (hcl b hb).1)
  rw [List.nil_append, hs2] at f1
  obtain ⟨r2, hr2⟩ : ∃ x, ({ r with inn := true, p := q.take j ++ [125] } : Rc) = x := ⟨_, rfl⟩
  have hne : r2.p ≠ [] := by rw [← hr2]; simp
  have hk1 : r2.kind = 1 := by
    unfold Rc.kind
    rw [if_pos (by rw [← hr2]; simp)]
  obtain ⟨m1, m2⟩ := Rc.next_met r2 hne
  show (r.next 126).run _ = _ ∧ r.out1 126 ++ (r.next 126).outs _ = _
  rw [n1, n2, Rc.run_snoc, Rc.outs_snoc, f1, f2, hr2, m1, m2, hk1, if_neg (by decide)]
  refine ⟨?_, rfl⟩
  rw [← hr2]
  rfl
end Go.Proofs.Ytphoemgnfmlngaa
