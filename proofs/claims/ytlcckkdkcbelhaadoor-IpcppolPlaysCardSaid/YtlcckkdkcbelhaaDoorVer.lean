/-
  Layer 15 (ipcppol): three rows of the call's own that grow apart; a region's states by what has come up.
-/
import Derived.Test.YtlcckkdkcbelhaaDoorGi
import Derived.Maps.AppendAt
set_option linter.unusedVariables false
set_option linter.unusedSimpArgs false
namespace Go.Proofs.YtlcckkdkcbelhaaDoor
open Go.RowKit Go.Proofs.YtlcckkdkcbelhaaDoorW.PrintWords Go.Proofs.YtlcckkdkcbelhaaDoorW.PrintLast

section
variable {P : Program} {md : Region.Mode} {ops : Array Oper} {Q : Exit → Act → World → Prop} {S : World → Prop} {ds : List Nat}
/-- The goal's predicate and frame under names: so states can be told one by one. -/
theorem dp_start {fuel : Nat} {listed : Array Bool} {a : Act} {w : World} (h : ∀ (F : Nat → Array Bool → Act → World → Prop) (a0 : Act), F = wpAnyLast P md ops Q S ds → a0 = a → F fuel listed a0 w) : wpAnyLast P md ops Q S ds fuel listed a w := h _ _ rfl rfl
end
theorem wp_append_own_at {P : Program} {o : Oper} {a : Act} {w : World} {K : Act → World → Prop} {Q : Exit → Act → World → Prop} (s x : Operand) (t : TypeId)
    (ho : o.op = .call { callee := .builtin .append, args := #[s, x], argTypes := #[t, t] })
    (base : Nat) (e : TypeId) (i : TypeInfo) (z : Value) (size bytes : Nat) (ht : P.underlying t = some (.slice e)) (hi : P.info? e = some i) (hz : i.zero = some z)
    (hsize : i.size = size) (hby : i.bytes = bytes) (hzs : z.cells.size = size) (hsz : 0 < size)
    (v : Value) (n : Nat) (xs : List Value) (hs : a.eval s = v) (hown : w.ownsRow base e size v n xs)
    (ad : Addr) (m c : Nat) (news : List Value) (hx : a.eval x = .slice (some ad) m c) (hl : news.length = m * size) (hnews : ∀ j u, news[j]? = some u → w.cell? (ad.add j) = some u) (h1 : ∀ u ∈ news, u.oneCell' = true)
    (h63 : n + m ≤ maxLen) (hbytes : (n + m) * bytes ≤ 140737488355328) (hbase : base ≤ w.heap.size)
    (h : ∀ v' w', w'.ownsRow base e size v' (n + m) (xs ++ news) → w.grownBy w' v.ownBlock → (v'.ownBlock = v.ownBlock ∨ v'.ownBlock = some w.heap.size) → K (a.put o.dst v') w') : o.wp P a w K Q := by
  obtain ⟨v', w', hr, h2, h3, _, h4⟩ := run_append_own_at (P := P) w base t o.type e i z size bytes ht hi hz hsize hby hzs hsz v n xs hown ad m c news hl hnews h1 h63 hbytes hbase
  unfold Oper.wp execOp
  simp only [ho, resolve, invoke, builtin, Sem.run_bind, Sem.run_pure, Result.andThen_ok, List.map_toArray, List.map_cons, List.map_nil, hs, hx, hr]
  exact h v' w' h2 h3 h4
def Apt (u v : Value) : Prop := ∀ k, u.ownBlock = some k → v.ownBlock ≠ some k
theorem Apt.symm {u v : Value} (h : Apt u v) : Apt v u := fun k hk hu => h k hu hk
def OwnL (W : World) (B : Nat) (v : Value) (l : List Opt) : Prop := W.ownsRow B 57 2 v l.length (optCells l)
theorem OwnL.below {w W : World} {B : Nat} {v : Value} {l : List Opt} (h : OwnL w B v l) (hb : Below w.heap.size w W) : OwnL W B v l := own_below h hb
theorem OwnL.lt {w : World} {B : Nat} {v : Value} {l : List Opt} (h : OwnL w B v l) (k : Nat) (hk : v.ownBlock = some k) : B ≤ k ∧ k < w.heap.size := by
  refine ⟨own_base h k hk, ?_⟩
  rcases h.2 with ⟨rfl, _⟩ | ⟨g, cap, cur, rfl, _, hh, _⟩
  · simp [Value.ownBlock] at hk
  · simp only [Value.ownBlock, Option.some.injEq] at hk
    subst hk
    exact (Array.getElem?_eq_some_iff.1 hh).1
theorem OwnL.grown {w W : World} {B : Nat} {u v : Value} {l : List Opt} (h : OwnL w B v l) (hg : w.grownBy W u.ownBlock) (ha : Apt u v) : OwnL W B v l := by
  refine World.ownsRow.kept h hg ?_
  rcases h.2 with ⟨rfl, _⟩ | ⟨g, cap, cur, rfl, _, hh, _⟩
  · exact .inl rfl
  · exact .inr (fun e => ha g e.symm rfl)
/-- Three rows, no two in one block. -/
structure Three (W : World) (B : Nat) (r n c : Value) (x y z : List Opt) : Prop where
  own1 : OwnL W B r x
  own2 : OwnL W B n y
  own3 : OwnL W B c z
  rn : Apt r n
  rc : Apt r c
  nc : Apt n c
theorem Three.below {w W : World} {B : Nat} {r n c : Value} {x y z : List Opt} (h : Three w B r n c x y z) (hb : Below w.heap.size w W) : Three W B r n c x y z := ⟨h.own1.below hb, h.own2.below hb, h.own3.below hb, h.rn, h.rc, h.nc⟩
theorem Three.rot {w : World} {B : Nat} {r n c : Value} {x y z : List Opt} (h : Three w B r n c x y z) : Three w B n c r y z x := ⟨h.own2, h.own3, h.own1, h.nc, h.rn.symm, h.rc.symm⟩
theorem Three.push {w W : World} {B : Nat} {r r' n c : Value} {x y z : List Opt} {o : Opt} (h : Three w B r n c x y z) (hown : W.ownsRow B 57 2 r' (x.length + 1) (optCells x ++ [.int .u8 (tv o.t), .string o.d])) (hg : w.grownBy W r.ownBlock)
    (hat : r'.ownBlock = r.ownBlock ∨ r'.ownBlock = some w.heap.size) : Three W B r' n c (x ++ [o]) y z := by
  have key : ∀ {v : Value} {l : List Opt}, OwnL w B v l → Apt r v → Apt r' v := fun hv ha k hk => by
    rcases hat with e | e
    · exact ha k (e ▸ hk)
    · rw [e] at hk
      obtain rfl := Option.some.inj hk
      intro e2
      have := (hv.lt _ e2).2
      omega
  refine ⟨?_, h.own2.grown hg h.rn, h.own3.grown hg h.rc, key h.own2 h.rn, key h.own3 h.rc, h.nc⟩
  unfold OwnL
  rw [List.length_append, optCells_append]
  exact hown
theorem three_nil (W : World) (B : Nat) : Three W B (.slice none 0 0) (.slice none 0 0) (.slice none 0 0) [] [] [] :=
  ⟨World.ownsRow_nil _ _ _ _, World.ownsRow_nil _ _ _ _, World.ownsRow_nil _ _ _ _, fun k hk => by simp [Value.ownBlock] at hk, fun k hk => by simp [Value.ownBlock] at hk, fun k hk => by simp [Value.ownBlock] at hk⟩
/-- A block that was made behind a row is none of its. -/
theorem OwnL.ne_new {w : World} {B : Nat} {v : Value} {l : List Opt} (h : OwnL w B v l) (k : Nat) (hk : w.heap.size ≤ k) : some k ≠ v.ownBlock := fun e => by
  have := (h.lt k e.symm).2
  omega
end Go.Proofs.YtlcckkdkcbelhaaDoor
