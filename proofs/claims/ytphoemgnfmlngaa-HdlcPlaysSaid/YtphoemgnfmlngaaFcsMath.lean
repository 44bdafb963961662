/-
  Plain numbers and lists for layer 2 (fcs): the register as a natural number; no Go.
-/
set_option linter.unusedVariables false
set_option linter.unusedSimpArgs false
namespace Go.Proofs.Ytphoemgnfmlngaa.Fcs

/-- One zero bit taken by a register. -/
def z (x : Nat) : Nat := if x % 2 = 1 then (x / 2) ^^^ 0x8408 else x / 2

theorem z_xor (a b : Nat) : z (a ^^^ b) = z a ^^^ z b := by
  have hp : ((a ^^^ b) % 2 = 1) ↔ ¬ ((a % 2 = 1) ↔ (b % 2 = 1)) := Nat.xor_mod_two_eq_one
  unfold z
  rw [Nat.xor_div_two]
  by_cases ha : a % 2 = 1 <;> by_cases hb : b % 2 = 1
  · rw [if_neg (by rw [hp]; simp [ha, hb]), if_pos ha, if_pos hb]
    rw [Nat.xor_assoc, Nat.xor_comm 0x8408, Nat.xor_assoc, Nat.xor_self, Nat.xor_zero]
  · rw [if_pos (by rw [hp]; simp [ha, hb]), if_pos ha, if_neg hb]
    rw [Nat.xor_assoc, Nat.xor_assoc, Nat.xor_comm (b / 2)]
  · rw [if_pos (by rw [hp]; simp [ha, hb]), if_neg ha, if_pos hb, Nat.xor_assoc]
  · rw [if_neg (by rw [hp]; simp [ha, hb]), if_neg ha, if_neg hb]

def zn : Nat → Nat → Nat
  | 0, x => x
  | n + 1, x => zn n (z x)

theorem zn_xor (n a b : Nat) : zn n (a ^^^ b) = zn n a ^^^ zn n b := by
  induction n generalizing a b with
  | zero => rfl
  | succ n ih => simp only [zn, z_xor, ih]

theorem zn_add (m n x : Nat) : zn (m + n) x = zn n (zn m x) := by
  induction m generalizing x with
  | zero => simp [zn]
  | succ m ih => rw [Nat.succ_add]; simp only [zn, ih]

theorem z_zero : z 0 = 0 := by decide
theorem zn_zero (n : Nat) : zn n 0 = 0 := by
  induction n with
  | zero => rfl
  | succ n ih => simp [zn, z_zero, ih]

theorem z_double (x : Nat) : z (2 * x) = x := by
  unfold z
  rw [if_neg (by omega)]
  omega

theorem zn_shift (n x : Nat) : zn n (2 ^ n * x) = x := by
  induction n generalizing x with
  | zero => simp [zn]
  | succ n ih =>
    simp only [zn]
    rw [show 2 ^ (n + 1) * x = 2 * (2 ^ n * x) from by rw [Nat.pow_succ]; rw [Nat.mul_comm (2 ^ n) 2, Nat.mul_assoc], z_double, ih]

theorem z_lt (x : Nat) (h : x < 65536) : z x < 65536 := by
  unfold z
  split
  · exact Nat.xor_lt_two_pow (n := 16) (by omega) (by decide)
  · omega

theorem zn_lt (n x : Nat) (h : x < 65536) : zn n x < 65536 := by
  induction n generalizing x with
  | zero => exact h
  | succ n ih => exact ih _ (z_lt x h)

theorem z_eq_zero (x : Nat) (h : x < 65536) (h0 : z x = 0) : x = 0 := by
  unfold z at h0
  split at h0
  · exfalso
    have h1 : x / 2 = 0x8408 := by
      have := congrArg (fun y => y ^^^ 0x8408) h0
      simpa [Nat.xor_assoc] using this
    omega
  · omega

theorem zn_eq_zero (n x : Nat) (h : x < 65536) (h0 : zn n x = 0) : x = 0 := by
  induction n generalizing x with
  | zero => exact h0
  | succ n ih => exact z_eq_zero x h (ih _ (z_lt x h) h0)

theorem zn_inj (n a b : Nat) (ha : a < 65536) (hb : b < 65536) (h : zn n a = zn n b) : a = b := by
  have h1 : zn n (a ^^^ b) = 0 := by rw [zn_xor, h, Nat.xor_self]
  have h2 := zn_eq_zero n (a ^^^ b) (Nat.xor_lt_two_pow (n := 16) ha hb) h1
  have := congrArg (fun y => y ^^^ b) h2
  simpa [Nat.xor_assoc] using this

/-- A register that takes a byte. -/
def step (c b : Nat) : Nat := zn 8 (c ^^^ b)
def more (c : Nat) (s : List Nat) : Nat := s.foldl step c
/-- The bytes as one number, the first one lowest. -/
def num : List Nat → Nat
  | [] => 0
  | b :: s => b ^^^ (2 ^ 8 * num s)

theorem more_num (s : List Nat) (c : Nat) : more c s = zn (8 * s.length) (c ^^^ num s) := by
  induction s generalizing c with
  | nil => simp [more, num, zn]
  | cons b s ih =>
    have : more c (b :: s) = more (step c b) s := rfl
    rw [this, ih, step, num, List.length_cons, show 8 * (s.length + 1) = 8 + 8 * s.length from by omega, zn_add, ← Nat.xor_assoc, zn_xor 8 (c ^^^ b), zn_shift]

theorem more_append (c : Nat) (s t : List Nat) : more c (s ++ t) = more (more c s) t := by simp [more]
theorem more_lt (c : Nat) (s : List Nat) (hc : c < 65536) (hs : ∀ b ∈ s, b < 256) : more c s < 65536 := by
  induction s generalizing c with
  | nil => exact hc
  | cons b s ih =>
    refine ih (step c b) (zn_lt 8 _ ?_) (fun x hx => hs x (List.mem_cons_of_mem _ hx))
    exact Nat.xor_lt_two_pow (n := 16) hc (by have := hs b (List.mem_cons_self ..); omega)

/-- Two registers and two rows of bytes, one with the other. -/
theorem more_xor (s t : List Nat) (h : s.length = t.length) (c d : Nat) :
    more (c ^^^ d) (List.zipWith (· ^^^ ·) s t) = more c s ^^^ more d t := by
  induction s generalizing c d t with
  | nil => cases t with
    | nil => rfl
    | cons => simp at h
  | cons a s ih => cases t with
    | nil => simp at h
    | cons b t =>
      have h1 : more (c ^^^ d) (List.zipWith (· ^^^ ·) (a :: s) (b :: t)) = more (step (c ^^^ d) (a ^^^ b)) (List.zipWith (· ^^^ ·) s t) := rfl
      have h2 : step (c ^^^ d) (a ^^^ b) = step c a ^^^ step d b := by
        unfold step
        rw [← zn_xor]
        congr 1
        rw [Nat.xor_assoc, Nat.xor_assoc, ← Nat.xor_assoc d, ← Nat.xor_assoc a, Nat.xor_comm d a]
      rw [h1, h2, ih t (by simpa using h)]
      rfl

def sum (s : List Nat) : Nat := 0xffff ^^^ more 0xffff s
def sealed (s : List Nat) : List Nat := s ++ [sum s % 256, sum s / 256]

theorem two_num (x y : Nat) : num [x, y] = x ^^^ (2 ^ 8 * y) := by simp [num]
theorem xor_of_lt (a b : Nat) (h : a < 2 ^ 8) : 2 ^ 8 * b ^^^ a = 2 ^ 8 * b + a := by
  apply Nat.eq_of_testBit_eq
  intro j
  rw [Nat.testBit_xor, Nat.testBit_two_pow_mul_add _ h, Nat.testBit_two_pow_mul]
  by_cases hj : j < 8
  · rw [if_pos hj]; simp [Nat.not_le.2 hj]
  · rw [if_neg hj, Nat.testBit_lt_two_pow (Nat.lt_of_lt_of_le h (Nat.pow_le_pow_right (by decide) (by omega)))]
    simp [Nat.le_of_not_lt hj]
theorem byte_xor (v : Nat) : (v % 256) ^^^ (2 ^ 8 * (v / 256)) = v := by
  have h1 : (v % 256) < 2 ^ 8 := Nat.mod_lt _ (by decide)
  rw [Nat.xor_comm, xor_of_lt _ _ h1]
  omega

theorem sum_lt (s : List Nat) (hs : ∀ b ∈ s, b < 256) : sum s < 65536 :=
  Nat.xor_lt_two_pow (n := 16) (by decide) (more_lt _ s (by decide) hs)

theorem residue : zn 16 0xffff = 0xf0b8 := by decide

theorem more_seal (s : List Nat) (hs : ∀ b ∈ s, b < 256) : more 0xffff (sealed s) = 0xf0b8 := by
  rw [sealed, more_append, more_num [sum s % 256, sum s / 256], two_num, byte_xor]
  have : more 0xffff s ^^^ sum s = 0xffff := by
    unfold sum
    rw [Nat.xor_comm 0xffff, ← Nat.xor_assoc, Nat.xor_self, Nat.zero_xor]
  rw [this]
  exact residue

/-- What is good was sealed. -/
theorem good_seal (s : List Nat) (x y : Nat) (hs : ∀ b ∈ s, b < 256) (hx : x < 256) (hy : y < 256) (h : more 0xffff (s ++ [x, y]) = 0xf0b8) : s ++ [x, y] = sealed s := by
  rw [more_append, more_num [x, y], two_num] at h
  have hm : more 0xffff s < 65536 := more_lt _ s (by decide) hs
  have hxy : x ^^^ (2 ^ 8 * y) = x + 256 * y := by
    rw [Nat.xor_comm, xor_of_lt _ _ (show x < 2 ^ 8 from hx)]; omega
  have e : more 0xffff s ^^^ (x ^^^ 2 ^ 8 * y) = 0xffff := by
    refine zn_inj 16 _ _ (Nat.xor_lt_two_pow (n := 16) hm ?_) (by decide) ?_
    · rw [hxy]; omega
    · exact h.trans residue.symm
  have e2 : x + 256 * y = sum s := by
    rw [← hxy]
    have := congrArg (fun v => more 0xffff s ^^^ v) e
    simp only [← Nat.xor_assoc, Nat.xor_self, Nat.zero_xor] at this
    rw [this, sum, Nat.xor_comm]
  unfold sealed
  rw [← e2]
  have h1 : (x + 256 * y) % 256 = x := by omega
  have h2 : (x + 256 * y) / 256 = y := by omega
  rw [h1, h2]

end Go.Proofs.Ytphoemgnfmlngaa.Fcs
