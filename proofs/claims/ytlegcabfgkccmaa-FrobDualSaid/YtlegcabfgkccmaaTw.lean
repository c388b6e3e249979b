/- The tower of binary fields, in plain Lean: a ring, a field, squares and traces, numbers of its elements, products by generators. Conditions: those that each theorem names. -/
set_option linter.unusedVariables false
namespace Go.Proofs.YtlegcabfgkccmaaT

/-- The tower of fields by pairs: an element of level k + 1 is hi X + lo. -/
def T : Nat → Type
  | 0 => Bool
  | k + 1 => T k × T k

def tzero : (k : Nat) → T k
  | 0 => false
  | k + 1 => (tzero k, tzero k)
def tone : (k : Nat) → T k
  | 0 => true
  | k + 1 => (tzero k, tone k)
def tadd : (k : Nat) → T k → T k → T k
  | 0, a, b => Bool.xor a b
  | k + 1, a, b => (tadd k a.1 b.1, tadd k a.2 b.2)
/-- The generator of a level: X 0 is 1. -/
def gen : (k : Nat) → T k
  | 0 => true
  | k + 1 => (tone k, tzero k)
/-- X X = X Z + 1, Z the generator of the level below. -/
def tmul : (k : Nat) → T k → T k → T k
  | 0, a, b => Bool.and a b
  | k + 1, a, b => (tadd k (tadd k (tmul k (tmul k a.1 b.1) (gen k)) (tmul k a.1 b.2)) (tmul k a.2 b.1), tadd k (tmul k a.2 b.2) (tmul k a.1 b.1))

instance (k : Nat) : Add (T k) := ⟨tadd k⟩
instance (k : Nat) : Mul (T k) := ⟨tmul k⟩
instance (k : Nat) : OfNat (T k) 0 := ⟨tzero k⟩
instance (k : Nat) : OfNat (T k) 1 := ⟨tone k⟩
instance tdec : (k : Nat) → DecidableEq (T k)
  | 0 => inferInstanceAs (DecidableEq Bool)
  | k + 1 => by
    haveI := tdec k
    exact inferInstanceAs (DecidableEq (T k × T k))

theorem add_def (k : Nat) (a b : T (k + 1)) : a + b = ((a.1 + b.1, a.2 + b.2) : T k × T k) := rfl
theorem mul_def (k : Nat) (a b : T (k + 1)) : a * b = ((a.1 * b.1 * gen k + a.1 * b.2 + a.2 * b.1, a.2 * b.2 + a.1 * b.1) : T k × T k) := rfl
theorem zero_def (k : Nat) : (0 : T (k + 1)) = ((0, 0) : T k × T k) := rfl
theorem one_def (k : Nat) : (1 : T (k + 1)) = ((0, 1) : T k × T k) := rfl
theorem gen_def (k : Nat) : gen (k + 1) = ((1, 0) : T k × T k) := rfl
theorem ext2 {k : Nat} {a b : T (k + 1)} (h1 : a.1 = b.1) (h2 : a.2 = b.2) : a = b := Prod.ext h1 h2

theorem add_comm : ∀ {k : Nat} (a b : T k), a + b = b + a
  | 0, a, b => by cases a <;> cases b <;> rfl
  | k + 1, a, b => ext2 (add_comm a.1 b.1) (add_comm a.2 b.2)
theorem add_assoc : ∀ {k : Nat} (a b c : T k), a + b + c = a + (b + c)
  | 0, a, b, c => by cases a <;> cases b <;> cases c <;> rfl
  | k + 1, a, b, c => ext2 (add_assoc a.1 b.1 c.1) (add_assoc a.2 b.2 c.2)
theorem add_self : ∀ {k : Nat} (a : T k), a + a = 0
  | 0, a => by cases a <;> rfl
  | k + 1, a => ext2 (add_self a.1) (add_self a.2)
theorem add_zero : ∀ {k : Nat} (a : T k), a + 0 = a
  | 0, a => by cases a <;> rfl
  | k + 1, a => ext2 (add_zero a.1) (add_zero a.2)
theorem zero_add {k : Nat} (a : T k) : 0 + a = a := by rw [add_comm, add_zero]
instance (k : Nat) : Std.Associative (α := T k) (· + ·) := ⟨add_assoc⟩
instance (k : Nat) : Std.Commutative (α := T k) (· + ·) := ⟨add_comm⟩
theorem add_left_self {k : Nat} (a b : T k) : a + (a + b) = b := by rw [← add_assoc, add_self, zero_add]
theorem add_cancel {k : Nat} {a b c : T k} (h : a + b = a + c) : b = c := by
  have := congrArg (a + ·) h
  simpa only [add_left_self] using this
theorem add_eq_zero {k : Nat} {a b : T k} : a + b = 0 ↔ a = b := by
  constructor
  · intro h
    rw [← add_self b, add_comm a b, add_comm b b] at h
    exact add_cancel h
  · rintro rfl
    exact add_self a

theorem mul_zero : ∀ {k : Nat} (a : T k), a * 0 = 0
  | 0, a => by cases a <;> rfl
  | k + 1, a => by
    exact ext2 (by show a.1 * 0 * gen k + a.1 * 0 + a.2 * 0 = 0; simp only [mul_zero, add_zero]; rw [mul_comm' (0 : T k) (gen k), mul_zero]) (by show a.2 * 0 + a.1 * 0 = 0; simp only [mul_zero, add_zero])
where mul_comm' : ∀ {k : Nat} (a b : T k), a * b = b * a
  | 0, a, b => by cases a <;> cases b <;> rfl
  | k + 1, a, b => by
    refine ext2 ?_ ?_
    · show a.1 * b.1 * gen k + a.1 * b.2 + a.2 * b.1 = b.1 * a.1 * gen k + b.1 * a.2 + b.2 * a.1
      rw [mul_comm' b.1 a.1, mul_comm' b.1 a.2, mul_comm' b.2 a.1]
      ac_rfl
    · show a.2 * b.2 + a.1 * b.1 = b.2 * a.2 + b.1 * a.1
      rw [mul_comm' b.1 a.1, mul_comm' b.2 a.2]
theorem mul_comm {k : Nat} (a b : T k) : a * b = b * a := mul_zero.mul_comm' a b
theorem zero_mul {k : Nat} (a : T k) : 0 * a = 0 := by rw [mul_comm, mul_zero]
theorem mul_add : ∀ {k : Nat} (a b c : T k), a * (b + c) = a * b + a * c
  | 0, a, b, c => by cases a <;> cases b <;> cases c <;> rfl
  | k + 1, a, b, c => by
    refine ext2 ?_ ?_
    · show a.1 * (b.1 + c.1) * gen k + a.1 * (b.2 + c.2) + a.2 * (b.1 + c.1) = a.1 * b.1 * gen k + a.1 * b.2 + a.2 * b.1 + (a.1 * c.1 * gen k + a.1 * c.2 + a.2 * c.1)
      rw [mul_add a.1, mul_add a.1, mul_add a.2, mul_comm _ (gen k), mul_add (gen k), mul_comm (gen k), mul_comm (gen k)]
      ac_rfl
    · show a.2 * (b.2 + c.2) + a.1 * (b.1 + c.1) = a.2 * b.2 + a.1 * b.1 + (a.2 * c.2 + a.1 * c.1)
      rw [mul_add, mul_add]
      ac_rfl
theorem add_mul {k : Nat} (a b c : T k) : (a + b) * c = a * c + b * c := by rw [mul_comm, mul_add, mul_comm c a, mul_comm c b]
theorem mul_assoc : ∀ {k : Nat} (a b c : T k), a * b * c = a * (b * c)
  | 0, a, b, c => by cases a <;> cases b <;> cases c <;> rfl
  | k + 1, a, b, c => by
    haveI : Std.Associative (α := T k) (· * ·) := ⟨mul_assoc⟩
    haveI : Std.Commutative (α := T k) (· * ·) := ⟨mul_comm⟩
    refine ext2 ?_ ?_
    · show (a.1 * b.1 * gen k + a.1 * b.2 + a.2 * b.1) * c.1 * gen k + (a.1 * b.1 * gen k + a.1 * b.2 + a.2 * b.1) * c.2 + (a.2 * b.2 + a.1 * b.1) * c.1
        = a.1 * (b.1 * c.1 * gen k + b.1 * c.2 + b.2 * c.1) * gen k + a.1 * (b.2 * c.2 + b.1 * c.1) + a.2 * (b.1 * c.1 * gen k + b.1 * c.2 + b.2 * c.1)
      simp only [mul_add, add_mul]
      ac_rfl
    · show (a.2 * b.2 + a.1 * b.1) * c.2 + (a.1 * b.1 * gen k + a.1 * b.2 + a.2 * b.1) * c.1 = a.2 * (b.2 * c.2 + b.1 * c.1) + a.1 * (b.1 * c.1 * gen k + b.1 * c.2 + b.2 * c.1)
      simp only [mul_add, add_mul]
      ac_rfl
instance (k : Nat) : Std.Associative (α := T k) (· * ·) := ⟨mul_assoc⟩
instance (k : Nat) : Std.Commutative (α := T k) (· * ·) := ⟨mul_comm⟩
theorem mul_one : ∀ {k : Nat} (a : T k), a * 1 = a
  | 0, a => by cases a <;> rfl
  | k + 1, a => by
    exact ext2 (by show a.1 * 0 * gen k + a.1 * 1 + a.2 * 0 = a.1; simp only [mul_zero, zero_mul, mul_one, zero_add, add_zero]) (by show a.2 * 1 + a.1 * 0 = a.2; simp only [mul_zero, mul_one, add_zero])
theorem one_mul {k : Nat} (a : T k) : 1 * a = a := by rw [mul_comm, mul_one]
theorem one_ne_zero : ∀ {k : Nat}, (1 : T k) ≠ 0
  | 0 => by decide
  | k + 1 => fun h => one_ne_zero (k := k) (congrArg Prod.snd h)

/-- Squares go over sums. -/
theorem sq_add {k : Nat} (a b : T k) : (a + b) * (a + b) = a * a + b * b := by
  rw [mul_add, add_mul, add_mul, mul_comm b a]
  have : a * a + a * b + (a * b + b * b) = a * a + b * b + (a * b + a * b) := by ac_rfl
  rw [this, add_self, add_zero]

/-! The trace over level 0, and what it tells: X X = X Z + 1 has no root below. -/
def tr : (k : Nat) → T k → Bool
  | 0, a => a
  | k + 1, a => tr k (a.1 * gen k)
theorem tr_add : ∀ {k : Nat} (a b : T k), tr k (a + b) = Bool.xor (tr k a) (tr k b)
  | 0, _, _ => rfl
  | k + 1, a, b => by
    show tr k ((a.1 + b.1) * gen k) = _
    rw [add_mul, tr_add]
    rfl
theorem tr_sq : ∀ {k : Nat} (a : T k), tr k (a * a) = tr k a
  | 0, a => by cases a <;> rfl
  | k + 1, a => by
    show tr k ((a.1 * a.1 * gen k + a.1 * a.2 + a.2 * a.1) * gen k) = tr k (a.1 * gen k)
    rw [← tr_sq (a.1 * gen k), mul_comm a.2 a.1, add_assoc, add_self, add_zero]
    congr 1
    ac_rfl
theorem tr_zero : ∀ {k : Nat}, tr k 0 = false
  | 0 => rfl
  | k + 1 => by
    show tr k (0 * gen k) = false
    rw [zero_mul, tr_zero]
theorem tr_gen : ∀ {k : Nat}, tr k (gen k) = true
  | 0 => rfl
  | k + 1 => by
    show tr k (1 * gen k) = true
    rw [one_mul, tr_gen]

/-! Inverses. -/
def nrm {k : Nat} (a : T (k + 1)) : T k := a.2 * (a.2 + a.1 * gen k) + a.1 * a.1
def inv : (k : Nat) → T k → T k
  | 0, a => a
  | k + 1, a => (a.1 * inv k (nrm a), (a.2 + a.1 * gen k) * inv k (nrm a))

/-- The conjugate over the level below. -/
def conj {k : Nat} (a : T (k + 1)) : T (k + 1) := (a.1, a.2 + a.1 * gen k)
theorem mul_conj {k : Nat} (a : T (k + 1)) : a * conj a = ((0, nrm a) : T k × T k) := by
  refine ext2 ?_ ?_
  · show a.1 * a.1 * gen k + a.1 * (a.2 + a.1 * gen k) + a.2 * a.1 = 0
    rw [mul_add]
    have : a.1 * a.1 * gen k + (a.1 * a.2 + a.1 * (a.1 * gen k)) + a.2 * a.1 = (a.1 * a.1 * gen k + a.1 * a.1 * gen k) + (a.1 * a.2 + a.1 * a.2) := by ac_rfl
    rw [this, add_self, add_self, add_zero]
  · rfl
/-- The level below, as a part of this one. -/
def lift {k : Nat} (a : T k) : T (k + 1) := ((0, a) : T k × T k)
theorem mul_lift {k : Nat} (a : T (k + 1)) (c : T k) : a * lift c = ((a.1 * c, a.2 * c) : T k × T k) := by
  refine ext2 ?_ ?_
  · show a.1 * 0 * gen k + a.1 * c + a.2 * 0 = a.1 * c
    rw [mul_zero, mul_zero, zero_mul, zero_add, add_zero]
  · show a.2 * c + a.1 * 0 = a.2 * c
    rw [mul_zero, add_zero]
theorem lift_mul {k : Nat} (a b : T k) : lift a * lift b = lift (a * b) := by
  rw [mul_lift]
  refine ext2 ?_ rfl
  show 0 * b = 0
  exact zero_mul b
theorem lift_add {k : Nat} (a b : T k) : lift a + lift b = lift (a + b) := ext2 (add_zero (0 : T k)) rfl
theorem lift_one {k : Nat} : lift (1 : T k) = 1 := rfl
theorem lift_zero {k : Nat} : lift (0 : T k) = 0 := rfl
theorem lift_inj {k : Nat} {a b : T k} (h : lift a = lift b) : a = b := congrArg Prod.snd h
theorem gen_ne_zero : ∀ {k : Nat}, gen k ≠ 0
  | 0 => by decide
  | k + 1 => fun h => one_ne_zero (k := k) (congrArg Prod.fst h)
/-- 1/X = X + Z. -/
theorem gen_inv (k : Nat) : gen (k + 1) * (gen (k + 1) + lift (gen k)) = 1 := by
  refine ext2 ?_ ?_
  · show 1 * (1 + 0) * gen k + 1 * (0 + gen k) + 0 * (1 + 0) = 0
    simp only [one_mul, zero_mul, add_zero, zero_add, add_self]
  · show 0 * (0 + gen k) + 1 * (1 + 0) = 1
    simp only [one_mul, zero_mul, add_zero, zero_add]
theorem gen_sq (k : Nat) : gen (k + 1) * gen (k + 1) = gen (k + 1) * lift (gen k) + 1 := by
  have := gen_inv k
  rw [mul_add] at this
  rw [← this, add_comm (gen (k + 1) * gen (k + 1)), add_left_self]
/-- The inverse of the generator has the trace 1, too. -/
theorem gen_has_inv : ∀ (k : Nat), ∃ y : T k, gen k * y = 1 ∧ tr k y = true
  | 0 => ⟨true, rfl, rfl⟩
  | k + 1 => ⟨gen (k + 1) + lift (gen k), gen_inv k, by
      show tr k ((1 + 0) * gen k) = true
      rw [add_zero, one_mul, tr_gen]⟩

theorem mul_inv_all : ∀ (k : Nat), (∀ a : T k, a ≠ 0 → a * inv k a = 1)
  | 0 => fun a h => by
    cases a with
    | false => exact absurd rfl h
    | true => rfl
  | k + 1 => by
    have ih := mul_inv_all k
    have nz : ∀ a b : T k, a * b = 0 → a ≠ 0 → b = 0 := fun a b h ha => by
      have := congrArg (inv k a * ·) h
      simp only [mul_zero] at this
      rw [← mul_assoc, mul_comm (inv k a), ih a ha, one_mul] at this
      exact this
    have noroot : ∀ a : T (k + 1), nrm a = 0 → a = 0 := by
      intro a hn
      by_cases h1 : a.1 = 0
      · have h2 : a.2 * a.2 = 0 := by
          unfold nrm at hn
          rw [h1, zero_mul, zero_mul, add_zero, add_zero] at hn
          exact hn
        by_cases h3 : a.2 = 0
        · exact ext2 h1 h3
        · exact ext2 h1 (nz _ _ h2 h3)
      · exfalso
        obtain ⟨y, hy, ht⟩ := gen_has_inv k
        -- u = l y / h : u u + u = y y
        have hh := ih a.1 h1
        have e : a.2 * a.2 + a.2 * (a.1 * gen k) + a.1 * a.1 = 0 := by
          unfold nrm at hn
          rw [mul_add] at hn
          exact hn
        have e2 := congrArg (· * (y * y * (inv k a.1 * inv k a.1))) e
        simp only [zero_mul, add_mul] at e2
        have g1 : a.2 * a.2 * (y * y * (inv k a.1 * inv k a.1)) = (a.2 * y * inv k a.1) * (a.2 * y * inv k a.1) := by ac_rfl
        have g2 : a.2 * (a.1 * gen k) * (y * y * (inv k a.1 * inv k a.1)) = a.2 * y * inv k a.1 * ((a.1 * inv k a.1) * (gen k * y)) := by ac_rfl
        have g3 : a.1 * a.1 * (y * y * (inv k a.1 * inv k a.1)) = y * y * ((a.1 * inv k a.1) * (a.1 * inv k a.1)) := by ac_rfl
        rw [g1, g2, g3, hh, hy, mul_one, mul_one, mul_one] at e2
        have e3 := congrArg (tr k) e2
        rw [tr_add, tr_add, tr_sq, tr_sq, ht, tr_zero] at e3
        cases h : tr k (a.2 * y * inv k a.1) <;> rw [h] at e3 <;> cases e3
    intro a ha
    have hn : nrm a ≠ 0 := fun h => ha (noroot a h)
    have e : inv (k + 1) a = conj a * lift (inv k (nrm a)) := (mul_lift (conj a) (inv k (nrm a))).symm
    rw [e, ← mul_assoc, mul_conj]
    show lift (nrm a) * lift (inv k (nrm a)) = 1
    rw [lift_mul, ih _ hn, lift_one]
theorem mul_inv {k : Nat} {a : T k} (h : a ≠ 0) : a * inv k a = 1 := mul_inv_all k a h
theorem inv_zero : ∀ {k : Nat}, inv k 0 = 0
  | 0 => rfl
  | k + 1 => by
    refine ext2 ?_ ?_
    · show 0 * _ = 0
      exact zero_mul _
    · show (0 + 0 * gen k) * _ = 0
      rw [zero_mul, add_zero, zero_mul]
theorem mul_eq_zero {k : Nat} {a b : T k} : a * b = 0 ↔ a = 0 ∨ b = 0 := by
  constructor
  · intro h
    by_cases ha : a = 0
    · exact .inl ha
    · refine .inr ?_
      have := congrArg (inv k a * ·) h
      simp only [mul_zero] at this
      rw [← mul_assoc, mul_comm (inv k a), mul_inv ha, one_mul] at this
      exact this
  · rintro (rfl | rfl)
    · exact zero_mul _
    · exact mul_zero _
theorem mul_left_cancel {k : Nat} {a b c : T k} (ha : a ≠ 0) (h : a * b = a * c) : b = c := by
  have : a * (b + c) = 0 := by rw [mul_add, h, add_self]
  rcases mul_eq_zero.1 this with h | h
  · exact absurd h ha
  · exact add_eq_zero.1 h
theorem inv_unique {k : Nat} {a b : T k} (h : a * b = 1) : inv k a = b := by
  have ha : a ≠ 0 := by
    rintro rfl
    rw [zero_mul] at h
    exact one_ne_zero h.symm
  exact mul_left_cancel ha (by rw [mul_inv ha, h])
theorem inv_ne_zero {k : Nat} {a : T k} (h : a ≠ 0) : inv k a ≠ 0 := fun e => by
  have := mul_inv h
  rw [e, mul_zero] at this
  exact one_ne_zero this.symm
theorem inv_inv {k : Nat} (a : T k) : inv k (inv k a) = a := by
  by_cases h : a = 0
  · rw [h, inv_zero, inv_zero]
  · exact inv_unique (by rw [mul_comm, mul_inv h])

/-! Squares again and again: x to the 2^n. -/
def frob {k : Nat} : Nat → T k → T k
  | 0, a => a
  | n + 1, a => frob n (a * a)
theorem frob_add {k : Nat} : ∀ (n : Nat) (a b : T k), frob n (a + b) = frob n a + frob n b
  | 0, _, _ => rfl
  | n + 1, a, b => by
    show frob n ((a + b) * (a + b)) = _
    rw [sq_add, frob_add n]
    rfl
theorem frob_mul {k : Nat} : ∀ (n : Nat) (a b : T k), frob n (a * b) = frob n a * frob n b
  | 0, _, _ => rfl
  | n + 1, a, b => by
    show frob n (a * b * (a * b)) = frob n (a * a) * frob n (b * b)
    rw [← frob_mul n]
    congr 1
    ac_rfl
theorem frob_sq {k : Nat} (n : Nat) (a : T k) : frob n (a * a) = frob n a * frob n a := frob_mul n a a
theorem frob_succ {k : Nat} (n : Nat) (a : T k) : frob (n + 1) a = frob n a * frob n a := frob_sq n a
theorem frob_frob {k : Nat} : ∀ (m n : Nat) (a : T k), frob m (frob n a) = frob (n + m) a
  | m, 0, a => by rw [Nat.zero_add]; rfl
  | m, n + 1, a => by
    show frob m (frob n (a * a)) = _
    rw [frob_frob m n, Nat.add_right_comm]
    rfl
theorem frob_zero {k : Nat} : ∀ n : Nat, frob n (0 : T k) = 0
  | 0 => rfl
  | n + 1 => by
    show frob n (0 * 0) = 0
    rw [mul_zero, frob_zero n]
theorem frob_one {k : Nat} : ∀ n : Nat, frob n (1 : T k) = 1
  | 0 => rfl
  | n + 1 => by
    show frob n (1 * 1) = 1
    rw [mul_one, frob_one n]
theorem frob_lift {k : Nat} : ∀ (n : Nat) (a : T k), frob n (lift a) = lift (frob n a)
  | 0, _ => rfl
  | n + 1, a => by
    show frob n (lift a * lift a) = _
    rw [lift_mul, frob_lift n]
    rfl
/-- a + a^2 + a^4 + .., n of them. -/
def fsum {k : Nat} : Nat → T k → T k
  | 0, _ => 0
  | n + 1, a => fsum n a + frob n a
theorem fsum_lift {k : Nat} : ∀ (n : Nat) (a : T k), fsum n (lift a) = lift (fsum n a)
  | 0, _ => rfl
  | n + 1, a => by
    show fsum n (lift a) + frob n (lift a) = _
    rw [fsum_lift n, frob_lift, lift_add]
    rfl
theorem fsum_add {k : Nat} : ∀ (n : Nat) (a b : T k), fsum n (a + b) = fsum n a + fsum n b
  | 0, _, _ => (add_zero _).symm
  | n + 1, a, b => by
    show fsum n (a + b) + frob n (a + b) = fsum n a + frob n a + (fsum n b + frob n b)
    rw [fsum_add n, frob_add]
    ac_rfl
theorem fsum_double {k : Nat} : ∀ (m n : Nat) (a : T k), fsum (n + m) a = fsum n a + frob n (fsum m a)
  | 0, n, a => by
    show fsum n a = fsum n a + frob n 0
    rw [frob_zero, add_zero]
  | m + 1, n, a => by
    show fsum (n + m) a + frob (n + m) a = fsum n a + frob n (fsum m a + frob m a)
    rw [fsum_double m n, frob_add, frob_frob, Nat.add_comm m n, add_assoc]
theorem frob_fsum {k : Nat} : ∀ (n m : Nat) (a : T k), frob n (fsum m a) = fsum m (frob n a)
  | n, 0, a => frob_zero n
  | n, m + 1, a => by
    show frob n (fsum m a + frob m a) = fsum m (frob n a) + frob m (frob n a)
    rw [frob_add, frob_fsum n m, frob_frob, frob_frob, Nat.add_comm]
/-- 0 or 1. -/
def bit {k : Nat} (b : Bool) : T k := if b then 1 else 0
theorem lift_bit {k : Nat} (b : Bool) : lift (bit b : T k) = bit b := by cases b <;> rfl
/-- The powers of the generator: X^(2^n) = Z^(2^n - 1) (X + Z (y^2 + y^4 + .. )), y Z = 1. -/
theorem frob_gen {k : Nat} (y : T k) (hy : gen k * y = 1) : ∀ n : Nat, frob n (gen (k + 1)) * lift (gen k) = lift (frob n (gen k)) * (gen (k + 1) + lift (gen k * fsum n (y * y)))
  | 0 => by
    show gen (k + 1) * lift (gen k) = lift (gen k) * (gen (k + 1) + lift (gen k * 0))
    rw [mul_zero, lift_zero, add_zero, mul_comm]
  | n + 1 => by
    have ih := frob_gen y hy n
    have e : frob (n + 1) (gen (k + 1)) * lift (gen k) * lift (gen k) = (lift (frob n (gen k)) * (gen (k + 1) + lift (gen k * fsum n (y * y)))) * (lift (frob n (gen k)) * (gen (k + 1) + lift (gen k * fsum n (y * y)))) := by
      rw [← ih, frob_succ]
      ac_rfl
    have q : (gen (k + 1) + lift (gen k * fsum n (y * y))) * (gen (k + 1) + lift (gen k * fsum n (y * y))) = lift (gen k) * (gen (k + 1) + lift (gen k * fsum (n + 1) (y * y))) := by
      rw [sq_add, gen_sq, lift_mul]
      have s1 : fsum (n + 1) (y * y) = y * y + fsum n (y * y) * fsum n (y * y) := by
        rw [Nat.add_comm n 1, fsum_double n 1]
        have a1 : fsum 1 (y * y) = y * y := zero_add _
        have a2 : frob 1 (fsum n (y * y)) = fsum n (y * y) * fsum n (y * y) := rfl
        rw [a1, a2]
      rw [s1, mul_add, mul_add, lift_mul]
      have s2 : gen k * (gen k * (y * y) + gen k * (fsum n (y * y) * fsum n (y * y))) = 1 + gen k * fsum n (y * y) * (gen k * fsum n (y * y)) := by
        rw [mul_add]
        have : gen k * (gen k * (y * y)) = (gen k * y) * (gen k * y) := by ac_rfl
        rw [this, hy, mul_one]
        congr 1
        ac_rfl
      rw [s2, ← lift_add, lift_one, mul_comm (lift (gen k)) (gen (k + 1)), add_assoc]
    have e3 : lift (frob n (gen k)) * lift (frob n (gen k)) = lift (frob (n + 1) (gen k)) := by rw [lift_mul, ← frob_succ]
    have e4 : frob (n + 1) (gen (k + 1)) * lift (gen k) * lift (gen k) = lift (gen k) * (lift (frob (n + 1) (gen k)) * (gen (k + 1) + lift (gen k * fsum (n + 1) (y * y)))) := by
      rw [e]
      have : lift (frob n (gen k)) * (gen (k + 1) + lift (gen k * fsum n (y * y))) * (lift (frob n (gen k)) * (gen (k + 1) + lift (gen k * fsum n (y * y))))
          = (lift (frob n (gen k)) * lift (frob n (gen k))) * ((gen (k + 1) + lift (gen k * fsum n (y * y))) * (gen (k + 1) + lift (gen k * fsum n (y * y)))) := by ac_rfl
      rw [this, q, e3]
      ac_rfl
    have nz : lift (gen k) ≠ (0 : T (k + 1)) := fun h => gen_ne_zero (lift_inj (h.trans lift_zero.symm))
    exact mul_left_cancel nz (by rw [mul_comm, e4])
/-- An element squared as often as its level has bits is itself again; the sum of its conjugates is its trace. -/
theorem frob_all : ∀ k : Nat, (∀ a : T k, frob (2 ^ k) a = a) ∧ (∀ a : T k, fsum (2 ^ k) a = bit (tr k a))
  | 0 => ⟨fun a => by cases a <;> rfl, fun a => by cases a <;> rfl⟩
  | k + 1 => by
    obtain ⟨ih1, ih2⟩ := frob_all k
    obtain ⟨y, hy, ht⟩ := gen_has_inv k
    have nz : lift (gen k) ≠ (0 : T (k + 1)) := fun h => gen_ne_zero (lift_inj (h.trans lift_zero.symm))
    have hX : frob (2 ^ k) (gen (k + 1)) = gen (k + 1) + lift (gen k) := by
      have h := frob_gen y hy (2 ^ k)
      rw [ih1, ih2, tr_sq, ht] at h
      have : gen k * bit true = gen k := mul_one _
      rw [this] at h
      exact mul_left_cancel nz (by rw [mul_comm, h])
    have split : ∀ a : T (k + 1), a = gen (k + 1) * lift a.1 + lift a.2 := fun a => by
      rw [mul_lift]
      refine ext2 ?_ ?_
      · show a.1 = 1 * a.1 + 0
        rw [one_mul, add_zero]
      · show a.2 = 0 * a.1 + a.2
        rw [zero_mul, zero_add]
    have hc : ∀ a : T (k + 1), frob (2 ^ k) a = conj a := fun a => by
      have h1 : frob (2 ^ k) a = frob (2 ^ k) (gen (k + 1) * lift a.1 + lift a.2) := congrArg _ (split a)
      rw [h1, frob_add, frob_mul, frob_lift, frob_lift, ih1, ih1, hX, add_mul, lift_mul]
      have h2 : conj a = gen (k + 1) * lift a.1 + (lift (gen k * a.1) + lift a.2) := by
        rw [lift_add, mul_lift]
        refine ext2 ?_ ?_
        · show a.1 = 1 * a.1 + 0
          rw [one_mul, add_zero]
        · show a.2 + a.1 * gen k = 0 * a.1 + (gen k * a.1 + a.2)
          rw [zero_mul, zero_add, add_comm, mul_comm]
      rw [h2, add_assoc]
    have hcc : ∀ a : T (k + 1), conj (conj a) = a := fun a => by
      refine ext2 rfl ?_
      show a.2 + a.1 * gen k + a.1 * gen k = a.2
      rw [add_assoc, add_self, add_zero]
    refine ⟨fun a => ?_, fun a => ?_⟩
    · rw [Nat.pow_succ, Nat.mul_two, ← frob_frob, hc, hc, hcc]
    · rw [Nat.pow_succ, Nat.mul_two, fsum_double, frob_fsum, hc, ← fsum_add]
      have : a + conj a = lift (a.1 * gen k) := by
        refine ext2 (add_self _) ?_
        show a.2 + (a.2 + a.1 * gen k) = _
        rw [add_left_self]
        rfl
      rw [this, fsum_lift, ih2, lift_bit]
      rfl
theorem frob_full {k : Nat} (a : T k) : frob (2 ^ k) a = a := (frob_all k).1 a
theorem fsum_full {k : Nat} (a : T k) : fsum (2 ^ k) a = bit (tr k a) := (frob_all k).2 a
/-- An element's bits, from the bit 'off' on. -/
def decB : (k : Nat) → Nat → (Nat → Bool) → T k
  | 0, off, b => b off
  | k + 1, off, b => (decB k (off + 2 ^ k) b, decB k off b)
def dec (k : Nat) (n : Nat) : T k := decB k 0 n.testBit
/-- An element as a number. -/
def enc : (k : Nat) → T k → Nat
  | 0, a => Bool.toNat a
  | k + 1, a => enc k a.1 * 2 ^ 2 ^ k + enc k a.2

theorem pow_succ2 (k : Nat) : 2 ^ 2 ^ (k + 1) = 2 ^ 2 ^ k * 2 ^ 2 ^ k := by rw [← Nat.pow_add, Nat.pow_succ, Nat.mul_two]
theorem enc_lt : ∀ (k : Nat) (a : T k), enc k a < 2 ^ 2 ^ k
  | 0, a => by cases a <;> decide
  | k + 1, a => by
    have h1 := enc_lt k a.1
    have h2 := enc_lt k a.2
    rw [pow_succ2]
    show enc k a.1 * 2 ^ 2 ^ k + enc k a.2 < _
    calc enc k a.1 * 2 ^ 2 ^ k + enc k a.2 < enc k a.1 * 2 ^ 2 ^ k + 2 ^ 2 ^ k := by omega
      _ = (enc k a.1 + 1) * 2 ^ 2 ^ k := by rw [Nat.add_mul, Nat.one_mul]
      _ ≤ 2 ^ 2 ^ k * 2 ^ 2 ^ k := Nat.mul_le_mul_right _ h1
theorem enc_hi {k : Nat} (a : T (k + 1)) : enc (k + 1) a / 2 ^ 2 ^ k = enc k a.1 := by
  show (enc k a.1 * 2 ^ 2 ^ k + enc k a.2) / _ = _
  rw [Nat.add_comm, Nat.add_mul_div_right _ _ (Nat.two_pow_pos _), Nat.div_eq_of_lt (enc_lt k a.2), Nat.zero_add]
theorem enc_lo {k : Nat} (a : T (k + 1)) : enc (k + 1) a % 2 ^ 2 ^ k = enc k a.2 := by
  show (enc k a.1 * 2 ^ 2 ^ k + enc k a.2) % _ = _
  rw [Nat.add_comm, Nat.add_mul_mod_self_right, Nat.mod_eq_of_lt (enc_lt k a.2)]
theorem enc_inj : ∀ {k : Nat} {a b : T k}, enc k a = enc k b → a = b
  | 0, a, b, h => by cases a <;> cases b <;> first | rfl | cases h
  | k + 1, a, b, h => by
    refine ext2 (enc_inj ?_) (enc_inj ?_)
    · rw [← enc_hi, ← enc_hi, h]
    · rw [← enc_lo, ← enc_lo, h]
theorem decB_congr : ∀ {k off off' : Nat} {b b' : Nat → Bool}, (∀ i, i < 2 ^ k → b (off + i) = b' (off' + i)) → decB k off b = decB k off' b'
  | 0, off, off', b, b', h => h 0 (by decide)
  | k + 1, off, off', b, b', h => by
    have e : 2 ^ (k + 1) = 2 ^ k + 2 ^ k := by rw [Nat.pow_succ, Nat.mul_two]
    refine ext2 (decB_congr fun i hi => ?_) (decB_congr fun i hi => h i (by omega))
    rw [Nat.add_assoc, Nat.add_assoc]
    exact h _ (by omega)
theorem decB_bits : ∀ {k off : Nat} {b b' : Nat → Bool}, decB k off b = decB k off b' → ∀ i, i < 2 ^ k → b (off + i) = b' (off + i)
  | 0, _, b, b', h, i, hi => by
    obtain rfl : i = 0 := by
      have : 2 ^ 0 = 1 := rfl
      omega
    exact h
  | k + 1, off, b, b', h, i, hi => by
    have e : 2 ^ (k + 1) = 2 ^ k + 2 ^ k := by rw [Nat.pow_succ, Nat.mul_two]
    by_cases hk : i < 2 ^ k
    · exact decB_bits (congrArg Prod.snd h) i hk
    · have := decB_bits (congrArg Prod.fst h) (i - 2 ^ k) (by omega)
      rwa [show off + 2 ^ k + (i - 2 ^ k) = off + i by omega] at this
theorem decB_add : ∀ (k off : Nat) (b b' : Nat → Bool), decB k off (fun i => Bool.xor (b i) (b' i)) = decB k off b + decB k off b'
  | 0, _, _, _ => rfl
  | k + 1, off, b, b' => ext2 (decB_add k _ b b') (decB_add k _ b b')
theorem dec_succ (k n : Nat) : dec (k + 1) n = ((dec k (n / 2 ^ 2 ^ k), dec k n) : T k × T k) := by
  refine ext2 ?_ rfl
  show decB k (0 + 2 ^ k) n.testBit = decB k 0 (n / 2 ^ 2 ^ k).testBit
  refine decB_congr fun i _ => ?_
  rw [← Nat.shiftRight_eq_div_pow, Nat.testBit_shiftRight, Nat.zero_add, Nat.zero_add]
theorem dec_mod (k n : Nat) : dec k (n % 2 ^ 2 ^ k) = dec k n :=
  decB_congr fun i hi => by
    rw [Nat.testBit_mod_two_pow, Nat.zero_add, decide_eq_true hi, Bool.true_and]
theorem enc_dec : ∀ (k n : Nat), enc k (dec k n) = n % 2 ^ 2 ^ k
  | 0, n => by
    show (n.testBit 0).toNat = n % 2
    rw [Nat.testBit_zero]
    rcases Nat.mod_two_eq_zero_or_one n with h | h <;> rw [h] <;> rfl
  | k + 1, n => by
    rw [dec_succ]
    show enc k (dec k (n / 2 ^ 2 ^ k)) * 2 ^ 2 ^ k + enc k (dec k n) = _
    rw [enc_dec, enc_dec, pow_succ2, Nat.mod_mul, Nat.mul_comm, Nat.add_comm]
theorem enc_dec_of_lt {k n : Nat} (h : n < 2 ^ 2 ^ k) : enc k (dec k n) = n := by rw [enc_dec, Nat.mod_eq_of_lt h]
theorem dec_enc {k : Nat} (a : T k) : dec k (enc k a) = a := enc_inj (enc_dec_of_lt (enc_lt k a))
theorem dec_xor (k m n : Nat) : dec k (m ^^^ n) = dec k m + dec k n := by
  rw [dec, dec, dec, ← decB_add]
  exact decB_congr fun i _ => by rw [Nat.testBit_xor]
theorem enc_add {k : Nat} (a b : T k) : enc k (a + b) = enc k a ^^^ enc k b := by
  have h : enc k a ^^^ enc k b < 2 ^ 2 ^ k := Nat.xor_lt_two_pow (enc_lt k a) (enc_lt k b)
  rw [← enc_dec_of_lt h, dec_xor, dec_enc, dec_enc]
theorem enc_zero : ∀ k : Nat, enc k 0 = 0
  | 0 => rfl
  | k + 1 => by
    show enc k 0 * _ + enc k 0 = 0
    rw [enc_zero k, Nat.zero_mul]
theorem enc_one : ∀ k : Nat, enc k 1 = 1
  | 0 => rfl
  | k + 1 => by
    show enc k 0 * _ + enc k 1 = 1
    rw [enc_zero k, enc_one k, Nat.zero_mul]
theorem enc_lift {k : Nat} (a : T k) : enc (k + 1) (lift a) = enc k a := by
  show enc k 0 * _ + enc k a = _
  rw [enc_zero, Nat.zero_mul, Nat.zero_add]
theorem enc_eq_zero {k : Nat} {a : T k} : enc k a = 0 ↔ a = 0 := ⟨fun h => enc_inj (h.trans (enc_zero k).symm), fun h => by rw [h, enc_zero]⟩
theorem dec_zero (k : Nat) : dec k 0 = 0 := enc_inj (by rw [enc_dec_of_lt (Nat.two_pow_pos _), enc_zero])
theorem dec_one (k : Nat) : dec k 1 = 1 := by rw [← enc_one k, dec_enc]

/-! A lower level within a higher one. -/
def emb (K j : Nat) (a : T j) : T K := dec K (enc j a)
theorem emb_self (K : Nat) (a : T K) : emb K K a = a := dec_enc a
theorem emb_lift (K j : Nat) (a : T j) : emb K j a = emb K (j + 1) (lift a) := by rw [emb, emb, enc_lift]
theorem emb_ind {K : Nat} {p : (j : Nat) → (T j → T K) → Prop} (h0 : p K (fun a => a)) (hs : ∀ j, j < K → p (j + 1) (emb K (j + 1)) → p j (fun a => emb K (j + 1) (lift a))) : ∀ j, j ≤ K → p j (emb K j) := by
  have base : p K (emb K K) := by
    have : emb K K = fun a => a := funext (emb_self K)
    rw [this]
    exact h0
  have main : ∀ d, ∀ j, j + d = K → p j (emb K j) := by
    intro d
    induction d with
    | zero =>
      intro j hj
      obtain rfl : j = K := by omega
      exact base
    | succ d ih =>
      intro j hj
      have := hs j (by omega) (ih (j + 1) (by omega))
      have e : emb K j = fun a => emb K (j + 1) (lift a) := funext (emb_lift K j)
      rw [e]
      exact this
  intro j hj
  exact main (K - j) j (by omega)
theorem emb_add {K j : Nat} (a b : T j) : emb K j (a + b) = emb K j a + emb K j b := by rw [emb, enc_add, dec_xor]; rfl
theorem emb_mul {K j : Nat} (hj : j ≤ K) : ∀ a b : T j, emb K j (a * b) = emb K j a * emb K j b :=
  emb_ind (p := fun j e => ∀ a b : T j, e (a * b) = e a * e b) (fun _ _ => rfl) (fun j _ h a b => by show emb K (j + 1) (lift (a * b)) = emb K (j + 1) (lift a) * emb K (j + 1) (lift b); rw [← lift_mul, h]) j hj
theorem emb_zero (K j : Nat) : emb K j 0 = 0 := by rw [emb, enc_zero, dec_zero]
theorem emb_one (K j : Nat) : emb K j 1 = 1 := by rw [emb, enc_one, dec_one]
theorem enc_emb {K j : Nat} (hj : j ≤ K) (a : T j) : enc K (emb K j a) = enc j a :=
  enc_dec_of_lt (Nat.lt_of_lt_of_le (enc_lt j a) (Nat.pow_le_pow_right (by decide) (Nat.pow_le_pow_right (by decide) hj)))
theorem emb_inj {K j : Nat} (hj : j ≤ K) {a b : T j} (h : emb K j a = emb K j b) : a = b := enc_inj (by rw [← enc_emb hj, h, enc_emb hj])
/-- Is an element of a level? -/
def InL {K : Nat} (j : Nat) (a : T K) : Prop := enc K a < 2 ^ 2 ^ j
theorem inL_emb {K j : Nat} (hj : j ≤ K) (a : T j) : InL j (emb K j a) := by rw [InL, enc_emb hj]; exact enc_lt j a
theorem InL.of {K j : Nat} {a : T K} (h : InL j a) : emb K j (dec j (enc K a)) = a := by rw [emb, enc_dec_of_lt h, dec_enc]
theorem InL.ex {K j : Nat} {a : T K} (h : InL j a) : ∃ b : T j, a = emb K j b := ⟨_, h.of.symm⟩
theorem inL_add {K j : Nat} {a b : T K} (ha : InL j a) (hb : InL j b) : InL j (a + b) := by
  rw [InL, enc_add]
  exact Nat.xor_lt_two_pow ha hb
theorem inL_mul {K j : Nat} (hj : j ≤ K) {a b : T K} (ha : InL j a) (hb : InL j b) : InL j (a * b) := by
  obtain ⟨x, rfl⟩ := ha.ex
  obtain ⟨y, rfl⟩ := hb.ex
  rw [← emb_mul hj]
  exact inL_emb hj _
theorem inL_zero {K j : Nat} : InL j (0 : T K) := by rw [InL, enc_zero]; exact Nat.two_pow_pos _
theorem inL_one {K j : Nat} : InL j (1 : T K) := by
  rw [InL, enc_one]
  exact Nat.one_lt_two_pow (Nat.ne_of_gt (Nat.two_pow_pos _))
theorem inL_top {K : Nat} (a : T K) : InL K a := enc_lt K a
theorem InL.mono {K i j : Nat} (h : i ≤ j) {a : T K} (ha : InL i a) : InL j a := Nat.lt_of_lt_of_le ha (Nat.pow_le_pow_right (by decide) (Nat.pow_le_pow_right (by decide) h))
theorem emb_inv {K j : Nat} (hj : j ≤ K) (a : T j) : emb K j (inv j a) = inv K (emb K j a) := by
  by_cases h : a = 0
  · rw [h, inv_zero, emb_zero, inv_zero]
  · exact (inv_unique (by rw [← emb_mul hj, mul_inv h, emb_one])).symm
theorem inL_inv {K j : Nat} (hj : j ≤ K) {a : T K} (ha : InL j a) : InL j (inv K a) := by
  obtain ⟨x, rfl⟩ := ha.ex
  rw [← emb_inv hj]
  exact inL_emb hj _
theorem emb_frob {K j : Nat} (hj : j ≤ K) : ∀ (n : Nat) (a : T j), emb K j (frob n a) = frob n (emb K j a)
  | 0, _ => rfl
  | n + 1, a => by
    show emb K j (frob n (a * a)) = frob n (emb K j a * emb K j a)
    rw [emb_frob hj n, emb_mul hj]
theorem frob_inL {K j : Nat} (hj : j ≤ K) {a : T K} (ha : InL j a) : frob (2 ^ j) a = a := by
  obtain ⟨x, rfl⟩ := ha.ex
  rw [← emb_frob hj, frob_full]

theorem emb_succ {K j : Nat} (hj : j ≤ K) (a : T j) : emb (K + 1) j a = lift (emb K j a) :=
  enc_inj (by rw [enc_emb (by omega), enc_lift, enc_emb hj])
/-! The generators by which a word's blocks are multiplied, bit by bit. -/
def hiB (j : Nat) (b : Nat → Bool) : Nat → Bool := fun i => b (i + 2 ^ j) && !i.testBit j
def TB : Nat → (Nat → Bool) → Nat → Bool
  | 0, b => b
  | n + 1, b => fun i => if i.testBit n = true then Bool.xor (b (i - 2 ^ n)) (TB n (hiB n b) (i - 2 ^ n)) else b (i + 2 ^ n)
theorem bit_low {n r : Nat} (q : Nat) (h : r < 2 ^ n) : (2 ^ (n + 1) * q + r).testBit n = false := by
  rw [Nat.testBit_eq_decide_div_mod_eq]
  have : 2 ^ (n + 1) * q + r = r + 2 ^ n * (2 * q) := by rw [Nat.pow_succ, Nat.mul_assoc, Nat.add_comm]
  rw [this, Nat.add_mul_div_left _ _ (Nat.two_pow_pos _), Nat.div_eq_of_lt h]
  simp
theorem bit_high {n r : Nat} (q : Nat) (h : r < 2 ^ n) : (2 ^ (n + 1) * q + 2 ^ n + r).testBit n = true := by
  rw [Nat.testBit_eq_decide_div_mod_eq]
  have : 2 ^ (n + 1) * q + 2 ^ n + r = r + 2 ^ n * (2 * q + 1) := by rw [Nat.pow_succ, Nat.mul_assoc, Nat.mul_add]; omega
  rw [this, Nat.add_mul_div_left _ _ (Nat.two_pow_pos _), Nat.div_eq_of_lt h]
  simp
theorem TB_mul : ∀ (n k q : Nat) (b : Nat → Bool), n ≤ k → decB k (2 ^ k * q) (TB n b) = decB k (2 ^ k * q) b * emb k n (gen n)
  | 0, k, q, b, _ => by
    have : emb k 0 (gen 0) = 1 := emb_one k 0
    rw [this, mul_one]
    rfl
  | n + 1, k, q, b, h => by
    have base : ∀ q, decB (n + 1) (2 ^ (n + 1) * q) (TB (n + 1) b) = decB (n + 1) (2 ^ (n + 1) * q) b * gen (n + 1) := fun q => by
      have e2 : 2 ^ (n + 1) * q = 2 ^ n * (2 * q) := by rw [Nat.pow_succ, Nat.mul_assoc]
      have hl : decB n (2 ^ (n + 1) * q) (TB (n + 1) b) = decB n (2 ^ (n + 1) * q + 2 ^ n) b := decB_congr fun i hi => by
        show (if (2 ^ (n + 1) * q + i).testBit n = true then _ else b (2 ^ (n + 1) * q + i + 2 ^ n)) = _
        rw [bit_low q hi, if_neg (by decide), Nat.add_right_comm]
      have hh : decB n (2 ^ (n + 1) * q) (hiB n b) = decB n (2 ^ (n + 1) * q + 2 ^ n) b := decB_congr fun i hi => by
        show (b (2 ^ (n + 1) * q + i + 2 ^ n) && !(2 ^ (n + 1) * q + i).testBit n) = _
        rw [bit_low q hi, Nat.add_right_comm, Bool.not_false, Bool.and_true]
      have hu : decB n (2 ^ (n + 1) * q + 2 ^ n) (TB (n + 1) b) = decB n (2 ^ (n + 1) * q) b + decB n (2 ^ (n + 1) * q + 2 ^ n) b * gen n := by
        rw [← hh]
        have r := TB_mul n n (2 * q) (hiB n b) (Nat.le_refl _)
        rw [← e2, emb_self] at r
        rw [← r, ← decB_add]
        refine decB_congr fun i hi => ?_
        show (if (2 ^ (n + 1) * q + 2 ^ n + i).testBit n = true then Bool.xor (b (2 ^ (n + 1) * q + 2 ^ n + i - 2 ^ n)) (TB n (hiB n b) (2 ^ (n + 1) * q + 2 ^ n + i - 2 ^ n)) else _) = _
        rw [bit_high q hi, if_pos rfl, show 2 ^ (n + 1) * q + 2 ^ n + i - 2 ^ n = 2 ^ (n + 1) * q + i by omega]
      refine ext2 ?_ ?_
      · show decB n (2 ^ (n + 1) * q + 2 ^ n) (TB (n + 1) b) = decB n (2 ^ (n + 1) * q + 2 ^ n) b * 1 * gen n + decB n (2 ^ (n + 1) * q + 2 ^ n) b * 0 + decB n (2 ^ (n + 1) * q) b * 1
        rw [hu, mul_one, mul_zero, add_zero, mul_one, add_comm]
      · show decB n (2 ^ (n + 1) * q) (TB (n + 1) b) = decB n (2 ^ (n + 1) * q) b * 0 + decB n (2 ^ (n + 1) * q + 2 ^ n) b * 1
        rw [hl, mul_zero, zero_add, mul_one]
    have main : ∀ d q, decB (n + 1 + d) (2 ^ (n + 1 + d) * q) (TB (n + 1) b) = decB (n + 1 + d) (2 ^ (n + 1 + d) * q) b * emb (n + 1 + d) (n + 1) (gen (n + 1)) := by
      intro d
      induction d with
      | zero =>
        intro q
        rw [Nat.add_zero, emb_self]
        exact base q
      | succ d ih =>
        intro q
        have e1 : 2 ^ (n + 1 + (d + 1)) * q = 2 ^ (n + 1 + d) * (2 * q) := by rw [← Nat.add_assoc, Nat.pow_succ, Nat.mul_assoc]
        have e2 : 2 ^ (n + 1 + (d + 1)) * q + 2 ^ (n + 1 + d) = 2 ^ (n + 1 + d) * (2 * q + 1) := by rw [e1, Nat.mul_add, Nat.mul_one]
        have e3 : emb (n + 1 + (d + 1)) (n + 1) (gen (n + 1)) = lift (emb (n + 1 + d) (n + 1) (gen (n + 1))) := emb_succ (K := n + 1 + d) (Nat.le_add_right _ _) _
        rw [e3, mul_lift]
        refine ext2 ?_ ?_
        · show decB (n + 1 + d) (2 ^ (n + 1 + (d + 1)) * q + 2 ^ (n + 1 + d)) (TB (n + 1) b) = decB (n + 1 + d) (2 ^ (n + 1 + (d + 1)) * q + 2 ^ (n + 1 + d)) b * _
          rw [e2]
          exact ih _
        · show decB (n + 1 + d) (2 ^ (n + 1 + (d + 1)) * q) (TB (n + 1) b) = decB (n + 1 + d) (2 ^ (n + 1 + (d + 1)) * q) b * _
          rw [e1]
          exact ih _
    obtain ⟨d, rfl⟩ : ∃ d, k = n + 1 + d := ⟨k - (n + 1), by omega⟩
    exact main d q
theorem div_up {n J : Nat} (h : n < J) (m : Nat) : m.testBit J = (m / 2 ^ n / 2).testBit (J - n - 1) := by
  rw [Nat.div_div_eq_div_mul, ← Nat.pow_succ, ← Nat.shiftRight_eq_div_pow, Nat.testBit_shiftRight]
  congr 1
  omega
theorem bit_iff (m n : Nat) : m.testBit n = decide (m / 2 ^ n % 2 = 1) := Nat.testBit_eq_decide_div_mod_eq
theorem le_of_bit {m n : Nat} (h : m.testBit n = true) : 2 ^ n ≤ m := Nat.ge_two_pow_of_testBit h
theorem sub_div (m n : Nat) (h : 2 ^ n ≤ m) : (m - 2 ^ n) / 2 ^ n = m / 2 ^ n - 1 := by
  have := Nat.sub_mul_div m (2 ^ n) 1
  rw [Nat.mul_one] at this
  exact this
theorem bit_sub_hi {m n J : Nat} (h : m.testBit n = true) (hJ : n < J) : (m - 2 ^ n).testBit J = m.testBit J := by
  rw [div_up hJ, div_up hJ m, sub_div m n (le_of_bit h)]
  rw [bit_iff] at h
  have h := of_decide_eq_true h
  have e : (m / 2 ^ n - 1) / 2 = m / 2 ^ n / 2 := by
    generalize m / 2 ^ n = x at h
    omega
  rw [e]
theorem bit_add_hi {m n J : Nat} (h : m.testBit n = false) (hJ : n < J) : (m + 2 ^ n).testBit J = m.testBit J := by
  rw [div_up hJ, div_up hJ m, Nat.add_div_right _ (Nat.two_pow_pos _)]
  rw [bit_iff] at h
  have h := of_decide_eq_false h
  have e : (m / 2 ^ n + 1) / 2 = m / 2 ^ n / 2 := by
    generalize m / 2 ^ n = x at h
    omega
  rw [e]
theorem bit_sub_self {m n : Nat} (h : m.testBit n = true) : (m - 2 ^ n).testBit n = false := by
  rw [bit_iff, sub_div m n (le_of_bit h)]
  rw [bit_iff] at h
  have h := of_decide_eq_true h
  generalize m / 2 ^ n = x at h
  simp
  omega
theorem bit_sub_clear {m n : Nat} (h : m.testBit n = false) (hm : 2 ^ n ≤ m) : (m - 2 ^ n).testBit n = true := by
  rw [bit_iff, sub_div m n hm]
  rw [bit_iff] at h
  have h := of_decide_eq_false h
  have : 0 < m / 2 ^ n := Nat.div_pos hm (Nat.two_pow_pos _)
  simp
  omega
theorem TB_zero : ∀ {n J : Nat} {c : Nat → Bool}, n ≤ J → (∀ m, m.testBit J = true → c m = false) → ∀ m, m.testBit J = true → TB n c m = false
  | 0, _, _, _, hc, m, hm => hc m hm
  | n + 1, J, c, h, hc, m, hm => by
    have hh : ∀ m, m.testBit J = true → hiB n c m = false := fun m hm => by
      show (c (m + 2 ^ n) && !m.testBit n) = false
      cases hb : m.testBit n with
      | true => simp
      | false => rw [hc _ (by rw [bit_add_hi hb h, hm])]; rfl
    show (if m.testBit n = true then Bool.xor (c (m - 2 ^ n)) (TB n (hiB n c) (m - 2 ^ n)) else c (m + 2 ^ n)) = false
    cases hb : m.testBit n with
    | true =>
      have e : (m - 2 ^ n).testBit J = true := by rw [bit_sub_hi hb h, hm]
      rw [if_pos rfl, hc _ e, TB_zero (by omega) hh _ e]
      rfl
    | false =>
      rw [if_neg (by decide)]
      exact hc _ (by rw [bit_add_hi hb h, hm])

/-! An element is the sum of its bits, each of which is a product of generators. -/
def pg {K : Nat} (n : Nat) : Nat → T K
  | 0 => 1
  | j + 1 => if n.testBit j = true then pg n j * emb K (j + 1) (gen (j + 1)) else pg n j
theorem pg_lift {K : Nat} (n : Nat) : ∀ j, j ≤ K → (pg n j : T (K + 1)) = lift (pg n j : T K)
  | 0, _ => rfl
  | j + 1, h => by
    unfold pg
    rw [pg_lift n j (by omega), emb_succ (by omega)]
    split
    · rw [lift_mul]
    · rfl
theorem pg_congr {K : Nat} {n m : Nat} : ∀ j, (∀ i, i < j → n.testBit i = m.testBit i) → (pg n j : T K) = pg m j
  | 0, _ => rfl
  | j + 1, h => by
    unfold pg
    rw [h j (by omega), pg_congr j (fun i hi => h i (by omega))]
theorem dec_pow : ∀ (k n : Nat), n < 2 ^ k → dec k (2 ^ n) = pg n k
  | 0, n, h => by
    obtain rfl : n = 0 := by
      have : 2 ^ 0 = 1 := rfl
      omega
    exact dec_one 0
  | k + 1, n, h => by
    have e : 2 ^ (k + 1) = 2 ^ k + 2 ^ k := by rw [Nat.pow_succ, Nat.mul_two]
    rw [dec_succ]
    show _ = (if n.testBit k = true then pg n k * emb (k + 1) (k + 1) (gen (k + 1)) else pg n k)
    by_cases hn : n < 2 ^ k
    · rw [Nat.testBit_lt_two_pow hn, if_neg (by decide), pg_lift n k (Nat.le_refl _), ← dec_pow k n hn, Nat.div_eq_of_lt (Nat.pow_lt_pow_right (by decide) hn), dec_zero]
      rfl
    · obtain ⟨m, rfl⟩ : ∃ m, n = 2 ^ k + m := ⟨n - 2 ^ k, by omega⟩
      have hm : m < 2 ^ k := by omega
      have hb : (2 ^ k + m).testBit k = true := by
        have := bit_high (n := k) 0 hm
        rwa [Nat.mul_zero, Nat.zero_add] at this
      have hc : (pg (2 ^ k + m) k : T (k + 1)) = pg m k := pg_congr k fun i hi => by
        rw [Nat.testBit_two_pow_add_gt hi]
      rw [hb, if_pos rfl, emb_self, hc, pg_lift m k (Nat.le_refl _), ← dec_pow k m hm, mul_comm, mul_lift, Nat.pow_add, Nat.mul_div_cancel_left _ (Nat.two_pow_pos _)]
      refine ext2 ?_ ?_
      · show dec k (2 ^ m) = 1 * dec k (2 ^ m)
        rw [one_mul]
      · show dec k (2 ^ 2 ^ k * 2 ^ m) = 0 * dec k (2 ^ m)
        rw [zero_mul, ← dec_mod, Nat.mul_mod_right, dec_zero]
theorem mod_succ_xor (y m : Nat) : y % 2 ^ (m + 1) = y % 2 ^ m ^^^ (if y.testBit m = true then 2 ^ m else 0) := by
  apply Nat.eq_of_testBit_eq
  intro i
  rw [Nat.testBit_mod_two_pow, Nat.testBit_xor, Nat.testBit_mod_two_pow]
  by_cases h1 : i < m
  · have : (if y.testBit m = true then 2 ^ m else 0).testBit i = false := by
      split
      · exact Nat.testBit_two_pow_of_ne (by omega)
      · exact Nat.zero_testBit i
    rw [this, decide_eq_true h1, decide_eq_true (by omega : i < m + 1)]
    simp
  · by_cases h2 : i = m
    · subst h2
      rw [decide_eq_true (by omega : i < i + 1), decide_eq_false (by omega : ¬ i < i)]
      cases hb : y.testBit i <;> simp
    · have : (if y.testBit m = true then 2 ^ m else 0).testBit i = false := by
        split
        · exact Nat.testBit_two_pow_of_ne (by omega)
        · exact Nat.zero_testBit i
      rw [this, decide_eq_false (by omega : ¬ i < m + 1), decide_eq_false (by omega : ¬ i < m)]
      simp
theorem dec_mod_succ (k y m : Nat) : dec k (y % 2 ^ (m + 1)) = dec k (y % 2 ^ m) + (if y.testBit m = true then dec k (2 ^ m) else 0) := by
  rw [mod_succ_xor, dec_xor]
  split
  · rfl
  · rw [dec_zero]

/-! Powers. -/
def powN {k : Nat} (a : T k) : Nat → T k
  | 0 => 1
  | n + 1 => powN a n * a
theorem powN_add {k : Nat} (a : T k) (m : Nat) : ∀ n, powN a (m + n) = powN a m * powN a n
  | 0 => (mul_one _).symm
  | n + 1 => by
    show powN a (m + n) * a = powN a m * (powN a n * a)
    rw [powN_add a m n, mul_assoc]
theorem powN_sq {k : Nat} (a : T k) : ∀ n, powN (a * a) n = powN a n * powN a n
  | 0 => (mul_one _).symm
  | n + 1 => by
    show powN (a * a) n * (a * a) = powN a n * a * (powN a n * a)
    rw [powN_sq a n]
    ac_rfl
theorem powN_mul {k : Nat} (a : T k) (m : Nat) : ∀ n, powN a (m * n) = powN (powN a m) n
  | 0 => rfl
  | n + 1 => by
    show powN a (m * n + m) = powN (powN a m) n * powN a m
    rw [powN_add, powN_mul a m n]
theorem inv_succ (k : Nat) (a : T (k + 1)) : inv (k + 1) a = ((a.1 * inv k (a.2 * (a.2 + a.1 * gen k) + a.1 * a.1), (a.2 + a.1 * gen k) * inv k (a.2 * (a.2 + a.1 * gen k) + a.1 * a.1)) : T k × T k) := rfl
theorem powN_odd {k : Nat} (a out : T k) {n : Nat} (h : n % 2 = 1) : out * powN a n = out * a * powN (a * a) (n / 2) := by
  rw [powN_sq, ← powN_add]
  have e : n = n / 2 + n / 2 + 1 := by omega
  have e2 : powN a n = powN a (n / 2 + n / 2) * a := by
    conv => lhs; rw [e]
    rfl
  rw [e2, mul_comm (powN a _) a, mul_assoc]
theorem powN_even {k : Nat} (a : T k) {n : Nat} (h : n % 2 = 0) : powN a n = powN (a * a) (n / 2) := by
  rw [powN_sq, ← powN_add]
  congr 1
  omega
theorem powN_inL {K j : Nat} (hj : j ≤ K) {a : T K} (ha : InL j a) : ∀ n, InL j (powN a n)
  | 0 => inL_one
  | n + 1 => inL_mul hj (powN_inL hj ha n) ha
theorem frob_powN {k : Nat} : ∀ (n : Nat) (a : T k), frob n a = powN a (2 ^ n)
  | 0, a => (one_mul a).symm
  | n + 1, a => by
    show frob n (a * a) = _
    rw [frob_powN n, powN_sq, ← powN_add, Nat.pow_succ, Nat.mul_two]
theorem powN_zero {k : Nat} : ∀ n : Nat, powN (0 : T k) (n + 1) = 0
  | n => mul_zero _
theorem powN_one {k : Nat} : ∀ n : Nat, powN (1 : T k) n = 1
  | 0 => rfl
  | n + 1 => by
    show powN 1 n * 1 = 1
    rw [powN_one n, mul_one]
theorem powN_mulD {k : Nat} (a b : T k) : ∀ n : Nat, powN (a * b) n = powN a n * powN b n
  | 0 => (mul_one _).symm
  | n + 1 => by
    show powN (a * b) n * (a * b) = powN a n * a * (powN b n * b)
    rw [powN_mulD a b n]
    ac_rfl
/-- The inverse as a power. -/
theorem inv_powN {K j : Nat} (hj : j ≤ K) {a : T K} (ha : InL j a) : powN a (2 ^ 2 ^ j - 2) = inv K a ∨ (a = 0 ∧ j = 0) := by
  by_cases h0 : a = 0
  · by_cases hz : j = 0
    · exact .inr ⟨h0, hz⟩
    · left
      subst h0
      have h1 : 2 ^ 1 ≤ 2 ^ j := Nat.pow_le_pow_right (by decide) (show 1 ≤ j by omega)
      have : 2 ^ 2 ≤ 2 ^ 2 ^ j := Nat.pow_le_pow_right (by decide) h1
      rw [inv_zero, show 2 ^ 2 ^ j - 2 = (2 ^ 2 ^ j - 3) + 1 by omega, powN_zero]
  · left
    symm
    apply inv_unique
    have h2 : 2 ^ 1 ≤ 2 ^ 2 ^ j := Nat.pow_le_pow_right (by decide) (Nat.two_pow_pos j)
    have e : powN a (2 ^ 2 ^ j) = a := by rw [← frob_powN, frob_inL hj ha]
    have e2 : a * powN a (2 ^ 2 ^ j - 2) * a = 1 * a := by
      rw [one_mul, mul_comm a (powN a _)]
      show powN a (2 ^ 2 ^ j - 2 + 1 + 1) = a
      rw [show 2 ^ 2 ^ j - 2 + 1 + 1 = 2 ^ 2 ^ j by omega, e]
    rw [mul_comm _ a, mul_comm _ a] at e2
    exact mul_left_cancel h0 e2

end Go.Proofs.YtlegcabfgkccmaaT
