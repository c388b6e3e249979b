/- The tower of binary fields, in plain Lean: a ring, a field, squares and traces, numbers of its elements, products by generators. Conditions: those that each theorem names. -/
set_option linter.unusedVariables false
namespace Go.Proofs.YthgiifakcgjlaaaT

/-- The tower of fields by pairs: an element of level k + 1 is hi X + lo. -/
def T : Nat → Type
  | 0 => Bool
  | k + 1 => T k × T k

def tzero : (k : Nat) → T k
  | 0 => false
  | k + 1 => (tzero k, tzero k)
def tone : (k : Nat) → T k
  | 0 => true
  | k + 1 => (tzero k, tone k)
def tadd : (k : Nat) → T k → T k → T k
  | 0, a, b => Bool.xor a b
  | k + 1, a, b => (tadd k a.1 b.1, tadd k a.2 b.2)
/-- The generator of a level: X 0 is 1. -/
def gen : (k : Nat) → T k
  | 0 => true
  | k + 1 => (tone k, tzero k)
/-- X X = X Z + 1, Z the generator of the level below. -/
def tmul : (k : Nat) → T k → T k → T k
  | 0, a, b => Bool.and a b
  | k + 1, a, b => (tadd k (tadd k (tmul k (tmul k a.1 b.1) (gen k)) (tmul k a.1 b.2)) (tmul k a.2 b.1), tadd k (tmul k a.2 b.2) (tmul k a.1 b.1))

instance (k : Nat) : Add (T k) := ⟨tadd k⟩
instance (k : Nat) : Mul (T k) := ⟨tmul k⟩
instance (k : Nat) : OfNat (T k) 0 := ⟨tzero k⟩
instance (k : Nat) : OfNat (T k) 1 := ⟨tone k⟩
instance tdec : (k : Nat) → DecidableEq (T k)
  | 0 => inferInstanceAs (DecidableEq Bool)
  | k + 1 => by
    haveI := tdec k
    exact inferInstanceAs (DecidableEq (T k × T k))

theorem ext2 {k : Nat} {a b : T (k + 1)} (h1 : a.1 = b.1) (h2 : a.2 = b.2) : a = b := Prod.ext h1 h2

theorem add_comm : ∀ {k : Nat} (a b : T k), a + b = b + a
  | 0, a, b => by cases a <;> cases b <;> rfl
  | k + 1, a, b => ext2 (add_comm a.1 b.1) (add_comm a.2 b.2)
theorem add_assoc : ∀ {k : Nat} (a b c : T k), a + b + c = a + (b + c)
  | 0, a, b, c => by cases a <;> cases b <;> cases c <;> rfl
  | k + 1, a, b, c => ext2 (add_assoc a.1 b.1 c.1) (add_assoc a.2 b.2 c.2)
theorem add_zero : ∀ {k : Nat} (a : T k), a + 0 = a
  | 0, a => by cases a <;> rfl
  | k + 1, a => ext2 (add_zero a.1) (add_zero a.2)
theorem zero_add {k : Nat} (a : T k) : 0 + a = a := by rw [add_comm, add_zero]
instance (k : Nat) : Std.Associative (α := T k) (· + ·) := ⟨add_assoc⟩
instance (k : Nat) : Std.Commutative (α := T k) (· + ·) := ⟨add_comm⟩
theorem mul_zero : ∀ {k : Nat} (a : T k), a * 0 = 0
  | 0, a => by cases a <;> rfl
  | k + 1, a => by
    exact ext2 (by show a.1 * 0 * gen k + a.1 * 0 + a.2 * 0 = 0; simp only [mul_zero, add_zero]; rw [mul_comm' (0 : T k) (gen k), mul_zero]) (by show a.2 * 0 + a.1 * 0 = 0; simp only [mul_zero, add_zero])
where mul_comm' : ∀ {k : Nat} (a b : T k), a * b = b * a
  | 0, a, b => by cases a <;> cases b <;> rfl
  | k + 1, a, b => by
    refine ext2 ?_ ?_
    · show a.1 * b.1 * gen k + a.1 * b.2 + a.2 * b.1 = b.1 * a.1 * gen k + b.1 * a.2 + b.2 * a.1
      rw [mul_comm' b.1 a.1, mul_comm' b.1 a.2, mul_comm' b.2 a.1]
      ac_rfl
    · show a.2 * b.2 + a.1 * b.1 = b.2 * a.2 + b.1 * a.1
      rw [mul_comm' b.1 a.1, mul_comm' b.2 a.2]
theorem mul_comm {k : Nat} (a b : T k) : a * b = b * a := mul_zero.mul_comm' a b
theorem zero_mul {k : Nat} (a : T k) : 0 * a = 0 := by rw [mul_comm, mul_zero]
theorem mul_add : ∀ {k : Nat} (a b c : T k), a * (b + c) = a * b + a * c
  | 0, a, b, c => by cases a <;> cases b <;> cases c <;> rfl
  | k + 1, a, b, c => by
    refine ext2 ?_ ?_
    · show a.1 * (b.1 + c.1) * gen k + a.1 * (b.2 + c.2) + a.2 * (b.1 + c.1) = a.1 * b.1 * gen k + a.1 * b.2 + a.2 * b.1 + (a.1 * c.1 * gen k + a.1 * c.2 + a.2 * c.1)
      rw [mul_add a.1, mul_add a.1, mul_add a.2, mul_comm _ (gen k), mul_add (gen k), mul_comm (gen k), mul_comm (gen k)]
      ac_rfl
    · show a.2 * (b.2 + c.2) + a.1 * (b.1 + c.1) = a.2 * b.2 + a.1 * b.1 + (a.2 * c.2 + a.1 * c.1)
      rw [mul_add, mul_add]
      ac_rfl
theorem add_mul {k : Nat} (a b c : T k) : (a + b) * c = a * c + b * c := by rw [mul_comm, mul_add, mul_comm c a, mul_comm c b]
theorem mul_assoc : ∀ {k : Nat} (a b c : T k), a * b * c = a * (b * c)
  | 0, a, b, c => by cases a <;> cases b <;> cases c <;> rfl
  | k + 1, a, b, c => by
    haveI : Std.Associative (α := T k) (· * ·) := ⟨mul_assoc⟩
    haveI : Std.Commutative (α := T k) (· * ·) := ⟨mul_comm⟩
    refine ext2 ?_ ?_
    · show (a.1 * b.1 * gen k + a.1 * b.2 + a.2 * b.1) * c.1 * gen k + (a.1 * b.1 * gen k + a.1 * b.2 + a.2 * b.1) * c.2 + (a.2 * b.2 + a.1 * b.1) * c.1
        = a.1 * (b.1 * c.1 * gen k + b.1 * c.2 + b.2 * c.1) * gen k + a.1 * (b.2 * c.2 + b.1 * c.1) + a.2 * (b.1 * c.1 * gen k + b.1 * c.2 + b.2 * c.1)
      simp only [mul_add, add_mul]
      ac_rfl
    · show (a.2 * b.2 + a.1 * b.1) * c.2 + (a.1 * b.1 * gen k + a.1 * b.2 + a.2 * b.1) * c.1 = a.2 * (b.2 * c.2 + b.1 * c.1) + a.1 * (b.1 * c.1 * gen k + b.1 * c.2 + b.2 * c.1)
      simp only [mul_add, add_mul]
      ac_rfl
instance (k : Nat) : Std.Associative (α := T k) (· * ·) := ⟨mul_assoc⟩
instance (k : Nat) : Std.Commutative (α := T k) (· * ·) := ⟨mul_comm⟩
theorem mul_one : ∀ {k : Nat} (a : T k), a * 1 = a
  | 0, a => by cases a <;> rfl
  | k + 1, a => by
    exact ext2 (by show a.1 * 0 * gen k + a.1 * 1 + a.2 * 0 = a.1; simp only [mul_zero, zero_mul, mul_one, zero_add, add_zero]) (by show a.2 * 1 + a.1 * 0 = a.2; simp only [mul_zero, mul_one, add_zero])
theorem one_mul {k : Nat} (a : T k) : 1 * a = a := by rw [mul_comm, mul_one]
/-! The trace over level 0, and what it tells: X X = X Z + 1 has no root below. -/
/-! Inverses. -/
/-! Squares again and again: x to the 2^n. -/
/-- An element's bits, from the bit 'off' on. -/
def decB : (k : Nat) → Nat → (Nat → Bool) → T k
  | 0, off, b => b off
  | k + 1, off, b => (decB k (off + 2 ^ k) b, decB k off b)
def dec (k : Nat) (n : Nat) : T k := decB k 0 n.testBit
/-- An element as a number. -/
def enc : (k : Nat) → T k → Nat
  | 0, a => Bool.toNat a
  | k + 1, a => enc k a.1 * 2 ^ 2 ^ k + enc k a.2

theorem pow_succ2 (k : Nat) : 2 ^ 2 ^ (k + 1) = 2 ^ 2 ^ k * 2 ^ 2 ^ k := by rw [← Nat.pow_add, Nat.pow_succ, Nat.mul_two]
theorem enc_lt : ∀ (k : Nat) (a : T k), enc k a < 2 ^ 2 ^ k
  | 0, a => by cases a <;> decide
  | k + 1, a => by
    have h1 := enc_lt k a.1
    have h2 := enc_lt k a.2
    rw [pow_succ2]
    show enc k a.1 * 2 ^ 2 ^ k + enc k a.2 < _
    calc enc k a.1 * 2 ^ 2 ^ k + enc k a.2 < enc k a.1 * 2 ^ 2 ^ k + 2 ^ 2 ^ k := by omega
      _ = (enc k a.1 + 1) * 2 ^ 2 ^ k := by rw [Nat.add_mul, Nat.one_mul]
      _ ≤ 2 ^ 2 ^ k * 2 ^ 2 ^ k := Nat.mul_le_mul_right _ h1
theorem enc_hi {k : Nat} (a : T (k + 1)) : enc (k + 1) a / 2 ^ 2 ^ k = enc k a.1 := by
  show (enc k a.1 * 2 ^ 2 ^ k + enc k a.2) / _ = _
  rw [Nat.add_comm, Nat.add_mul_div_right _ _ (Nat.two_pow_pos _), Nat.div_eq_of_lt (enc_lt k a.2), Nat.zero_add]
theorem enc_lo {k : Nat} (a : T (k + 1)) : enc (k + 1) a % 2 ^ 2 ^ k = enc k a.2 := by
  show (enc k a.1 * 2 ^ 2 ^ k + enc k a.2) % _ = _
  rw [Nat.add_comm, Nat.add_mul_mod_self_right, Nat.mod_eq_of_lt (enc_lt k a.2)]
theorem enc_inj : ∀ {k : Nat} {a b : T k}, enc k a = enc k b → a = b
  | 0, a, b, h => by cases a <;> cases b <;> first | rfl | cases h
  | k + 1, a, b, h => by
    refine ext2 (enc_inj ?_) (enc_inj ?_)
    · rw [← enc_hi, ← enc_hi, h]
    · rw [← enc_lo, ← enc_lo, h]
theorem decB_congr : ∀ {k off off' : Nat} {b b' : Nat → Bool}, (∀ i, i < 2 ^ k → b (off + i) = b' (off' + i)) → decB k off b = decB k off' b'
  | 0, off, off', b, b', h => h 0 (by decide)
  | k + 1, off, off', b, b', h => by
    have e : 2 ^ (k + 1) = 2 ^ k + 2 ^ k := by rw [Nat.pow_succ, Nat.mul_two]
    refine ext2 (decB_congr fun i hi => ?_) (decB_congr fun i hi => h i (by omega))
    rw [Nat.add_assoc, Nat.add_assoc]
    exact h _ (by omega)
theorem dec_succ (k n : Nat) : dec (k + 1) n = ((dec k (n / 2 ^ 2 ^ k), dec k n) : T k × T k) := by
  refine ext2 ?_ rfl
  show decB k (0 + 2 ^ k) n.testBit = decB k 0 (n / 2 ^ 2 ^ k).testBit
  refine decB_congr fun i _ => ?_
  rw [← Nat.shiftRight_eq_div_pow, Nat.testBit_shiftRight, Nat.zero_add, Nat.zero_add]
theorem enc_dec : ∀ (k n : Nat), enc k (dec k n) = n % 2 ^ 2 ^ k
  | 0, n => by
    show (n.testBit 0).toNat = n % 2
    rw [Nat.testBit_zero]
    rcases Nat.mod_two_eq_zero_or_one n with h | h <;> rw [h] <;> rfl
  | k + 1, n => by
    rw [dec_succ]
    show enc k (dec k (n / 2 ^ 2 ^ k)) * 2 ^ 2 ^ k + enc k (dec k n) = _
    rw [enc_dec, enc_dec, pow_succ2, Nat.mod_mul, Nat.mul_comm, Nat.add_comm]
theorem enc_dec_of_lt {k n : Nat} (h : n < 2 ^ 2 ^ k) : enc k (dec k n) = n := by rw [enc_dec, Nat.mod_eq_of_lt h]
theorem dec_enc {k : Nat} (a : T k) : dec k (enc k a) = a := enc_inj (enc_dec_of_lt (enc_lt k a))
/-! A lower level within a higher one. -/
def emb (K j : Nat) (a : T j) : T K := dec K (enc j a)
/-- Is an element of a level? -/
def InL {K : Nat} (j : Nat) (a : T K) : Prop := enc K a < 2 ^ 2 ^ j
theorem InL.of {K j : Nat} {a : T K} (h : InL j a) : emb K j (dec j (enc K a)) = a := by rw [emb, enc_dec_of_lt h, dec_enc]
theorem inL_top {K : Nat} (a : T K) : InL K a := enc_lt K a
/-! The generators by which a word's blocks are multiplied, bit by bit. -/
/-! An element is the sum of its bits, each of which is a product of generators. -/
/-! Powers. -/
end Go.Proofs.YthgiifakcgjlaaaT
