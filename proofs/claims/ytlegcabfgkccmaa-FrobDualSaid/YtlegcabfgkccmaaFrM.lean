/- Sums and products of conjugates, in plain Lean: they lie in the level below, and go through levels. Conditions: those that each theorem names. -/
import Derived.Test.YtlegcabfgkccmaaTw
set_option linter.unusedVariables false
namespace Go.Proofs.YtlegcabfgkccmaaT
theorem frob_X (k : Nat) : frob (2 ^ k) (gen (k + 1)) = gen (k + 1) + lift (gen k) := by
  obtain ⟨y, hy, ht⟩ := gen_has_inv k
  have nz : lift (gen k) ≠ (0 : T (k + 1)) := fun h => gen_ne_zero (lift_inj (h.trans lift_zero.symm))
  have h := frob_gen y hy (2 ^ k)
  rw [frob_full, fsum_full, tr_sq, ht] at h
  have : gen k * bit true = gen k := mul_one _
  rw [this] at h
  exact mul_left_cancel nz (by rw [mul_comm, h])
theorem split_pair {k : Nat} (a : T (k + 1)) : a = gen (k + 1) * lift a.1 + lift a.2 := by
  rw [mul_lift]
  refine ext2 ?_ ?_
  · show a.1 = 1 * a.1 + 0
    rw [one_mul, add_zero]
  · show a.2 = 0 * a.1 + a.2
    rw [zero_mul, zero_add]
/-- What the half of the squarings fixes lies in the level below. -/
theorem fixed_half {k : Nat} {a : T (k + 1)} (h : frob (2 ^ k) a = a) : a.1 = 0 := by
  have h1 : frob (2 ^ k) a = (gen (k + 1) + lift (gen k)) * lift a.1 + lift a.2 := by
    have := congrArg (frob (2 ^ k)) (split_pair a)
    rw [frob_add, frob_mul, frob_lift, frob_lift, frob_full, frob_full, frob_X] at this
    exact this
  have h2 : lift (gen k) * lift a.1 = (0 : T (k + 1)) := by
    have h3 : gen (k + 1) * lift a.1 + lift a.2 + (lift (gen k) * lift a.1) = gen (k + 1) * lift a.1 + lift a.2 := by
      rw [add_assoc, add_comm (lift a.2), ← add_assoc, ← add_mul, ← h1, h]
      exact split_pair a
    have h4 := congrArg (fun z => (gen (k + 1) * lift a.1 + lift a.2) + z) h3
    change _ + (_ + _) = _ + _ at h4
    rw [add_left_self, add_self] at h4
    exact h4
  rw [lift_mul] at h2
  rcases mul_eq_zero.1 (lift_inj (h2.trans lift_zero.symm)) with h5 | h5
  · exact absurd h5 gen_ne_zero
  · exact h5
theorem frob_times {k : Nat} {s : Nat} {a : T k} (h : frob s a = a) : ∀ n : Nat, frob (n * s) a = a
  | 0 => by rw [Nat.zero_mul]; rfl
  | n + 1 => by rw [Nat.add_mul, Nat.one_mul, ← frob_frob, frob_times h n, h]
theorem frob_in {K j : Nat} (hj : j ≤ K) {a : T K} (h : InL j a) : frob (2 ^ j) a = a := by
  obtain ⟨b, rfl⟩ := h.ex
  rw [← emb_frob hj, frob_full]
theorem in_of_frob {K j : Nat} {a : T K} (h : frob (2 ^ j) a = a) : ∀ m : Nat, j + m ≤ K → InL (j + m) a → InL j a
  | 0, _, h1 => h1
  | m + 1, hm, h1 => by
    refine in_of_frob h m (by omega) ?_
    obtain ⟨b, rfl⟩ := h1.ex
    have hb : frob (2 ^ j) b = b := emb_inj (K := K) (j := j + (m + 1)) (by omega) (by rw [emb_frob (by omega), h])
    have hb2 : frob (2 ^ (j + m)) b = b := by
      rw [Nat.pow_add, Nat.mul_comm]
      exact frob_times hb _
    have e : b = lift b.2 := ext2 (fixed_half hb2) rfl
    rw [e]
    rw [show emb K (j + (m + 1)) (lift b.2) = emb K (j + m) b.2 from (emb_lift K (j + m) b.2).symm]
    exact inL_emb (by omega) _
theorem inL_frob {K j : Nat} (hj : j ≤ K) : ∀ (n : Nat) {a : T K}, InL j a → InL j (frob n a)
  | 0, _, h => h
  | n + 1, _, h => inL_frob hj n (inL_mul hj h h)
/-- All of n conjugates, s squarings apart, by one operation. -/
structure Op2 (K : Nat) where
  op : T K → T K → T K
  e : T K
  assoc : ∀ a b c, op (op a b) c = op a (op b c)
  comm : ∀ a b, op a b = op b a
  unit : ∀ a, op e a = a
  fr : ∀ n a b, frob n (op a b) = op (frob n a) (frob n b)
  fe : ∀ n, frob n e = e
  inn : ∀ j a b, j ≤ K → InL j a → InL j b → InL j (op a b)
  ine : ∀ j, InL j e
def addOp (K : Nat) : Op2 K := ⟨fun a b => a + b, 0, add_assoc, add_comm, zero_add, frob_add, frob_zero, fun _ _ _ _ => inL_add, fun _ => inL_zero⟩
def mulOp (K : Nat) : Op2 K := ⟨fun a b => a * b, 1, mul_assoc, mul_comm, one_mul, frob_mul, frob_one, fun _ _ _ h => inL_mul h, fun _ => inL_one⟩
def gfold {K : Nat} (o : Op2 K) (s : Nat) : Nat → T K → T K
  | 0, _ => o.e
  | n + 1, a => o.op (gfold o s n a) (frob (n * s) a)
variable {K : Nat} (o : Op2 K)
theorem Op2.unit' (a : T K) : o.op a o.e = a := by rw [o.comm, o.unit]
theorem gfold_in {j : Nat} (hj : j ≤ K) (s : Nat) {a : T K} (h : InL j a) : ∀ n, InL j (gfold o s n a)
  | 0 => o.ine j
  | n + 1 => o.inn j _ _ hj (gfold_in hj s h n) (inL_frob hj _ h)
theorem gfold_frob (s t : Nat) (a : T K) : ∀ n, frob t (gfold o s n a) = gfold o s n (frob t a)
  | 0 => o.fe t
  | n + 1 => by
    show frob t (o.op _ _) = o.op _ _
    rw [o.fr, gfold_frob s t a n, frob_frob, frob_frob, Nat.add_comm]
theorem gfold_add (s : Nat) (a : T K) (m : Nat) : ∀ n, gfold o s (m + n) a = o.op (gfold o s m a) (frob (m * s) (gfold o s n a))
  | 0 => by
    show gfold o s m a = o.op _ (frob _ o.e)
    rw [o.fe, o.unit']
  | n + 1 => by
    show o.op (gfold o s (m + n) a) (frob ((m + n) * s) a) = o.op _ (frob _ (o.op (gfold o s n a) (frob (n * s) a)))
    rw [gfold_add s a m n, o.fr, frob_frob, ← o.assoc, Nat.add_mul, Nat.add_comm (n * s)]
theorem op_swap (a b c d : T K) : o.op (o.op a b) (o.op c d) = o.op (o.op a c) (o.op b d) := by
  rw [o.assoc, ← o.assoc b, o.comm b c, o.assoc c, ← o.assoc]
theorem gfold_op (s : Nat) (a b : T K) : ∀ n, gfold o s n (o.op a b) = o.op (gfold o s n a) (gfold o s n b)
  | 0 => (o.unit _).symm
  | n + 1 => by
    show o.op (gfold o s n (o.op a b)) (frob _ (o.op a b)) = o.op (o.op _ _) (o.op _ _)
    rw [gfold_op s a b n, o.fr, op_swap]
theorem gfold_unit (s : Nat) : ∀ n, gfold o s n o.e = o.e
  | 0 => rfl
  | n + 1 => by
    show o.op _ (frob _ o.e) = o.e
    rw [gfold_unit s n, o.fe, o.unit]
/-- Through a level between. -/
theorem gfold_mul (s p : Nat) (a : T K) : ∀ q, gfold o s (p * q) a = gfold o s p (gfold o (s * p) q a)
  | 0 => (gfold_unit o s p).symm
  | q + 1 => by
    show gfold o s (p * (q + 1)) a = gfold o s p (o.op (gfold o (s * p) q a) (frob (q * (s * p)) a))
    rw [Nat.mul_add, Nat.mul_one, gfold_add, gfold_op, gfold_mul s p a q, gfold_frob, show p * q * s = q * (s * p) by ac_rfl]
/-- All conjugates over level j of an element of level k. -/
def conjE (k j : Nat) (a : T K) : T K := gfold o (2 ^ j) (2 ^ (k - j)) a
theorem gfold_cycle (s : Nat) {a : T K} (m : Nat) (h : frob ((m + 1) * s) a = a) : frob s (gfold o s (m + 1) a) = gfold o s (m + 1) a := by
  have h3 : gfold o s 1 a = a := by
    show o.op o.e (frob (0 * s) a) = a
    rw [o.unit, Nat.zero_mul]
    rfl
  have h1 := gfold_add o s a 1 m
  rw [Nat.add_comm 1 m, h3, Nat.one_mul, gfold_frob] at h1
  rw [gfold_frob, h1, o.comm a]
  show o.op _ (frob (m * s) (frob s a)) = _
  rw [frob_frob, Nat.add_comm s, show m * s + s = (m + 1) * s by rw [Nat.add_mul, Nat.one_mul], h]
theorem conj_fixed {k j : Nat} (hjk : j ≤ k) (hk : k ≤ K) {a : T K} (h : InL k a) : frob (2 ^ j) (conjE o k j a) = conjE o k j a := by
  unfold conjE
  obtain ⟨m, hm⟩ : ∃ m, 2 ^ (k - j) = m + 1 := ⟨2 ^ (k - j) - 1, by have := Nat.two_pow_pos (k - j); omega⟩
  rw [hm]
  refine gfold_cycle o _ m ?_
  rw [← hm, ← Nat.pow_add, Nat.sub_add_cancel hjk, frob_in hk h]
theorem conj_in {k j : Nat} (hjk : j ≤ k) (hk : k ≤ K) {a : T K} (h : InL k a) : InL j (conjE o k j a) :=
  in_of_frob (conj_fixed o hjk hk h) (k - j) (by omega) (by rw [Nat.add_sub_cancel' hjk]; exact gfold_in o hk _ h _)
theorem conj_through {k m j : Nat} (hjm : j ≤ m) (hmk : m ≤ k) (a : T K) : conjE o k j a = conjE o m j (conjE o k m a) := by
  unfold conjE
  rw [show k - j = (m - j) + (k - m) by omega, Nat.pow_add, gfold_mul, ← Nat.pow_add, Nat.add_sub_cancel' hjm]
theorem conj_op (k j : Nat) (a b : T K) : conjE o k j (o.op a b) = o.op (conjE o k j a) (conjE o k j b) := gfold_op o _ a b _
/-- A factor of the level below goes out of a sum. -/
theorem tr_factor {j : Nat} (hj : j ≤ K) {c : T K} (hc : InL j c) (a : T K) : ∀ n, gfold (addOp K) (2 ^ j) n (c * a) = c * gfold (addOp K) (2 ^ j) n a
  | 0 => (mul_zero c).symm
  | n + 1 => by
    show gfold (addOp K) (2 ^ j) n (c * a) + frob (n * 2 ^ j) (c * a) = c * (gfold (addOp K) (2 ^ j) n a + frob (n * 2 ^ j) a)
    rw [tr_factor hj hc a n, frob_mul, frob_times (frob_in hj hc) n, mul_add]
end Go.Proofs.YtlegcabfgkccmaaT
