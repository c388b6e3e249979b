/- Dual lists, in plain Lean: the bits' traces, and what Gauss finds in their rows. Conditions: those that each theorem names. -/
import Derived.Test.YtlegcabfgkccmaaBrTr
import Derived.Test.YtlegcabfgkccmaaBrSp
import Derived.Test.YtlegcabfgkccmaaBrBit
set_option linter.unusedVariables false
namespace Go.Proofs.Ytlegcabfgkccmaa.Br
open Go.RowKit Go.Proofs.YtlegcabfgkccmaaT Go.Proofs.Ytlegcabfgkccmaa.P Go.Proofs.YtlegcabfgkccmaaW.PrintWords Go.Proofs.YtlegcabfgkccmaaW.PrintLast Go.Proofs.YtlegcabfgkccmaaW.PrintMore
def mkP {k : Nat} (a b : T k) : T (k + 1) := ((a, b) : T k × T k)
theorem mulc_lo {k : Nat} (c p q : T k) : tr (k + 1) (mkP 0 c * mkP p q) = tr k (c * (p * gen k)) := by
  show tr k ((0 * p * gen k + 0 * q + c * p) * gen k) = _
  rw [zero_mul, zero_mul, zero_mul, zero_add, zero_add, mul_assoc]
theorem mulc_hi {k : Nat} (c p q : T k) : tr (k + 1) (mkP c 0 * mkP p q) = tr k (c * ((p * gen k + q) * gen k)) := by
  show tr k ((c * p * gen k + c * q + 0 * p) * gen k) = _
  rw [zero_mul, add_zero, mul_assoc c p, ← mul_add, mul_assoc]
theorem dual_ex : ∀ (k j : Nat), j < 2 ^ k → ∃ y : T k, ∀ i, i < 2 ^ k → tr k (dec k (2 ^ i) * y) = decide (i = j)
  | 0, j, hj => ⟨true, fun i hi => by
      have h1 : i = 0 := by have : (2 : Nat) ^ 0 = 1 := rfl; omega
      have h2 : j = 0 := by have : (2 : Nat) ^ 0 = 1 := rfl; omega
      subst h1
      subst h2
      rfl⟩
  | k + 1, j, hj => by
    obtain ⟨g, hg, _⟩ := gen_has_inv k
    have hgg : ∀ z : T k, z * g * gen k = z := fun z => by rw [mul_assoc, mul_comm g, hg, mul_one]
    have hp : 2 ^ (k + 1) = 2 ^ k + 2 ^ k := by rw [Nat.pow_succ, Nat.mul_two]
    have lo : ∀ i, i < 2 ^ k → dec (k + 1) (2 ^ i) = mkP 0 (dec k (2 ^ i)) := fun i hi => by
      rw [dec_succ, Nat.div_eq_of_lt (Nat.pow_lt_pow_right (by decide) hi), dec_zero]
      rfl
    have hi_ : ∀ i, dec (k + 1) (2 ^ (2 ^ k + i)) = mkP (dec k (2 ^ i)) 0 := fun i => by
      rw [dec_succ, Nat.pow_add, Nat.mul_div_cancel_left _ (Nat.two_pow_pos _), ← dec_mod k (2 ^ 2 ^ k * 2 ^ i), Nat.mul_mod_right, dec_zero]
      rfl
    by_cases h : j < 2 ^ k
    · obtain ⟨y, hy⟩ := dual_ex k j h
      refine ⟨mkP (y * g) y, fun i hi => ?_⟩
      by_cases h2 : i < 2 ^ k
      · rw [lo i h2, mulc_lo, hgg, hy i h2]
      · obtain ⟨m, rfl⟩ : ∃ m, i = 2 ^ k + m := ⟨i - 2 ^ k, by omega⟩
        rw [hi_ m, mulc_hi, hgg, add_self, zero_mul, mul_zero, tr_zero, decide_eq_false (by omega)]
    · obtain ⟨m, rfl⟩ : ∃ m, j = 2 ^ k + m := ⟨j - 2 ^ k, by omega⟩
      obtain ⟨y, hy⟩ := dual_ex k m (by omega)
      refine ⟨mkP 0 (y * g), fun i hi => ?_⟩
      by_cases h2 : i < 2 ^ k
      · rw [lo i h2, mulc_lo, zero_mul, mul_zero, tr_zero, decide_eq_false (by omega)]
      · obtain ⟨n, rfl⟩ : ∃ n, i = 2 ^ k + n := ⟨i - 2 ^ k, by omega⟩
        rw [hi_ n, mulc_hi, zero_mul, zero_add, hgg, hy n (by omega)]
        exact decide_eq_decide.2 (by omega)
/-- The trace over level 0 of an element of level k. -/
def tE (k : Nat) (x : T 7) : Bool := tr k (dec k (enc 7 x))
theorem tE_add (k : Nat) (a b : T 7) : tE k (a + b) = Bool.xor (tE k a) (tE k b) := by
  unfold tE
  rw [enc_add, dec_xor, tr_add]
theorem tE_zero (k : Nat) : tE k 0 = false := by
  unfold tE
  rw [enc_zero, dec_zero, tr_zero]
theorem tE_emb {k : Nat} (hk : k ≤ 7) (b : T k) : tE k (emb 7 k b) = tr k b := by
  unfold tE
  rw [enc_emb hk, dec_enc]
theorem conj_tE {k : Nat} (hk : k ≤ 7) {x : T 7} (hx : InL k x) : conjE (addOp 7) k 0 x = bit (tE k x) := by
  obtain ⟨b, rfl⟩ := hx.ex
  rw [conj_tr hk, tE_emb hk]
theorem bitE_dec {n : Nat} (h : n < 128) : bitE (n : Int) = dec 7 (2 ^ n) := by
  unfold bitE
  rw [if_pos (by omega), Int.toNat_natCast]
theorem bitE_in {k n : Nat} (hk : k ≤ 7) (h : n < 2 ^ k) : InL k (bitE (n : Int)) := by
  have h7 := pow_le7 hk
  unfold InL
  rw [bitE_dec (by omega), enc_dec_of_lt (Nat.pow_lt_pow_right (by decide) (by omega))]
  exact Nat.pow_lt_pow_right (by decide) h
theorem bitE_emb {k n : Nat} (hk : k ≤ 7) (h : n < 2 ^ k) : bitE (n : Int) = emb 7 k (dec k (2 ^ n)) := by
  have h7 := pow_le7 hk
  rw [bitE_dec (by omega)]
  unfold emb
  rw [enc_dec_of_lt (Nat.pow_lt_pow_right (by decide) h)]
theorem hasB_bit {n : Nat} (h : n < 128) (i : Nat) : hasB (bitE (n : Int)) i = decide (n = i) := by
  unfold hasB
  rw [bitE_dec h, enc_dec_of_lt (Nat.pow_lt_pow_right (by decide) (by omega)), Nat.testBit_two_pow]
theorem hasB_ext {x y : T 7} (h : ∀ i, hasB x i = hasB y i) : x = y := enc_inj (Nat.eq_of_testBit_eq h)
theorem hasB_in {k : Nat} {x : T 7} (h : InL k x) {i : Nat} (hi : 2 ^ k ≤ i) : hasB x i = false :=
  Nat.testBit_lt_two_pow (Nat.lt_of_lt_of_le h (Nat.pow_le_pow_right (by decide) hi))
/-- The sum of the bits that are in. -/
def bsum : Nat → List Bool → T 7
  | _, [] => 0
  | i, b :: of => (if b = true then bitE (i : Int) else 0) + bsum (i + 1) of
theorem bsum_snoc : ∀ (of : List Bool) (b : Bool) (i : Nat), bsum i (of ++ [b]) = bsum i of + (if b = true then bitE ((i + of.length : Nat) : Int) else 0)
  | [], b, i => by
    show (if b = true then bitE (i : Int) else 0) + 0 = 0 + (if b = true then bitE ((i + 0 : Nat) : Int) else 0)
    rw [add_zero, zero_add, Nat.add_zero]
  | c :: of, b, i => by
    have ih := bsum_snoc of b (i + 1)
    show (if c = true then bitE (i : Int) else 0) + bsum (i + 1) (of ++ [b]) = (if c = true then bitE (i : Int) else 0) + bsum (i + 1) of + (if b = true then bitE ((i + (of.length + 1) : Nat) : Int) else 0)
    rw [ih, show i + 1 + of.length = i + (of.length + 1) by omega, add_assoc]
theorem bsum_in {k : Nat} (hk : k ≤ 7) : ∀ (of : List Bool) (i : Nat), i + of.length ≤ 2 ^ k → InL k (bsum i of)
  | [], i, _ => inL_zero
  | b :: of, i, h => by
    rw [List.length_cons] at h
    show InL k ((if b = true then bitE (i : Int) else 0) + bsum (i + 1) of)
    refine inL_add ?_ (bsum_in hk of (i + 1) (by omega))
    split
    · exact bitE_in hk (by omega)
    · exact inL_zero
/-- The bits of a number. -/
def bitsF (y m : Nat) : List Bool := (List.range m).map (fun i => y.testBit i)
theorem bitsF_len (y m : Nat) : (bitsF y m).length = m := by
  unfold bitsF
  rw [List.length_map, List.length_range]
theorem bitsF_succ (y m : Nat) : bitsF y (m + 1) = bitsF y m ++ [y.testBit m] := by
  unfold bitsF
  rw [List.range_succ, List.map_append]
  rfl
theorem bitsF_sum (y : Nat) : ∀ m : Nat, m ≤ 128 → bsum 0 (bitsF y m) = dec 7 (y % 2 ^ m)
  | 0, _ => by
    rw [Nat.pow_zero, Nat.mod_one, dec_zero]
    rfl
  | m + 1, hm => by
    have ih := bitsF_sum y m (by omega)
    rw [bitsF_succ, bsum_snoc, ih, dec_mod_succ 7 y m, bitsF_len, Nat.zero_add, bitE_dec (by omega)]
theorem bits_self {k : Nat} (hk : k ≤ 7) {x : T 7} (hx : InL k x) : bsum 0 (bitsF (enc 7 x) (2 ^ k)) = x := by
  have h7 := pow_le7 hk
  have hlt : enc 7 x < 2 ^ 2 ^ k := hx
  rw [bitsF_sum _ _ h7, Nat.mod_eq_of_lt hlt, dec_enc]
/-- Row j of traces of products of bits, as far as bit i. -/
def rowP (k : Nat) : Nat → Nat → T 7
  | 0, _ => 0
  | i + 1, j => rowP k i j + (if tE k (bitE (i : Int) * bitE (j : Int)) = true then bitE (i : Int) else 0)
theorem rowP_has (k : Nat) (j i' : Nat) : ∀ i, i ≤ 128 → hasB (rowP k i j) i' = (decide (i' < i) && tE k (bitE (i' : Int) * bitE (j : Int)))
  | 0, _ => by
    show hasB 0 i' = _
    rw [hasB_zero, decide_eq_false (Nat.not_lt_zero _)]
    rfl
  | i + 1, h => by
    have ih := rowP_has k j i' i (by omega)
    show hasB (rowP k i j + (if tE k (bitE (i : Int) * bitE (j : Int)) = true then bitE (i : Int) else 0)) i' = _
    rw [hasB_add, ih]
    by_cases he : i' = i
    · subst he
      rw [decide_eq_false (Nat.lt_irrefl _), decide_eq_true (Nat.lt_succ_self _)]
      by_cases ht : tE k (bitE (i' : Int) * bitE (j : Int)) = true
      · rw [if_pos ht, hasB_bit (by omega), ht, decide_eq_true rfl]
        rfl
      · rw [if_neg ht, hasB_zero, Bool.eq_false_iff.2 ht]
        rfl
    · have e1 : decide (i' < i + 1) = decide (i' < i) := decide_eq_decide.2 (by omega)
      rw [e1]
      split
      · rw [hasB_bit (by omega), decide_eq_false (fun q : i = i' => he q.symm), Bool.xor_false]
      · rw [hasB_zero, Bool.xor_false]
theorem rowP_in {k : Nat} (hk : k ≤ 7) (j : Nat) : ∀ i, i ≤ 2 ^ k → InL k (rowP k i j)
  | 0, _ => inL_zero
  | i + 1, h => by
    refine inL_add (rowP_in hk j i (by omega)) ?_
    split
    · exact bitE_in hk (by omega)
    · exact inL_zero
def rowsF (k : Nat) : Nat → Nat → List (T 7)
  | _, 0 => []
  | j, c + 1 => rowP k (2 ^ k) j :: rowsF k (j + 1) c
theorem rowsF_len (k : Nat) : ∀ (c j : Nat), (rowsF k j c).length = c
  | 0, _ => rfl
  | c + 1, j => by
    show (rowsF k (j + 1) c).length + 1 = c + 1
    rw [rowsF_len k c]
theorem rowsF_get (k : Nat) : ∀ (c j i : Nat) (h : i < (rowsF k j c).length), (rowsF k j c)[i] = rowP k (2 ^ k) (j + i)
  | c + 1, j, 0, h => rfl
  | c + 1, j, i + 1, h => by
    have hc : i < (rowsF k (j + 1) c).length := Nat.lt_of_succ_lt_succ h
    have ih := rowsF_get k c (j + 1) i hc
    show (rowsF k (j + 1) c)[i] = _
    rw [ih, show j + 1 + i = j + (i + 1) by omega]
theorem comb_in {k : Nat} (hk : k ≤ 7) : ∀ (of : List Bool) (j : Nat), InL k (comb (rowsF k j of.length) of)
  | [], _ => inL_zero
  | b :: of, j => by
    show InL k ((if b = true then rowP k (2 ^ k) j else 0) + comb (rowsF k (j + 1) of.length) of)
    refine inL_add ?_ (comb_in hk of (j + 1))
    split
    · exact rowP_in hk j _ (Nat.le_refl _)
    · exact inL_zero
theorem comb_has {k : Nat} (hk : k ≤ 7) {i : Nat} (hi : i < 2 ^ k) : ∀ (of : List Bool) (j : Nat), hasB (comb (rowsF k j of.length) of) i = tE k (bitE (i : Int) * bsum j of)
  | [], j => by
    show hasB 0 i = tE k (bitE (i : Int) * 0)
    rw [hasB_zero, mul_zero, tE_zero]
  | b :: of, j => by
    have h7 := pow_le7 hk
    have ih := comb_has hk hi of (j + 1)
    show hasB ((if b = true then rowP k (2 ^ k) j else 0) + comb (rowsF k (j + 1) of.length) of) i = tE k (bitE (i : Int) * ((if b = true then bitE (j : Int) else 0) + bsum (j + 1) of))
    rw [hasB_add, ih, mul_add, tE_add]
    cases b with
    | true => rw [if_pos rfl, if_pos rfl, rowP_has k j i _ h7, decide_eq_true hi, Bool.true_and]
    | false => rw [if_neg (by decide), if_neg (by decide), hasB_zero, mul_zero, tE_zero]
/-- What Gauss finds for each bit, and what its traces are. -/
theorem dual_solve {k : Nat} (hk : k ≤ 7) {j : Nat} (hj : j < 2 ^ k) : ∃ of, solveT (rowsF k 0 (2 ^ k)) (bitE (j : Int)) = some of ∧ of.length = 2 ^ k ∧ ∀ i : Nat, i < 2 ^ k → tE k (bitE (i : Int) * bsum 0 of) = decide (i = j) := by
  have h7 := pow_le7 hk
  obtain ⟨y, hy⟩ := dual_ex k j hj
  have hin := inL_emb hk y
  have hc : comb (rowsF k 0 (2 ^ k)) (bitsF (enc 7 (emb 7 k y)) (2 ^ k)) = bitE (j : Int) := by
    have e := bitsF_len (enc 7 (emb 7 k y)) (2 ^ k)
    have h1 := comb_in hk (bitsF (enc 7 (emb 7 k y)) (2 ^ k)) 0
    have h2 : ∀ i, i < 2 ^ k → hasB (comb (rowsF k 0 (2 ^ k)) (bitsF (enc 7 (emb 7 k y)) (2 ^ k))) i = decide (i = j) := fun i hi => by
      have h3 := comb_has hk hi (bitsF (enc 7 (emb 7 k y)) (2 ^ k)) 0
      rw [e, bits_self hk hin, bitE_emb hk hi, ← emb_mul hk, tE_emb hk, hy i hi] at h3
      exact h3
    rw [e] at h1
    refine hasB_ext (fun i => ?_)
    rw [hasB_bit (by omega)]
    by_cases hi : i < 2 ^ k
    · rw [h2 i hi]
      exact decide_eq_decide.2 ⟨fun q => q.symm, fun q => q.symm⟩
    · rw [hasB_in h1 (by omega), decide_eq_false (by omega)]
  obtain ⟨of, hof⟩ := solve_all hc
  obtain ⟨g1, g2⟩ := solve_comb hof
  rw [rowsF_len] at g1
  refine ⟨of, hof, g1, fun i hi => ?_⟩
  have h3 := comb_has hk hi of 0
  rw [g1, g2, hasB_bit (by omega)] at h3
  rw [← h3]
  exact decide_eq_decide.2 ⟨fun q => q.symm, fun q => q.symm⟩
/-- A bit by a trace. -/
theorem dual_has {k : Nat} (hk : k ≤ 7) {j : Nat} {x : T 7} (hx : ∀ i : Nat, i < 2 ^ k → tE k (bitE (i : Int) * x) = decide (i = j)) {a : T 7} (ha : InL k a) (hj : j < 2 ^ k) : tE k (a * x) = hasB a j := by
  have key : ∀ (m : Nat) (y : Nat), m ≤ 2 ^ k → tE k (bsum 0 (bitsF y m) * x) = (decide (j < m) && y.testBit j) := by
    intro m y
    induction m with
    | zero =>
      intro _
      show tE k (0 * x) = _
      rw [zero_mul, tE_zero, decide_eq_false (Nat.not_lt_zero _)]
      rfl
    | succ m ih =>
      intro hm
      rw [bitsF_succ, bsum_snoc, add_mul, tE_add, ih (by omega), bitsF_len, Nat.zero_add]
      by_cases he : m = j
      · subst he
        rw [decide_eq_false (Nat.lt_irrefl _), decide_eq_true (Nat.lt_succ_self _), Bool.false_and, Bool.true_and, Bool.false_xor]
        cases hb : y.testBit m with
        | true => rw [if_pos rfl, hx m (by omega), decide_eq_true rfl]
        | false => rw [if_neg (by decide), zero_mul, tE_zero]
      · have e1 : decide (j < m + 1) = decide (j < m) := decide_eq_decide.2 (by omega)
        have e2 : tE k ((if y.testBit m = true then bitE (m : Int) else 0) * x) = false := by
          split
          · rw [hx m (by omega), decide_eq_false he]
          · rw [zero_mul, tE_zero]
        rw [e1, e2, Bool.xor_false]
  have h := key (2 ^ k) (enc 7 a) (Nat.le_refl _)
  rw [bits_self hk ha, decide_eq_true hj, Bool.true_and] at h
  exact h
end Go.Proofs.Ytlegcabfgkccmaa.Br
