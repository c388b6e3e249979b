/- Texts of this session, merged: BrBit BrOf BrMul0 BrSqI0 BrInv0 BrRefBit BrRefOf BrRefMul BrRefInv. Conditions: those that each theorem names. -/
import Derived.Test.YtmibjgjgfombaaaBrBits
import Derived.Test.YtmibjgjgfombaaaPx1
import Derived.Test.YtmibjgjgfombaaaPx2
import Derived.Test.YtmibjgjgfombaaaPx6
import Derived.Test.YtmibjgjgfombaaaPx7
import Derived.Test.YtmibjgjgfombaaaPx8
section
/- Elements by their bits. Conditions: those that each theorem names. -/
set_option linter.unusedVariables false
namespace Go.Proofs.Ytmibjgjgfombaaa.Br
open Go.RowKit Go.Proofs.YtmibjgjgfombaaaT Go.Proofs.YtmibjgjgfombaaaW.PrintWords Go.Proofs.YtmibjgjgfombaaaW.PrintLast Go.Proofs.YtmibjgjgfombaaaW.PrintMore
theorem u64_cast {n : Nat} (h : n < 2 ^ 63) : IntKind.u64.wrap (n : Int) = n := wrap_u64 n (by omega)
theorem wrap_sub64 {n : Nat} (h0 : 64 ≤ n) (h : n < 2 ^ 62) : wrap64 ((n : Int) - 64) = ((n - 64 : Nat) : Int) := by unfold wrap64; omega
theorem testBit_toNat (a i : Nat) : a / 2 ^ i % 2 = (a.testBit i).toNat := by
  rw [Nat.testBit_eq_decide_div_mod_eq]
  rcases Nat.mod_two_eq_zero_or_one (a / 2 ^ i) with h | h <;> rw [h] <;> rfl
/-- The bits of an element of two words. -/
theorem bits7_lo (x : T 7) {i : Nat} (h : i < 64) : (enc 7 x).testBit i = (enc 6 x.2).testBit i := by
  rw [enc7, Nat.mul_comm, Nat.testBit_two_pow_mul_add _ (lt64 (k := 6) (by omega) x.2), if_pos h]
theorem bits7_hi (x : T 7) {i : Nat} (h : 64 ≤ i) : (enc 7 x).testBit i = (enc 6 x.1).testBit (i - 64) := by
  rw [enc7, Nat.mul_comm, Nat.testBit_two_pow_mul_add _ (lt64 (k := 6) (by omega) x.2), if_neg (by omega)]
/-- The element with one bit, or none. -/
def bitE (n : Int) : T 7 := if 0 ≤ n ∧ n ≤ 127 then dec 7 (2 ^ n.toNat) else 0
theorem dec7_lo {n : Nat} (h : n < 2 ^ 64) : dec 7 n = ((0, dec 6 n) : T 6 × T 6) := by
  rw [dec_succ]
  have : n / 2 ^ 2 ^ 6 = 0 := Nat.div_eq_of_lt h
  rw [this, dec_zero]
theorem pow_lt64 {n : Nat} (h : n < 64) : 2 ^ n < 2 ^ 64 := Nat.pow_lt_pow_right (by decide) h
theorem bitE_lo {n : Nat} (h : n < 64) : hiW (bitE (n : Int)) = 0 ∧ loW (bitE (n : Int)) = ((2 ^ n : Nat) : Int) := by
  have e : bitE (n : Int) = dec 7 (2 ^ n) := by
    unfold bitE
    rw [if_pos (by omega), Int.toNat_natCast]
  rw [e, dec7_lo (pow_lt64 h)]
  unfold hiW loW
  rw [enc_zero, enc_dec_of_lt (show 2 ^ n < 2 ^ 2 ^ 6 from pow_lt64 h)]
  exact ⟨rfl, rfl⟩
theorem bitE_hi {n : Nat} (h : n < 64) : hiW (bitE ((n + 64 : Nat) : Int)) = ((2 ^ n : Nat) : Int) ∧ loW (bitE ((n + 64 : Nat) : Int)) = 0 := by
  have e : bitE ((n + 64 : Nat) : Int) = dec 7 (2 ^ (n + 64)) := by
    unfold bitE
    rw [if_pos (by omega), Int.toNat_natCast]
  have e2 : dec 7 (2 ^ (n + 64)) = ((dec 6 (2 ^ n), 0) : T 6 × T 6) := by
    rw [dec_succ]
    have h1 : 2 ^ (n + 64) / 2 ^ 2 ^ 6 = 2 ^ n := by
      rw [Nat.pow_add]
      exact Nat.mul_div_cancel _ (Nat.two_pow_pos _)
    have h2 : dec 6 (2 ^ (n + 64)) = 0 := by
      rw [← dec_mod, Nat.pow_add]
      have : 2 ^ n * 2 ^ 64 % 2 ^ 2 ^ 6 = 0 := Nat.mul_mod_left _ _
      rw [this, dec_zero]
    rw [h1, h2]
  rw [e, e2]
  unfold hiW loW
  rw [enc_zero, enc_dec_of_lt (show 2 ^ n < 2 ^ 2 ^ 6 from pow_lt64 h)]
  exact ⟨rfl, rfl⟩
theorem shl_one {n : Nat} (h : n < 64) : shl .u64 1 (n : Int) = ((2 ^ n : Nat) : Int) := by
  have := shl_u64 1 n (by omega) (by rw [Nat.one_mul]; exact pow_lt64 h)
  rw [Nat.one_mul] at this
  exact this
theorem bitE_none {n : Int} (h : n < 0 ∨ n > 127) : bitE n = 0 := if_neg (by omega)
theorem and_pow (a i : Nat) : a &&& 2 ^ i = (a.testBit i).toNat * 2 ^ i := by
  apply Nat.eq_of_testBit_eq
  intro m
  rw [Nat.testBit_and, Nat.testBit_two_pow]
  by_cases h : i = m
  · subst h
    rw [decide_eq_true rfl, Bool.and_true]
    cases hb : a.testBit i with
    | false => rw [show Bool.toNat false = 0 from rfl, Nat.zero_mul, Nat.zero_testBit]
    | true => rw [show Bool.toNat true = 1 from rfl, Nat.one_mul, Nat.testBit_two_pow_self]
  · rw [decide_eq_false h, Bool.and_false]
    cases hb : a.testBit i with
    | false => rw [show Bool.toNat false = 0 from rfl, Nat.zero_mul, Nat.zero_testBit]
    | true => rw [show Bool.toNat true = 1 from rfl, Nat.one_mul, Nat.testBit_two_pow_of_ne h]
theorem bits_and_pow (a i : Nat) (ha : a < 2 ^ 64) (hi : i < 64) : Go.bits .and .u64 (a : Int) ((2 ^ i : Nat) : Int) = (((a.testBit i).toNat * 2 ^ i : Nat) : Int) := by
  rw [bits_and _ _ ha (pow_lt64 hi), and_pow]
theorem bits_and_zero (a : Nat) (ha : a < 2 ^ 64) : Go.bits .and .u64 (a : Int) 0 = 0 := by
  have := bits_and a 0 ha (by decide)
  rw [Nat.and_zero] at this
  exact this
theorem or_zero_r (a : Nat) (ha : a < 2 ^ 64) : Go.bits .or .u64 (a : Int) 0 = a := by
  have := bits_or a 0 ha (by decide)
  rw [Nat.or_zero] at this
  exact this
theorem or_zero_l (a : Nat) (ha : a < 2 ^ 64) : Go.bits .or .u64 0 (a : Int) = a := by
  have := bits_or 0 a (by decide) ha
  rw [Nat.zero_or] at this
  exact this
theorem bit_ne (b : Bool) (i : Nat) : (((b.toNat * 2 ^ i : Nat) : Int) != 0) = b := by
  have := Nat.two_pow_pos i
  cases b with
  | false => rw [show Bool.toNat false = 0 from rfl, Nat.zero_mul]; rfl
  | true =>
    rw [show Bool.toNat true = 1 from rfl, Nat.one_mul, bne_iff_ne]
    omega
theorem bit_le (b : Bool) {i : Nat} (h : i < 64) : b.toNat * 2 ^ i < 2 ^ 64 := by
  have := pow_lt64 h
  cases b with
  | false => rw [show Bool.toNat false = 0 from rfl, Nat.zero_mul]; exact Nat.two_pow_pos _
  | true => rw [show Bool.toNat true = 1 from rfl, Nat.one_mul]; exact this
theorem has_words (x : T 7) {n : Nat} (h : n < 128) : (Go.bits .or .u64 (Go.bits .and .u64 (loW x) (loW (bitE (n : Int)))) (Go.bits .and .u64 (hiW x) (hiW (bitE (n : Int)))) != 0) = (enc 7 x).testBit n := by
  by_cases h6 : n < 64
  · rw [(bitE_lo h6).1, (bitE_lo h6).2, bits7_lo x h6]
    unfold hiW loW
    rw [bits_and_zero _ (lt64 (by omega) _), bits_and_pow _ _ (lt64 (by omega) _) h6, or_zero_r _ (bit_le _ h6), bit_ne]
  · obtain ⟨m, rfl⟩ : ∃ m, n = m + 64 := ⟨n - 64, by omega⟩
    rw [(bitE_hi (by omega)).1, (bitE_hi (by omega)).2, bits7_hi x (by omega), Nat.add_sub_cancel]
    unfold hiW loW
    rw [bits_and_zero _ (lt64 (by omega) _), bits_and_pow _ _ (lt64 (by omega) _) (by omega), or_zero_l _ (bit_le _ (by omega)), bit_ne]
theorem has_none (x : T 7) {n : Int} (h : n < 0 ∨ n > 127) : (Go.bits .or .u64 (Go.bits .and .u64 (loW x) (loW (bitE n))) (Go.bits .and .u64 (hiW x) (hiW (bitE n))) != 0) = false := by
  rw [bitE_none h, hi_zero, lo_zero]
  unfold hiW loW
  rw [bits_and_zero _ (lt64 (by omega) _), bits_and_zero _ (lt64 (by omega) _)]
  decide
def hasE (x : T 7) (n : Int) : Bool := if 0 ≤ n ∧ n ≤ 127 then (enc 7 x).testBit n.toNat else false
theorem hasE_nat (x : T 7) {n : Nat} (h : n < 128) : hasE x (n : Int) = (enc 7 x).testBit n := by
  unfold hasE
  rw [if_pos (by omega), Int.toNat_natCast]
end Go.Proofs.Ytmibjgjgfombaaa.Br
end

section
/- Which elements are of a level. Conditions: none but the elements' kinds. -/
set_option linter.unusedVariables false
namespace Go.Proofs.Ytmibjgjgfombaaa.Br
open Go.RowKit Go.Proofs.YtmibjgjgfombaaaT Go.Proofs.Ytmibjgjgfombaaa.P Go.Proofs.YtmibjgjgfombaaaW.PrintWords Go.Proofs.YtmibjgjgfombaaaW.PrintLast Go.Proofs.YtmibjgjgfombaaaW.PrintMore
theorem Of_f (k : Nat) (l : Int) (x : T 7) : octet_Of.f (k + 1) l (hiW x) (loW x) = some (ofB l x) := by
  unfold octet_Of.f
  by_cases h0 : l < 0
  · rw [if_pos h0, octet_Of.j0, if_pos rfl]
    have : ofB l x = false := by unfold ofB; rw [decide_eq_false_iff_not]; omega
    rw [this]
  · rw [if_neg h0, octet_Of.j0]
    by_cases h7 : l > 7
    · rw [if_pos (by simpa using h7)]
      have : ofB l x = false := by unfold ofB; rw [decide_eq_false_iff_not]; omega
      rw [this]
    · rw [if_neg (by simpa using h7)]
      obtain ⟨j, rfl⟩ := Int.eq_ofNat_of_zero_le (by omega : 0 ≤ l)
      have hz : ((enc 6 x.1 : Int) = 0) ↔ enc 6 x.1 = 0 := by omega
      by_cases e7 : j = 7
      · subst e7
        rw [if_pos (by omega), ofB_nat (Nat.le_refl _) (inL_top x)]
      · rw [if_neg (by omega)]
        by_cases e6 : j = 6
        · subst e6
          rw [if_pos (by omega)]
          congr 1
          unfold ofB hiW
          rw [Bool.eq_iff_iff]
          have := lt64 (k := 6) (by omega) x.2
          rw [beq_iff_eq, decide_eq_true_eq, enc7]
          constructor
          · intro h
            refine ⟨by omega, by omega, ?_⟩
            show enc 6 x.1 * 2 ^ 64 + enc 6 x.2 < 2 ^ 64
            omega
          · rintro ⟨_, _, h⟩
            have h : enc 6 x.1 * 2 ^ 64 + enc 6 x.2 < 2 ^ 64 := h
            omega
        · rw [if_neg (by omega)]
          have hlt := lt64 (k := 6) (by omega) x.2
          have hp : 2 ^ 2 ^ j ≤ 2 ^ 32 := Nat.pow_le_pow_right (by decide) (Nat.le_trans (Nat.pow_le_pow_right (by decide) (show j ≤ 5 by omega)) (by decide))
          by_cases hh : enc 6 x.1 = 0
          · rw [if_pos (by unfold hiW; omega), if_pos (by omega)]
            congr 1
            unfold loW
            rw [shr_zero (by omega) _ hlt]
            unfold ofB
            rw [Bool.eq_iff_iff, decide_eq_true_eq, decide_eq_true_eq, enc7, Int.toNat_natCast, hh, Nat.zero_mul, Nat.zero_add]
            exact ⟨fun h => ⟨by omega, by omega, h⟩, fun h => h.2.2⟩
          · rw [if_neg (by unfold hiW; omega)]
            congr 1
            symm
            unfold ofB
            rw [decide_eq_false_iff_not, enc7, Int.toNat_natCast]
            rintro ⟨_, _, h⟩
            have : 2 ^ 64 ≤ enc 6 x.1 * 2 ^ 64 := Nat.le_mul_of_pos_left _ (by omega)
            have : (2 : Nat) ^ 32 < 2 ^ 64 := by decide
            omega
end Go.Proofs.Ytmibjgjgfombaaa.Br
end

section
/- The products of the code are the tower's. Conditions: words and elements are in range, rounds are enough. -/
set_option linter.unusedVariables false
namespace Go.Proofs.Ytmibjgjgfombaaa.Br
open Go.RowKit Go.Proofs.YtmibjgjgfombaaaT Go.Proofs.Ytmibjgjgfombaaa.P Go.Proofs.YtmibjgjgfombaaaW.PrintWords Go.Proofs.YtmibjgjgfombaaaW.PrintLast Go.Proofs.YtmibjgjgfombaaaW.PrintMore
theorem halves_f {k : Nat} (h : k < 6) (x : T (k + 1)) : tower_halves.f ((k + 1 : Nat) : Int) (enc (k + 1) x : Int) = some ((enc k x.1 : Int), (enc k x.2 : Int)) := by
  unfold tower_halves.f
  rw [wrap_pred k (by omega), shl1_i64 k (by omega), if_pos (by omega), if_pos (Int.natCast_nonneg _), mask_u64 k (by omega)]
  have h1 : 2 ^ k ≤ 64 := Nat.le_trans (Nat.pow_le_pow_right (by decide) (show k ≤ 6 by omega)) (by decide)
  have h2 : 2 ^ 2 ^ k - 1 < 2 ^ 64 := Nat.lt_of_lt_of_le (Nat.sub_lt (Nat.two_pow_pos _) (by decide)) (Nat.pow_le_pow_right (by decide) h1)
  rw [shr_u64 _ _ h1, bits_and _ _ (lt64 (by omega) x) h2, enc_hi, Nat.and_two_pow_sub_one_eq_mod, enc_lo]
theorem join_f {k : Nat} (h : k < 6) (a b : T k) : tower_join.f ((k + 1 : Nat) : Int) (enc k a : Int) (enc k b : Int) = some (enc (k + 1) ((a, b) : T k × T k) : Int) := by
  unfold tower_join.f
  have h1 : 2 ^ k ≤ 64 := Nat.le_trans (Nat.pow_le_pow_right (by decide) (show k ≤ 6 by omega)) (by decide)
  have h3 : enc k a * 2 ^ 2 ^ k + enc k b < 2 ^ 64 := lt64 (k := k + 1) (by omega) ((a, b) : T k × T k)
  rw [wrap_pred k (by omega), shl1_u64 k (by omega), if_pos (by omega), shl_u64 _ _ h1 (by omega), bits_or _ _ (by omega) (by omega), or_join _ (enc_lt k b)]
  rfl
theorem mulX_f : ∀ (k fuel : Nat), k ≤ 6 → k + 1 ≤ fuel → ∀ x : T k, tower_mulX.f fuel (k : Int) (enc k x : Int) = some (enc k (x * gen k) : Int)
  | 0, f + 1, _, _, x => by
    rw [tower_mulX.f, if_pos (by rfl)]
    have : x * gen 0 = x := mul_one x
    rw [this]
  | k + 1, f + 1, h, hf, x => by
    rw [tower_mulX.f, if_neg (by omega), halves_f (by omega)]
    simp only [Option.bind_some]
    rw [wrap_pred k (by omega), mulX_f k f (by omega) (by omega)]
    simp only [Option.bind_some]
    rw [xor_f (by omega), join_f (by omega)]
    simp only [Option.bind_some]
    have : x * gen (k + 1) = ((x.2 + x.1 * gen k, x.1) : T k × T k) := by
      refine ext2 ?_ ?_
      · show x.1 * 1 * gen k + x.1 * 0 + x.2 * 1 = _
        rw [mul_one, mul_one, mul_zero, add_zero, add_comm]
      · show x.2 * 0 + x.1 * 1 = _
        rw [mul_one, mul_zero, zero_add]
    rw [this]
theorem mul_f : ∀ (k fuel : Nat), k ≤ 6 → 2 * k + 2 ≤ fuel → ∀ x y : T k, tower_mul.f fuel (k : Int) (enc k x : Int) (enc k y : Int) = some (enc k (x * y) : Int)
  | 0, f + 2, _, _, x, y => by
    rw [tower_mul.f, if_pos (by rfl), tower_mul.j0, if_pos rfl, and1]
  | k + 1, f + 2, h, hf, x, y => by
    rw [tower_mul.f, if_neg (by omega)]
    by_cases hx : x = 0
    · rw [if_pos (cast_enc_zero.2 hx), tower_mul.j0, if_pos rfl, cast_enc_zero.2 hx, and_zero_l _ (lt64 h y), hx, zero_mul, enc_zero]
      rfl
    · rw [if_neg (fun e => hx (cast_enc_zero.1 e)), tower_mul.j0]
      by_cases hy : y = 0
      · rw [if_pos (by rw [cast_enc_zero.2 hy]; rfl), cast_enc_zero.2 hy, and_zero_r _ (lt64 h x), hy, mul_zero, enc_zero]
        rfl
      · rw [if_neg (by simpa using fun e => hy (cast_enc_zero.1 e)), halves_f (by omega)]
        simp only [Option.bind_some]
        rw [halves_f (by omega)]
        simp only [Option.bind_some]
        rw [wrap_pred k (by omega), mul_f k f (by omega) (by omega)]
        simp only [Option.bind_some]
        rw [mul_f k f (by omega) (by omega)]
        simp only [Option.bind_some]
        rw [xor_f (by omega), xor_f (by omega), mul_f k f (by omega) (by omega)]
        simp only [Option.bind_some]
        rw [mulX_f k f (by omega) (by omega)]
        simp only [Option.bind_some]
        rw [xor_f (by omega), xor_f (by omega), xor_f (by omega), xor_f (by omega), join_f (by omega)]
        simp only [Option.bind_some]
        rw [mul_kara]
theorem Mul_ev (l : Int) (x y : T 7) : Ev (fun k => tower_Mul.f k l (hiW x) (loW x) (hiW y) (loW y)) (hiW (mulE l x y), loW (mulE l x y)) := by
  refine Ev.from 40 fun k hk => ?_
  obtain ⟨k, rfl⟩ : ∃ m, k = m + 1 := ⟨k - 1, by omega⟩
  unfold tower_Mul.f
  rw [Of_f, Of_f]
  rw [Option.bind_some]
  by_cases hx : ofB l x = true
  · rw [if_pos hx, Option.bind_some]
    by_cases hy : ofB l y = true
    · have e : mulE l x y = x * y := if_pos ⟨hx, hy⟩
      rw [tower_Mul.j0, hy, if_neg (by decide), e]
      obtain ⟨j, rfl, hj, hxj⟩ := ofB_iff.1 hx
      obtain ⟨j', hjj, _, hyj⟩ := ofB_iff.1 hy
      obtain rfl : j' = j := by omega
      by_cases h6 : j' ≤ 6
      · rw [if_pos (by omega)]
        obtain ⟨a, rfl⟩ := hxj.ex
        obtain ⟨b, rfl⟩ := hyj.ex
        rw [lo_emb h6, lo_emb h6, mul_f j' k h6 (by omega), ← emb_mul hj, hi_emb h6, lo_emb h6]
        rfl
      · rw [if_neg (by omega)]
        have m6 := mul_f 6 k (by omega) (by omega)
        have x6 := mulX_f 6 k (by omega) (by omega)
        have m6' : ∀ x y : T 6, tower_mul.f k 6 (enc 6 x : Int) (enc 6 y : Int) = some (enc 6 (x * y) : Int) := m6
        have x6' : ∀ x : T 6, tower_mulX.f k 6 (enc 6 x : Int) = some (enc 6 (x * gen 6) : Int) := x6
        unfold hiW loW
        rw [m6']
        rw [Option.bind_some]
        rw [m6']
        rw [Option.bind_some]
        rw [xor6, xor6, m6']
        rw [Option.bind_some]
        rw [x6']
        rw [Option.bind_some]
        rw [xor6, xor6, xor6, xor6, mul_kara x y]
    · have e : mulE l x y = 0 := if_neg (fun h => hy h.2)
      rw [tower_Mul.j0, if_pos (by simpa using hy), e, zero_pair]
  · have e : mulE l x y = 0 := if_neg (fun h => hx h.1)
    rw [if_neg hx, tower_Mul.j0, if_pos rfl, e, zero_pair]
theorem mul6 {k : Nat} (hk : 14 ≤ k) (x y : T 6) : tower_mul.f k 6 (enc 6 x : Int) (enc 6 y : Int) = some (enc 6 (x * y) : Int) := mul_f 6 k (by omega) (by omega) x y
theorem mulX6 {k : Nat} (hk : 14 ≤ k) (x : T 6) : tower_mulX.f k 6 (enc 6 x : Int) = some (enc 6 (x * gen 6) : Int) := mulX_f 6 k (by omega) (by omega) x
end Go.Proofs.Ytmibjgjgfombaaa.Br
end

section
/- The inner squares of the code are the tower's. Conditions: as the products'. -/
set_option linter.unusedVariables false
namespace Go.Proofs.Ytmibjgjgfombaaa.Br
open Go.RowKit Go.Proofs.YtmibjgjgfombaaaT Go.Proofs.Ytmibjgjgfombaaa.P Go.Proofs.YtmibjgjgfombaaaW.PrintWords Go.Proofs.YtmibjgjgfombaaaW.PrintLast Go.Proofs.YtmibjgjgfombaaaW.PrintMore
theorem square_f : ∀ (k fuel : Nat), k ≤ 6 → k + 2 ≤ fuel → ∀ x : T k, tower_square.f fuel (k : Int) (enc k x : Int) = some (enc k (x * x) : Int)
  | 0, f + 1, _, _, x => by
    rw [tower_square.f, if_pos (by rfl)]
    have : x * x = x := by cases x <;> rfl
    rw [this]
  | k + 1, f + 1, h, hf, x => by
    rw [tower_square.f, if_neg (by omega), halves_f (by omega)]
    simp only [Option.bind_some]
    rw [wrap_pred k (by omega), square_f k f (by omega) (by omega)]
    simp only [Option.bind_some]
    rw [mulX_f k f (by omega) (by omega)]
    simp only [Option.bind_some]
    rw [square_f k f (by omega) (by omega)]
    simp only [Option.bind_some]
    rw [xor_f (by omega), join_f (by omega)]
    simp only [Option.bind_some]
    have : x * x = ((x.1 * x.1 * gen k, x.2 * x.2 + x.1 * x.1) : T k × T k) := by
      refine ext2 ?_ rfl
      show x.1 * x.1 * gen k + x.1 * x.2 + x.2 * x.1 = x.1 * x.1 * gen k
      rw [mul_comm x.2, add_assoc, add_self, add_zero]
    rw [this]
theorem square6 {k : Nat} (hk : 14 ≤ k) (x : T 6) : tower_square.f k 6 (enc 6 x : Int) = some (enc 6 (x * x) : Int) := square_f 6 k (by omega) (by omega) x
end Go.Proofs.Ytmibjgjgfombaaa.Br
end

section
/- The inverses and quotients of the code are the tower's. Conditions: as the products'. -/
set_option linter.unusedVariables false
namespace Go.Proofs.Ytmibjgjgfombaaa.Br
open Go.RowKit Go.Proofs.YtmibjgjgfombaaaT Go.Proofs.Ytmibjgjgfombaaa.P Go.Proofs.YtmibjgjgfombaaaW.PrintWords Go.Proofs.YtmibjgjgfombaaaW.PrintLast Go.Proofs.YtmibjgjgfombaaaW.PrintMore
theorem inv_f : ∀ (k fuel : Nat), k ≤ 6 → 2 * k + 4 ≤ fuel → ∀ x : T k, tower_inv.f fuel (k : Int) (enc k x : Int) = some (enc k (inv k x) : Int)
  | 0, f + 1, _, _, x => by
    rw [tower_inv.f, if_pos (by rfl)]
    rfl
  | k + 1, f + 1, h, hf, x => by
    rw [tower_inv.f, if_neg (by omega), halves_f (by omega)]
    simp only [Option.bind_some]
    rw [wrap_pred k (by omega), mulX_f k f (by omega) (by omega)]
    simp only [Option.bind_some]
    rw [xor_f (by omega), mul_f k f (by omega) (by omega)]
    simp only [Option.bind_some]
    rw [square_f k f (by omega) (by omega)]
    simp only [Option.bind_some]
    rw [xor_f (by omega), inv_f k f (by omega) (by omega)]
    simp only [Option.bind_some]
    rw [mul_f k f (by omega) (by omega)]
    simp only [Option.bind_some]
    rw [mul_f k f (by omega) (by omega)]
    simp only [Option.bind_some]
    rw [join_f (by omega)]
    rfl
theorem inv6 {k : Nat} (hk : 16 ≤ k) (x : T 6) : tower_inv.f k 6 (enc 6 x : Int) = some (enc 6 (inv 6 x) : Int) := inv_f 6 k (by omega) (by omega) x
theorem Inv_ev (l : Int) (x : T 7) : Ev (fun k => tower_Inv.f k l (hiW x) (loW x)) (hiW (invE l x), loW (invE l x)) := by
  refine Ev.from 40 fun k hk => ?_
  obtain ⟨k, rfl⟩ : ∃ m, k = m + 1 := ⟨k - 1, by omega⟩
  unfold tower_Inv.f
  rw [Of_f]
  rw [Option.bind_some]
  generalize k + 1 = k at hk ⊢
  by_cases hx : ofB l x = true
  · have e : invE l x = inv 7 x := if_pos hx
    rw [if_pos hx, e]
    obtain ⟨j, rfl, hj, hxj⟩ := ofB_iff.1 hx
    by_cases h6 : j ≤ 6
    · rw [if_pos (by omega)]
      obtain ⟨a, rfl⟩ := hxj.ex
      rw [lo_emb h6, inv_f j _ h6 (by omega), ← emb_inv hj, hi_emb h6, lo_emb h6]
      rfl
    · rw [if_neg (by omega)]
      unfold hiW loW
      rw [mulX6 (by omega)]
      rw [Option.bind_some]
      rw [xor6, mul6 (by omega)]
      rw [Option.bind_some]
      rw [square6 (by omega)]
      rw [Option.bind_some]
      rw [xor6, inv6 (by omega)]
      rw [Option.bind_some]
      rw [mul6 (by omega)]
      rw [Option.bind_some]
      rw [mul6 (by omega)]
      rw [Option.bind_some]
      rw [inv_succ 6 x]
  · have e : invE l x = 0 := if_neg hx
    rw [if_neg hx, e, zero_pair]
end Go.Proofs.Ytmibjgjgfombaaa.Br
end

section
/- The element of a bit, and the bits of an element, in the document's words. Conditions: none but the elements' kinds. -/
set_option linter.unusedVariables false
namespace Go.Proofs.Ytmibjgjgfombaaa.Br
open Go.RowKit Go.Proofs.YtmibjgjgfombaaaT Go.Proofs.Ytmibjgjgfombaaa.P Go.Proofs.YtmibjgjgfombaaaW.PrintWords Go.Proofs.YtmibjgjgfombaaaW.PrintLast Go.Proofs.YtmibjgjgfombaaaW.PrintMore
theorem refBit_ev (n : Int) : Ev (fun k => steepleref02_Bit.f k n) (hiW (bitE n), loW (bitE n)) := by
  unfold steepleref02_Bit.f
  by_cases h0 : n < 0
  · refine Ev.pos h0 (Ev.succ ?_)
    simp only [steepleref02_Bit.j0]
    rw [bitE_none (.inl h0), hi_zero, lo_zero]
    exact Ev.now _
  · refine Ev.neg h0 (Ev.succ ?_)
    simp only [steepleref02_Bit.j0]
    by_cases h7 : n > 127
    · refine Ev.pos (by simpa using h7) ?_
      rw [bitE_none (.inr h7), hi_zero, lo_zero]
      exact Ev.now _
    · refine Ev.neg (by simpa using h7) ?_
      obtain ⟨j, rfl⟩ := Int.eq_ofNat_of_zero_le (by omega : 0 ≤ n)
      by_cases h6 : j < 64
      · refine Ev.neg (by omega) ?_
        rw [u64_cast (by omega), (bitE_lo h6).1, (bitE_lo h6).2, shl_one h6]
        exact Ev.pos (by omega) (Ev.now _)
      · obtain ⟨m, rfl⟩ : ∃ m, j = m + 64 := ⟨j - 64, by omega⟩
        refine Ev.pos (by omega) ?_
        rw [wrap_sub64 (by omega) (by omega), Nat.add_sub_cancel, u64_cast (by omega), (bitE_hi (by omega)).1, (bitE_hi (by omega)).2, shl_one (by omega)]
        exact Ev.pos (by omega) (Ev.now _)
theorem refHas_ev (x : T 7) (n : Int) : Ev (fun k => steepleref02_Has.f k (hiW x) (loW x) n) (hasE x n) := by
  unfold steepleref02_Has.f
  refine Ev.bind (refBit_ev n) ?_
  by_cases h : 0 ≤ n ∧ n ≤ 127
  · obtain ⟨j, rfl⟩ := Int.eq_ofNat_of_zero_le h.1
    have e : hasE x (j : Int) = (enc 7 x).testBit j := by
      unfold hasE
      rw [if_pos h, Int.toNat_natCast]
    rw [e, ← has_words x (by omega)]
    exact Ev.now _
  · have e : hasE x n = false := if_neg h
    rw [e, ← has_none x (n := n) (by omega)]
    exact Ev.now _
end Go.Proofs.Ytmibjgjgfombaaa.Br
end

section
/- Which elements are of a level, in the document's words. Conditions: none but the elements' kinds. -/
set_option linter.unusedVariables false
namespace Go.Proofs.Ytmibjgjgfombaaa.Br
open Go.RowKit Go.Proofs.YtmibjgjgfombaaaT Go.Proofs.Ytmibjgjgfombaaa.P Go.Proofs.YtmibjgjgfombaaaW.PrintWords Go.Proofs.YtmibjgjgfombaaaW.PrintLast Go.Proofs.YtmibjgjgfombaaaW.PrintMore
theorem bit_f (x : T 7) {i : Nat} (h : i < 128) : steepleref01_bit.f (hiW x) (loW x) (i : Int) = some (((enc 7 x).testBit i).toNat : Int) := by
  unfold steepleref01_bit.f
  by_cases h6 : i < 64
  · rw [if_neg (by omega), u64_cast (by omega), if_pos (by omega), bits7_lo x h6]
    unfold loW
    rw [shr_u64 _ _ (by omega), and1_u64 _ (Nat.lt_of_le_of_lt (Nat.div_le_self _ _) (lt64 (by omega) _)), testBit_toNat]
  · rw [if_pos (by omega), wrap_sub64 (by omega) (by omega), u64_cast (by omega), if_pos (by omega), bits7_hi x (by omega)]
    unfold hiW
    rw [shr_u64 _ _ (by omega), and1_u64 _ (Nat.lt_of_le_of_lt (Nat.div_le_self _ _) (lt64 (by omega) _)), testBit_toNat]
theorem lt_of_bits {a n : Nat} (h : ∀ i, n ≤ i → a.testBit i = false) : a < 2 ^ n := Nat.lt_pow_two_of_testBit a h
theorem refOf_l0 (x : T 7) : ∀ d i : Nat, i + d = 128 → Ev (fun k => steepleref01_Of.l0 k (i : Int) (hiW x) (loW x)) (decide (enc 7 x < 2 ^ i))
  | 0, i, h => by
    refine Ev.succ ?_
    simp only [steepleref01_Of.l0]
    refine Ev.neg (by omega) ?_
    obtain rfl : i = 128 := by omega
    rw [decide_eq_true (show enc 7 x < 2 ^ 128 from enc_lt 7 x)]
    exact Ev.now _
  | d + 1, i, h => by
    refine Ev.succ ?_
    simp only [steepleref01_Of.l0]
    refine Ev.pos (by omega) ?_
    refine Ev.bind (Ev.const (bit_f x (by omega))) ?_
    cases hb : (enc 7 x).testBit i with
    | true =>
      refine Ev.pos rfl ?_
      have := Nat.ge_two_pow_of_testBit hb
      rw [decide_eq_false (by omega)]
      exact Ev.now _
    | false =>
      refine Ev.neg (by decide) ?_
      rw [wrap_succ i (by omega)]
      have e : decide (enc 7 x < 2 ^ i) = decide (enc 7 x < 2 ^ (i + 1)) := by
        rw [Bool.eq_iff_iff, decide_eq_true_eq, decide_eq_true_eq]
        constructor
        · intro h'
          exact Nat.lt_trans h' (Nat.pow_lt_pow_right (by decide) (by omega))
        · intro h'
          refine lt_of_bits fun m hm => ?_
          by_cases e : m = i
          · rw [e, hb]
          · exact Nat.testBit_lt_two_pow (Nat.lt_of_lt_of_le h' (Nat.pow_le_pow_right (by decide) (by omega)))
      rw [e]
      exact refOf_l0 x d (i + 1) (by omega)
theorem refOf_ev (l : Int) (x : T 7) : Ev (fun k => steepleref01_Of.f k l (hiW x) (loW x)) (ofB l x) := by
  unfold steepleref01_Of.f
  refine Ev.bind (Ev.now _) ?_
  have none : l < 0 ∨ l > 7 → ofB l x = false := fun h => by unfold ofB; rw [decide_eq_false_iff_not]; omega
  by_cases h0 : l < 0
  · refine Ev.pos h0 (Ev.succ ?_)
    simp only [steepleref01_Of.j0]
    rw [none (.inl h0)]
    exact Ev.now _
  · refine Ev.neg h0 (Ev.succ ?_)
    simp only [steepleref01_Of.j0]
    by_cases h7 : l > 7
    · refine Ev.pos (by simpa using h7) ?_
      rw [none (.inr h7)]
      exact Ev.now _
    · refine Ev.neg (by simpa using h7) (Ev.pos (by omega) (Ev.pos (show l < 8 by omega) ?_))
      obtain ⟨j, rfl⟩ := Int.eq_ofNat_of_zero_le (by omega : 0 ≤ l)
      have hj : j ≤ 7 := by omega
      have e : rd [1, 2, 4, 8, 16, 32, 64, 128] (j : Int) = ((2 ^ j : Nat) : Int) := by
        have : ∀ j : Nat, j < 8 → rd [1, 2, 4, 8, 16, 32, 64, 128] (j : Int) = ((2 ^ j : Nat) : Int) := by decide
        exact this j (by omega)
      rw [e]
      have e2 : ofB (j : Int) x = decide (enc 7 x < 2 ^ 2 ^ j) := by
        unfold ofB
        rw [Bool.eq_iff_iff, decide_eq_true_eq, decide_eq_true_eq, Int.toNat_natCast]
        exact ⟨fun h => h.2.2, fun h => ⟨by omega, by omega, h⟩⟩
      rw [e2]
      have hp : 2 ^ j ≤ 2 ^ 7 := Nat.pow_le_pow_right (by decide) hj
      exact refOf_l0 x (128 - 2 ^ j) (2 ^ j) (by omega)
end Go.Proofs.Ytmibjgjgfombaaa.Br
end

section
/- The document's product is the tower's. Conditions: none but the elements' kinds. -/
set_option linter.unusedVariables false
namespace Go.Proofs.Ytmibjgjgfombaaa.Br
open Go.RowKit Go.Proofs.YtmibjgjgfombaaaT Go.Proofs.Ytmibjgjgfombaaa.P Go.Proofs.YtmibjgjgfombaaaW.PrintWords Go.Proofs.YtmibjgjgfombaaaW.PrintLast Go.Proofs.YtmibjgjgfombaaaW.PrintMore
theorem refAdd_f (x y : T 7) : steepleref02_Add.f (hiW x) (loW x) (hiW y) (loW y) = some (hiW (x + y), loW (x + y)) := by
  unfold steepleref02_Add.f hiW loW
  rw [xor6, xor6]
  rfl
/-! The document's product. -/
def maskN : Nat → Nat
  | 0 => 0x5555555555555555
  | 1 => 0x3333333333333333
  | 2 => 0x0f0f0f0f0f0f0f0f
  | 3 => 0x00ff00ff00ff00ff
  | 4 => 0x0000ffff0000ffff
  | _ => 0x00000000ffffffff
theorem mask_bits : ∀ n : Nat, n < 6 → ∀ i : Nat, i < 64 → (maskN n).testBit i = !i.testBit n := by decide +kernel
theorem mask_lt : ∀ n : Nat, n < 6 → maskN n < 2 ^ 64 := by decide
theorem mask_f {n : Nat} (h : n < 6) : steepleref02_mask.f (n : Int) = some (maskN n : Int) := by
  have : ∀ n : Nat, n < 6 → steepleref02_mask.f (n : Int) = some (maskN n : Int) := by decide
  exact this n h
theorem tb_big {a i : Nat} (ha : a < 2 ^ 64) (hi : 64 ≤ i) : a.testBit i = false := Nat.testBit_lt_two_pow (Nat.lt_of_lt_of_le ha (Nat.pow_le_pow_right (by decide) hi))
theorem times_f : ∀ (n fuel : Nat), n ≤ 6 → n + 1 ≤ fuel → ∀ v : Nat, v < 2 ^ 64 → ∃ w : Nat, steepleref02_timesWord.f fuel ((n : Int) - 1) (v : Int) = some (w : Int) ∧ w < 2 ^ 64 ∧ ∀ i, i < 64 → w.testBit i = TB n v.testBit i
  | 0, f + 1, _, _, v, hv => ⟨v, by rw [steepleref02_timesWord.f, if_pos (by omega)], hv, fun _ _ => rfl⟩
  | n + 1, f + 1, h, hf, v, hv => by
    have hn : n < 6 := by omega
    have hm := mask_lt n hn
    have e0 : ((n + 1 : Nat) : Int) - 1 = (n : Int) := by omega
    have hp : 2 ^ n ≤ 32 := Nat.pow_le_pow_right (n := 2) (by decide) (show n ≤ 5 by omega)
    have hpp : 0 < 2 ^ n := Nat.two_pow_pos n
    have hhi : v / 2 ^ 2 ^ n &&& maskN n < 2 ^ 64 := Nat.and_lt_two_pow _ hm
    have hlo : v &&& maskN n < 2 ^ 64 := Nat.and_lt_two_pow _ hm
    obtain ⟨w, hw, hwl, hwb⟩ := times_f n f (by omega) (by omega) (v / 2 ^ 2 ^ n &&& maskN n) hhi
    have hx : (v &&& maskN n) ^^^ w < 2 ^ 64 := Nat.xor_lt_two_pow hlo hwl
    have bhi : ∀ i, (v / 2 ^ 2 ^ n &&& maskN n).testBit i = hiB n v.testBit i := fun i => by
      rw [Nat.testBit_and, ← Nat.shiftRight_eq_div_pow, Nat.testBit_shiftRight]
      unfold hiB
      by_cases hi : i < 64
      · rw [mask_bits n hn i hi, Nat.add_comm]
      · rw [tb_big hv (by omega), tb_big hv (show 64 ≤ i + 2 ^ n by omega), Bool.false_and, Bool.false_and]
    have blo : ∀ i, (v &&& maskN n).testBit i = (v.testBit i && !i.testBit n) := fun i => by
      rw [Nat.testBit_and]
      by_cases hi : i < 64
      · rw [mask_bits n hn i hi]
      · rw [tb_big hv (by omega), Bool.false_and, Bool.false_and]
    refine ⟨(((v &&& maskN n) ^^^ w) * 2 ^ 2 ^ n) % 2 ^ 64 ||| (v / 2 ^ 2 ^ n &&& maskN n), ?_, Nat.or_lt_two_pow (Nat.mod_lt _ (Nat.two_pow_pos _)) hhi, ?_⟩
    · rw [steepleref02_timesWord.f, e0, if_neg (by omega), u64_cast (by omega), if_pos (by omega), mask_f hn, Option.bind_some, Option.bind_some, shl1_u64 n (by omega), shr_u64 _ _ (by omega), bits_and _ _ (Nat.lt_of_le_of_lt (Nat.div_le_self _ _) hv) hm,
        show wrap64 ((n : Int) - 1) = (n : Int) - 1 by unfold wrap64; omega, hw, Option.bind_some, bits_and _ _ hv hm, bits_xor _ _ hlo hwl]
      have e1 : shl .u64 (((v &&& maskN n) ^^^ w : Nat) : Int) ((2 ^ n : Nat) : Int) = (((((v &&& maskN n) ^^^ w) * 2 ^ 2 ^ n) % 2 ^ 64 : Nat) : Int) := by
        unfold shl
        rw [Int.toNat_natCast, show IntKind.u64.bits = 64 from rfl, Nat.min_eq_left (by omega)]
        have : ((((v &&& maskN n) ^^^ w : Nat) : Int) * 2 ^ 2 ^ n) = ((((v &&& maskN n) ^^^ w) * 2 ^ 2 ^ n : Nat) : Int) := by rw [Int.natCast_mul, Int.natCast_pow]; rfl
        rw [this]
        simp [IntKind.wrap, IntKind.bits, IntKind.signed]
      rw [e1, bits_or _ _ (Nat.mod_lt _ (Nat.two_pow_pos _)) hhi]
    · intro i hi
      have hz : ∀ m, m.testBit n = true → hiB n v.testBit m = false := fun m hm => by unfold hiB; rw [hm]; simp
      rw [Nat.testBit_or, Nat.testBit_mod_two_pow, decide_eq_true hi, Bool.true_and, bhi]
      have esh : ∀ a : Nat, (a * 2 ^ 2 ^ n).testBit i = (decide (2 ^ n ≤ i) && a.testBit (i - 2 ^ n)) := fun a => by
        rw [← Nat.shiftLeft_eq, Nat.testBit_shiftLeft]
      rw [esh, Nat.testBit_xor, blo]
      show _ = if i.testBit n = true then Bool.xor (v.testBit (i - 2 ^ n)) (TB n (hiB n v.testBit) (i - 2 ^ n)) else v.testBit (i + 2 ^ n)
      have ew : ∀ m, m < 64 → w.testBit m = TB n (hiB n v.testBit) m := fun m hm => by
        rw [hwb m hm]
        congr 1
        exact funext bhi
      cases hb : i.testBit n with
      | true =>
        rw [if_pos rfl, hz i hb, Bool.or_false, decide_eq_true (Nat.ge_two_pow_of_testBit hb), Bool.true_and, bit_sub_self hb, ew _ (by omega)]
        simp
      | false =>
        rw [if_neg (by decide)]
        have : (decide (2 ^ n ≤ i) && Bool.xor (v.testBit (i - 2 ^ n) && !(i - 2 ^ n).testBit n) (w.testBit (i - 2 ^ n))) = false := by
          by_cases hle : 2 ^ n ≤ i
          · have hc := bit_sub_clear hb hle
            rw [hc, ew _ (by omega), TB_zero (Nat.le_refl n) hz _ hc]
            simp
          · rw [decide_eq_false hle, Bool.false_and]
        rw [this, Bool.false_or]
        unfold hiB
        rw [hb]
        simp
theorem dec_enc_bits {k : Nat} (x : T k) {w : Nat} (hw : w < 2 ^ 2 ^ k) (y : T k) (h : decB k 0 w.testBit = y) : w = enc k y := by
  rw [← h]
  exact (enc_dec_of_lt hw).symm
theorem timesWord_f {n fuel : Nat} (h : n ≤ 6) (hf : n + 1 ≤ fuel) (x : T 6) : steepleref02_timesWord.f fuel ((n : Int) - 1) (enc 6 x : Int) = some (enc 6 (x * emb 6 n (gen n)) : Int) := by
  obtain ⟨w, hw, hwl, hwb⟩ := times_f n fuel h hf (enc 6 x) (lt64 (by omega) x)
  rw [hw]
  have e : w = enc 6 (x * emb 6 n (gen n)) := by
    refine dec_enc_bits x hwl _ ?_
    have e1 : decB 6 0 w.testBit = decB 6 0 (TB n (enc 6 x).testBit) := decB_congr fun i hi => hwb _ (by rw [Nat.zero_add]; exact hi)
    have e2 := TB_mul n 6 0 (enc 6 x).testBit h
    rw [Nat.mul_zero] at e2
    rw [e1, e2]
    have e3 : decB 6 0 (enc 6 x).testBit = x := dec_enc x
    rw [e3]
  rw [e]
theorem mul_embhalf (x : T 7) {n : Nat} (h : n ≤ 6) (c : T n) : x * emb 7 n c = ((x.1 * emb 6 n c, x.2 * emb 6 n c) : T 6 × T 6) := by
  rw [emb_succ h, mul_lift]
theorem Times_ev {j : Nat} (h : j ≤ 6) (x : T 7) : Ev (fun k => steepleref02_Times.f k (j : Int) (hiW x) (loW x)) (hiW (x * emb 7 (j + 1) (gen (j + 1))), loW (x * emb 7 (j + 1) (gen (j + 1)))) := by
  refine Ev.from 20 fun k hk => ?_
  unfold steepleref02_Times.f hiW loW
  have t : ∀ (n : Nat) (y : T 6), n ≤ 5 → steepleref02_timesWord.f k (n : Int) (enc 6 y : Int) = some (enc 6 (y * emb 6 (n + 1) (gen (n + 1))) : Int) := fun n y hn => by
    have := timesWord_f (n := n + 1) (fuel := k) (by omega) (by omega) y
    rw [show ((n + 1 : Nat) : Int) - 1 = (n : Int) by omega] at this
    exact this
  by_cases h6 : j < 6
  · rw [if_pos (by omega), t j _ (by omega), Option.bind_some, t j _ (by omega), Option.bind_some, mul_embhalf x (by omega)]
  · obtain rfl : j = 6 := by omega
    have t5 : steepleref02_timesWord.f k 5 (enc 6 x.1 : Int) = some (enc 6 (x.1 * emb 6 6 (gen 6)) : Int) := t 5 _ (by omega)
    rw [if_neg (by omega), t5, Option.bind_some, xor6, emb_self, emb_self, mulgen x]
theorem and1_i64 (b : Nat) (h : b < 128) : Go.bits .and .i64 (b : Int) 1 = ((b % 2 : Nat) : Int) := by
  have : ∀ b : Nat, b < 128 → Go.bits .and .i64 (b : Int) 1 = ((b % 2 : Nat) : Int) := by decide +kernel
  exact this b h
theorem shr_i64 (m c : Nat) (hc : c ≤ 64) : shr .i64 (m : Int) (c : Int) = ((m / 2 ^ c : Nat) : Int) := by
  unfold shr
  rw [Int.toNat_natCast, show IntKind.i64.bits = 64 from rfl, Nat.min_eq_left hc, Int.natCast_ediv, Int.natCast_pow]
  rfl
theorem pg7_succ (n j : Nat) : (pg n (j + 1) : T 7) = if n.testBit j = true then pg n j * emb 7 (j + 1) (gen (j + 1)) else pg n j := (rfl)
theorem Prod_l (a b : T 7) : ∀ d n : Nat, n + d = 128 → ∀ out : T 7, Ev (fun k => steepleref02_Product.l0 k (n : Int) (hiW a) (loW a) (hiW b) (loW b) (hiW out) (loW out)) (hiW (out + a * (dec 7 (enc 7 b % 2 ^ n) + b)), loW (out + a * (dec 7 (enc 7 b % 2 ^ n) + b)))
  | 0, n, h, out => by
    refine Ev.succ ?_
    simp only [steepleref02_Product.l0]
    refine Ev.neg (by omega) ?_
    obtain rfl : n = 128 := by omega
    rw [Nat.mod_eq_of_lt (show enc 7 b < 2 ^ 128 from enc_lt 7 b), dec_enc, add_self, mul_zero, add_zero]
    exact Ev.now _
  | d + 1, n, h, out => by
    have nx := Prod_l a b d (n + 1) (by omega)
    refine Ev.succ ?_
    simp only [steepleref02_Product.l0]
    refine Ev.pos (by omega) ?_
    refine Ev.bind (refHas_ev b n) ?_
    rw [hasE_nat b (by omega)]
    have hd := dec_mod_succ 7 (enc 7 b) n
    cases hb : (enc 7 b).testBit n with
    | false =>
      rw [hb, if_neg (by decide), add_zero] at hd
      refine Ev.neg (by decide) ?_
      rw [wrap_succ n (by omega), ← hd]
      exact nx out
    | true =>
      rw [hb, if_pos rfl] at hd
      refine Ev.pos rfl ?_
      have inner : ∀ d' j : Nat, j + d' = 7 → Ev (fun k => steepleref02_Product.l1 k (n : Int) (j : Int) (hiW a) (loW a) (hiW b) (loW b) (hiW out) (loW out) (hiW (a * pg n j)) (loW (a * pg n j)))
          (hiW (out + a * (dec 7 (enc 7 b % 2 ^ n) + b)), loW (out + a * (dec 7 (enc 7 b % 2 ^ n) + b))) := by
        intro d'
        induction d' with
        | zero =>
          intro j hj
          refine Ev.succ ?_
          simp only [steepleref02_Product.l1]
          refine Ev.neg (by omega) ?_
          refine Ev.bind (Ev.const (refAdd_f _ _)) ?_
          rw [wrap_succ n (by omega)]
          obtain rfl : j = 7 := by omega
          have e : out + a * (dec 7 (enc 7 b % 2 ^ n) + b) = out + a * pg n 7 + a * (dec 7 (enc 7 b % 2 ^ (n + 1)) + b) := by
            rw [hd, ← dec_pow 7 n (show n < 128 by omega), add_assoc out, ← mul_add, ← add_assoc (dec 7 (2 ^ n)), ← add_assoc (dec 7 (2 ^ n)), add_comm (dec 7 (2 ^ n)), add_assoc (dec 7 (enc 7 b % 2 ^ n)), add_self, add_zero]
          rw [e]
          exact nx _
        | succ d' ih =>
          intro j hj
          refine Ev.succ ?_
          simp only [steepleref02_Product.l1]
          refine Ev.pos (by omega) ?_
          rw [u64_cast (by omega)]
          refine Ev.pos (by omega) ?_
          rw [shr_i64 _ _ (by omega), and1_i64 _ (Nat.lt_of_le_of_lt (Nat.div_le_self _ _) (by omega)), testBit_toNat, wrap_succ j (by omega)]
          have ihj := ih (j + 1) (by omega)
          rw [pg7_succ] at ihj
          cases hj2 : n.testBit j with
          | true =>
            rw [hj2, if_pos rfl, ← mul_assoc] at ihj
            refine Ev.pos rfl ?_
            refine Ev.bind (Times_ev (by omega) _) ?_
            exact ihj
          | false =>
            rw [hj2, if_neg (by decide)] at ihj
            refine Ev.neg (by decide) ?_
            exact ihj
      have := inner 7 0 (by omega)
      have e : a * pg n 0 = a := mul_one a
      rw [e] at this
      exact this
theorem Product_ev (a b : T 7) : Ev (fun k => steepleref02_Product.f k (hiW a) (loW a) (hiW b) (loW b)) (hiW (a * b), loW (a * b)) := by
  unfold steepleref02_Product.f
  have := Prod_l a b 128 0 (by omega) 0
  rw [Nat.pow_zero, Nat.mod_one, dec_zero, zero_add, zero_add, hi_zero, lo_zero] at this
  exact this
end Go.Proofs.Ytmibjgjgfombaaa.Br
end

section
/- The document's inverses. Conditions: small exponents. -/
set_option linter.unusedVariables false
namespace Go.Proofs.Ytmibjgjgfombaaa.Br
open Go.RowKit Go.Proofs.YtmibjgjgfombaaaT Go.Proofs.Ytmibjgjgfombaaa.P Go.Proofs.YtmibjgjgfombaaaW.PrintWords Go.Proofs.YtmibjgjgfombaaaW.PrintLast Go.Proofs.YtmibjgjgfombaaaW.PrintMore
/-- s squared i times, and the product of the squares up to there. -/
theorem refInv_l0 {j : Nat} (hj : j ≤ 7) (a : T 7) : ∀ d i : Nat, i + 1 + d = 2 ^ j → Ev (fun k => steepleref02_Inv.l0 k (j : Int) [1, 2, 4, 8, 16, 32, 64, 128] ((i + 1 : Nat) : Int) (hiW (powN a (2 ^ (i + 1) - 2))) (loW (powN a (2 ^ (i + 1) - 2))) (hiW (powN a (2 ^ i))) (loW (powN a (2 ^ i)))) (hiW (powN a (2 ^ 2 ^ j - 2)), loW (powN a (2 ^ 2 ^ j - 2)))
  | d, i, h => by
    have e : rd [1, 2, 4, 8, 16, 32, 64, 128] (j : Int) = ((2 ^ j : Nat) : Int) := by
      have : ∀ j : Nat, j < 8 → rd [1, 2, 4, 8, 16, 32, 64, 128] (j : Int) = ((2 ^ j : Nat) : Int) := by decide
      exact this j (by omega)
    have hp : 2 ^ j ≤ 2 ^ 7 := Nat.pow_le_pow_right (by decide) hj
    refine Ev.succ ?_
    simp only [steepleref02_Inv.l0]
    refine Ev.pos (by omega) (Ev.pos (show (j : Int) < 8 by omega) ?_)
    rw [e]
    match d with
    | 0 =>
      refine Ev.neg (by omega) ?_
      have : i + 1 = 2 ^ j := by omega
      rw [this]
      exact Ev.now _
    | d + 1 =>
      refine Ev.pos (by omega) ?_
      refine Ev.bind (Product_ev _ _) ?_
      have e1 : powN a (2 ^ i) * powN a (2 ^ i) = powN a (2 ^ (i + 1)) := by rw [← powN_add, Nat.pow_succ, Nat.mul_two]
      rw [e1]
      refine Ev.bind (Product_ev _ _) ?_
      have e2 : powN a (2 ^ (i + 1) - 2) * powN a (2 ^ (i + 1)) = powN a (2 ^ (i + 1 + 1) - 2) := by
        have : 2 ^ 1 ≤ 2 ^ (i + 1) := Nat.pow_le_pow_right (by decide) (by omega)
        rw [← powN_add]
        congr 1
        rw [Nat.pow_succ 2 (i + 1)]
        omega
      rw [e2, wrap_succ (i + 1) (by omega)]
      exact refInv_l0 hj a d (i + 1) (by omega)
theorem refInv_ev (l : Int) (x : T 7) : Ev (fun k => steepleref02_Inv.f k l (hiW x) (loW x)) (hiW (invE l x), loW (invE l x)) := by
  unfold steepleref02_Inv.f
  refine Ev.bind (refOf_ev l x) ?_
  by_cases hx : ofB l x = true
  · have e : invE l x = inv 7 x := if_pos hx
    refine Ev.pos hx ?_
    rw [e]
    obtain ⟨j, rfl, hj, hxj⟩ := ofB_iff.1 hx
    by_cases h0 : j = 0
    · subst h0
      refine Ev.pos rfl ?_
      obtain ⟨b, rfl⟩ := hxj.ex
      rw [← emb_inv hj]
      have : inv 0 b = b := (rfl)
      rw [this]
      exact Ev.now _
    · refine Ev.neg (by omega) ?_
      rcases inv_powN hj hxj with h | ⟨_, h⟩
      · rw [← h]
        have hp : 0 < 2 ^ j := Nat.two_pow_pos j
        have := refInv_l0 hj x (2 ^ j - 1) 0 (by omega)
        have e1 : powN x (2 ^ (0 + 1) - 2) = 1 := (rfl)
        have e2 : powN x (2 ^ 0) = x := one_mul x
        rw [e1, e2, hi_one, lo_one] at this
        exact this
      · exact absurd h h0
  · have e : invE l x = 0 := if_neg hx
    refine Ev.neg hx ?_
    rw [e, hi_zero, lo_zero]
    exact Ev.now _
end Go.Proofs.Ytmibjgjgfombaaa.Br
end
