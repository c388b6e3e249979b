/- Elements by their bits. Conditions: those that each theorem names. -/
import Derived.Test.YtlegcabfgkccmaaBrBits
set_option linter.unusedVariables false
namespace Go.Proofs.Ytlegcabfgkccmaa.Br
open Go.RowKit Go.Proofs.YtlegcabfgkccmaaT Go.Proofs.YtlegcabfgkccmaaW.PrintWords Go.Proofs.YtlegcabfgkccmaaW.PrintLast Go.Proofs.YtlegcabfgkccmaaW.PrintMore
theorem u64_cast {n : Nat} (h : n < 2 ^ 63) : IntKind.u64.wrap (n : Int) = n := wrap_u64 n (by omega)
theorem wrap_sub64 {n : Nat} (h0 : 64 ≤ n) (h : n < 2 ^ 62) : wrap64 ((n : Int) - 64) = ((n - 64 : Nat) : Int) := by unfold wrap64; omega
theorem testBit_toNat (a i : Nat) : a / 2 ^ i % 2 = (a.testBit i).toNat := by
  rw [Nat.testBit_eq_decide_div_mod_eq]
  rcases Nat.mod_two_eq_zero_or_one (a / 2 ^ i) with h | h <;> rw [h] <;> rfl
/-- The bits of an element of two words. -/
theorem bits7_lo (x : T 7) {i : Nat} (h : i < 64) : (enc 7 x).testBit i = (enc 6 x.2).testBit i := by
  rw [enc7, Nat.mul_comm, Nat.testBit_two_pow_mul_add _ (lt64 (k := 6) (by omega) x.2), if_pos h]
theorem bits7_hi (x : T 7) {i : Nat} (h : 64 ≤ i) : (enc 7 x).testBit i = (enc 6 x.1).testBit (i - 64) := by
  rw [enc7, Nat.mul_comm, Nat.testBit_two_pow_mul_add _ (lt64 (k := 6) (by omega) x.2), if_neg (by omega)]
/-- The element with one bit, or none. -/
def bitE (n : Int) : T 7 := if 0 ≤ n ∧ n ≤ 127 then dec 7 (2 ^ n.toNat) else 0
theorem dec7_lo {n : Nat} (h : n < 2 ^ 64) : dec 7 n = ((0, dec 6 n) : T 6 × T 6) := by
  rw [dec_succ]
  have : n / 2 ^ 2 ^ 6 = 0 := Nat.div_eq_of_lt h
  rw [this, dec_zero]
theorem pow_lt64 {n : Nat} (h : n < 64) : 2 ^ n < 2 ^ 64 := Nat.pow_lt_pow_right (by decide) h
theorem bitE_lo {n : Nat} (h : n < 64) : hiW (bitE (n : Int)) = 0 ∧ loW (bitE (n : Int)) = ((2 ^ n : Nat) : Int) := by
  have e : bitE (n : Int) = dec 7 (2 ^ n) := by
    unfold bitE
    rw [if_pos (by omega), Int.toNat_natCast]
  rw [e, dec7_lo (pow_lt64 h)]
  unfold hiW loW
  rw [enc_zero, enc_dec_of_lt (show 2 ^ n < 2 ^ 2 ^ 6 from pow_lt64 h)]
  exact ⟨rfl, rfl⟩
theorem bitE_hi {n : Nat} (h : n < 64) : hiW (bitE ((n + 64 : Nat) : Int)) = ((2 ^ n : Nat) : Int) ∧ loW (bitE ((n + 64 : Nat) : Int)) = 0 := by
  have e : bitE ((n + 64 : Nat) : Int) = dec 7 (2 ^ (n + 64)) := by
    unfold bitE
    rw [if_pos (by omega), Int.toNat_natCast]
  have e2 : dec 7 (2 ^ (n + 64)) = ((dec 6 (2 ^ n), 0) : T 6 × T 6) := by
    rw [dec_succ]
    have h1 : 2 ^ (n + 64) / 2 ^ 2 ^ 6 = 2 ^ n := by
      rw [Nat.pow_add]
      exact Nat.mul_div_cancel _ (Nat.two_pow_pos _)
    have h2 : dec 6 (2 ^ (n + 64)) = 0 := by
      rw [← dec_mod, Nat.pow_add]
      have : 2 ^ n * 2 ^ 64 % 2 ^ 2 ^ 6 = 0 := Nat.mul_mod_left _ _
      rw [this, dec_zero]
    rw [h1, h2]
  rw [e, e2]
  unfold hiW loW
  rw [enc_zero, enc_dec_of_lt (show 2 ^ n < 2 ^ 2 ^ 6 from pow_lt64 h)]
  exact ⟨rfl, rfl⟩
theorem shl_one {n : Nat} (h : n < 64) : shl .u64 1 (n : Int) = ((2 ^ n : Nat) : Int) := by
  have := shl_u64 1 n (by omega) (by rw [Nat.one_mul]; exact pow_lt64 h)
  rw [Nat.one_mul] at this
  exact this
theorem bitE_none {n : Int} (h : n < 0 ∨ n > 127) : bitE n = 0 := if_neg (by omega)
theorem and_pow (a i : Nat) : a &&& 2 ^ i = (a.testBit i).toNat * 2 ^ i := by
  apply Nat.eq_of_testBit_eq
  intro m
  rw [Nat.testBit_and, Nat.testBit_two_pow]
  by_cases h : i = m
  · subst h
    rw [decide_eq_true rfl, Bool.and_true]
    cases hb : a.testBit i with
    | false => rw [show Bool.toNat false = 0 from rfl, Nat.zero_mul, Nat.zero_testBit]
    | true => rw [show Bool.toNat true = 1 from rfl, Nat.one_mul, Nat.testBit_two_pow_self]
  · rw [decide_eq_false h, Bool.and_false]
    cases hb : a.testBit i with
    | false => rw [show Bool.toNat false = 0 from rfl, Nat.zero_mul, Nat.zero_testBit]
    | true => rw [show Bool.toNat true = 1 from rfl, Nat.one_mul, Nat.testBit_two_pow_of_ne h]
theorem bits_and_pow (a i : Nat) (ha : a < 2 ^ 64) (hi : i < 64) : Go.bits .and .u64 (a : Int) ((2 ^ i : Nat) : Int) = (((a.testBit i).toNat * 2 ^ i : Nat) : Int) := by
  rw [bits_and _ _ ha (pow_lt64 hi), and_pow]
theorem bits_and_zero (a : Nat) (ha : a < 2 ^ 64) : Go.bits .and .u64 (a : Int) 0 = 0 := by
  have := bits_and a 0 ha (by decide)
  rw [Nat.and_zero] at this
  exact this
theorem or_zero_r (a : Nat) (ha : a < 2 ^ 64) : Go.bits .or .u64 (a : Int) 0 = a := by
  have := bits_or a 0 ha (by decide)
  rw [Nat.or_zero] at this
  exact this
theorem or_zero_l (a : Nat) (ha : a < 2 ^ 64) : Go.bits .or .u64 0 (a : Int) = a := by
  have := bits_or 0 a (by decide) ha
  rw [Nat.zero_or] at this
  exact this
theorem bit_ne (b : Bool) (i : Nat) : (((b.toNat * 2 ^ i : Nat) : Int) != 0) = b := by
  have := Nat.two_pow_pos i
  cases b with
  | false => rw [show Bool.toNat false = 0 from rfl, Nat.zero_mul]; rfl
  | true =>
    rw [show Bool.toNat true = 1 from rfl, Nat.one_mul, bne_iff_ne]
    omega
theorem bit_le (b : Bool) {i : Nat} (h : i < 64) : b.toNat * 2 ^ i < 2 ^ 64 := by
  have := pow_lt64 h
  cases b with
  | false => rw [show Bool.toNat false = 0 from rfl, Nat.zero_mul]; exact Nat.two_pow_pos _
  | true => rw [show Bool.toNat true = 1 from rfl, Nat.one_mul]; exact this
theorem has_words (x : T 7) {n : Nat} (h : n < 128) : (Go.bits .or .u64 (Go.bits .and .u64 (loW x) (loW (bitE (n : Int)))) (Go.bits .and .u64 (hiW x) (hiW (bitE (n : Int)))) != 0) = (enc 7 x).testBit n := by
  by_cases h6 : n < 64
  · rw [(bitE_lo h6).1, (bitE_lo h6).2, bits7_lo x h6]
    unfold hiW loW
    rw [bits_and_zero _ (lt64 (by omega) _), bits_and_pow _ _ (lt64 (by omega) _) h6, or_zero_r _ (bit_le _ h6), bit_ne]
  · obtain ⟨m, rfl⟩ : ∃ m, n = m + 64 := ⟨n - 64, by omega⟩
    rw [(bitE_hi (by omega)).1, (bitE_hi (by omega)).2, bits7_hi x (by omega), Nat.add_sub_cancel]
    unfold hiW loW
    rw [bits_and_zero _ (lt64 (by omega) _), bits_and_pow _ _ (lt64 (by omega) _) (by omega), or_zero_l _ (bit_le _ (by omega)), bit_ne]
theorem has_none (x : T 7) {n : Int} (h : n < 0 ∨ n > 127) : (Go.bits .or .u64 (Go.bits .and .u64 (loW x) (loW (bitE n))) (Go.bits .and .u64 (hiW x) (hiW (bitE n))) != 0) = false := by
  rw [bitE_none h, hi_zero, lo_zero]
  unfold hiW loW
  rw [bits_and_zero _ (lt64 (by omega) _), bits_and_zero _ (lt64 (by omega) _)]
  decide
def hasE (x : T 7) (n : Int) : Bool := if 0 ≤ n ∧ n ≤ 127 then (enc 7 x).testBit n.toNat else false
theorem hasE_nat (x : T 7) {n : Nat} (h : n < 128) : hasE x (n : Int) = (enc 7 x).testBit n := by
  unfold hasE
  rw [if_pos (by omega), Int.toNat_natCast]
theorem gen_enc : ∀ j : Nat, enc (j + 1) (gen (j + 1)) = 2 ^ 2 ^ j := fun j => by
  show enc j 1 * 2 ^ 2 ^ j + enc j 0 = _
  rw [enc_one, enc_zero, Nat.one_mul, Nat.add_zero]
theorem X7_bit {j : Nat} (h : j ≤ 6) : X7 ((j + 1 : Nat) : Int) = bitE ((2 ^ j : Nat) : Int) := by
  have hp : 2 ^ j ≤ 2 ^ 6 := Nat.pow_le_pow_right (by decide) h
  have hpp := Nat.two_pow_pos j
  unfold X7 bitE
  rw [if_pos (by omega), if_pos (by omega), Int.toNat_natCast, Int.toNat_natCast]
  unfold emb
  rw [gen_enc]
theorem X7_zero : X7 0 = bitE 0 := by
  have e1 : X7 0 = emb 7 0 1 := if_pos (by omega)
  have e2 : bitE 0 = dec 7 1 := if_pos (by omega)
  rw [e1, e2, emb_one, dec_one]
theorem X7_none {l : Int} (h : l < 0 ∨ l > 7) : X7 l = 0 := if_neg (by omega)
end Go.Proofs.Ytlegcabfgkccmaa.Br
