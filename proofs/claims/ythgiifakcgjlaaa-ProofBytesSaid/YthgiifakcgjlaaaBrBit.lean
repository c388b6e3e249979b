/- Elements by their bits. Conditions: those that each theorem names. -/
import Derived.Test.YthgiifakcgjlaaaBrBits
set_option linter.unusedVariables false
namespace Go.Proofs.Ythgiifakcgjlaaa.Br
open Go.RowKit Go.Proofs.YthgiifakcgjlaaaT Go.Proofs.YthgiifakcgjlaaaW.PrintWords Go.Proofs.YthgiifakcgjlaaaW.PrintLast Go.Proofs.YthgiifakcgjlaaaW.PrintMore
theorem u64_cast {n : Nat} (h : n < 2 ^ 63) : IntKind.u64.wrap (n : Int) = n := wrap_u64 n (by omega)
theorem wrap_sub64 {n : Nat} (h0 : 64 ≤ n) (h : n < 2 ^ 62) : wrap64 ((n : Int) - 64) = ((n - 64 : Nat) : Int) := by unfold wrap64; omega
theorem testBit_toNat (a i : Nat) : a / 2 ^ i % 2 = (a.testBit i).toNat := by
  rw [Nat.testBit_eq_decide_div_mod_eq]
  rcases Nat.mod_two_eq_zero_or_one (a / 2 ^ i) with h | h <;> rw [h] <;> rfl
/-- The bits of an element of two words. -/
theorem bits7_lo (x : T 7) {i : Nat} (h : i < 64) : (enc 7 x).testBit i = (enc 6 x.2).testBit i := by
  rw [enc7, Nat.mul_comm, Nat.testBit_two_pow_mul_add _ (lt64 (k := 6) (by omega) x.2), if_pos h]
theorem bits7_hi (x : T 7) {i : Nat} (h : 64 ≤ i) : (enc 7 x).testBit i = (enc 6 x.1).testBit (i - 64) := by
  rw [enc7, Nat.mul_comm, Nat.testBit_two_pow_mul_add _ (lt64 (k := 6) (by omega) x.2), if_neg (by omega)]
end Go.Proofs.Ythgiifakcgjlaaa.Br
