/- Halves: an element whose trace over level 0 is 0 is the sum of a square and its root. Conditions: those that each theorem names. -/
import Derived.Test.YtlegcabfgkccmaaFrM
set_option linter.unusedVariables false
namespace Go.Proofs.YtlegcabfgkccmaaT
theorem half_ex : ∀ {k : Nat} (a : T k), tr k a = false → ∃ x : T k, x * x + x = a
  | 0, a, h => ⟨0, by
      have : a = false := h
      rw [this]
      rfl⟩
  | k + 1, a, h => by
    have h1 : tr k (a.1 * gen k) = false := h
    obtain ⟨y, hy⟩ := half_ex (a.1 * gen k) h1
    obtain ⟨g, hg, ht⟩ := gen_has_inv k
    have key : ∀ z : T k, z * z + z = a.1 * gen k → z * g * (z * g) * gen k + z * g = a.1 := fun z hz => by
      have e1 : z * g * (z * g) * gen k = z * z * g * (gen k * g) := by ac_rfl
      rw [e1, hg, mul_one, ← add_mul, hz, mul_assoc, hg, mul_one]
    have main : ∀ z : T k, z * z + z = a.1 * gen k → tr k (a.2 + z * g * (z * g)) = false → ∃ x : T (k + 1), x * x + x = a := fun z hz hq => by
      obtain ⟨x0, hx0⟩ := half_ex (a.2 + z * g * (z * g)) hq
      refine ⟨((z * g, x0) : T k × T k), ext2 ?_ ?_⟩
      · show z * g * (z * g) * gen k + z * g * x0 + x0 * (z * g) + z * g = a.1
        rw [mul_comm x0, add_assoc (z * g * (z * g) * gen k), add_self, add_zero, key z hz]
      · show x0 * x0 + z * g * (z * g) + x0 = a.2
        have e2 : x0 * x0 + z * g * (z * g) + x0 = (x0 * x0 + x0) + z * g * (z * g) := by ac_rfl
        rw [e2, hx0, add_assoc, add_self, add_zero]
    cases hq : tr k (a.2 + y * g * (y * g)) with
    | false => exact main y hy hq
    | true =>
      refine main (y + 1) ?_ ?_
      · rw [sq_add, mul_one]
        have e3 : y * y + 1 + (y + 1) = (y * y + y) + (1 + 1) := by ac_rfl
        rw [e3, add_self, add_zero, hy]
      · have e4 : (y + 1) * g * ((y + 1) * g) = y * g * (y * g) + g * g := by
          rw [add_mul, one_mul, sq_add]
        rw [e4, ← add_assoc, tr_add, hq, tr_sq, ht]
        rfl
theorem half_tr {k : Nat} (x : T k) : tr k (x * x + x) = false := by
  rw [tr_add, tr_sq, Bool.xor_self]
end Go.Proofs.YtlegcabfgkccmaaT
