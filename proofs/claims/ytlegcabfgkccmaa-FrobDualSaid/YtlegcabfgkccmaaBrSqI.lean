/- The inner squares of the code are the tower's. Conditions: as the products'. -/
import Derived.Test.YtlegcabfgkccmaaBrMul
import Derived.Test.YtlegcabfgkccmaaPx3
set_option linter.unusedVariables false
namespace Go.Proofs.Ytlegcabfgkccmaa.Br
open Go.RowKit Go.Proofs.YtlegcabfgkccmaaT Go.Proofs.Ytlegcabfgkccmaa.P Go.Proofs.YtlegcabfgkccmaaW.PrintWords Go.Proofs.YtlegcabfgkccmaaW.PrintLast Go.Proofs.YtlegcabfgkccmaaW.PrintMore
theorem square_f : ∀ (k fuel : Nat), k ≤ 6 → k + 2 ≤ fuel → ∀ x : T k, tower_square.f fuel (k : Int) (enc k x : Int) = some (enc k (x * x) : Int)
  | 0, f + 1, _, _, x => by
    rw [tower_square.f, if_pos (by rfl)]
    have : x * x = x := by cases x <;> rfl
    rw [this]
  | k + 1, f + 1, h, hf, x => by
    rw [tower_square.f, if_neg (by omega), halves_f (by omega)]
    simp only [Option.bind_some]
    rw [wrap_pred k (by omega), square_f k f (by omega) (by omega)]
    simp only [Option.bind_some]
    rw [mulX_f k f (by omega) (by omega)]
    simp only [Option.bind_some]
    rw [square_f k f (by omega) (by omega)]
    simp only [Option.bind_some]
    rw [xor_f (by omega), join_f (by omega)]
    simp only [Option.bind_some]
    have : x * x = ((x.1 * x.1 * gen k, x.2 * x.2 + x.1 * x.1) : T k × T k) := by
      refine ext2 ?_ rfl
      show x.1 * x.1 * gen k + x.1 * x.2 + x.2 * x.1 = x.1 * x.1 * gen k
      rw [mul_comm x.2, add_assoc, add_self, add_zero]
    rw [this]
theorem square6 {k : Nat} (hk : 14 ≤ k) (x : T 6) : tower_square.f k 6 (enc 6 x : Int) = some (enc 6 (x * x) : Int) := square_f 6 k (by omega) (by omega) x
end Go.Proofs.Ytlegcabfgkccmaa.Br
