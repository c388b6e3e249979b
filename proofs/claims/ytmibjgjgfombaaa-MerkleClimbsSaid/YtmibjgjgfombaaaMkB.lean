/- Paths among rows of digests (layer 12). Conditions: those that each theorem names. -/
import Derived.Test.YtmibjgjgfombaaaHRows
import Derived.Test.YtmibjgjgfombaaaMkFew
import Derived.Test.YtmibjgjgfombaaaPx5
import Derived.Test.YtmibjgjgfombaaaPx6
set_option linter.unusedVariables false
set_option linter.unusedSimpArgs false
namespace Go.Proofs.Ytmibjgjgfombaaa.Br
open Go.RowKit Go.Proofs.YtmibjgjgfombaaaX Go.Proofs.Ytmibjgjgfombaaa.P Go.Proofs.YtmibjgjgfombaaaW.PrintWords Go.Proofs.YtmibjgjgfombaaaW.PrintLast
theorem shl1 : ∀ j : Nat, j < 13 → shl .i64 1 (j : Int) = ((2 ^ j : Nat) : Int) := by decide +kernel
theorem half_wrap (n : Nat) (h : n < 2 ^ 60) : wrap64 (Int.tdiv (n : Int) 2) = ((n / 2 : Nat) : Int) := by
  rw [Int.tdiv_eq_ediv_of_nonneg (by omega)]
  unfold wrap64
  omega
/-! Tops. -/
theorem pow_le12 {n : Nat} (h : n ≤ 12) : 2 ^ n ≤ 4096 := Nat.pow_le_pow_right (by decide) h
/-! Heights. -/
end Go.Proofs.Ytmibjgjgfombaaa.Br
