/- Sums of two elements. Conditions: none but the elements' kinds. -/
import Derived.Test.YthnaalocgoeddaaBrBits
import Derived.Test.YthnaalocgoeddaaPx5
set_option linter.unusedVariables false
namespace Go.Proofs.Ythnaalocgoeddaa.Br
open Go.RowKit Go.Proofs.YthnaalocgoeddaaT Go.Proofs.Ythnaalocgoeddaa.P Go.Proofs.YthnaalocgoeddaaW.PrintWords Go.Proofs.YthnaalocgoeddaaW.PrintLast Go.Proofs.YthnaalocgoeddaaW.PrintMore
theorem Add_f (x y : T 7) : tower_Add.f (hiW x) (loW x) (hiW y) (loW y) = some (hiW (x + y), loW (x + y)) := by
  unfold tower_Add.f hiW loW
  rw [xor6, xor6]
  rfl
end Go.Proofs.Ythnaalocgoeddaa.Br
