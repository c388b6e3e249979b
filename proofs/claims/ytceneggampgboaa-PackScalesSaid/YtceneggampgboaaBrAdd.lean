/- Sums of two elements. Conditions: none but the elements' kinds. -/
import Derived.Test.YtceneggampgboaaBrBits
import Derived.Test.YtceneggampgboaaPx20
set_option linter.unusedVariables false
namespace Go.Proofs.Ytceneggampgboaa.Br
open Go.RowKit Go.Proofs.YtceneggampgboaaT Go.Proofs.Ytceneggampgboaa.P Go.Proofs.YtceneggampgboaaW.PrintWords Go.Proofs.YtceneggampgboaaW.PrintLast Go.Proofs.YtceneggampgboaaW.PrintMore
theorem Add_f (x y : T 7) : tower_Add.f (hiW x) (loW x) (hiW y) (loW y) = some (hiW (x + y), loW (x + y)) := by
  unfold tower_Add.f hiW loW
  rw [xor6, xor6]
  rfl
end Go.Proofs.Ytceneggampgboaa.Br
