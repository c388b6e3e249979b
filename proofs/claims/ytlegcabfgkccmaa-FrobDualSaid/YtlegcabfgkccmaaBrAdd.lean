/- Sums of two elements. Conditions: none but the elements' kinds. -/
import Derived.Test.YtlegcabfgkccmaaBrBits
import Derived.Test.YtlegcabfgkccmaaPx3
set_option linter.unusedVariables false
namespace Go.Proofs.Ytlegcabfgkccmaa.Br
open Go.RowKit Go.Proofs.YtlegcabfgkccmaaT Go.Proofs.Ytlegcabfgkccmaa.P Go.Proofs.YtlegcabfgkccmaaW.PrintWords Go.Proofs.YtlegcabfgkccmaaW.PrintLast Go.Proofs.YtlegcabfgkccmaaW.PrintMore
theorem Add_f (x y : T 7) : tower_Add.f (hiW x) (loW x) (hiW y) (loW y) = some (hiW (x + y), loW (x + y)) := by
  unfold tower_Add.f hiW loW
  rw [xor6, xor6]
  rfl
end Go.Proofs.Ytlegcabfgkccmaa.Br
