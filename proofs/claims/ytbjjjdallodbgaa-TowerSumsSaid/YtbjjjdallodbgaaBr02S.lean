/- The laws' own words of layer 2: the same element. Conditions: those that each theorem names. -/
import Derived.Test.YtbjjjdallodbgaaBrBits
import Derived.Test.YtbjjjdallodbgaaPx8
set_option linter.unusedVariables false
namespace Go.Proofs.Ytbjjjdallodbgaa.Br
open Go.RowKit Go.Proofs.YtbjjjdallodbgaaT Go.Proofs.Ytbjjjdallodbgaa.P Go.Proofs.YtbjjjdallodbgaaW.PrintWords Go.Proofs.YtbjjjdallodbgaaW.PrintLast Go.Proofs.YtbjjjdallodbgaaW.PrintMore
theorem refd (x : T 7) : steeplelaw02_ref.f (hiW x) (loW x) = some (hiW x, loW x) := (rfl)
theorem same_f {x y : T 7} (h : x = y) : steeplelaw02_same.f (hiW x) (loW x) (hiW y) (loW y) = some true := by
  subst h
  unfold steeplelaw02_same.f
  rw [refd, Option.bind_some, eq_pair rfl]
end Go.Proofs.Ytbjjjdallodbgaa.Br
