/- The page's example of layer 17. Conditions: none. -/
import Derived.Test.YthnaalocgoeddaaBrAt
import Derived.Test.YthnaalocgoeddaaPx7
set_option linter.unusedVariables false
namespace Go.Proofs.Ythnaalocgoeddaa.Br
open Go.RowKit Go.Proofs.YthnaalocgoeddaaT Go.Proofs.Ythnaalocgoeddaa.P Go.Proofs.YthnaalocgoeddaaW.PrintWords Go.Proofs.YthnaalocgoeddaaW.PrintLast Go.Proofs.YthnaalocgoeddaaW.PrintMore
theorem awake_ev : Ev (fun k => steeplelaw17_awake.f k) true := Ev.of steeplelaw17_awake.mono (k := 60) (by decide +kernel)
end Go.Proofs.Ythnaalocgoeddaa.Br
