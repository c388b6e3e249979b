/- The page's examples of layer 3. Conditions: none. -/
import Derived.Test.YtceneggampgboaaBrBits
import Derived.Test.YtceneggampgboaaHClone
import Derived.Test.YtceneggampgboaaPx5
set_option linter.unusedVariables false
namespace Go.Proofs.Ytceneggampgboaa.Br
open Go.RowKit Go.Proofs.YtceneggampgboaaT Go.Proofs.Ytceneggampgboaa.P Go.Proofs.YtceneggampgboaaW.PrintWords Go.Proofs.YtceneggampgboaaW.PrintLast Go.Proofs.YtceneggampgboaaW.PrintMore
theorem awake_ev : Ev (fun k => steeplelaw03_awake.f k) true := Ev.of steeplelaw03_awake.mono (k := 30) (by decide +kernel)
end Go.Proofs.Ytceneggampgboaa.Br
