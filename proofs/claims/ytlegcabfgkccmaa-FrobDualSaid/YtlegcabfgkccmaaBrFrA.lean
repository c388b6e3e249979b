/- The page's example of layer 33. Conditions: none. -/
import Derived.Test.YtlegcabfgkccmaaBrBits
import Derived.Test.YtlegcabfgkccmaaPx6
set_option linter.unusedVariables false
namespace Go.Proofs.Ytlegcabfgkccmaa.Br
open Go.RowKit Go.Proofs.YtlegcabfgkccmaaT Go.Proofs.Ytlegcabfgkccmaa.P Go.Proofs.YtlegcabfgkccmaaW.PrintWords Go.Proofs.YtlegcabfgkccmaaW.PrintLast Go.Proofs.YtlegcabfgkccmaaW.PrintMore
theorem awake_ev : Ev (fun k => steeplelaw33_awake.f k) true := Ev.of steeplelaw33_awake.mono (k := 60) (by decide +kernel)
end Go.Proofs.Ytlegcabfgkccmaa.Br
