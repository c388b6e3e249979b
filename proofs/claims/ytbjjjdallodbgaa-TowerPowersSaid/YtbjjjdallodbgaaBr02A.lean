/- The page's examples of layer 2. Conditions: none. -/
import Derived.Test.YtbjjjdallodbgaaBrBits
import Derived.Test.YtbjjjdallodbgaaPx4
namespace Go.Proofs.Ytbjjjdallodbgaa.Br
open Go.RowKit Go.Proofs.Ytbjjjdallodbgaa.P Go.Proofs.YtbjjjdallodbgaaW.PrintWords Go.Proofs.YtbjjjdallodbgaaW.PrintLast Go.Proofs.YtbjjjdallodbgaaW.PrintMore
theorem awake_ev : Ev (fun k => steeplelaw02_awake.f k) true := Ev.of steeplelaw02_awake.mono (k := 30) (by decide +kernel)
end Go.Proofs.Ytbjjjdallodbgaa.Br
