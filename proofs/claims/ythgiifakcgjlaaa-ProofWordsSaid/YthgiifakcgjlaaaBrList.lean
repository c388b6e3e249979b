/- Lists of elements as the code has them. Conditions: those that each theorem names. -/
import Derived.Test.YthgiifakcgjlaaaBrBits
import Derived.Test.YthgiifakcgjlaaaPx0
set_option linter.unusedVariables false
namespace Go.Proofs.Ythgiifakcgjlaaa.Br
open Go.RowKit Go.Proofs.YthgiifakcgjlaaaT Go.Proofs.Ythgiifakcgjlaaa.P Go.Proofs.YthgiifakcgjlaaaW.PrintWords Go.Proofs.YthgiifakcgjlaaaW.PrintLast Go.Proofs.YthgiifakcgjlaaaW.PrintMore
/-! Lists of elements. -/
end Go.Proofs.Ythgiifakcgjlaaa.Br
