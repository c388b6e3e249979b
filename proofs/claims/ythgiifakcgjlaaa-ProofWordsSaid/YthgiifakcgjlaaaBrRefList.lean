/- Lists of elements in the document's type. Conditions: lists are short. -/
import Derived.Test.YthgiifakcgjlaaaBrList
import Derived.Test.YthgiifakcgjlaaaPx23
set_option linter.unusedVariables false
namespace Go.Proofs.Ythgiifakcgjlaaa.Br
open Go.RowKit Go.Proofs.YthgiifakcgjlaaaT Go.Proofs.Ythgiifakcgjlaaa.P Go.Proofs.YthgiifakcgjlaaaW.PrintWords Go.Proofs.YthgiifakcgjlaaaW.PrintLast Go.Proofs.YthgiifakcgjlaaaW.PrintMore
/-! Elements in the document's own type. -/
end Go.Proofs.Ythgiifakcgjlaaa.Br
