/- The bytes of an element of a level (octet.Elem). Conditions: none. -/
import Derived.Test.YthgiifakcgjlaaaHByt
import Derived.Test.YthgiifakcgjlaaaPx8
set_option linter.unusedVariables false
set_option linter.unusedSimpArgs false
namespace Go.Proofs.Ythgiifakcgjlaaa.P
open Go.RowKit Go.Proofs.YthgiifakcgjlaaaX Go.Proofs.YthgiifakcgjlaaaW.PrintWords Go.Proofs.YthgiifakcgjlaaaW.PrintLast Go.Proofs.YthgiifakcgjlaaaW.PrintMore
end Go.Proofs.Ythgiifakcgjlaaa.P
