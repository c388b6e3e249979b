/- The bytes of a list of texts (octet.List). Conditions: none. -/
import Derived.Test.YthgiifakcgjlaaaHBld
import Derived.Test.YthgiifakcgjlaaaPx25
import Derived.Test.YthgiifakcgjlaaaPx5
set_option linter.unusedVariables false
set_option linter.unusedSimpArgs false
namespace Go.Proofs.Ythgiifakcgjlaaa.P
open Go.RowKit Go.Proofs.YthgiifakcgjlaaaX Go.Proofs.YthgiifakcgjlaaaW.PrintWords Go.Proofs.YthgiifakcgjlaaaW.PrintLast Go.Proofs.YthgiifakcgjlaaaW.PrintMore
end Go.Proofs.Ythgiifakcgjlaaa.P
