/- Written by a program of this session: functions that the law reaches, as Lean functions, and that the code comes to their answers. Conditions: those that each theorem names. -/
import Derived.Test.YthgiifakcgjlaaaPx0
import Derived.Test.YthgiifakcgjlaaaPx6
import Derived.Test.YthgiifakcgjlaaaPx28
namespace Go.Proofs.Ythgiifakcgjlaaa.P
open Go.RowKit Go.Proofs.YthgiifakcgjlaaaX Go.Proofs.YthgiifakcgjlaaaW.PrintWords Go.Proofs.YthgiifakcgjlaaaW.PrintLast Go.Proofs.YthgiifakcgjlaaaW.PrintMore
attribute [local go_sem] max2_int min2_int max_two min_two max_three min_three max_four min_four   -- for this text's walks alone
set_option linter.unusedVariables false
set_option linter.unusedSimpArgs false

/-! ### steepleref29_put: function 80 -/
/-! ### steepleref01_List: function 82 -/
end Go.Proofs.Ythgiifakcgjlaaa.P
