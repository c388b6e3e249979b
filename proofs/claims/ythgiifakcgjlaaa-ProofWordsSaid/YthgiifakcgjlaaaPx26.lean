/- Written by a program of this session: functions that the law reaches, as Lean functions, and that the code comes to their answers. Conditions: those that each theorem names. -/
import Derived.Test.YthgiifakcgjlaaaPx0
import Derived.Test.YthgiifakcgjlaaaPx9
namespace Go.Proofs.Ythgiifakcgjlaaa.P
open Go.RowKit Go.Proofs.YthgiifakcgjlaaaX Go.Proofs.YthgiifakcgjlaaaW.PrintWords Go.Proofs.YthgiifakcgjlaaaW.PrintLast Go.Proofs.YthgiifakcgjlaaaW.PrintMore
attribute [local go_sem] max2_int min2_int max_two min_two max_three min_three max_four min_four   -- for this text's walks alone
set_option linter.unusedVariables false
set_option linter.unusedSimpArgs false

/-! ### steepleref06_All: function 108 -/
def steepleref06_All.l0 : Nat → Int → List (S70) → Int → Option (Bool)
 | 0, _, _, _ => none
 | k + 1, x0, x1, x5 => if x5 < (x1.length : Int) then (if 0 ≤ x5 then ((steepleref01_Of.f k x0 ((rd_T70 x1 x5).f0) ((rd_T70 x1 x5).f1)).bind fun t518 => (if t518 = true then (steepleref06_All.l0 k x0 x1 (wrap64 (x5 + 1))) else (some false))) else (none)) else (some true)
def steepleref06_All.f (k : Nat) (a0 : Int) (l1 : List (S70)) : Option (Bool) := steepleref06_All.l0 k a0 l1 0
/-! ### steepleref29_lists: function 72 -/
def steepleref29_lists.l0 : Nat → Int → List (List (S70)) → Int → Option (Bool)
 | 0, _, _, _ => none
 | k + 1, x0, x1, x5 => if x5 < (x1.length : Int) then (if 0 ≤ x5 then (if ((rd_L15 x1 x5).length : Int) > 4096 then (some false) else ((steepleref06_All.f k x0 (rd_L15 x1 x5)).bind fun t521 => (if t521 = true then (steepleref29_lists.l0 k x0 x1 (wrap64 (x5 + 1))) else (some false)))) else (none)) else (some (decide ((x1.length : Int) ≤ 4096)))
def steepleref29_lists.f (k : Nat) (a0 : Int) (l1 : List (List (S70))) : Option (Bool) := steepleref29_lists.l0 k a0 l1 0
end Go.Proofs.Ythgiifakcgjlaaa.P
