/- Written by a program of this session: functions that the law reaches, as Lean functions, and that the code comes to their answers. Conditions: those that each theorem names. -/
import Derived.Test.YthgiifakcgjlaaaPx0
import Derived.Test.YthgiifakcgjlaaaPx6
import Derived.Test.YthgiifakcgjlaaaPx8
import Derived.Test.YthgiifakcgjlaaaPx26
namespace Go.Proofs.Ythgiifakcgjlaaa.P
open Go.RowKit Go.Proofs.YthgiifakcgjlaaaX Go.Proofs.YthgiifakcgjlaaaW.PrintWords Go.Proofs.YthgiifakcgjlaaaW.PrintLast Go.Proofs.YthgiifakcgjlaaaW.PrintMore
attribute [local go_sem] max2_int min2_int max_two min_two max_three min_three max_four min_four   -- for this text's walks alone
set_option linter.unusedVariables false
set_option linter.unusedSimpArgs false

/-! ### steepleref29_Shaped: function 28 -/
mutual
def steepleref29_Shaped.j0 : Nat → Int → Bool → ByteArray → List (List (S70)) → List (S70) → List (List (S70)) → Int → Int → List (S70) → List (List (S70)) → Int → Int → List (S70) → List (List (S70)) → List ByteArray → Option (Bool)
 | 0, _, _, _, _, _, _, _, _, _, _, _, _, _, _, _ => none
 | k + 1, x0, x25, x523000, x523001, x523002, x523003, x523004, x523005, x523006, x523007, x523008, x523009, x523010, x523011, x523012 => if x25 = true then (some false) else (steepleref29_Shaped.l0 k x0 0 x523000 x523001 x523002 x523003 x523004 x523005 x523006 x523007 x523008 x523009 x523010 x523011 x523012)
def steepleref29_Shaped.l0 : Nat → Int → Int → ByteArray → List (List (S70)) → List (S70) → List (List (S70)) → Int → Int → List (S70) → List (List (S70)) → Int → Int → List (S70) → List (List (S70)) → List ByteArray → Option (Bool)
 | 0, _, _, _, _, _, _, _, _, _, _, _, _, _, _, _ => none
 | k + 1, x0, x5, x523000, x523001, x523002, x523003, x523004, x523005, x523006, x523007, x523008, x523009, x523010, x523011, x523012 => if x5 < (x523012.length : Int) then (if 0 ≤ x5 then (if ((rdOf ByteArray.empty x523012 x5).size : Int) = 32 then (steepleref29_Shaped.l0 k x0 (wrap64 (x5 + 1)) x523000 x523001 x523002 x523003 x523004 x523005 x523006 x523007 x523008 x523009 x523010 x523011 x523012) else (some false)) else (none)) else ((steepleref29_lists.f k x0 (([x523002, x523006, x523010, (([(⟨x523004, x523005⟩ : S70), (⟨x523008, x523009⟩ : S70)] : List (S70)))] : List (List (S70))))).bind fun t530 => (if t530 = true then ((steepleref29_lists.f k x0 x523001).bind fun t531 => (if t531 = true then ((steepleref29_lists.f k x0 x523003).bind fun t532 => (if t532 = true then ((steepleref29_lists.f k x0 x523007).bind fun t533 => (if t533 = true then ((steepleref29_lists.f k x0 x523011).bind fun t534 => (some t534)) else (some false))) else (some false))) else (some false))) else (some false)))
end
/-! ### octet_Reader_Elems: function 74 -/
end Go.Proofs.Ythgiifakcgjlaaa.P
