/- Lists of elements as the code has them. Conditions: those that each theorem names. -/
import Derived.Test.YthgiifakcgjlaaaBrBits
import Derived.Test.YthgiifakcgjlaaaPx0
set_option linter.unusedVariables false
namespace Go.Proofs.Ythgiifakcgjlaaa.Br
open Go.RowKit Go.Proofs.YthgiifakcgjlaaaT Go.Proofs.Ythgiifakcgjlaaa.P Go.Proofs.YthgiifakcgjlaaaW.PrintWords Go.Proofs.YthgiifakcgjlaaaW.PrintLast Go.Proofs.YthgiifakcgjlaaaW.PrintMore
/-! Lists of elements. -/
def elS (x : T 7) : S61 := ⟨hiW x, loW x⟩
theorem rd_elS {m : List (T 7)} {i : Nat} (h : i < m.length) : rd_T61 (m.map elS) (i : Int) = elS m[i] := by
  unfold rd_T61
  rw [Int.toNat_natCast, List.getD_eq_getElem?_getD, List.getElem?_map, List.getElem?_eq_getElem h]
  rfl
theorem elS_f0 (x : T 7) : (elS x).f0 = hiW x := (rfl)
theorem elS_f1 (x : T 7) : (elS x).f1 = loW x := (rfl)
end Go.Proofs.Ythgiifakcgjlaaa.Br
