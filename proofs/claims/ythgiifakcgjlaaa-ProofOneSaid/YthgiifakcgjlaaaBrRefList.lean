/- Lists of elements in the document's type. Conditions: lists are short. -/
import Derived.Test.YthgiifakcgjlaaaBrList
import Derived.Test.YthgiifakcgjlaaaPx5
set_option linter.unusedVariables false
namespace Go.Proofs.Ythgiifakcgjlaaa.Br
open Go.RowKit Go.Proofs.YthgiifakcgjlaaaT Go.Proofs.Ythgiifakcgjlaaa.P Go.Proofs.YthgiifakcgjlaaaW.PrintWords Go.Proofs.YthgiifakcgjlaaaW.PrintLast Go.Proofs.YthgiifakcgjlaaaW.PrintMore
/-! Elements in the document's own type. -/
def elR (x : T 7) : S70 := ⟨hiW x, loW x⟩
theorem elR_f0 (x : T 7) : (elR x).f0 = hiW x := (rfl)
theorem elR_f1 (x : T 7) : (elR x).f1 = loW x := (rfl)
theorem rd_elR {m : List (T 7)} {i : Nat} (h : i < m.length) : rd_T70 (m.map elR) (i : Int) = elR m[i] := by
  unfold rd_T70
  rw [Int.toNat_natCast, List.getD_eq_getElem?_getD, List.getElem?_map, List.getElem?_eq_getElem h]
  rfl
end Go.Proofs.Ythgiifakcgjlaaa.Br
