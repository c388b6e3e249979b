/- Lists of elements in the document's type. Conditions: lists are short. -/
import Derived.Test.YtflddolfmaoalaaBrList
import Derived.Test.YtflddolfmaoalaaPx7
set_option linter.unusedVariables false
namespace Go.Proofs.Ytflddolfmaoalaa.Br
open Go.RowKit Go.Proofs.YtflddolfmaoalaaT Go.Proofs.Ytflddolfmaoalaa.P Go.Proofs.YtflddolfmaoalaaW.PrintWords Go.Proofs.YtflddolfmaoalaaW.PrintLast Go.Proofs.YtflddolfmaoalaaW.PrintMore
/-! Elements in the document's own type. -/
def elR (x : T 7) : S32 := ⟨hiW x, loW x⟩
theorem elR_f0 (x : T 7) : (elR x).f0 = hiW x := (rfl)
theorem elR_f1 (x : T 7) : (elR x).f1 = loW x := (rfl)
theorem rd_elR {m : List (T 7)} {i : Nat} (h : i < m.length) : rd_T32 (m.map elR) (i : Int) = elR m[i] := by
  unfold rd_T32
  rw [Int.toNat_natCast, List.getD_eq_getElem?_getD, List.getElem?_map, List.getElem?_eq_getElem h]
  rfl
theorem Ref_l0 (m : List (T 7)) (hm : m.length < 1000) : ∀ d i : Nat, i + d = m.length → Ev (fun k => steeplelaw01_Ref.l0 k (m.map elS) ((m.take i).map elR) (i : Int)) (m.map elR)
  | 0, i, h => by
    refine Ev.succ ?_
    simp only [steeplelaw01_Ref.l0]
    refine Ev.neg (by rw [List.length_map]; omega) ?_
    rw [List.take_of_length_le (by omega)]
    exact Ev.now _
  | d + 1, i, h => by
    have hi : i < m.length := by omega
    refine Ev.succ ?_
    simp only [steeplelaw01_Ref.l0]
    refine Ev.pos (by rw [List.length_map]; omega) (Ev.pos (by omega) (Ev.pos (by rw [List.length_map, List.length_take]; omega) ?_))
    rw [rd_elS hi, wrap_succ i (by omega), elS_f0, elS_f1]
    have e : (m.take i).map elR ++ [(⟨hiW m[i], loW m[i]⟩ : S32)] = (m.take (i + 1)).map elR := by
      rw [List.take_succ_eq_append_getElem hi, List.map_append]
      rfl
    rw [e]
    exact Ref_l0 m hm d (i + 1) (by omega)
theorem Ref_ev (m : List (T 7)) (hm : m.length < 1000) : Ev (fun k => steeplelaw01_Ref.f k (m.map elS)) (m.map elR) := by
  unfold steeplelaw01_Ref.f
  exact Ref_l0 m hm m.length 0 (by omega)
end Go.Proofs.Ytflddolfmaoalaa.Br
