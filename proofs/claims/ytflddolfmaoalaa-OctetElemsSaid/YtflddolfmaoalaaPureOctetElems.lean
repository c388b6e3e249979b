/- The bytes of elements, one by one and in a list. Conditions: none but the arguments' kinds. -/
import Derived.Test.YtflddolfmaoalaaOcE
import Derived.Test.YtflddolfmaoalaaOcAw
import Derived.Test.YtflddolfmaoalaaPx7
set_option linter.unusedVariables false
set_option linter.unusedSimpArgs false
namespace Go.Proofs.Ytflddolfmaoalaa.Pure
open Go.RowKit Go.Proofs.YtflddolfmaoalaaT Go.Proofs.Ytflddolfmaoalaa.P Go.Proofs.Ytflddolfmaoalaa.Br Go.Proofs.YtflddolfmaoalaaW.PrintWords Go.Proofs.YtflddolfmaoalaaW.PrintLast
theorem OctetElems_l0 (a : Int) (m : List (T 7)) (hm : m.length ≤ 50) : ∀ d i : Nat, i + d = m.length → Ev (fun k => steeplelaw01_OctetElems.l0 k a (m.map elS) (i : Int)) true
  | 0, i, h => by
    refine Ev.succ ?_
    simp only [steeplelaw01_OctetElems.l0]
    refine Ev.neg (by rw [List.length_map]; omega) (Ev.bind awake_ev (Ev.pos rfl (Ev.bind (Wide_ev a) (Ev.bind (Ev.const (refWide_f a)) (Ev.pos rfl (Ev.bind (Elems_ev a (by omega)) (Ev.bind (Ref_ev m (by omega)) (Ev.bind (refElems_ev a (by omega)) ?_))))))))
    rw [beq_self_eq_true]
    exact Ev.now _
  | d + 1, i, h => by
    have hi : i < m.length := by omega
    refine Ev.succ ?_
    simp only [steeplelaw01_OctetElems.l0]
    refine Ev.pos (by rw [List.length_map]; omega) (Ev.pos (by omega) ?_)
    rw [rd_elS hi, elS_f0, elS_f1, wrap_succ i (by omega)]
    exact Ev.bind (Of_ev a m[i]) (Ev.bind (refOf_ev a m[i]) (Ev.neg (by rw [bne_self_eq_false]; decide) (Ev.bind (Elem_ev a m[i]) (Ev.bind (refBytes_ev a m[i]) (Ev.pos rfl (OctetElems_l0 a m hm d (i + 1) (by omega)))))))
theorem OctetElems : steeplelaw01_OctetElems.Pure := by
  intro a l ha hl
  obtain ⟨m, rfl⟩ := elS_of hl.2.2
  refine Ev.rounds ?_
  unfold steeplelaw01_OctetElems.f
  rw [List.length_map]
  by_cases h : (m.length : Int) > 50
  · exact Ev.pos h (Ev.bind awake_ev (Ev.now _))
  · exact Ev.neg h (OctetElems_l0 a m (by omega) m.length 0 (by omega))
end Go.Proofs.Ytflddolfmaoalaa.Pure
