/- All elements added. Conditions: the list is no longer than a list may be. -/
import Derived.Test.YthnaalocgoeddaaBrAdd
import Derived.Test.YthnaalocgoeddaaBrList
import Derived.Test.YthnaalocgoeddaaPx9
set_option linter.unusedVariables false
namespace Go.Proofs.Ythnaalocgoeddaa.Br
open Go.RowKit Go.Proofs.YthnaalocgoeddaaT Go.Proofs.Ythnaalocgoeddaa.P Go.Proofs.YthnaalocgoeddaaW.PrintWords Go.Proofs.YthnaalocgoeddaaW.PrintLast Go.Proofs.YthnaalocgoeddaaW.PrintMore
theorem Sum_l0 (m : List (T 7)) (hm : m.length < 9223372036854775807) : ∀ (d i : Nat), i + d = m.length → ∀ out : T 7,
    Ev (fun k => tower_Sum.l0 k (m.map elS) (m.length : Int) (i : Int) (hiW out) (loW out)) (hiW (out + sumE (m.drop i)), loW (out + sumE (m.drop i)))
  | 0, i, h, out => by
    refine Ev.succ ?_
    simp only [tower_Sum.l0]
    refine Ev.neg (by omega) ?_
    rw [List.drop_of_length_le (by omega)]
    show Ev _ (hiW (out + 0), loW (out + 0))
    rw [add_zero]
    exact Ev.now _
  | d + 1, i, h, out => by
    refine Ev.succ ?_
    simp only [tower_Sum.l0]
    have hi : i < m.length := by omega
    refine Ev.pos (by omega) (Ev.pos (by omega) (Ev.pos (by rw [List.length_map]; omega) ?_))
    rw [rd_elS hi, wrap_succ i (by omega)]
    refine Ev.bind (Ev.const (Add_f out m[i])) ?_
    have := Sum_l0 m hm d (i + 1) (by omega) (out + m[i])
    rw [List.drop_eq_getElem_cons hi]
    show Ev _ (hiW (out + (m[i] + sumE (m.drop (i + 1)))), loW (out + (m[i] + sumE (m.drop (i + 1)))))
    rw [← add_assoc]
    exact this
theorem Sum_ev (m : List (T 7)) (hm : m.length < 9223372036854775807) : Ev (fun k => tower_Sum.f k (m.map elS)) (hiW (sumE m), loW (sumE m)) := by
  unfold tower_Sum.f
  have := Sum_l0 m hm m.length 0 (by omega) 0
  rw [List.drop_zero, zero_add, hi_zero, lo_zero] at this
  rw [List.length_map]
  exact this
end Go.Proofs.Ythnaalocgoeddaa.Br
