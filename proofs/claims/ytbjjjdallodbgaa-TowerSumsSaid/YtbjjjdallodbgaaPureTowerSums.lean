/- All added, and the sum of products, are the document's. Conditions: none but the arguments' kinds. -/
import Derived.Test.YtbjjjdallodbgaaBrSum
import Derived.Test.YtbjjjdallodbgaaBrDot
import Derived.Test.YtbjjjdallodbgaaBrRefDot
import Derived.Test.YtbjjjdallodbgaaBr02A
import Derived.Test.YtbjjjdallodbgaaBr02S
import Derived.Test.YtbjjjdallodbgaaPx11
set_option linter.unusedVariables false
namespace Go.Proofs.Ytbjjjdallodbgaa.Pure
open Go.RowKit Go.Proofs.YtbjjjdallodbgaaT Go.Proofs.Ytbjjjdallodbgaa.P Go.Proofs.Ytbjjjdallodbgaa.Br Go.Proofs.YtbjjjdallodbgaaW.PrintWords Go.Proofs.YtbjjjdallodbgaaW.PrintLast Go.Proofs.YtbjjjdallodbgaaW.PrintMore
theorem TowerSums_l0 (l : Int) (a b : List (T 7)) (ha : a.length < 1000) (hb : b.length < 1000) : ∀ d i : Nat, i + d = a.length → ∀ out : T 7, out + sumE (a.drop i) = sumE a →
    Ev (fun k => steeplelaw02_TowerSums.l0 k l (a.map elS) (b.map elS) (i : Int) (hiW out) (loW out)) true
  | 0, i, h, out, he => by
    refine Ev.succ ?_
    simp only [steeplelaw02_TowerSums.l0]
    refine Ev.neg (by rw [List.length_map]; omega) ?_
    rw [List.drop_of_length_le (by omega)] at he
    have he : out + 0 = sumE a := he
    rw [add_zero] at he
    refine Ev.bind awake_ev (Ev.pos rfl ?_)
    refine Ev.bind (Sum_ev a (by omega)) ?_
    refine Ev.bind (Ev.const (same_f he.symm)) (Ev.pos rfl ?_)
    refine Ev.bind (Dot_ev _ _ _ ha) ?_
    refine Ev.bind (Ref_ev a ha) ?_
    refine Ev.bind (Ref_ev b hb) ?_
    refine Ev.bind (refDot_ev _ _ _ ha) ?_
    exact Ev.bind (Ev.const (same_f rfl)) (Ev.now _)
  | d + 1, i, h, out, he => by
    have hi : i < a.length := by omega
    refine Ev.succ ?_
    simp only [steeplelaw02_TowerSums.l0]
    refine Ev.pos (by rw [List.length_map]; omega) (Ev.pos (by omega) ?_)
    rw [rd_elS hi, wrap_succ i (by omega), elS_f0, elS_f1]
    refine Ev.bind (Ev.const (refd _)) ?_
    refine Ev.bind (Ev.const (refAdd_f _ _)) ?_
    refine TowerSums_l0 l a b ha hb d (i + 1) (by omega) _ ?_
    rw [List.drop_eq_getElem_cons hi] at he
    have he : out + (a[i] + sumE (a.drop (i + 1))) = sumE a := he
    rw [add_assoc, he]
theorem TowerSums : steeplelaw02_TowerSums.Pure := by
  intro l a b hl ⟨_, _, ha⟩ ⟨_, _, hb⟩
  obtain ⟨A, rfl⟩ := elS_of ha
  obtain ⟨B, rfl⟩ := elS_of hb
  refine Ev.rounds ?_
  unfold steeplelaw02_TowerSums.f
  rw [List.length_map, List.length_map]
  by_cases h1 : (A.length : Int) > 30
  · refine Ev.pos h1 (Ev.succ ?_)
    simp only [steeplelaw02_TowerSums.j0]
    exact Ev.pos trivial (Ev.bind awake_ev (Ev.now _))
  · refine Ev.neg h1 (Ev.succ ?_)
    simp only [steeplelaw02_TowerSums.j0]
    by_cases h2 : (B.length : Int) > 30
    · exact Ev.pos (by rw [decide_eq_true_eq]; exact h2) (Ev.bind awake_ev (Ev.now _))
    · refine Ev.neg (by rw [decide_eq_true_eq]; exact h2) ?_
      have := TowerSums_l0 l A B (by omega) (by omega) A.length 0 (by omega) 0 (by rw [List.drop_zero, zero_add])
      rw [hi_zero, lo_zero] at this
      exact this
end Go.Proofs.Ytbjjjdallodbgaa.Pure
