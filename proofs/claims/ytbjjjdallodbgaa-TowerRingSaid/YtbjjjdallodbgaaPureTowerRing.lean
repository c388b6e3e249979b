/- Products go in any order and grouping, and over sums; 1 changes nothing; what is added twice is gone. Conditions: none but the arguments' kinds. -/
import Derived.Test.YtbjjjdallodbgaaBrSum
import Derived.Test.YtbjjjdallodbgaaBr02
import Derived.Test.YtbjjjdallodbgaaPx5
set_option linter.unusedVariables false
namespace Go.Proofs.Ytbjjjdallodbgaa.Pure
open Go.RowKit Go.Proofs.Ytbjjjdallodbgaa.Br Go.Proofs.YtbjjjdallodbgaaT Go.Proofs.Ytbjjjdallodbgaa.P Go.Proofs.YtbjjjdallodbgaaW.PrintWords Go.Proofs.YtbjjjdallodbgaaW.PrintLast Go.Proofs.YtbjjjdallodbgaaW.PrintMore
theorem TowerRing : steeplelaw02_TowerRing.Pure := by
  intro a x ha ⟨⟨h1, h2⟩, ⟨h3, h4⟩, ⟨h5, h6⟩⟩
  obtain ⟨A, eA, eA'⟩ := el_of h1 h2
  obtain ⟨B, eB, eB'⟩ := el_of h3 h4
  obtain ⟨C, eC, eC'⟩ := el_of h5 h6
  rw [eA, eA', eB, eB', eC, eC']
  refine Ev.rounds ?_
  unfold steeplelaw02_TowerRing.f
  refine Ev.bind (of_ev ha [A, B, C] (by simp)) ?_
  have hj := lev_le a
  have hA := cutE_in hj A
  have hB := cutE_in hj B
  have hC := cutE_in hj C
  simp only [List.map_cons, List.map_nil, List.length_cons, List.length_nil, rd_e0, rd_e1, rd_e2, elS_f0, elS_f1]
  generalize cutE (lev a) A = x at hA ⊢
  generalize cutE (lev a) B = y at hB ⊢
  generalize cutE (lev a) C = z at hC ⊢
  generalize lev a = j at hj hA hB hC ⊢
  refine Ev.pos (by decide) (Ev.pos (by decide) (Ev.pos (by decide) ?_))
  refine Ev.bind (Mul_ev _ x y) ?_
  refine Ev.bind (Mul_ev _ y x) ?_
  rw [mulE_in hj hA hB, mulE_in hj hB hA]
  refine Ev.neg (by rw [same_pair (mul_comm x y)]; decide) ?_
  refine Ev.bind (Mul_ev _ (x * y) z) ?_
  refine Ev.bind (Mul_ev _ y z) ?_
  rw [mulE_in hj hB hC, mulE_in hj (inL_mul hj hA hB) hC]
  refine Ev.bind (Mul_ev _ x (y * z)) ?_
  rw [mulE_in hj hA (inL_mul hj hB hC)]
  refine Ev.neg (by rw [same_pair (mul_assoc x y z)]; decide) ?_
  refine Ev.bind (Ev.const (Add_f y z)) ?_
  refine Ev.bind (Mul_ev _ x (y + z)) ?_
  refine Ev.bind (Mul_ev _ x z) ?_
  rw [mulE_in hj hA hC, mulE_in hj hA (inL_add hB hC)]
  refine Ev.bind (Ev.const (Add_f (x * y) (x * z))) ?_
  refine Ev.neg (by rw [same_pair (mul_add x y z)]; decide) ?_
  refine Ev.bind awake_ev (Ev.pos rfl ?_)
  refine Ev.bind (Ev.const One_f) ?_
  refine Ev.bind (Mul_ev _ x 1) ?_
  rw [mulE_in hj hA inL_one]
  refine Ev.pos (eq_pair (mul_one x)) ?_
  refine Ev.bind (Sum_ev [x, y, x] (by simp)) ?_
  have e : sumE [x, y, x] = y := by
    show x + (y + (x + 0)) = y
    rw [add_zero, add_comm y x, add_left_self]
  rw [e]
  refine Ev.pos (eq_pair rfl) ?_
  refine Ev.bind (Sum_ev [] (by simp)) ?_
  show Ev (fun k => some (hiW 0 == 0 && loW 0 == 0)) true
  rw [hi_zero, lo_zero]
  exact Ev.now _
end Go.Proofs.Ytbjjjdallodbgaa.Pure
