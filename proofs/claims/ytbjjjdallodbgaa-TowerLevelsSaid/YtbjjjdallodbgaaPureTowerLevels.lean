/- What is reckoned in a level is the same in each above. Conditions: none but the arguments' kinds. -/
import Derived.Test.YtbjjjdallodbgaaBrInv
import Derived.Test.YtbjjjdallodbgaaBr02
import Derived.Test.YtbjjjdallodbgaaPx20
set_option linter.unusedVariables false
namespace Go.Proofs.Ytbjjjdallodbgaa.Pure
open Go.RowKit Go.Proofs.YtbjjjdallodbgaaT Go.Proofs.Ytbjjjdallodbgaa.P Go.Proofs.Ytbjjjdallodbgaa.Br Go.Proofs.YtbjjjdallodbgaaW.PrintWords Go.Proofs.YtbjjjdallodbgaaW.PrintLast Go.Proofs.YtbjjjdallodbgaaW.PrintMore
theorem up_eq {a b : Int} (ha : (Lit.int .i64 a).wf = true) : mn (wrap64 ((lev b : Int) + Int.tmod (wrap64 (Int.tmod a 8 + 8)) 8)) 7 = ((min (lev b + lev a) 7 : Nat) : Int) := by
  rw [lev_eq ha]
  have h1 := lev_le a
  have h2 := lev_le b
  have h3 : wrap64 ((lev b : Int) + (lev a : Int)) = ((lev b + lev a : Nat) : Int) := by unfold wrap64; omega
  rw [h3]
  unfold mn
  split <;> omega
theorem TowerLevels : steeplelaw02_TowerLevels.Pure := by
  intro a b x ha hb ⟨⟨h1, h2⟩, ⟨h3, h4⟩, ⟨h5, h6⟩⟩
  obtain ⟨A, eA, eA'⟩ := el_of h1 h2
  obtain ⟨B, eB, eB'⟩ := el_of h3 h4
  rw [eA, eA', eB, eB']
  refine Ev.rounds ?_
  unfold steeplelaw02_TowerLevels.f
  refine Ev.bind (of_ev ha [A, B] (by simp)) ?_
  have hj := lev_le a
  have hA := cutE_in hj A
  have hB := cutE_in hj B
  have hu : min (lev a + lev b) 7 ≤ 7 := Nat.min_le_right _ _
  have hau : lev a ≤ min (lev a + lev b) 7 := by omega
  simp only [List.map_cons, List.map_nil, List.length_cons, List.length_nil, rd_e0, rd_e1, elS_f0, elS_f1, up_eq hb]
  generalize cutE (lev a) A = x at hA ⊢
  generalize cutE (lev a) B = y at hB ⊢
  generalize min (lev a + lev b) 7 = u at hu hau ⊢
  generalize lev a = j at hj hA hB hau ⊢
  refine Ev.pos (by decide) (Ev.pos (by decide) ?_)
  have hAu := hA.mono hau
  have hBu := hB.mono hau
  refine Ev.bind (Mul_ev _ _ _) ?_
  rw [mulE_in hj hA hB]
  refine Ev.bind awake_ev (Ev.pos rfl ?_)
  refine Ev.bind (Of_ev _ _) (Ev.pos (ofB_nat hj (inL_mul hj hA hB)) ?_)
  refine Ev.bind (Inv_ev _ _) ?_
  rw [invE_in hj hA]
  refine Ev.bind (Of_ev _ _) (Ev.pos (ofB_nat hj (inL_inv hj hA)) ?_)
  refine Ev.bind (Mul_ev _ _ _) ?_
  rw [mulE_in hu hAu hBu]
  refine Ev.pos (eq_pair rfl) ?_
  refine Ev.bind (Inv_ev _ _) ?_
  refine Ev.bind (Inv_ev _ _) ?_
  rw [invE_in hu hAu, invE_in hj hA]
  refine Ev.pos (eq_pair rfl) ?_
  refine Ev.bind (Square_ev _ _) ?_
  refine Ev.bind (Square_ev _ _) ?_
  rw [sqE_in hu hAu, sqE_in hj hA, eq_pair rfl]
  exact Ev.now _
end Go.Proofs.Ytbjjjdallodbgaa.Pure
