/- Sums, products, squares, and products with the generator are the document's. Conditions: none but the arguments' kinds. -/
import Derived.Test.YtbjjjdallodbgaaBrSq
import Derived.Test.YtbjjjdallodbgaaBrMulX
import Derived.Test.YtbjjjdallodbgaaBrRefMulX
import Derived.Test.YtbjjjdallodbgaaBrX
import Derived.Test.YtbjjjdallodbgaaBr02A
import Derived.Test.YtbjjjdallodbgaaBr02S
import Derived.Test.YtbjjjdallodbgaaPx13
set_option linter.unusedVariables false
namespace Go.Proofs.Ytbjjjdallodbgaa.Pure
open Go.RowKit Go.Proofs.YtbjjjdallodbgaaT Go.Proofs.Ytbjjjdallodbgaa.P Go.Proofs.Ytbjjjdallodbgaa.Br Go.Proofs.YtbjjjdallodbgaaW.PrintWords Go.Proofs.YtbjjjdallodbgaaW.PrintLast Go.Proofs.YtbjjjdallodbgaaW.PrintMore
theorem TowerMuls : steeplelaw02_TowerMuls.Pure := by
  intro l x y hl ⟨h1, h2⟩ ⟨h3, h4⟩
  obtain ⟨A, eA, eA'⟩ := el_of h1 h2
  obtain ⟨B, eB, eB'⟩ := el_of h3 h4
  rw [eA, eA', eB, eB']
  refine Ev.rounds ?_
  unfold steeplelaw02_TowerMuls.f
  refine Ev.bind (refX_ev l) (Ev.bind awake_ev (Ev.pos rfl ?_))
  refine Ev.bind (Ev.const (Add_f _ _)) ?_
  refine Ev.bind (Ev.const (refd _)) ?_
  refine Ev.bind (Ev.const (refd _)) ?_
  refine Ev.bind (Ev.const (refAdd_f _ _)) ?_
  refine Ev.bind (Ev.const (same_f rfl)) (Ev.pos rfl ?_)
  refine Ev.bind (Mul_ev _ _ _) ?_
  refine Ev.bind (Ev.const (refd _)) ?_
  refine Ev.bind (Ev.const (refd _)) ?_
  refine Ev.bind (refMul_ev _ _ _) ?_
  refine Ev.bind (Ev.const (same_f rfl)) (Ev.pos rfl ?_)
  refine Ev.bind (Square_ev _ _) ?_
  refine Ev.bind (Ev.const (refd _)) ?_
  refine Ev.bind (Ev.const (refd _)) ?_
  refine Ev.bind (refMul_ev _ _ _) ?_
  have e1 : sqE l A = mulE l A A := by
    unfold sqE mulE
    by_cases h : ofB l A = true
    · rw [if_pos h, if_pos ⟨h, h⟩]
    · rw [if_neg h, if_neg fun h' => h h'.1]
  refine Ev.bind (Ev.const (same_f e1)) (Ev.pos rfl ?_)
  refine Ev.bind (MulX_ev _ _) ?_
  refine Ev.bind (Ev.const (refd _)) ?_
  refine Ev.bind (refMul_ev _ _ _) ?_
  have e2 : mulXE l A = mulE l A (X7 l) := by
    unfold mulXE mulE
    by_cases h : ofB l A = true
    · obtain ⟨j, rfl, hj, _⟩ := ofB_iff.1 h
      have hX : ofB (j : Int) (X7 (j : Int)) = true := by
        have e : X7 (j : Int) = emb 7 j (gen j) := if_pos (by omega)
        rw [e]
        exact ofB_nat hj (inL_emb hj _)
      rw [if_pos h, if_pos ⟨h, hX⟩]
    · rw [if_neg h, if_neg fun h' => h h'.1]
  refine Ev.bind (Ev.const (same_f e2)) (Ev.pos rfl ?_)
  refine Ev.bind (X_ev l) ?_
  exact Ev.bind (Ev.const (same_f rfl)) (Ev.now _)
end Go.Proofs.Ytbjjjdallodbgaa.Pure
