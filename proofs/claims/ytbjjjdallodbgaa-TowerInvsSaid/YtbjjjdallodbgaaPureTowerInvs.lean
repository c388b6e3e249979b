/- The inverse of any element, quotients, and small powers are the document's. Conditions: none but the arguments' kinds. -/
import Derived.Test.YtbjjjdallodbgaaBrInv
import Derived.Test.YtbjjjdallodbgaaBrPow
import Derived.Test.YtbjjjdallodbgaaBrRefPow
import Derived.Test.YtbjjjdallodbgaaBr02A
import Derived.Test.YtbjjjdallodbgaaBr02S
import Derived.Test.YtbjjjdallodbgaaPx22
set_option linter.unusedVariables false
namespace Go.Proofs.Ytbjjjdallodbgaa.Pure
open Go.RowKit Go.Proofs.YtbjjjdallodbgaaT Go.Proofs.Ytbjjjdallodbgaa.P Go.Proofs.Ytbjjjdallodbgaa.Br Go.Proofs.YtbjjjdallodbgaaW.PrintWords Go.Proofs.YtbjjjdallodbgaaW.PrintLast Go.Proofs.YtbjjjdallodbgaaW.PrintMore
theorem tmod61 {a : Int} (ha : (Lit.int .i64 a).wf = true) : ∃ n : Nat, n < 61 ∧ Int.tmod (wrap64 (Int.tmod a 61 + 61)) 61 = (n : Int) := by
  rw [i64_wf] at ha
  have b1 := Int.tmod_lt_of_pos a (show (0 : Int) < 61 by decide)
  have b2 := Int.lt_tmod_of_pos a (show (0 : Int) < 61 by decide)
  generalize Int.tmod a 61 = r at b1 b2 ⊢
  have h2 : wrap64 (r + 61) = r + 61 := by
    unfold wrap64
    omega
  rw [h2, Int.tmod_eq_emod_of_nonneg (by omega)]
  exact ⟨((r + 61) % 61).toNat, by omega, by omega⟩
theorem TowerInvs : steeplelaw02_TowerInvs.Pure := by
  intro l x n hl ⟨h1, h2⟩ hn
  obtain ⟨A, eA, eA'⟩ := el_of h1 h2
  rw [eA, eA']
  obtain ⟨m, hm, e⟩ := tmod61 hn
  refine Ev.rounds ?_
  unfold steeplelaw02_TowerInvs.f
  rw [e, u64_cast (by omega)]
  refine Ev.bind (Inv_ev _ _) (Ev.bind awake_ev (Ev.pos rfl ?_))
  refine Ev.bind (Ev.const (refd _)) ?_
  refine Ev.bind (refInv_ev _ _) ?_
  refine Ev.bind (Ev.const (same_f rfl)) (Ev.pos rfl ?_)
  have hP : Ev (fun k => tower_Pow.f k l (hiW A) (loW A) (m : Int)) (hiW (powE l A m), loW (powE l A m)) := by
    by_cases hA : ofB l A = true
    · obtain ⟨j, rfl, hj, hAj⟩ := ofB_iff.1 hA
      have e : powE (j : Int) A m = powN A m := if_pos hA
      rw [e]
      exact Pow_ev hj m (by omega) hAj
    · have e : powE l A m = 0 := if_neg hA
      rw [e]
      exact Pow_none _ (by simpa using hA)
  refine Ev.bind hP ?_
  refine Ev.bind (Ev.const (refd _)) ?_
  refine Ev.bind (refPow_ev _ _ m (by omega)) ?_
  refine Ev.bind (Ev.const (same_f rfl)) (Ev.pos rfl ?_)
  refine Ev.bind (Ev.const One_f) ?_
  refine Ev.bind (Div_ev _ _ _) ?_
  refine Ev.bind (Ev.const One_f) ?_
  refine Ev.bind (Mul_ev _ _ _) ?_
  rw [eq_pair rfl]
  exact Ev.now _
end Go.Proofs.Ytbjjjdallodbgaa.Pure
