/- All but 0 have an inverse, and no product of two that are not 0 is 0. Conditions: none but the arguments' kinds. -/
import Derived.Test.YtbjjjdallodbgaaBrInv
import Derived.Test.YtbjjjdallodbgaaBr02
import Derived.Test.YtbjjjdallodbgaaPx15
set_option linter.unusedVariables false
namespace Go.Proofs.Ytbjjjdallodbgaa.Pure
open Go.RowKit Go.Proofs.YtbjjjdallodbgaaT Go.Proofs.Ytbjjjdallodbgaa.P Go.Proofs.Ytbjjjdallodbgaa.Br Go.Proofs.YtbjjjdallodbgaaW.PrintWords Go.Proofs.YtbjjjdallodbgaaW.PrintLast Go.Proofs.YtbjjjdallodbgaaW.PrintMore
theorem el_none {x : T 7} : (hiW x == 0 && loW x == 0) = decide (x = 0) := by
  rw [Bool.eq_iff_iff, Bool.and_eq_true, beq_iff_eq, beq_iff_eq, decide_eq_true_eq]
  constructor
  · rintro ⟨h1, h2⟩
    exact el_inj (h1.trans hi_zero.symm) (h2.trans lo_zero.symm)
  · rintro rfl
    exact ⟨hi_zero, lo_zero⟩
theorem zeroB {x : T 7} (h : x = 0) : (hiW x == 0 && loW x == 0) = true := by rw [el_none, decide_eq_true h]
theorem zeroB' {x : T 7} (h : x ≠ 0) : (hiW x == 0 && loW x == 0) = false := by rw [el_none, decide_eq_false h]
theorem dec_mul_zero {k : Nat} {x y : T k} (h0 : x ≠ 0) : decide (x * y = 0) = decide (y = 0) := by
  rw [Bool.eq_iff_iff, decide_eq_true_eq, decide_eq_true_eq]
  exact ⟨fun h => (mul_eq_zero.1 h).resolve_left h0, fun h => by rw [h, mul_zero]⟩
theorem TowerField : steeplelaw02_TowerField.Pure := by
  intro a x y ha ⟨h1, h2⟩ ⟨h3, h4⟩
  obtain ⟨A, eA, eA'⟩ := el_of h1 h2
  obtain ⟨B, eB, eB'⟩ := el_of h3 h4
  rw [eA, eA', eB, eB']
  refine Ev.rounds ?_
  unfold steeplelaw02_TowerField.f
  refine Ev.bind (of_ev ha [A, B] (by simp)) ?_
  have hj := lev_le a
  have hA := cutE_in hj A
  have hB := cutE_in hj B
  simp only [List.map_cons, List.map_nil, List.length_cons, List.length_nil, rd_e0, rd_e1, elS_f0, elS_f1]
  generalize cutE (lev a) A = x at hA ⊢
  generalize cutE (lev a) B = y at hB ⊢
  generalize lev a = j at hj hA hB ⊢
  refine Ev.pos (by decide) (Ev.pos (by decide) ?_)
  refine Ev.bind (Inv_ev _ x) ?_
  rw [invE_in hj hA]
  have hI := inL_inv hj hA
  by_cases h0 : x = 0
  · refine Ev.pos (zeroB h0) (Ev.bind awake_ev (Ev.pos rfl ?_))
    refine Ev.pos (zeroB (by rw [h0, inv_zero])) ?_
    refine Ev.bind (Mul_ev _ x y) ?_
    rw [mulE_in hj hA hB, zeroB (show x * y = 0 by rw [h0, zero_mul])]
    exact Ev.now _
  · refine Ev.neg (by rw [zeroB' h0]; decide) (Ev.bind awake_ev (Ev.pos rfl ?_))
    refine Ev.bind (Mul_ev _ _ _) ?_
    rw [mulE_in hj hA hI]
    refine Ev.bind (Ev.const One_f) ?_
    refine Ev.pos (eq_pair (mul_inv h0)) ?_
    refine Ev.bind (Inv_ev _ _) ?_
    rw [invE_in hj hI]
    refine Ev.pos (eq_pair (inv_inv x)) ?_
    refine Ev.bind (Mul_ev _ _ _) ?_
    rw [mulE_in hj hA hB]
    refine Ev.pos (by rw [el_none, el_none, dec_mul_zero h0, beq_iff_eq]) ?_
    refine Ev.bind (Mul_ev _ _ _) ?_
    rw [mulE_in hj hA hB]
    refine Ev.bind (Div_ev _ _ _) ?_
    rw [invE_in hj hA, mulE_in hj (inL_mul hj hA hB) hI]
    have e : x * y * inv 7 x = y := by rw [mul_comm x y, mul_assoc, mul_inv h0, mul_one]
    rw [eq_pair e]
    exact Ev.now _
end Go.Proofs.Ytbjjjdallodbgaa.Pure
