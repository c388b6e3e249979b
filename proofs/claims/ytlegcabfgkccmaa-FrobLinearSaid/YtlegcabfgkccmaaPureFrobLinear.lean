/- The trace goes over sums and factors of the level below, the norm over products. Conditions: none but the arguments' kinds. -/
import Derived.Test.YtlegcabfgkccmaaBrFr
import Derived.Test.YtlegcabfgkccmaaBrFrA
import Derived.Test.YtlegcabfgkccmaaPx20
set_option linter.unusedVariables false
set_option linter.unusedSimpArgs false
namespace Go.Proofs.Ytlegcabfgkccmaa.Pure
open Go.RowKit Go.Proofs.YtlegcabfgkccmaaT Go.Proofs.Ytlegcabfgkccmaa.P Go.Proofs.Ytlegcabfgkccmaa.Br Go.Proofs.YtlegcabfgkccmaaW.PrintWords Go.Proofs.YtlegcabfgkccmaaW.PrintLast Go.Proofs.YtlegcabfgkccmaaW.PrintMore
theorem FrobLinear : steeplelaw33_FrobLinear.Pure := by
  intro a b s ha hb hs
  obtain ⟨⟨A0, A1⟩, ⟨B0, B1⟩, ⟨C0, C1⟩⟩ := s
  obtain ⟨x, rfl, rfl⟩ := el_of hs.1.1 hs.1.2
  obtain ⟨y, rfl, rfl⟩ := el_of hs.2.1.1 hs.2.1.2
  obtain ⟨z, rfl, rfl⟩ := el_of hs.2.2.1 hs.2.2.2
  dsimp only
  refine Ev.rounds ?_
  unfold steeplelaw33_FrobLinear.f
  have hK := lev_le a
  rw [lev_eq ha]
  obtain ⟨j, hj, ej⟩ := modN hb hK
  rw [ej]
  have hj7 : j ≤ 7 := by omega
  refine Ev.neg (by unfold wrap64; omega) (Ev.bind (Ev.const (of33_f hK x)) (Ev.bind (Ev.const (of33_f hK y)) (Ev.bind (Ev.const (of33_f hj7 z)) ?_)))
  have hx : InL (lev a) (cutE (lev a) x) := cutE_in hK x
  have hy : InL (lev a) (cutE (lev a) y) := cutE_in hK y
  have hz : InL j (cutE j z) := cutE_in hj7 z
  generalize cutE (lev a) x = p at hx ⊢
  generalize cutE (lev a) y = q at hy ⊢
  generalize cutE j z = c at hz ⊢
  generalize lev a = n at hK hj hx hy ⊢
  have hzn : InL n c := InL.mono hj hz
  refine Ev.bind (Mul_ev _ c p) ?_
  rw [mulE_in hK hzn hx]
  have hcp := inL_mul hK hzn hx
  refine Ev.bind (Ev.const (Add_f (c * p) q)) (Ev.bind (Trace_ev hj hK (inL_add hcp hy)) (Ev.bind awake_ev (Ev.pos rfl (Ev.bind (Trace_ev hj hK hx) ?_))))
  have hTp := conj_in (addOp 7) hj hK hx
  have hTq := conj_in (addOp 7) hj hK hy
  refine Ev.bind (Mul_ev _ c (conjE (addOp 7) n j p)) ?_
  rw [mulE_in hj7 hz hTp]
  refine Ev.bind (Trace_ev hj hK hy) (Ev.bind (Ev.const (Add_f (c * conjE (addOp 7) n j p) (conjE (addOp 7) n j q))) (Ev.pos ?_ ?_))
  · refine eq_pair ?_
    have h1 : conjE (addOp 7) n j (c * p + q) = conjE (addOp 7) n j (c * p) + conjE (addOp 7) n j q := conj_op (addOp 7) n j (c * p) q
    have h2 : conjE (addOp 7) n j (c * p) = c * conjE (addOp 7) n j p := tr_factor hj7 hz p _
    rw [h1, h2]
  · refine Ev.bind (Mul_ev _ p q) ?_
    rw [mulE_in hK hx hy]
    have hNp := conj_in (mulOp 7) hj hK hx
    have hNq := conj_in (mulOp 7) hj hK hy
    refine Ev.bind (Norm_ev hj hK (inL_mul hK hx hy)) (Ev.bind (Norm_ev hj hK hx) (Ev.bind (Norm_ev hj hK hy) (Ev.bind (Mul_ev _ (conjE (mulOp 7) n j p) (conjE (mulOp 7) n j q)) ?_)))
    rw [mulE_in hj7 hNp hNq]
    refine Ev.const ?_
    exact congrArg some (eq_pair (conj_op (mulOp 7) n j p q))
end Go.Proofs.Ytlegcabfgkccmaa.Pure
