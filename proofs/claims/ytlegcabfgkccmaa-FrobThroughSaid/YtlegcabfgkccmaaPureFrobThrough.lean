/- Trace and norm go through any level between. Conditions: none but the arguments' kinds. -/
import Derived.Test.YtlegcabfgkccmaaBrFr
import Derived.Test.YtlegcabfgkccmaaBrFrA
import Derived.Test.YtlegcabfgkccmaaPx6b
set_option linter.unusedVariables false
set_option linter.unusedSimpArgs false
namespace Go.Proofs.Ytlegcabfgkccmaa.Pure
open Go.RowKit Go.Proofs.YtlegcabfgkccmaaT Go.Proofs.Ytlegcabfgkccmaa.P Go.Proofs.Ytlegcabfgkccmaa.Br Go.Proofs.YtlegcabfgkccmaaW.PrintWords Go.Proofs.YtlegcabfgkccmaaW.PrintLast Go.Proofs.YtlegcabfgkccmaaW.PrintMore
theorem FrobThrough : steeplelaw33_FrobThrough.Pure := by
  intro a b s ha hb hs
  obtain ⟨b0, b1⟩ := b
  obtain ⟨p, q⟩ := s
  obtain ⟨x, rfl, rfl⟩ := el_of hs.1 hs.2
  dsimp only at hb ⊢
  refine Ev.rounds ?_
  unfold steeplelaw33_FrobThrough.f
  have hK := lev_le a
  rw [lev_eq ha]
  obtain ⟨m, hm, em⟩ := modN hb.1 hK
  rw [em]
  obtain ⟨j, hj, ej⟩ := modN hb.2 (show m ≤ 7 by omega)
  rw [ej]
  refine Ev.neg (by unfold wrap64; omega) (Ev.neg (by unfold wrap64; omega) (Ev.bind (Ev.const (of33_f hK x)) (Ev.bind awake_ev (Ev.pos rfl ?_))))
  have hy : InL (lev a) (cutE (lev a) x) := cutE_in hK x
  generalize cutE (lev a) x = y at hy ⊢
  have hTm := conj_in (addOp 7) hm hK hy
  have hNm := conj_in (mulOp 7) hm hK hy
  refine Ev.bind (Trace_ev (show j ≤ lev a by omega) hK hy) (Ev.bind (Trace_ev hm hK hy) (Ev.bind (Trace_ev hj (by omega) hTm) (Ev.pos ?_ ?_)))
  · exact eq_pair (conj_through (addOp 7) hj hm y)
  · refine Ev.bind (Norm_ev (show j ≤ lev a by omega) hK hy) (Ev.bind (Norm_ev hm hK hy) (Ev.bind (Norm_ev hj (by omega) hNm) (Ev.const ?_)))
    exact congrArg some (eq_pair (conj_through (mulOp 7) hj hm y))
end Go.Proofs.Ytlegcabfgkccmaa.Pure
