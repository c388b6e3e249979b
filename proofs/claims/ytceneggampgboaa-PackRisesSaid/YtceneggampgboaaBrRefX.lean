/- A level's generator, in the document's words. Conditions: none. -/
import Derived.Test.YtceneggampgboaaBrRefMul
import Derived.Test.YtceneggampgboaaPx13
set_option linter.unusedVariables false
namespace Go.Proofs.Ytceneggampgboaa.Br
open Go.RowKit Go.Proofs.YtceneggampgboaaT Go.Proofs.Ytceneggampgboaa.P Go.Proofs.YtceneggampgboaaW.PrintWords Go.Proofs.YtceneggampgboaaW.PrintLast Go.Proofs.YtceneggampgboaaW.PrintMore
theorem refX_ev (l : Int) : Ev (fun k => steepleref02_X.f k l) (hiW (X7 l), loW (X7 l)) := by
  unfold steepleref02_X.f
  refine Ev.bind (Ev.now _) ?_
  by_cases h0 : l < 0
  · refine Ev.pos h0 ?_
    rw [X7_none (.inl h0), hi_zero, lo_zero]
    exact Ev.now _
  · refine Ev.neg h0 ?_
    by_cases h7 : l > 7
    · refine Ev.pos h7 ?_
      rw [X7_none (.inr h7), hi_zero, lo_zero]
      exact Ev.now _
    · refine Ev.neg h7 (Ev.pos (by omega) (Ev.pos (show l < 8 by omega) ?_))
      obtain ⟨j, rfl⟩ := Int.eq_ofNat_of_zero_le (by omega : 0 ≤ l)
      refine Ev.bind (refBit_ev _) ?_
      by_cases hj : j = 0
      · subst hj
        show Ev (fun _ => some (hiW (bitE 0), loW (bitE 0))) (hiW (X7 0), loW (X7 0))
        rw [X7_zero]
        exact Ev.now _
      · obtain ⟨m, rfl⟩ : ∃ m, j = m + 1 := ⟨j - 1, by omega⟩
        have e : rd [0, 1, 2, 4, 8, 16, 32, 64] ((m + 1 : Nat) : Int) = ((2 ^ m : Nat) : Int) := by
          have : ∀ m : Nat, m < 7 → rd [0, 1, 2, 4, 8, 16, 32, 64] ((m + 1 : Nat) : Int) = ((2 ^ m : Nat) : Int) := by decide
          exact this m (by omega)
        rw [e, X7_bit (by omega)]
        exact Ev.now _
end Go.Proofs.Ytceneggampgboaa.Br
