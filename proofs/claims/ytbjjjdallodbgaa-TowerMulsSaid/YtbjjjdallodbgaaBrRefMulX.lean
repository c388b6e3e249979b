/- The document's product in a level, and its generators. Conditions: none but the elements' kinds. -/
import Derived.Test.YtbjjjdallodbgaaBrRefMul
import Derived.Test.YtbjjjdallodbgaaBrRefOf
import Derived.Test.YtbjjjdallodbgaaPx11
import Derived.Test.YtbjjjdallodbgaaPx12
set_option linter.unusedVariables false
namespace Go.Proofs.Ytbjjjdallodbgaa.Br
open Go.RowKit Go.Proofs.YtbjjjdallodbgaaT Go.Proofs.Ytbjjjdallodbgaa.P Go.Proofs.YtbjjjdallodbgaaW.PrintWords Go.Proofs.YtbjjjdallodbgaaW.PrintLast Go.Proofs.YtbjjjdallodbgaaW.PrintMore
theorem refMul_ev (l : Int) (x y : T 7) : Ev (fun k => steepleref02_Mul.f k l (hiW x) (loW x) (hiW y) (loW y)) (hiW (mulE l x y), loW (mulE l x y)) := by
  unfold steepleref02_Mul.f
  refine Ev.bind (refOf_ev l x) ?_
  by_cases hx : ofB l x = true
  · refine Ev.pos hx ?_
    refine Ev.bind (refOf_ev l y) ?_
    by_cases hy : ofB l y = true
    · refine Ev.pos hy ?_
      have e : mulE l x y = x * y := if_pos ⟨hx, hy⟩
      rw [e]
      exact Ev.bind (Product_ev x y) (Ev.now _)
    · refine Ev.neg hy ?_
      have e : mulE l x y = 0 := if_neg fun h => hy h.2
      rw [e, hi_zero, lo_zero]
      exact Ev.now _
  · refine Ev.neg hx ?_
    have e : mulE l x y = 0 := if_neg fun h => hx h.1
    rw [e, hi_zero, lo_zero]
    exact Ev.now _
theorem refX_ev (l : Int) : Ev (fun k => steepleref02_X.f k l) (hiW (X7 l), loW (X7 l)) := by
  unfold steepleref02_X.f
  refine Ev.bind (Ev.now _) ?_
  by_cases h0 : l < 0
  · refine Ev.pos h0 ?_
    rw [X7_none (.inl h0), hi_zero, lo_zero]
    exact Ev.now _
  · refine Ev.neg h0 ?_
    by_cases h7 : l > 7
    · refine Ev.pos h7 ?_
      rw [X7_none (.inr h7), hi_zero, lo_zero]
      exact Ev.now _
    · refine Ev.neg h7 (Ev.pos (by omega) (Ev.pos (show l < 8 by omega) ?_))
      obtain ⟨j, rfl⟩ := Int.eq_ofNat_of_zero_le (by omega : 0 ≤ l)
      refine Ev.bind (refBit_ev _) ?_
      by_cases hj : j = 0
      · subst hj
        show Ev (fun _ => some (hiW (bitE 0), loW (bitE 0))) (hiW (X7 0), loW (X7 0))
        rw [X7_zero]
        exact Ev.now _
      · obtain ⟨m, rfl⟩ : ∃ m, j = m + 1 := ⟨j - 1, by omega⟩
        have e : rd [0, 1, 2, 4, 8, 16, 32, 64] ((m + 1 : Nat) : Int) = ((2 ^ m : Nat) : Int) := by
          have : ∀ m : Nat, m < 7 → rd [0, 1, 2, 4, 8, 16, 32, 64] ((m + 1 : Nat) : Int) = ((2 ^ m : Nat) : Int) := by decide
          exact this m (by omega)
        rw [e, X7_bit (by omega)]
        exact Ev.now _
end Go.Proofs.Ytbjjjdallodbgaa.Br
