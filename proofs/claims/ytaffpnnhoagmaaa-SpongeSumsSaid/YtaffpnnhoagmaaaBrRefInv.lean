/- The document's inverses. Conditions: small exponents. -/
import Derived.Test.YtaffpnnhoagmaaaBrRefMul
import Derived.Test.YtaffpnnhoagmaaaBrRefOf
import Derived.Test.YtaffpnnhoagmaaaPx4
set_option linter.unusedVariables false
namespace Go.Proofs.Ytaffpnnhoagmaaa.Br
open Go.RowKit Go.Proofs.YtaffpnnhoagmaaaT Go.Proofs.Ytaffpnnhoagmaaa.P Go.Proofs.YtaffpnnhoagmaaaW.PrintWords Go.Proofs.YtaffpnnhoagmaaaW.PrintLast Go.Proofs.YtaffpnnhoagmaaaW.PrintMore
/-- s squared i times, and the product of the squares up to there. -/
theorem refInv_l0 {j : Nat} (hj : j ≤ 7) (a : T 7) : ∀ d i : Nat, i + 1 + d = 2 ^ j → Ev (fun k => steepleref02_Inv.l0 k (j : Int) [1, 2, 4, 8, 16, 32, 64, 128] ((i + 1 : Nat) : Int) (hiW (powN a (2 ^ (i + 1) - 2))) (loW (powN a (2 ^ (i + 1) - 2))) (hiW (powN a (2 ^ i))) (loW (powN a (2 ^ i)))) (hiW (powN a (2 ^ 2 ^ j - 2)), loW (powN a (2 ^ 2 ^ j - 2)))
  | d, i, h => by
    have e : rd [1, 2, 4, 8, 16, 32, 64, 128] (j : Int) = ((2 ^ j : Nat) : Int) := by
      have : ∀ j : Nat, j < 8 → rd [1, 2, 4, 8, 16, 32, 64, 128] (j : Int) = ((2 ^ j : Nat) : Int) := by decide
      exact this j (by omega)
    have hp : 2 ^ j ≤ 2 ^ 7 := Nat.pow_le_pow_right (by decide) hj
    refine Ev.succ ?_
    simp only [steepleref02_Inv.l0]
    refine Ev.pos (by omega) (Ev.pos (show (j : Int) < 8 by omega) ?_)
    rw [e]
    match d with
    | 0 =>
      refine Ev.neg (by omega) ?_
      have : i + 1 = 2 ^ j := by omega
      rw [this]
      exact Ev.now _
    | d + 1 =>
      refine Ev.pos (by omega) ?_
      refine Ev.bind (Product_ev _ _) ?_
      have e1 : powN a (2 ^ i) * powN a (2 ^ i) = powN a (2 ^ (i + 1)) := by rw [← powN_add, Nat.pow_succ, Nat.mul_two]
      rw [e1]
      refine Ev.bind (Product_ev _ _) ?_
      have e2 : powN a (2 ^ (i + 1) - 2) * powN a (2 ^ (i + 1)) = powN a (2 ^ (i + 1 + 1) - 2) := by
        have : 2 ^ 1 ≤ 2 ^ (i + 1) := Nat.pow_le_pow_right (by decide) (by omega)
        rw [← powN_add]
        congr 1
        rw [Nat.pow_succ 2 (i + 1)]
        omega
      rw [e2, wrap_succ (i + 1) (by omega)]
      exact refInv_l0 hj a d (i + 1) (by omega)
theorem refInv_ev (l : Int) (x : T 7) : Ev (fun k => steepleref02_Inv.f k l (hiW x) (loW x)) (hiW (invE l x), loW (invE l x)) := by
  unfold steepleref02_Inv.f
  refine Ev.bind (refOf_ev l x) ?_
  by_cases hx : ofB l x = true
  · have e : invE l x = inv 7 x := if_pos hx
    refine Ev.pos hx ?_
    rw [e]
    obtain ⟨j, rfl, hj, hxj⟩ := ofB_iff.1 hx
    by_cases h0 : j = 0
    · subst h0
      refine Ev.pos rfl ?_
      obtain ⟨b, rfl⟩ := hxj.ex
      rw [← emb_inv hj]
      have : inv 0 b = b := (rfl)
      rw [this]
      exact Ev.now _
    · refine Ev.neg (by omega) ?_
      rcases inv_powN hj hxj with h | ⟨_, h⟩
      · rw [← h]
        have hp : 0 < 2 ^ j := Nat.two_pow_pos j
        have := refInv_l0 hj x (2 ^ j - 1) 0 (by omega)
        have e1 : powN x (2 ^ (0 + 1) - 2) = 1 := (rfl)
        have e2 : powN x (2 ^ 0) = x := one_mul x
        rw [e1, e2, hi_one, lo_one] at this
        exact this
      · exact absurd h h0
  · have e : invE l x = 0 := if_neg hx
    refine Ev.neg hx ?_
    rw [e, hi_zero, lo_zero]
    exact Ev.now _
end Go.Proofs.Ytaffpnnhoagmaaa.Br
