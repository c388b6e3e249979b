/- Squares go over sums, and an element squared as often as its level has bits is itself again. Conditions: none but the arguments' kinds. -/
import Derived.Test.YtbjjjdallodbgaaBrSq
import Derived.Test.YtbjjjdallodbgaaBr02
import Derived.Test.YtbjjjdallodbgaaPx7
set_option linter.unusedVariables false
namespace Go.Proofs.Ytbjjjdallodbgaa.Pure
open Go.RowKit Go.Proofs.YtbjjjdallodbgaaT Go.Proofs.Ytbjjjdallodbgaa.P Go.Proofs.Ytbjjjdallodbgaa.Br Go.Proofs.YtbjjjdallodbgaaW.PrintWords Go.Proofs.YtbjjjdallodbgaaW.PrintLast Go.Proofs.YtbjjjdallodbgaaW.PrintMore
theorem Squares_l0 {j : Nat} (hj : j ≤ 7) {x : T 7} (hx : InL j x) : ∀ d i : Nat, i + d = 2 ^ j →
    Ev (fun k => steeplelaw02_TowerSquares.l0 k (j : Int) (i : Int) (hiW x) (loW x) (hiW (frob i x)) (loW (frob i x))) true
  | d, i, h => by
    have e : rd [1, 2, 4, 8, 16, 32, 64, 128] (j : Int) = ((2 ^ j : Nat) : Int) := by
      have : ∀ j : Nat, j < 8 → rd [1, 2, 4, 8, 16, 32, 64, 128] (j : Int) = ((2 ^ j : Nat) : Int) := by decide
      exact this j (by omega)
    have hp : 2 ^ j ≤ 2 ^ 7 := Nat.pow_le_pow_right (by decide) hj
    refine Ev.succ ?_
    simp only [steeplelaw02_TowerSquares.l0]
    refine Ev.bind (Ev.now _) ?_
    refine Ev.pos (by omega) (Ev.pos (show (j : Int) < 8 by omega) ?_)
    rw [e]
    match d with
    | 0 =>
      refine Ev.neg (by omega) (Ev.bind awake_ev (Ev.pos rfl ?_))
      obtain rfl : i = 2 ^ j := by omega
      rw [frob_inL hj hx, eq_pair rfl]
      exact Ev.now _
    | d + 1 =>
      refine Ev.pos (by omega) ?_
      refine Ev.bind (Square_ev _ _) ?_
      have hin : ∀ n, InL j (frob n x) := fun n => by
        rw [frob_powN]
        exact powN_inL hj hx _
      rw [sqE_in hj (hin i), ← frob_succ, wrap_succ i (by omega)]
      exact Squares_l0 hj hx d (i + 1) (by omega)
theorem TowerSquares : steeplelaw02_TowerSquares.Pure := by
  intro a x y ha ⟨h1, h2⟩ ⟨h3, h4⟩
  obtain ⟨A, eA, eA'⟩ := el_of h1 h2
  obtain ⟨B, eB, eB'⟩ := el_of h3 h4
  rw [eA, eA', eB, eB']
  refine Ev.rounds ?_
  unfold steeplelaw02_TowerSquares.f
  refine Ev.bind (of_ev ha [A, B] (by simp)) ?_
  have hj := lev_le a
  have hA := cutE_in hj A
  have hB := cutE_in hj B
  simp only [List.map_cons, List.map_nil, List.length_cons, List.length_nil, rd_e0, rd_e1, elS_f0, elS_f1]
  generalize cutE (lev a) A = x at hA ⊢
  generalize cutE (lev a) B = y at hB ⊢
  generalize lev a = j at hj hA hB ⊢
  refine Ev.pos (by decide) (Ev.pos (by decide) ?_)
  refine Ev.bind (Ev.const (Add_f x y)) ?_
  refine Ev.bind (Square_ev _ _) ?_
  refine Ev.bind (Square_ev _ _) ?_
  refine Ev.bind (Square_ev _ _) ?_
  rw [sqE_in hj (inL_add hA hB), sqE_in hj hA, sqE_in hj hB]
  refine Ev.bind (Ev.const (Add_f _ _)) ?_
  refine Ev.neg (by rw [same_pair (sq_add x y)]; decide) ?_
  refine Ev.bind (Square_ev _ _) ?_
  refine Ev.bind (Mul_ev _ _ _) ?_
  rw [sqE_in hj hA, mulE_in hj hA hA]
  refine Ev.neg (by rw [same_pair rfl]; decide) ?_
  exact Squares_l0 hj hA (2 ^ j) 0 (by omega)
end Go.Proofs.Ytbjjjdallodbgaa.Pure
