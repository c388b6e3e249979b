/- The level of an element. Conditions: those that each theorem names. -/
import Derived.Test.YtlegcabfgkccmaaBrOf
import Derived.Test.YtlegcabfgkccmaaBrRefOf
import Derived.Test.YtlegcabfgkccmaaPx10
import Derived.Test.YtlegcabfgkccmaaPx5
set_option linter.unusedVariables false
namespace Go.Proofs.Ytlegcabfgkccmaa.Br
open Go.RowKit Go.Proofs.YtlegcabfgkccmaaT Go.Proofs.Ytlegcabfgkccmaa.P Go.Proofs.YtlegcabfgkccmaaW.PrintWords Go.Proofs.YtlegcabfgkccmaaW.PrintLast Go.Proofs.YtlegcabfgkccmaaW.PrintMore
def levF (x : T 7) : Nat → Nat → Nat
  | 0, i => i
  | d + 1, i => if ofB (i : Int) x = true then i else levF x d (i + 1)
theorem Level_l0 (x : T 7) : ∀ d i : Nat, i + d = 7 → Ev (fun k => tower_Level.l0 k (i : Int) (hiW x) (loW x)) ((levF x d i : Nat) : Int)
  | 0, i, h => by
    refine Ev.succ ?_
    simp only [tower_Level.l0]
    obtain rfl : i = 7 := by omega
    exact Ev.neg (by omega) (Ev.now _)
  | d + 1, i, h => by
    refine Ev.succ ?_
    simp only [tower_Level.l0]
    refine Ev.pos (by omega) (Ev.bind (Of_ev _ _) ?_)
    unfold levF
    by_cases hx : ofB (i : Int) x = true
    · rw [if_pos hx]
      exact Ev.pos hx (Ev.now _)
    · rw [if_neg hx, wrap_succ i (by omega)]
      exact Ev.neg hx (Level_l0 x d (i + 1) (by omega))
theorem refLevel_l0 (x : T 7) : ∀ d i : Nat, i + d = 7 → Ev (fun k => steepleref02_Level.l0 k (i : Int) (hiW x) (loW x)) ((levF x d i : Nat) : Int)
  | 0, i, h => by
    refine Ev.succ ?_
    simp only [steepleref02_Level.l0]
    obtain rfl : i = 7 := by omega
    exact Ev.bind (refOf_ev _ _) (Ev.pos (ofB_nat (Nat.le_refl 7) (inL_top x)) (Ev.now _))
  | d + 1, i, h => by
    refine Ev.succ ?_
    simp only [steepleref02_Level.l0]
    refine Ev.bind (refOf_ev _ _) ?_
    unfold levF
    by_cases hx : ofB (i : Int) x = true
    · rw [if_pos hx]
      exact Ev.pos hx (Ev.now _)
    · rw [if_neg hx, wrap_succ i (by omega)]
      exact Ev.neg hx (Ev.pos (by omega) (refLevel_l0 x d (i + 1) (by omega)))
theorem levF_spec (x : T 7) : ∀ d i : Nat, i + d = 7 → InL (levF x d i) x ∧ i ≤ levF x d i ∧ levF x d i ≤ 7 ∧ ∀ m, i ≤ m → m < levF x d i → ¬ InL m x
  | 0, i, h => by
    obtain rfl : i = 7 := by omega
    exact ⟨inL_top x, Nat.le_refl _, Nat.le_refl _, fun m h1 h2 => absurd h2 (Nat.not_lt.2 h1)⟩
  | d + 1, i, h => by
    unfold levF
    by_cases hx : ofB (i : Int) x = true
    · rw [if_pos hx]
      obtain ⟨j, hj, _, hin⟩ := ofB_iff.1 hx
      obtain rfl : i = j := by omega
      exact ⟨hin, Nat.le_refl _, by omega, fun m h1 h2 => absurd h2 (Nat.not_lt.2 h1)⟩
    · rw [if_neg hx]
      obtain ⟨h1, h2, h3, h4⟩ := levF_spec x d (i + 1) (by omega)
      refine ⟨h1, by omega, h3, fun m h5 h6 => ?_⟩
      by_cases h7 : m = i
      · subst h7
        exact fun h8 => hx (ofB_nat (by omega) h8)
      · exact h4 m (by omega) h6
/-- The least level of an element. -/
def lvE (x : T 7) : Nat := levF x 7 0
theorem Level_ev (x : T 7) : Ev (fun k => tower_Level.f k (hiW x) (loW x)) ((lvE x : Nat) : Int) := Level_l0 x 7 0 (by omega)
theorem refLevel_ev (x : T 7) : Ev (fun k => steepleref02_Level.f k (hiW x) (loW x)) ((lvE x : Nat) : Int) := refLevel_l0 x 7 0 (by omega)
theorem lvE_in (x : T 7) : InL (lvE x) x := (levF_spec x 7 0 (by omega)).1
theorem lvE_le (x : T 7) : lvE x ≤ 7 := (levF_spec x 7 0 (by omega)).2.2.1
theorem lvE_not (x : T 7) {m : Nat} (h : m < lvE x) : ¬ InL m x := (levF_spec x 7 0 (by omega)).2.2.2 m (by omega) h
theorem lvE_of {j : Nat} {x : T 7} (h : InL j x) : lvE x ≤ j := by
  apply Nat.le_of_not_lt
  exact fun h2 => lvE_not x h2 h
end Go.Proofs.Ytlegcabfgkccmaa.Br
