/- The powers of the code are the tower's. Conditions: as the products'. -/
import Derived.Test.YtbjjjdallodbgaaBrSq
import Derived.Test.YtbjjjdallodbgaaPx16
set_option linter.unusedVariables false
namespace Go.Proofs.Ytbjjjdallodbgaa.Br
open Go.RowKit Go.Proofs.YtbjjjdallodbgaaT Go.Proofs.Ytbjjjdallodbgaa.P Go.Proofs.YtbjjjdallodbgaaW.PrintWords Go.Proofs.YtbjjjdallodbgaaW.PrintLast Go.Proofs.YtbjjjdallodbgaaW.PrintMore
theorem Pow_l0 {j : Nat} (hj : j ≤ 7) : ∀ (n : Nat), n < 2 ^ 64 → ∀ a out : T 7, InL j a → InL j out → Ev (fun k => tower_Pow.l0 k (j : Int) (n : Int) (hiW a) (loW a) (hiW out) (loW out)) (hiW (out * powN a n), loW (out * powN a n)) := by
  intro n
  induction n using Nat.strongRecOn with
  | _ n ih =>
  intro hn a out ha ho
  refine Ev.succ ?_
  simp only [tower_Pow.l0]
  by_cases h0 : n = 0
  · subst h0
    refine Ev.neg (by omega) ?_
    show Ev _ (hiW (out * 1), loW (out * 1))
    rw [mul_one]
    exact Ev.now _
  · refine Ev.pos (by omega) ?_
    rw [and1_u64 n hn]
    have hd : ((n : Int) / 2) = ((n / 2 : Nat) : Int) := by omega
    rw [hd]
    have hs := inL_mul hj ha ha
    by_cases h1 : n % 2 = 1
    · refine Ev.pos (by omega) ?_
      refine Ev.bind (Mul_ev _ out a) ?_
      refine Ev.bind (Square_ev _ a) ?_
      rw [mulE_in hj ho ha, sqE_in hj ha]
      have := ih (n / 2) (by omega) (by omega) (a * a) (out * a) hs (inL_mul hj ho ha)
      have e := powN_odd a out h1
      rw [e]
      exact this
    · refine Ev.neg (by omega) ?_
      refine Ev.bind (Square_ev _ a) ?_
      rw [sqE_in hj ha]
      have := ih (n / 2) (by omega) (by omega) (a * a) out hs ho
      have e := powN_even a (show n % 2 = 0 by omega)
      rw [e]
      exact this
theorem Pow_ev {j : Nat} (hj : j ≤ 7) (n : Nat) (hn : n < 2 ^ 64) {a : T 7} (ha : InL j a) : Ev (fun k => tower_Pow.f k (j : Int) (hiW a) (loW a) (n : Int)) (hiW (powN a n), loW (powN a n)) := by
  unfold tower_Pow.f
  refine Ev.bind (Of_ev _ a) ?_
  rw [ofB_nat hj ha]
  refine Ev.pos rfl ?_
  refine Ev.bind (Ev.const One_f) ?_
  have := Pow_l0 hj n hn a 1 ha inL_one
  rw [one_mul] at this
  exact this
theorem Pow_none {l : Int} (n : Int) {a : T 7} (ha : ofB l a = false) : Ev (fun k => tower_Pow.f k l (hiW a) (loW a) n) (hiW 0, loW 0) := by
  unfold tower_Pow.f
  refine Ev.bind (Of_ev _ a) ?_
  rw [ha]
  refine Ev.neg (by decide) ?_
  rw [hi_zero, lo_zero]
  exact Ev.now _
end Go.Proofs.Ytbjjjdallodbgaa.Br
