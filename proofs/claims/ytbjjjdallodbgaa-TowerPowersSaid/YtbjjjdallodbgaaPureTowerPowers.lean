/- Exponents add: a power of a sum of exponents is the product of powers, for any exponents. Conditions: none but the arguments' kinds. -/
import Derived.Test.YtbjjjdallodbgaaBrPow
import Derived.Test.YtbjjjdallodbgaaBr02
import Derived.Test.YtbjjjdallodbgaaPx17
set_option linter.unusedVariables false
namespace Go.Proofs.Ytbjjjdallodbgaa.Pure
open Go.RowKit Go.Proofs.YtbjjjdallodbgaaT Go.Proofs.Ytbjjjdallodbgaa.P Go.Proofs.Ytbjjjdallodbgaa.Br Go.Proofs.YtbjjjdallodbgaaW.PrintWords Go.Proofs.YtbjjjdallodbgaaW.PrintLast Go.Proofs.YtbjjjdallodbgaaW.PrintMore
theorem u32_wf {a : Int} : (Lit.int .u32 a).wf = true ↔ 0 ≤ a ∧ a < 4294967296 := by
  simp [Lit.wf, IntKind.min, IntKind.max, IntKind.bits, IntKind.signed]
  omega
theorem TowerPowers : steeplelaw02_TowerPowers.Pure := by
  intro a x e ha ⟨h1, h2⟩ ⟨h3, h4⟩
  obtain ⟨A, eA, eA'⟩ := el_of h1 h2
  rw [eA, eA']
  rw [u32_wf] at h3 h4
  obtain ⟨m, hm⟩ := Int.eq_ofNat_of_zero_le h3.1
  obtain ⟨n, hn⟩ := Int.eq_ofNat_of_zero_le h4.1
  rw [hm, hn]
  have bm : m < 4294967296 := by omega
  have bn : n < 4294967296 := by omega
  refine Ev.rounds ?_
  unfold steeplelaw02_TowerPowers.f
  have um : IntKind.u64.wrap (m : Int) = m := wrap_u64 m (by omega)
  have un : IntKind.u64.wrap (n : Int) = n := wrap_u64 n (by omega)
  have us : IntKind.u64.wrap ((m : Int) + n) = ((m + n : Nat) : Int) := by
    rw [show (m : Int) + n = ((m + n : Nat) : Int) by omega]
    exact wrap_u64 _ (by omega)
  have tm : Int.tmod (m : Int) 1000 = ((m % 1000 : Nat) : Int) := by
    rw [Int.tmod_eq_emod_of_nonneg (by omega)]
    omega
  have tn : Int.tmod (n : Int) 1000 = ((n % 1000 : Nat) : Int) := by
    rw [Int.tmod_eq_emod_of_nonneg (by omega)]
    omega
  have hp : m % 1000 * (n % 1000) ≤ 999 * 999 := Nat.mul_le_mul (by omega) (by omega)
  have up : IntKind.u64.wrap (((m % 1000 : Nat) : Int) * ((n % 1000 : Nat) : Int)) = ((m % 1000 * (n % 1000) : Nat) : Int) := by
    rw [← Int.natCast_mul]
    exact wrap_u64 _ (by omega)
  rw [um, un, us, tm, tn, up]
  refine Ev.bind (of_ev ha [A] (by simp)) ?_
  have hj := lev_le a
  have hA := cutE_in hj A
  simp only [List.map_cons, List.map_nil, List.length_cons, List.length_nil, rd_e0, elS_f0, elS_f1]
  generalize cutE (lev a) A = x at hA ⊢
  generalize lev a = j at hj hA ⊢
  refine Ev.bind awake_ev (Ev.pos rfl (Ev.pos (by decide) ?_))
  refine Ev.bind (Pow_ev hj _ (by omega) hA) ?_
  refine Ev.bind (Pow_ev hj _ (by omega) hA) ?_
  refine Ev.bind (Pow_ev hj _ (by omega) hA) ?_
  refine Ev.bind (Mul_ev _ _ _) ?_
  rw [mulE_in hj (powN_inL hj hA _) (powN_inL hj hA _)]
  refine Ev.pos (eq_pair (powN_add x m n)) ?_
  refine Ev.bind (Pow_ev hj _ (by omega) hA) ?_
  refine Ev.bind (Pow_ev hj _ (by omega) (powN_inL hj hA _)) ?_
  refine Ev.bind (Pow_ev hj _ (by omega) hA) ?_
  rw [eq_pair (powN_mul x _ _).symm]
  exact Ev.now _
end Go.Proofs.Ytbjjjdallodbgaa.Pure
