/- Products with the generator are the tower's. Conditions: as the products'. -/
import Derived.Test.YtbjjjdallodbgaaBrMul
import Derived.Test.YtbjjjdallodbgaaPx12
set_option linter.unusedVariables false
namespace Go.Proofs.Ytbjjjdallodbgaa.Br
open Go.RowKit Go.Proofs.YtbjjjdallodbgaaT Go.Proofs.Ytbjjjdallodbgaa.P Go.Proofs.YtbjjjdallodbgaaW.PrintWords Go.Proofs.YtbjjjdallodbgaaW.PrintLast Go.Proofs.YtbjjjdallodbgaaW.PrintMore
theorem MulX_ev (l : Int) (x : T 7) : Ev (fun k => tower_MulX.f k l (hiW x) (loW x)) (hiW (mulXE l x), loW (mulXE l x)) := by
  refine Ev.from 40 fun k hk => ?_
  obtain ⟨k, rfl⟩ : ∃ m, k = m + 1 := ⟨k - 1, by omega⟩
  unfold tower_MulX.f
  rw [Of_f]
  rw [Option.bind_some]
  generalize k + 1 = k at hk ⊢
  by_cases hx : ofB l x = true
  · have e : mulXE l x = x * X7 l := if_pos hx
    obtain ⟨j, rfl, hj, hxj⟩ := ofB_iff.1 hx
    have e2 : X7 (j : Int) = emb 7 j (gen j) := if_pos (by omega)
    rw [if_pos hx, e, e2]
    by_cases h6 : j ≤ 6
    · rw [if_pos (by omega)]
      obtain ⟨a, rfl⟩ := hxj.ex
      rw [lo_emb h6, mulX_f j _ h6 (by omega), ← emb_mul hj, hi_emb h6, lo_emb h6]
      rfl
    · rw [if_neg (by omega)]
      obtain rfl : j = 7 := by omega
      unfold hiW loW
      rw [mulX6 (by omega)]
      rw [Option.bind_some]
      rw [xor6, emb_self, mulgen x]
  · have e : mulXE l x = 0 := if_neg hx
    rw [if_neg hx, e, zero_pair]
end Go.Proofs.Ytbjjjdallodbgaa.Br
