/- The squares of the code are the tower's. Conditions: as the products'. -/
import Derived.Test.YtlegcabfgkccmaaBrSqI
import Derived.Test.YtlegcabfgkccmaaPx3
set_option linter.unusedVariables false
namespace Go.Proofs.Ytlegcabfgkccmaa.Br
open Go.RowKit Go.Proofs.YtlegcabfgkccmaaT Go.Proofs.Ytlegcabfgkccmaa.P Go.Proofs.YtlegcabfgkccmaaW.PrintWords Go.Proofs.YtlegcabfgkccmaaW.PrintLast Go.Proofs.YtlegcabfgkccmaaW.PrintMore
theorem Square_ev (l : Int) (x : T 7) : Ev (fun k => tower_Square.f k l (hiW x) (loW x)) (hiW (sqE l x), loW (sqE l x)) := by
  refine Ev.from 40 fun k hk => ?_
  obtain ⟨k, rfl⟩ : ∃ m, k = m + 1 := ⟨k - 1, by omega⟩
  unfold tower_Square.f
  rw [Of_f]
  rw [Option.bind_some]
  generalize k + 1 = k at hk ⊢
  by_cases hx : ofB l x = true
  · have e : sqE l x = x * x := if_pos hx
    rw [if_pos hx, e]
    obtain ⟨j, rfl, hj, hxj⟩ := ofB_iff.1 hx
    by_cases h6 : j ≤ 6
    · rw [if_pos (by omega)]
      obtain ⟨a, rfl⟩ := hxj.ex
      rw [lo_emb h6, square_f j _ h6 (by omega), ← emb_mul hj, hi_emb h6, lo_emb h6]
      rfl
    · rw [if_neg (by omega)]
      unfold hiW loW
      rw [square6 (by omega)]
      rw [Option.bind_some]
      rw [mulX6 (by omega)]
      rw [Option.bind_some]
      rw [square6 (by omega)]
      rw [Option.bind_some]
      rw [xor6, sq_kara x]
  · have e : sqE l x = 0 := if_neg hx
    rw [if_neg hx, e, zero_pair]
end Go.Proofs.Ytlegcabfgkccmaa.Br
