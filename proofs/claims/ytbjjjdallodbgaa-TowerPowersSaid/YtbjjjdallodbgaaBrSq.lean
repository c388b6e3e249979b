/- The squares of the code are the tower's. Conditions: as the products'. -/
import Derived.Test.YtbjjjdallodbgaaBrMul
import Derived.Test.YtbjjjdallodbgaaPx6
set_option linter.unusedVariables false
namespace Go.Proofs.Ytbjjjdallodbgaa.Br
open Go.RowKit Go.Proofs.YtbjjjdallodbgaaT Go.Proofs.Ytbjjjdallodbgaa.P Go.Proofs.YtbjjjdallodbgaaW.PrintWords Go.Proofs.YtbjjjdallodbgaaW.PrintLast Go.Proofs.YtbjjjdallodbgaaW.PrintMore
theorem square_f : ∀ (k fuel : Nat), k ≤ 6 → k + 2 ≤ fuel → ∀ x : T k, tower_square.f fuel (k : Int) (enc k x : Int) = some (enc k (x * x) : Int)
  | 0, f + 1, _, _, x => by
    rw [tower_square.f, if_pos (by rfl)]
    have : x * x = x := by cases x <;> rfl
    rw [this]
  | k + 1, f + 1, h, hf, x => by
    rw [tower_square.f, if_neg (by omega), halves_f (by omega)]
    simp only [Option.bind_some]
    rw [wrap_pred k (by omega), square_f k f (by omega) (by omega)]
    simp only [Option.bind_some]
    rw [mulX_f k f (by omega) (by omega)]
    simp only [Option.bind_some]
    rw [square_f k f (by omega) (by omega)]
    simp only [Option.bind_some]
    rw [xor_f (by omega), join_f (by omega)]
    simp only [Option.bind_some]
    have : x * x = ((x.1 * x.1 * gen k, x.2 * x.2 + x.1 * x.1) : T k × T k) := by
      refine ext2 ?_ rfl
      show x.1 * x.1 * gen k + x.1 * x.2 + x.2 * x.1 = x.1 * x.1 * gen k
      rw [mul_comm x.2, add_assoc, add_self, add_zero]
    rw [this]
theorem square6 {k : Nat} (hk : 14 ≤ k) (x : T 6) : tower_square.f k 6 (enc 6 x : Int) = some (enc 6 (x * x) : Int) := square_f 6 k (by omega) (by omega) x
theorem Square_ev (l : Int) (x : T 7) : Ev (fun k => tower_Square.f k l (hiW x) (loW x)) (hiW (sqE l x), loW (sqE l x)) := by
  refine Ev.from 40 fun k hk => ?_
  obtain ⟨k, rfl⟩ : ∃ m, k = m + 1 := ⟨k - 1, by omega⟩
  unfold tower_Square.f
  rw [Of_f]
  rw [Option.bind_some]
  generalize k + 1 = k at hk ⊢
  by_cases hx : ofB l x = true
  · have e : sqE l x = x * x := if_pos hx
    rw [if_pos hx, e]
    obtain ⟨j, rfl, hj, hxj⟩ := ofB_iff.1 hx
    by_cases h6 : j ≤ 6
    · rw [if_pos (by omega)]
      obtain ⟨a, rfl⟩ := hxj.ex
      rw [lo_emb h6, square_f j _ h6 (by omega), ← emb_mul hj, hi_emb h6, lo_emb h6]
      rfl
    · rw [if_neg (by omega)]
      unfold hiW loW
      rw [square6 (by omega)]
      rw [Option.bind_some]
      rw [mulX6 (by omega)]
      rw [Option.bind_some]
      rw [square6 (by omega)]
      rw [Option.bind_some]
      rw [xor6, sq_kara x]
  · have e : sqE l x = 0 := if_neg hx
    rw [if_neg hx, e, zero_pair]
end Go.Proofs.Ytbjjjdallodbgaa.Br
