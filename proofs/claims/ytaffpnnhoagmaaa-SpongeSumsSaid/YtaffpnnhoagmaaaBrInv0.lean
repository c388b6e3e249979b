/- The inverses and quotients of the code are the tower's. Conditions: as the products'. -/
import Derived.Test.YtaffpnnhoagmaaaBrSqI0
import Derived.Test.YtaffpnnhoagmaaaPx1
set_option linter.unusedVariables false
namespace Go.Proofs.Ytaffpnnhoagmaaa.Br
open Go.RowKit Go.Proofs.YtaffpnnhoagmaaaT Go.Proofs.Ytaffpnnhoagmaaa.P Go.Proofs.YtaffpnnhoagmaaaW.PrintWords Go.Proofs.YtaffpnnhoagmaaaW.PrintLast Go.Proofs.YtaffpnnhoagmaaaW.PrintMore
theorem inv_f : ∀ (k fuel : Nat), k ≤ 6 → 2 * k + 4 ≤ fuel → ∀ x : T k, tower_inv.f fuel (k : Int) (enc k x : Int) = some (enc k (inv k x) : Int)
  | 0, f + 1, _, _, x => by
    rw [tower_inv.f, if_pos (by rfl)]
    rfl
  | k + 1, f + 1, h, hf, x => by
    rw [tower_inv.f, if_neg (by omega), halves_f (by omega)]
    simp only [Option.bind_some]
    rw [wrap_pred k (by omega), mulX_f k f (by omega) (by omega)]
    simp only [Option.bind_some]
    rw [xor_f (by omega), mul_f k f (by omega) (by omega)]
    simp only [Option.bind_some]
    rw [square_f k f (by omega) (by omega)]
    simp only [Option.bind_some]
    rw [xor_f (by omega), inv_f k f (by omega) (by omega)]
    simp only [Option.bind_some]
    rw [mul_f k f (by omega) (by omega)]
    simp only [Option.bind_some]
    rw [mul_f k f (by omega) (by omega)]
    simp only [Option.bind_some]
    rw [join_f (by omega)]
    rfl
theorem inv6 {k : Nat} (hk : 16 ≤ k) (x : T 6) : tower_inv.f k 6 (enc 6 x : Int) = some (enc 6 (inv 6 x) : Int) := inv_f 6 k (by omega) (by omega) x
theorem Inv_ev (l : Int) (x : T 7) : Ev (fun k => tower_Inv.f k l (hiW x) (loW x)) (hiW (invE l x), loW (invE l x)) := by
  refine Ev.from 40 fun k hk => ?_
  obtain ⟨k, rfl⟩ : ∃ m, k = m + 1 := ⟨k - 1, by omega⟩
  unfold tower_Inv.f
  rw [Of_f]
  rw [Option.bind_some]
  generalize k + 1 = k at hk ⊢
  by_cases hx : ofB l x = true
  · have e : invE l x = inv 7 x := if_pos hx
    rw [if_pos hx, e]
    obtain ⟨j, rfl, hj, hxj⟩ := ofB_iff.1 hx
    by_cases h6 : j ≤ 6
    · rw [if_pos (by omega)]
      obtain ⟨a, rfl⟩ := hxj.ex
      rw [lo_emb h6, inv_f j _ h6 (by omega), ← emb_inv hj, hi_emb h6, lo_emb h6]
      rfl
    · rw [if_neg (by omega)]
      unfold hiW loW
      rw [mulX6 (by omega)]
      rw [Option.bind_some]
      rw [xor6, mul6 (by omega)]
      rw [Option.bind_some]
      rw [square6 (by omega)]
      rw [Option.bind_some]
      rw [xor6, inv6 (by omega)]
      rw [Option.bind_some]
      rw [mul6 (by omega)]
      rw [Option.bind_some]
      rw [mul6 (by omega)]
      rw [Option.bind_some]
      rw [inv_succ 6 x]
  · have e : invE l x = 0 := if_neg hx
    rw [if_neg hx, e, zero_pair]
end Go.Proofs.Ytaffpnnhoagmaaa.Br
