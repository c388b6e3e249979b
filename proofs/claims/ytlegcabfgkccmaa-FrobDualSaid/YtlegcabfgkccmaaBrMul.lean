/- The products of the code are the tower's. Conditions: words and elements are in range, rounds are enough. -/
import Derived.Test.YtlegcabfgkccmaaBrOf
import Derived.Test.YtlegcabfgkccmaaBrAdd
import Derived.Test.YtlegcabfgkccmaaPx3
import Derived.Test.YtlegcabfgkccmaaPx4
set_option linter.unusedVariables false
namespace Go.Proofs.Ytlegcabfgkccmaa.Br
open Go.RowKit Go.Proofs.YtlegcabfgkccmaaT Go.Proofs.Ytlegcabfgkccmaa.P Go.Proofs.YtlegcabfgkccmaaW.PrintWords Go.Proofs.YtlegcabfgkccmaaW.PrintLast Go.Proofs.YtlegcabfgkccmaaW.PrintMore
theorem halves_f {k : Nat} (h : k < 6) (x : T (k + 1)) : tower_halves.f ((k + 1 : Nat) : Int) (enc (k + 1) x : Int) = some ((enc k x.1 : Int), (enc k x.2 : Int)) := by
  unfold tower_halves.f
  rw [wrap_pred k (by omega), shl1_i64 k (by omega), if_pos (by omega), if_pos (Int.natCast_nonneg _), mask_u64 k (by omega)]
  have h1 : 2 ^ k ≤ 64 := Nat.le_trans (Nat.pow_le_pow_right (by decide) (show k ≤ 6 by omega)) (by decide)
  have h2 : 2 ^ 2 ^ k - 1 < 2 ^ 64 := Nat.lt_of_lt_of_le (Nat.sub_lt (Nat.two_pow_pos _) (by decide)) (Nat.pow_le_pow_right (by decide) h1)
  rw [shr_u64 _ _ h1, bits_and _ _ (lt64 (by omega) x) h2, enc_hi, Nat.and_two_pow_sub_one_eq_mod, enc_lo]
theorem join_f {k : Nat} (h : k < 6) (a b : T k) : tower_join.f ((k + 1 : Nat) : Int) (enc k a : Int) (enc k b : Int) = some (enc (k + 1) ((a, b) : T k × T k) : Int) := by
  unfold tower_join.f
  have h1 : 2 ^ k ≤ 64 := Nat.le_trans (Nat.pow_le_pow_right (by decide) (show k ≤ 6 by omega)) (by decide)
  have h3 : enc k a * 2 ^ 2 ^ k + enc k b < 2 ^ 64 := lt64 (k := k + 1) (by omega) ((a, b) : T k × T k)
  rw [wrap_pred k (by omega), shl1_u64 k (by omega), if_pos (by omega), shl_u64 _ _ h1 (by omega), bits_or _ _ (by omega) (by omega), or_join _ (enc_lt k b)]
  rfl
theorem mulX_f : ∀ (k fuel : Nat), k ≤ 6 → k + 1 ≤ fuel → ∀ x : T k, tower_mulX.f fuel (k : Int) (enc k x : Int) = some (enc k (x * gen k) : Int)
  | 0, f + 1, _, _, x => by
    rw [tower_mulX.f, if_pos (by rfl)]
    have : x * gen 0 = x := mul_one x
    rw [this]
  | k + 1, f + 1, h, hf, x => by
    rw [tower_mulX.f, if_neg (by omega), halves_f (by omega)]
    simp only [Option.bind_some]
    rw [wrap_pred k (by omega), mulX_f k f (by omega) (by omega)]
    simp only [Option.bind_some]
    rw [xor_f (by omega), join_f (by omega)]
    simp only [Option.bind_some]
    have : x * gen (k + 1) = ((x.2 + x.1 * gen k, x.1) : T k × T k) := by
      refine ext2 ?_ ?_
      · show x.1 * 1 * gen k + x.1 * 0 + x.2 * 1 = _
        rw [mul_one, mul_one, mul_zero, add_zero, add_comm]
      · show x.2 * 0 + x.1 * 1 = _
        rw [mul_one, mul_zero, zero_add]
    rw [this]
theorem mul_f : ∀ (k fuel : Nat), k ≤ 6 → 2 * k + 2 ≤ fuel → ∀ x y : T k, tower_mul.f fuel (k : Int) (enc k x : Int) (enc k y : Int) = some (enc k (x * y) : Int)
  | 0, f + 2, _, _, x, y => by
    rw [tower_mul.f, if_pos (by rfl), tower_mul.j0, if_pos rfl, and1]
  | k + 1, f + 2, h, hf, x, y => by
    rw [tower_mul.f, if_neg (by omega)]
    by_cases hx : x = 0
    · rw [if_pos (cast_enc_zero.2 hx), tower_mul.j0, if_pos rfl, cast_enc_zero.2 hx, and_zero_l _ (lt64 h y), hx, zero_mul, enc_zero]
      rfl
    · rw [if_neg (fun e => hx (cast_enc_zero.1 e)), tower_mul.j0]
      by_cases hy : y = 0
      · rw [if_pos (by rw [cast_enc_zero.2 hy]; rfl), cast_enc_zero.2 hy, and_zero_r _ (lt64 h x), hy, mul_zero, enc_zero]
        rfl
      · rw [if_neg (by simpa using fun e => hy (cast_enc_zero.1 e)), halves_f (by omega)]
        simp only [Option.bind_some]
        rw [halves_f (by omega)]
        simp only [Option.bind_some]
        rw [wrap_pred k (by omega), mul_f k f (by omega) (by omega)]
        simp only [Option.bind_some]
        rw [mul_f k f (by omega) (by omega)]
        simp only [Option.bind_some]
        rw [xor_f (by omega), xor_f (by omega), mul_f k f (by omega) (by omega)]
        simp only [Option.bind_some]
        rw [mulX_f k f (by omega) (by omega)]
        simp only [Option.bind_some]
        rw [xor_f (by omega), xor_f (by omega), xor_f (by omega), xor_f (by omega), join_f (by omega)]
        simp only [Option.bind_some]
        rw [mul_kara]
theorem Mul_ev (l : Int) (x y : T 7) : Ev (fun k => tower_Mul.f k l (hiW x) (loW x) (hiW y) (loW y)) (hiW (mulE l x y), loW (mulE l x y)) := by
  refine Ev.from 40 fun k hk => ?_
  obtain ⟨k, rfl⟩ : ∃ m, k = m + 1 := ⟨k - 1, by omega⟩
  unfold tower_Mul.f
  rw [Of_f, Of_f]
  rw [Option.bind_some]
  by_cases hx : ofB l x = true
  · rw [if_pos hx, Option.bind_some]
    by_cases hy : ofB l y = true
    · have e : mulE l x y = x * y := if_pos ⟨hx, hy⟩
      rw [tower_Mul.j0, hy, if_neg (by decide), e]
      obtain ⟨j, rfl, hj, hxj⟩ := ofB_iff.1 hx
      obtain ⟨j', hjj, _, hyj⟩ := ofB_iff.1 hy
      obtain rfl : j' = j := by omega
      by_cases h6 : j' ≤ 6
      · rw [if_pos (by omega)]
        obtain ⟨a, rfl⟩ := hxj.ex
        obtain ⟨b, rfl⟩ := hyj.ex
        rw [lo_emb h6, lo_emb h6, mul_f j' k h6 (by omega), ← emb_mul hj, hi_emb h6, lo_emb h6]
        rfl
      · rw [if_neg (by omega)]
        have m6 := mul_f 6 k (by omega) (by omega)
        have x6 := mulX_f 6 k (by omega) (by omega)
        have m6' : ∀ x y : T 6, tower_mul.f k 6 (enc 6 x : Int) (enc 6 y : Int) = some (enc 6 (x * y) : Int) := m6
        have x6' : ∀ x : T 6, tower_mulX.f k 6 (enc 6 x : Int) = some (enc 6 (x * gen 6) : Int) := x6
        unfold hiW loW
        rw [m6']
        rw [Option.bind_some]
        rw [m6']
        rw [Option.bind_some]
        rw [xor6, xor6, m6']
        rw [Option.bind_some]
        rw [x6']
        rw [Option.bind_some]
        rw [xor6, xor6, xor6, xor6, mul_kara x y]
    · have e : mulE l x y = 0 := if_neg (fun h => hy h.2)
      rw [tower_Mul.j0, if_pos (by simpa using hy), e, zero_pair]
  · have e : mulE l x y = 0 := if_neg (fun h => hx h.1)
    rw [if_neg hx, tower_Mul.j0, if_pos rfl, e, zero_pair]
theorem One_f : tower_One.f = some (hiW 1, loW 1) := by rw [hi_one, lo_one]; rfl
theorem mul6 {k : Nat} (hk : 14 ≤ k) (x y : T 6) : tower_mul.f k 6 (enc 6 x : Int) (enc 6 y : Int) = some (enc 6 (x * y) : Int) := mul_f 6 k (by omega) (by omega) x y
theorem mulX6 {k : Nat} (hk : 14 ≤ k) (x : T 6) : tower_mulX.f k 6 (enc 6 x : Int) = some (enc 6 (x * gen 6) : Int) := mulX_f 6 k (by omega) (by omega) x
end Go.Proofs.Ytlegcabfgkccmaa.Br
