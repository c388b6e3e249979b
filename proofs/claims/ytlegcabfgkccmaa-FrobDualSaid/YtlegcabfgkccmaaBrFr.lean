/- Elements cut down to a level, levels below a level, and the page's example of layer 33. Conditions: those that each theorem names. -/
import Derived.Test.YtlegcabfgkccmaaBrCj
import Derived.Test.YtlegcabfgkccmaaPx12
import Derived.Test.YtlegcabfgkccmaaPx6
set_option linter.unusedVariables false
set_option linter.unusedSimpArgs false
namespace Go.Proofs.Ytlegcabfgkccmaa.Br
open Go.RowKit Go.Proofs.YtlegcabfgkccmaaT Go.Proofs.Ytlegcabfgkccmaa.P Go.Proofs.YtlegcabfgkccmaaW.PrintWords Go.Proofs.YtlegcabfgkccmaaW.PrintLast Go.Proofs.YtlegcabfgkccmaaW.PrintMore
theorem cutP_7 (x : T 7) : (hiW x, loW x) = (hiW (cutE 7 x), loW (cutE 7 x)) := by rw [cutE_self (inL_top x)]
theorem cutP_6 (x : T 7) : ((0 : Int), loW x) = (hiW (cutE 6 x), loW (cutE 6 x)) := by
  rw [hi_in (Nat.le_refl 6) (cutE_in (by omega) x), lo_cutE (Nat.le_refl 6), Nat.mod_eq_of_lt (lt64 (k := 6) (by omega) x.2)]
  rfl
theorem cutP_low {j : Nat} (h : j < 6) (x : T 7) : ((0 : Int), Go.bits .and .u64 (loW x) (IntKind.u64.wrap (shl .u64 1 (shl .u64 1 (j : Int)) - 1))) = (hiW (cutE j x), loW (cutE j x)) := by
  have h1 : 2 ^ j ≤ 64 := Nat.le_trans (Nat.pow_le_pow_right (by decide) (show j ≤ 6 by omega)) (by decide)
  have h2 : 2 ^ 2 ^ j - 1 < 2 ^ 64 := Nat.lt_of_lt_of_le (Nat.sub_lt (Nat.two_pow_pos _) (by decide)) (Nat.pow_le_pow_right (by decide) h1)
  rw [hi_in (show j ≤ 6 by omega) (cutE_in (by omega) x), lo_cutE (by omega), shl1_u64 j (by omega), mask_u64 j (by omega)]
  unfold loW
  rw [bits_and _ _ (lt64 (by omega) _) h2, Nat.and_two_pow_sub_one_eq_mod]
theorem of33_f {j : Nat} (hj : j ≤ 7) (x : T 7) : steeplelaw33_of.f (j : Int) (hiW x) (loW x) = some (hiW (cutE j x), loW (cutE j x)) := by
  unfold steeplelaw33_of.f
  rw [wrap_u64 j (by omega)]
  by_cases h7 : j < 7
  · rw [if_pos (by omega)]
    by_cases h6 : j < 6
    · rw [if_pos (by omega), if_pos (by omega), cutP_low h6]
    · obtain rfl : j = 6 := by omega
      rw [if_neg (by omega), cutP_6]
  · obtain rfl : j = 7 := by omega
    rw [if_neg (by omega), if_neg (by omega), ← cutP_7]
/-- A level of those up to n. -/
theorem modN {a : Int} (ha : (Lit.int .i64 a).wf = true) {n : Nat} (hn : n ≤ 7) : ∃ m : Nat, m ≤ n ∧ Int.tmod (wrap64 (wrap64 (Int.tmod a (wrap64 ((n : Int) + 1)) + (n : Int)) + 1)) (wrap64 ((n : Int) + 1)) = (m : Int) := by
  have e1 : wrap64 ((n : Int) + 1) = ((n + 1 : Nat) : Int) := by unfold wrap64; omega
  rw [e1]
  have hp : (0 : Int) < ((n + 1 : Nat) : Int) := by omega
  have h1 := Int.tmod_lt_of_pos a hp
  have h2 := Int.lt_tmod_of_pos a hp
  have e2 : wrap64 (wrap64 (Int.tmod a ((n + 1 : Nat) : Int) + (n : Int)) + 1) = Int.tmod a ((n + 1 : Nat) : Int) + (n : Int) + 1 := by
    generalize Int.tmod a ((n + 1 : Nat) : Int) = r at h1 h2 ⊢
    unfold wrap64
    omega
  rw [e2]
  have hb : 0 ≤ Int.tmod a ((n + 1 : Nat) : Int) + (n : Int) + 1 := by omega
  generalize Int.tmod a ((n + 1 : Nat) : Int) + (n : Int) + 1 = b at hb ⊢
  have h3 := Int.tmod_lt_of_pos b hp
  have h4 : 0 ≤ Int.tmod b ((n + 1 : Nat) : Int) := Int.tmod_nonneg _ hb
  exact ⟨(Int.tmod b ((n + 1 : Nat) : Int)).toNat, by omega, by omega⟩
end Go.Proofs.Ytlegcabfgkccmaa.Br
