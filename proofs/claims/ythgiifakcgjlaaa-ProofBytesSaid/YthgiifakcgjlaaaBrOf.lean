/- Which elements are of a level. Conditions: none but the elements' kinds. -/
import Derived.Test.YthgiifakcgjlaaaBrBits
import Derived.Test.YthgiifakcgjlaaaPx9
set_option linter.unusedVariables false
namespace Go.Proofs.Ythgiifakcgjlaaa.Br
open Go.RowKit Go.Proofs.YthgiifakcgjlaaaT Go.Proofs.Ythgiifakcgjlaaa.P Go.Proofs.YthgiifakcgjlaaaW.PrintWords Go.Proofs.YthgiifakcgjlaaaW.PrintLast Go.Proofs.YthgiifakcgjlaaaW.PrintMore
theorem Of_f (k : Nat) (l : Int) (x : T 7) : octet_Of.f (k + 1) l (hiW x) (loW x) = some (ofB l x) := by
  unfold octet_Of.f
  by_cases h0 : l < 0
  · rw [if_pos h0, octet_Of.j0, if_pos rfl]
    have : ofB l x = false := by unfold ofB; rw [decide_eq_false_iff_not]; omega
    rw [this]
  · rw [if_neg h0, octet_Of.j0]
    by_cases h7 : l > 7
    · rw [if_pos (by simpa using h7)]
      have : ofB l x = false := by unfold ofB; rw [decide_eq_false_iff_not]; omega
      rw [this]
    · rw [if_neg (by simpa using h7)]
      obtain ⟨j, rfl⟩ := Int.eq_ofNat_of_zero_le (by omega : 0 ≤ l)
      have hz : ((enc 6 x.1 : Int) = 0) ↔ enc 6 x.1 = 0 := by omega
      by_cases e7 : j = 7
      · subst e7
        rw [if_pos (by omega), ofB_nat (Nat.le_refl _) (inL_top x)]
      · rw [if_neg (by omega)]
        by_cases e6 : j = 6
        · subst e6
          rw [if_pos (by omega)]
          congr 1
          unfold ofB hiW
          rw [Bool.eq_iff_iff]
          have := lt64 (k := 6) (by omega) x.2
          rw [beq_iff_eq, decide_eq_true_eq, enc7]
          constructor
          · intro h
            refine ⟨by omega, by omega, ?_⟩
            show enc 6 x.1 * 2 ^ 64 + enc 6 x.2 < 2 ^ 64
            omega
          · rintro ⟨_, _, h⟩
            have h : enc 6 x.1 * 2 ^ 64 + enc 6 x.2 < 2 ^ 64 := h
            omega
        · rw [if_neg (by omega)]
          have hlt := lt64 (k := 6) (by omega) x.2
          have hp : 2 ^ 2 ^ j ≤ 2 ^ 32 := Nat.pow_le_pow_right (by decide) (Nat.le_trans (Nat.pow_le_pow_right (by decide) (show j ≤ 5 by omega)) (by decide))
          by_cases hh : enc 6 x.1 = 0
          · rw [if_pos (by unfold hiW; omega), if_pos (by omega)]
            congr 1
            unfold loW
            rw [shr_zero (by omega) _ hlt]
            unfold ofB
            rw [Bool.eq_iff_iff, decide_eq_true_eq, decide_eq_true_eq, enc7, Int.toNat_natCast, hh, Nat.zero_mul, Nat.zero_add]
            exact ⟨fun h => ⟨by omega, by omega, h⟩, fun h => h.2.2⟩
          · rw [if_neg (by unfold hiW; omega)]
            congr 1
            symm
            unfold ofB
            rw [decide_eq_false_iff_not, enc7, Int.toNat_natCast]
            rintro ⟨_, _, h⟩
            have : 2 ^ 64 ≤ enc 6 x.1 * 2 ^ 64 := Nat.le_mul_of_pos_left _ (by omega)
            have : (2 : Nat) ^ 32 < 2 ^ 64 := by decide
            omega
theorem Of_ev (l : Int) (x : T 7) : Ev (fun k => octet_Of.f k l (hiW x) (loW x)) (ofB l x) := Ev.succ (Ev.from 0 fun k _ => Of_f k l x)
end Go.Proofs.Ythgiifakcgjlaaa.Br
