/- Which elements are of a level, in the document's words. Conditions: none but the elements' kinds. -/
import Derived.Test.YthgiifakcgjlaaaBrBit
import Derived.Test.YthgiifakcgjlaaaPx7
set_option linter.unusedVariables false
namespace Go.Proofs.Ythgiifakcgjlaaa.Br
open Go.RowKit Go.Proofs.YthgiifakcgjlaaaT Go.Proofs.Ythgiifakcgjlaaa.P Go.Proofs.YthgiifakcgjlaaaW.PrintWords Go.Proofs.YthgiifakcgjlaaaW.PrintLast Go.Proofs.YthgiifakcgjlaaaW.PrintMore
theorem bit_f (x : T 7) {i : Nat} (h : i < 128) : steepleref01_bit.f (hiW x) (loW x) (i : Int) = some (((enc 7 x).testBit i).toNat : Int) := by
  unfold steepleref01_bit.f
  by_cases h6 : i < 64
  · rw [if_neg (by omega), u64_cast (by omega), if_pos (by omega), bits7_lo x h6]
    unfold loW
    rw [shr_u64 _ _ (by omega), and1_u64 _ (Nat.lt_of_le_of_lt (Nat.div_le_self _ _) (lt64 (by omega) _)), testBit_toNat]
  · rw [if_pos (by omega), wrap_sub64 (by omega) (by omega), u64_cast (by omega), if_pos (by omega), bits7_hi x (by omega)]
    unfold hiW
    rw [shr_u64 _ _ (by omega), and1_u64 _ (Nat.lt_of_le_of_lt (Nat.div_le_self _ _) (lt64 (by omega) _)), testBit_toNat]
theorem lt_of_bits {a n : Nat} (h : ∀ i, n ≤ i → a.testBit i = false) : a < 2 ^ n := Nat.lt_pow_two_of_testBit a h
theorem refOf_l0 (x : T 7) : ∀ d i : Nat, i + d = 128 → Ev (fun k => steepleref01_Of.l0 k (i : Int) (hiW x) (loW x)) (decide (enc 7 x < 2 ^ i))
  | 0, i, h => by
    refine Ev.succ ?_
    simp only [steepleref01_Of.l0]
    refine Ev.neg (by omega) ?_
    obtain rfl : i = 128 := by omega
    rw [decide_eq_true (show enc 7 x < 2 ^ 128 from enc_lt 7 x)]
    exact Ev.now _
  | d + 1, i, h => by
    refine Ev.succ ?_
    simp only [steepleref01_Of.l0]
    refine Ev.pos (by omega) ?_
    refine Ev.bind (Ev.const (bit_f x (by omega))) ?_
    cases hb : (enc 7 x).testBit i with
    | true =>
      refine Ev.pos rfl ?_
      have := Nat.ge_two_pow_of_testBit hb
      rw [decide_eq_false (by omega)]
      exact Ev.now _
    | false =>
      refine Ev.neg (by decide) ?_
      rw [wrap_succ i (by omega)]
      have e : decide (enc 7 x < 2 ^ i) = decide (enc 7 x < 2 ^ (i + 1)) := by
        rw [Bool.eq_iff_iff, decide_eq_true_eq, decide_eq_true_eq]
        constructor
        · intro h'
          exact Nat.lt_trans h' (Nat.pow_lt_pow_right (by decide) (by omega))
        · intro h'
          refine lt_of_bits fun m hm => ?_
          by_cases e : m = i
          · rw [e, hb]
          · exact Nat.testBit_lt_two_pow (Nat.lt_of_lt_of_le h' (Nat.pow_le_pow_right (by decide) (by omega)))
      rw [e]
      exact refOf_l0 x d (i + 1) (by omega)
theorem refOf_ev (l : Int) (x : T 7) : Ev (fun k => steepleref01_Of.f k l (hiW x) (loW x)) (ofB l x) := by
  unfold steepleref01_Of.f
  refine Ev.bind (Ev.now _) ?_
  have none : l < 0 ∨ l > 7 → ofB l x = false := fun h => by unfold ofB; rw [decide_eq_false_iff_not]; omega
  by_cases h0 : l < 0
  · refine Ev.pos h0 (Ev.succ ?_)
    simp only [steepleref01_Of.j0]
    rw [none (.inl h0)]
    exact Ev.now _
  · refine Ev.neg h0 (Ev.succ ?_)
    simp only [steepleref01_Of.j0]
    by_cases h7 : l > 7
    · refine Ev.pos (by simpa using h7) ?_
      rw [none (.inr h7)]
      exact Ev.now _
    · refine Ev.neg (by simpa using h7) (Ev.pos (by omega) (Ev.pos (show l < 8 by omega) ?_))
      obtain ⟨j, rfl⟩ := Int.eq_ofNat_of_zero_le (by omega : 0 ≤ l)
      have hj : j ≤ 7 := by omega
      have e : rd [1, 2, 4, 8, 16, 32, 64, 128] (j : Int) = ((2 ^ j : Nat) : Int) := by
        have : ∀ j : Nat, j < 8 → rd [1, 2, 4, 8, 16, 32, 64, 128] (j : Int) = ((2 ^ j : Nat) : Int) := by decide
        exact this j (by omega)
      rw [e]
      have e2 : ofB (j : Int) x = decide (enc 7 x < 2 ^ 2 ^ j) := by
        unfold ofB
        rw [Bool.eq_iff_iff, decide_eq_true_eq, decide_eq_true_eq, Int.toNat_natCast]
        exact ⟨fun h => h.2.2, fun h => ⟨by omega, by omega, h⟩⟩
      rw [e2]
      have hp : 2 ^ j ≤ 2 ^ 7 := Nat.pow_le_pow_right (by decide) hj
      exact refOf_l0 x (128 - 2 ^ j) (2 ^ j) (by omega)
end Go.Proofs.Ythgiifakcgjlaaa.Br
