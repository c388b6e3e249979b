/- The element of each bit, the bits of any element, its level, and its halves are the document's. Conditions: none but the arguments' kinds. -/
import Derived.Test.YtbjjjdallodbgaaBrBitsOf
import Derived.Test.YtbjjjdallodbgaaBr02A
import Derived.Test.YtbjjjdallodbgaaBr02S
import Derived.Test.YtbjjjdallodbgaaPx19
set_option linter.unusedVariables false
namespace Go.Proofs.Ytbjjjdallodbgaa.Pure
open Go.RowKit Go.Proofs.YtbjjjdallodbgaaT Go.Proofs.Ytbjjjdallodbgaa.P Go.Proofs.Ytbjjjdallodbgaa.Br Go.Proofs.YtbjjjdallodbgaaW.PrintWords Go.Proofs.YtbjjjdallodbgaaW.PrintLast Go.Proofs.YtbjjjdallodbgaaW.PrintMore
theorem Bits_tail {j : Nat} (hj : j ≤ 6) (y : T (j + 1)) : ∀ d i : Nat, i + d = 2 ^ j →
    Ev (fun k => steeplelaw02_TowerBits.l1 k ((j + 1 : Nat) : Int) (bitsL (enc 7 (emb 7 (j + 1) y)) (2 ^ (j + 1))) ((2 ^ (j + 1) : Nat) : Int) (i : Int) (hiW (emb 7 (j + 1) y)) (loW (emb 7 (j + 1) y)) (hiW (emb 7 j y.1)) (loW (emb 7 j y.1)) (hiW (emb 7 j y.2)) (loW (emb 7 j y.2))) true
  | d, i, h => by
    have hp : 2 ^ j ≤ 2 ^ 6 := Nat.pow_le_pow_right (by decide) hj
    have hs : 2 ^ (j + 1) = 2 ^ j + 2 ^ j := by rw [Nat.pow_succ, Nat.mul_two]
    have e1 : wrap64 (Int.tdiv ((2 ^ (j + 1) : Nat) : Int) 2) = ((2 ^ j : Nat) : Int) := by
      rw [Int.tdiv_eq_ediv_of_nonneg (by omega), hs]
      unfold wrap64
      omega
    refine Ev.succ ?_
    simp only [steeplelaw02_TowerBits.l1]
    rw [e1]
    match d with
    | 0 =>
      refine Ev.neg (by omega) (Ev.bind awake_ev (Ev.pos rfl ?_))
      rw [wrap_pred j (by omega)]
      refine Ev.bind (Of_ev _ _) (Ev.pos (ofB_nat (by omega) (inL_emb (by omega) _)) ?_)
      refine Ev.bind (Of_ev _ _) (Ev.pos (ofB_nat (by omega) (inL_emb (by omega) _)) ?_)
      refine Ev.bind (Join_ev hj y) (Ev.pos (eq_pair rfl) ?_)
      refine Ev.bind (X_ev _) ?_
      refine Ev.bind (Mul_ev _ _ _) ?_
      refine Ev.bind (Ev.const (Add_f _ _)) ?_
      have eX : X7 ((j + 1 : Nat) : Int) = emb 7 (j + 1) (gen (j + 1)) := by
        unfold X7
        rw [if_pos (by omega), Int.toNat_natCast]
      rw [eX, emb_lift 7 j, emb_lift 7 j, mulE_in (by omega) (inL_emb (by omega) _) (inL_emb (by omega) _), ← emb_mul (by omega), ← emb_add, split_gen, eq_pair rfl]
      exact Ev.now _
    | d + 1 =>
      have hb := half_bits y (i := i) (by omega)
      have e2 : wrap64 (((2 ^ j : Nat) : Int) + (i : Int)) = ((2 ^ j + i : Nat) : Int) := by
        unfold wrap64
        omega
      refine Ev.pos (by omega) ?_
      refine Ev.bind (Ev.const (refd _)) (Ev.bind (refHas_ev _ _) (Ev.pos (by omega) (Ev.pos (by rw [bitsL_length]; omega) ?_)))
      rw [hasE_nat _ (by omega), rd_bitsL (by omega), enc_emb (by omega), enc_emb (by omega), hb.1]
      refine Ev.neg (by simp) ?_
      refine Ev.bind (Ev.const (refd _)) (Ev.bind (refHas_ev _ _) ?_)
      rw [e2, hasE_nat _ (by omega), rd_bitsL (by omega), enc_emb (by omega), hb.2]
      refine Ev.pos (by omega) (Ev.pos (by rw [bitsL_length]; omega) (Ev.neg (by simp) ?_))
      rw [wrap_succ i (by omega)]
      have := Bits_tail hj y d (i + 1) (by omega)
      rw [enc_emb (by omega)] at this
      exact this
theorem Bits_head {j : Nat} (hj : j ≤ 7) {x : T 7} (hx : InL j x) : ∀ d i : Nat, i + d = 2 ^ j →
    Ev (fun k => steeplelaw02_TowerBits.l0 k (j : Int) (bitsL (enc 7 x) (2 ^ j)) ((2 ^ j : Nat) : Int) (i : Int) (hiW x) (loW x)) true
  | d, i, h => by
    have hp : 2 ^ j ≤ 2 ^ 7 := Nat.pow_le_pow_right (by decide) hj
    refine Ev.succ ?_
    simp only [steeplelaw02_TowerBits.l0]
    match d with
    | 0 =>
      refine Ev.neg (by rw [bitsL_length]; omega) ?_
      by_cases h0 : j = 0
      · subst h0
        refine Ev.bind Split_none (Ev.pos rfl (Ev.bind awake_ev (Ev.pos rfl (Ev.pos rfl (Ev.pos rfl (Ev.bind Join_none ?_))))))
        exact Ev.now _
      · obtain ⟨m, rfl⟩ : ∃ m, j = m + 1 := ⟨j - 1, by omega⟩
        obtain ⟨y, rfl⟩ := hx.ex
        refine Ev.bind (Split_ev (by omega) y) (Ev.neg (by omega) ?_)
        exact Bits_tail (by omega) y (2 ^ m) 0 (by omega)
    | d + 1 =>
      refine Ev.pos (by rw [bitsL_length]; omega) (Ev.pos (by omega) ?_)
      refine Ev.bind (Ev.const (refd _)) (Ev.bind (refHas_ev _ _) ?_)
      rw [hasE_nat _ (by omega), rd_bitsL (by omega), wrap_succ i (by omega)]
      exact Ev.neg (by simp) (Bits_head hj hx d (i + 1) (by omega))
theorem TowerBits : steeplelaw02_TowerBits.Pure := by
  intro l n x hl hn ⟨h1, h2⟩
  obtain ⟨A, eA, eA'⟩ := el_of h1 h2
  rw [eA, eA']
  refine Ev.rounds ?_
  unfold steeplelaw02_TowerBits.f
  have lv : Ev (fun k => tower_Level.f k (hiW A) (loW A)) ((levF A 7 0 : Nat) : Int) := Level_l0 A 7 0 (by omega)
  have lv' : Ev (fun k => steepleref02_Level.f k (hiW A) (loW A)) ((levF A 7 0 : Nat) : Int) := refLevel_l0 A 7 0 (by omega)
  by_cases hA : ofB l A = true
  · obtain ⟨j, rfl, hj, hAj⟩ := ofB_iff.1 hA
    refine Ev.bind (Bits_ev hj hAj) (Ev.bind (Bit_ev n) (Ev.bind (refBit_ev n) (Ev.bind (Ev.const (same_f rfl)) (Ev.pos rfl ?_))))
    refine Ev.bind lv (Ev.bind (Ev.const (refd _)) (Ev.bind lv' (Ev.pos rfl ?_)))
    refine Ev.bind (Ev.const (refd _)) (Ev.bind (refOf_ev _ _) (Ev.pos hA (Ev.bind (Ev.now _) ?_)))
    have e : rd [1, 2, 4, 8, 16, 32, 64, 128] (j : Int) = ((2 ^ j : Nat) : Int) := by
      have : ∀ j : Nat, j < 8 → rd [1, 2, 4, 8, 16, 32, 64, 128] (j : Int) = ((2 ^ j : Nat) : Int) := by decide
      exact this j (by omega)
    refine Ev.pos (by omega) (Ev.pos (show (j : Int) < 8 by omega) ?_)
    rw [e, bitsL_length]
    exact Ev.pos rfl (Bits_head hj hAj (2 ^ j) 0 (by omega))
  · have hA' : ofB l A = false := by simpa using hA
    refine Ev.bind (Bits_none hA') (Ev.bind (Bit_ev n) (Ev.bind (refBit_ev n) (Ev.bind (Ev.const (same_f rfl)) (Ev.pos rfl ?_))))
    refine Ev.bind lv (Ev.bind (Ev.const (refd _)) (Ev.bind lv' (Ev.pos rfl ?_)))
    refine Ev.bind (Ev.const (refd _)) (Ev.bind (refOf_ev _ _) (Ev.neg hA (Ev.bind awake_ev (Ev.pos rfl ?_))))
    exact Ev.now _
end Go.Proofs.Ytbjjjdallodbgaa.Pure
