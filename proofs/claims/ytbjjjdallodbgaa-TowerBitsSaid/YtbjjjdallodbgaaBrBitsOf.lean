/- Bits, level and halves of an element. Conditions: those that each theorem names. -/
import Derived.Test.YtbjjjdallodbgaaBrX
import Derived.Test.YtbjjjdallodbgaaBrRefOf
import Derived.Test.YtbjjjdallodbgaaBrRefBit
import Derived.Test.YtbjjjdallodbgaaPx18
set_option linter.unusedVariables false
namespace Go.Proofs.Ytbjjjdallodbgaa.Br
open Go.RowKit Go.Proofs.YtbjjjdallodbgaaT Go.Proofs.Ytbjjjdallodbgaa.P Go.Proofs.YtbjjjdallodbgaaW.PrintWords Go.Proofs.YtbjjjdallodbgaaW.PrintLast Go.Proofs.YtbjjjdallodbgaaW.PrintMore
def bitsL (n m : Nat) : List Bool := (List.range m).map n.testBit
theorem bitsL_succ (n m : Nat) : bitsL n (m + 1) = bitsL n m ++ [n.testBit m] := by
  unfold bitsL
  rw [List.range_succ, List.map_append]
  rfl
theorem bitsL_length (n m : Nat) : (bitsL n m).length = m := by
  unfold bitsL
  rw [List.length_map, List.length_range]
theorem rd_bitsL {n m i : Nat} (h : i < m) : rdOf false (bitsL n m) (i : Int) = n.testBit i := by
  unfold rdOf bitsL
  rw [Int.toNat_natCast, List.getD_eq_getElem?_getD, List.getElem?_map, List.getElem?_range h]
  rfl
theorem shl1_i64' : ∀ k : Nat, k < 8 → shl .i64 1 (k : Int) = ((2 ^ k : Nat) : Int) := by decide
theorem Bits_l0 (x : T 7) (m : Nat) (hm : m ≤ 128) : ∀ d i : Nat, i + d = m → Ev (fun k => tower_Bits.l0 k (bitsL (enc 7 x) i) (m : Int) (i : Int) (hiW x) (loW x)) (bitsL (enc 7 x) m)
  | 0, i, h => by
    refine Ev.succ ?_
    simp only [tower_Bits.l0]
    obtain rfl : i = m := by omega
    exact Ev.neg (by omega) (Ev.now _)
  | d + 1, i, h => by
    refine Ev.succ ?_
    simp only [tower_Bits.l0]
    refine Ev.pos (by omega) ?_
    refine Ev.bind (Bit_ev _) ?_
    refine Ev.pos (by rw [bitsL_length]; omega) ?_
    rw [has_words x (by omega), wrap_succ i (by omega), ← bitsL_succ]
    exact Bits_l0 x m hm d (i + 1) (by omega)
theorem Bits_ev {j : Nat} (hj : j ≤ 7) {x : T 7} (hx : InL j x) : Ev (fun k => tower_Bits.f k (j : Int) (hiW x) (loW x)) (bitsL (enc 7 x) (2 ^ j)) := by
  unfold tower_Bits.f
  refine Ev.bind (Of_ev _ _) (Ev.pos (ofB_nat hj hx) (Ev.pos (by omega) ?_))
  rw [shl1_i64' j (by omega)]
  have hp : 2 ^ j ≤ 2 ^ 7 := Nat.pow_le_pow_right (by decide) hj
  exact Bits_l0 x (2 ^ j) hp (2 ^ j) 0 (by omega)
theorem Bits_none {l : Int} {x : T 7} (hx : ofB l x = false) : Ev (fun k => tower_Bits.f k l (hiW x) (loW x)) ([] : List Bool) := by
  unfold tower_Bits.f
  refine Ev.bind (Of_ev _ _) ?_
  rw [hx]
  exact Ev.neg (by decide) (Ev.now _)
def levF (x : T 7) : Nat → Nat → Nat
  | 0, i => i
  | d + 1, i => if ofB (i : Int) x = true then i else levF x d (i + 1)
theorem Level_l0 (x : T 7) : ∀ d i : Nat, i + d = 7 → Ev (fun k => tower_Level.l0 k (i : Int) (hiW x) (loW x)) ((levF x d i : Nat) : Int)
  | 0, i, h => by
    refine Ev.succ ?_
    simp only [tower_Level.l0]
    obtain rfl : i = 7 := by omega
    exact Ev.neg (by omega) (Ev.now _)
  | d + 1, i, h => by
    refine Ev.succ ?_
    simp only [tower_Level.l0]
    refine Ev.pos (by omega) (Ev.bind (Of_ev _ _) ?_)
    unfold levF
    by_cases hx : ofB (i : Int) x = true
    · rw [if_pos hx]
      exact Ev.pos hx (Ev.now _)
    · rw [if_neg hx, wrap_succ i (by omega)]
      exact Ev.neg hx (Level_l0 x d (i + 1) (by omega))
theorem refLevel_l0 (x : T 7) : ∀ d i : Nat, i + d = 7 → Ev (fun k => steepleref02_Level.l0 k (i : Int) (hiW x) (loW x)) ((levF x d i : Nat) : Int)
  | 0, i, h => by
    refine Ev.succ ?_
    simp only [steepleref02_Level.l0]
    obtain rfl : i = 7 := by omega
    exact Ev.bind (refOf_ev _ _) (Ev.pos (ofB_nat (Nat.le_refl 7) (inL_top x)) (Ev.now _))
  | d + 1, i, h => by
    refine Ev.succ ?_
    simp only [steepleref02_Level.l0]
    refine Ev.bind (refOf_ev _ _) ?_
    unfold levF
    by_cases hx : ofB (i : Int) x = true
    · rw [if_pos hx]
      exact Ev.pos hx (Ev.now _)
    · rw [if_neg hx, wrap_succ i (by omega)]
      exact Ev.neg hx (Ev.pos (by omega) (refLevel_l0 x d (i + 1) (by omega)))
theorem Split_ev {j : Nat} (hj : j ≤ 6) (y : T (j + 1)) : Ev (fun k => tower_Split.f k ((j + 1 : Nat) : Int) (hiW (emb 7 (j + 1) y)) (loW (emb 7 (j + 1) y))) (hiW (emb 7 j y.1), loW (emb 7 j y.1), hiW (emb 7 j y.2), loW (emb 7 j y.2)) := by
  unfold tower_Split.f
  refine Ev.neg (by omega) (Ev.bind (Of_ev _ _) ?_)
  rw [ofB_nat (by omega) (inL_emb (by omega) y)]
  refine Ev.succ ?_
  simp only [tower_Split.j0]
  refine Ev.neg (by decide) ?_
  rw [hi_emb hj, lo_emb hj, hi_emb hj, lo_emb hj]
  by_cases h6 : j = 6
  · subst h6
    refine Ev.pos (by omega) ?_
    rw [emb_self]
    exact Ev.now _
  · refine Ev.neg (by omega) ?_
    rw [lo_emb (show j + 1 ≤ 6 by omega)]
    exact Ev.bind (Ev.const (halves_f (by omega) y)) (Ev.now _)
theorem Split_none {x : T 7} : Ev (fun k => tower_Split.f k 0 (hiW x) (loW x)) ((0 : Int), (0 : Int), (0 : Int), (0 : Int)) := by
  unfold tower_Split.f
  refine Ev.pos (by decide) (Ev.succ ?_)
  simp only [tower_Split.j0]
  exact Ev.pos trivial (Ev.now _)
theorem Join_ev {j : Nat} (hj : j ≤ 6) (y : T (j + 1)) : Ev (fun k => tower_Join.f k ((j + 1 : Nat) : Int) (hiW (emb 7 j y.1)) (loW (emb 7 j y.1)) (hiW (emb 7 j y.2)) (loW (emb 7 j y.2))) (hiW (emb 7 (j + 1) y), loW (emb 7 (j + 1) y)) := by
  unfold tower_Join.f
  refine Ev.neg (by omega) (Ev.neg (by omega) ?_)
  rw [wrap_pred j (by omega)]
  refine Ev.bind (Of_ev _ _) (Ev.pos (ofB_nat (by omega) (inL_emb (by omega) _)) ?_)
  refine Ev.bind (Of_ev _ _) ?_
  rw [ofB_nat (by omega) (inL_emb (by omega) _)]
  refine Ev.succ ?_
  simp only [tower_Join.j0]
  refine Ev.neg (by decide) ?_
  rw [lo_emb hj, lo_emb hj]
  by_cases h6 : j = 6
  · subst h6
    refine Ev.pos (by omega) ?_
    rw [emb_self]
    exact Ev.now _
  · refine Ev.neg (by omega) ?_
    rw [hi_emb (show j + 1 ≤ 6 by omega), lo_emb (show j + 1 ≤ 6 by omega)]
    have e : tower_join.f ((j + 1 : Nat) : Int) (enc j y.1 : Int) (enc j y.2 : Int) = some (enc (j + 1) y : Int) := join_f (by omega) y.1 y.2
    exact Ev.bind (Ev.const e) (Ev.now _)
theorem Join_none : Ev (fun k => tower_Join.f k 0 0 0 0 0) ((0 : Int), (0 : Int)) := by
  unfold tower_Join.f
  refine Ev.pos (by decide) (Ev.succ ?_)
  simp only [tower_Join.j0]
  exact Ev.pos trivial (Ev.now _)
theorem half_bits {j : Nat} (y : T (j + 1)) {i : Nat} (h : i < 2 ^ j) : (enc (j + 1) y).testBit i = (enc j y.2).testBit i ∧ (enc (j + 1) y).testBit (2 ^ j + i) = (enc j y.1).testBit i := by
  show (enc j y.1 * 2 ^ 2 ^ j + enc j y.2).testBit i = _ ∧ (enc j y.1 * 2 ^ 2 ^ j + enc j y.2).testBit (2 ^ j + i) = _
  rw [Nat.mul_comm, Nat.testBit_two_pow_mul_add _ (enc_lt j y.2), Nat.testBit_two_pow_mul_add _ (enc_lt j y.2), if_pos h, if_neg (by omega), Nat.add_sub_cancel_left]
  exact ⟨rfl, rfl⟩
theorem split_gen {j : Nat} (y : T (j + 1)) : lift y.1 * gen (j + 1) + lift y.2 = y := by
  rw [mul_comm, mul_lift]
  refine ext2 ?_ ?_
  · show 1 * y.1 + 0 = y.1
    rw [one_mul, add_zero]
  · show 0 * y.1 + y.2 = y.2
    rw [zero_mul, zero_add]
end Go.Proofs.Ytbjjjdallodbgaa.Br
