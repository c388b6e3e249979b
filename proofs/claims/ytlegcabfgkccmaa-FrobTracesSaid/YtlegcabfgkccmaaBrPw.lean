/- Powers of 2^k, roots: what frob.Power, frob.Root and the reference come to. Conditions: those that each theorem names. -/
import Derived.Test.YtlegcabfgkccmaaBrCj
import Derived.Test.YtlegcabfgkccmaaBrRefMul
import Derived.Test.YtlegcabfgkccmaaPx11
import Derived.Test.YtlegcabfgkccmaaPx8
set_option linter.unusedVariables false
set_option linter.unusedSimpArgs false
namespace Go.Proofs.Ytlegcabfgkccmaa.Br
open Go.RowKit Go.Proofs.YtlegcabfgkccmaaT Go.Proofs.Ytlegcabfgkccmaa.P Go.Proofs.YtlegcabfgkccmaaW.PrintWords Go.Proofs.YtlegcabfgkccmaaW.PrintLast Go.Proofs.YtlegcabfgkccmaaW.PrintMore
theorem Power_l0 {j : Nat} (hj : j ≤ 7) {n : Nat} (hn : n ≤ 128) (d : Nat) : ∀ i : Nat, i + d = n → ∀ x : T 7, InL j x → Ev (fun k => frob_Power.l0 k (j : Int) (n : Int) (i : Int) (hiW x) (loW x)) (hiW (frob d x), loW (frob d x)) := by
  induction d with
  | zero =>
    intro i h x hx
    have e : frob 0 x = x := rfl
    rw [e]
    refine Ev.succ ?_
    simp only [frob_Power.l0]
    exact Ev.neg (by omega) (Ev.now _)
  | succ d ih =>
    intro i h x hx
    have e : frob (d + 1) x = frob d (x * x) := rfl
    rw [e]
    refine Ev.succ ?_
    simp only [frob_Power.l0]
    refine Ev.pos (by omega) (Ev.bind (Square_ev _ x) ?_)
    rw [sqE_in hj hx, wrap_succ i (by omega)]
    exact ih (i + 1) (by omega) (x * x) (inL_mul hj hx hx)
theorem shl1_8 : ∀ k : Nat, k < 8 → shl .i64 1 (k : Int) = ((2 ^ k : Nat) : Int) := by decide
theorem pow_le7 {j : Nat} (hj : j ≤ 7) : 2 ^ j ≤ 128 := Nat.pow_le_pow_right (by decide) (show j ≤ 7 from hj)
theorem Power_ok {j : Nat} (hj : j ≤ 7) {n : Nat} (hn : n < 2 ^ j) {x : T 7} (hx : InL j x) : Ev (fun k => frob_Power.f k (j : Int) (hiW x) (loW x) (n : Int)) (hiW (frob n x), loW (frob n x)) := by
  have h7 := pow_le7 hj
  unfold frob_Power.f
  refine Ev.bind (Of_ev _ x) ?_
  rw [ofB_nat hj hx]
  refine Ev.pos rfl (Ev.neg (by omega) (Ev.pos (by omega) ?_))
  rw [shl1_8 j (by omega), decide_eq_false (by omega)]
  refine Ev.succ ?_
  simp only [frob_Power.j0]
  refine Ev.neg (by decide) ?_
  exact Power_l0 hj (by omega) n 0 (by omega) x hx
theorem Power_bad {a b : Int} {x : T 7} (h : ofB a x = false ∨ b < 0 ∨ b ≥ ((2 ^ a.toNat : Nat) : Int)) : Ev (fun k => frob_Power.f k a (hiW x) (loW x) b) ((0 : Int), (0 : Int)) := by
  have j0t : Ev (fun k => frob_Power.j0 k a b true (hiW x) (loW x)) ((0 : Int), (0 : Int)) := by
    refine Ev.succ ?_
    simp only [frob_Power.j0]
    exact Ev.pos trivial (Ev.now _)
  unfold frob_Power.f
  refine Ev.bind (Of_ev _ x) ?_
  cases ho : ofB a x with
  | false => exact Ev.neg (by decide) j0t
  | true =>
    rw [ho] at h
    obtain ⟨j, rfl, hj, hx⟩ := ofB_iff.1 ho
    refine Ev.pos rfl ?_
    by_cases hb : b < 0
    · exact Ev.pos hb j0t
    · rw [Int.toNat_natCast] at h
      refine Ev.neg hb (Ev.pos (by omega) ?_)
      rw [shl1_8 j (by omega), decide_eq_true (by rcases h with h | h | h; cases h; exact absurd h hb; exact h)]
      exact j0t
theorem Root_ok {j : Nat} (hj : j ≤ 7) {x : T 7} (hx : InL j x) : Ev (fun k => frob_Root.f k (j : Int) (hiW x) (loW x)) (hiW (frob (2 ^ j - 1) x), loW (frob (2 ^ j - 1) x)) := by
  have h7 := pow_le7 hj
  have hp : 0 < 2 ^ j := Nat.two_pow_pos j
  unfold frob_Root.f
  refine Ev.bind (Of_ev _ x) ?_
  rw [ofB_nat hj hx]
  refine Ev.pos rfl (Ev.pos (by omega) ?_)
  rw [shl1_8 j (by omega), show wrap64 (((2 ^ j : Nat) : Int) - 1) = ((2 ^ j - 1 : Nat) : Int) by
    generalize 2 ^ j = q at h7 hp ⊢
    unfold wrap64
    omega]
  exact Ev.bind (Power_ok hj (by omega) hx) (Ev.now _)
theorem Root_bad {a : Int} {x : T 7} (h : ofB a x = false) : Ev (fun k => frob_Root.f k a (hiW x) (loW x)) ((0 : Int), (0 : Int)) := by
  unfold frob_Root.f
  refine Ev.bind (Of_ev _ x) ?_
  rw [h]
  exact Ev.neg (by decide) (Ev.now _)
theorem root_sq {j : Nat} (hj : j ≤ 7) {x : T 7} (hx : InL j x) : frob (2 ^ j - 1) x * frob (2 ^ j - 1) x = x := by
  have e : frob (2 ^ j - 1 + 1) x = frob (2 ^ j - 1) (x * x) := rfl
  rw [← frob_mul, ← e, Nat.sub_add_cancel (Nat.two_pow_pos j)]
  exact frob_in hj hx
theorem refPower_l0 {n : Nat} (hn : n ≤ 128) (d : Nat) : ∀ i : Nat, i + d = n → ∀ x : T 7, Ev (fun k => steepleref33_Power.l0 k (n : Int) (i : Int) (hiW x) (loW x)) (hiW (frob d x), loW (frob d x)) := by
  induction d with
  | zero =>
    intro i h x
    have e : frob 0 x = x := rfl
    rw [e]
    refine Ev.succ ?_
    simp only [steepleref33_Power.l0]
    exact Ev.neg (by omega) (Ev.now _)
  | succ d ih =>
    intro i h x
    have e : frob (d + 1) x = frob d (x * x) := rfl
    rw [e]
    refine Ev.succ ?_
    simp only [steepleref33_Power.l0]
    refine Ev.pos (by omega) (Ev.bind (Product_ev x x) ?_)
    rw [wrap_succ i (by omega)]
    exact ih (i + 1) (by omega) (x * x)
theorem refPower_ev {n : Nat} (hn : n ≤ 128) (x : T 7) : Ev (fun k => steepleref33_Power.f k (hiW x) (loW x) (n : Int)) (hiW (frob n x), loW (frob n x)) := by
  unfold steepleref33_Power.f
  exact refPower_l0 hn n 0 (by omega) x
theorem two_all : ∀ j : Nat, j < 8 → steepleref15_Two.f 10 (j : Int) = some ((2 ^ j : Nat) : Int) := by decide +kernel
theorem Two_ev {j : Nat} (hj : j ≤ 7) : Ev (fun k => steepleref15_Two.f k (j : Int)) ((2 ^ j : Nat) : Int) := Ev.of (fun k => steepleref15_Two.mono _ k) (k := 10) (two_all j (by omega))
end Go.Proofs.Ytlegcabfgkccmaa.Br
