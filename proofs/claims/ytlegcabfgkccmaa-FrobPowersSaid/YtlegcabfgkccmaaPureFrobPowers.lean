/- Powers of 2^k of any element, and its square root. Conditions: none but the arguments' kinds. -/
import Derived.Test.YtlegcabfgkccmaaBrPw
import Derived.Test.YtlegcabfgkccmaaBrFrA
import Derived.Test.YtlegcabfgkccmaaBrRefOf
import Derived.Test.YtlegcabfgkccmaaPx12
set_option linter.unusedVariables false
set_option linter.unusedSimpArgs false
namespace Go.Proofs.Ytlegcabfgkccmaa.Pure
open Go.RowKit Go.Proofs.YtlegcabfgkccmaaT Go.Proofs.Ytlegcabfgkccmaa.P Go.Proofs.Ytlegcabfgkccmaa.Br Go.Proofs.YtlegcabfgkccmaaW.PrintWords Go.Proofs.YtlegcabfgkccmaaW.PrintLast Go.Proofs.YtlegcabfgkccmaaW.PrintMore
theorem FrobPowers : steeplelaw33_FrobPowers.Pure := by
  intro a s b ha hs hb
  obtain ⟨p, q⟩ := s
  obtain ⟨x, rfl, rfl⟩ := el_of hs.1 hs.2
  dsimp only
  refine Ev.rounds ?_
  unfold steeplelaw33_FrobPowers.f
  cases ho : ofB a x with
  | false =>
    refine Ev.bind (Power_bad (.inl ho)) (Ev.bind (Root_bad ho) (Ev.bind (refOf_ev a x) (Ev.neg (by rw [ho]; decide) (Ev.bind awake_ev (Ev.pos rfl (Ev.pos rfl (Ev.const rfl)))))))
  | true =>
    obtain ⟨j, rfl, hj, hx⟩ := ofB_iff.1 ho
    have h7 := pow_le7 hj
    have hr : InL j (frob (2 ^ j - 1) x) := inL_frob hj _ hx
    have fin : Ev (fun k => ((steeplelaw33_awake.f k).bind fun t223 => (if t223 = true then ((octet_Of.f k (j : Int) (hiW (frob (2 ^ j - 1) x)) (loW (frob (2 ^ j - 1) x))).bind fun t224 => (if t224 = true then ((steepleref02_Product.f k (hiW (frob (2 ^ j - 1) x)) (loW (frob (2 ^ j - 1) x)) (hiW (frob (2 ^ j - 1) x)) (loW (frob (2 ^ j - 1) x))).bind fun bt225 => (some (hiW x == bt225.1 && (loW x == bt225.2)))) else (none))) else (none)))) true := by
      refine Ev.bind awake_ev (Ev.pos rfl (Ev.bind (Of_ev _ _) (Ev.pos (ofB_nat hj hr) (Ev.bind (Product_ev _ _) (Ev.const ?_)))))
      exact congrArg some (eq_pair (root_sq hj hx).symm)
    by_cases hb0 : 0 ≤ b ∧ b < ((2 ^ j : Nat) : Int)
    · obtain ⟨n, rfl⟩ := Int.eq_ofNat_of_zero_le hb0.1
      have hn : n < 2 ^ j := by omega
      refine Ev.bind (Power_ok hj hn hx) (Ev.bind (Root_ok hj hx) (Ev.bind (refOf_ev _ x) (Ev.pos ho (Ev.neg (by omega) (Ev.bind (Two_ev hj) ?_)))))
      rw [decide_eq_false (by omega)]
      refine Ev.succ ?_
      simp only [steeplelaw33_FrobPowers.j0]
      refine Ev.neg (by decide) (Ev.bind (refPower_ev (by omega) x) (Ev.neg ?_ fin))
      rw [same_pair rfl]
      decide
    · have jt : Ev (fun k => steeplelaw33_FrobPowers.j0 k (j : Int) b true (hiW x) (loW x) (hiW x) (loW x) 0 0 (hiW (frob (2 ^ j - 1) x)) (loW (frob (2 ^ j - 1) x))) true := by
        refine Ev.succ ?_
        simp only [steeplelaw33_FrobPowers.j0]
        exact Ev.pos trivial (Ev.neg (by decide) fin)
      have hbad : b < 0 ∨ b ≥ ((2 ^ j : Nat) : Int) := by omega
      refine Ev.bind (Power_bad (.inr (by rw [Int.toNat_natCast]; exact hbad))) (Ev.bind (Root_ok hj hx) (Ev.bind (refOf_ev _ x) (Ev.pos ho ?_)))
      by_cases hb1 : b < 0
      · exact Ev.pos hb1 jt
      · refine Ev.neg hb1 (Ev.bind (Two_ev hj) ?_)
        rw [decide_eq_true (by omega)]
        exact jt
end Go.Proofs.Ytlegcabfgkccmaa.Pure
