/- The element of a bit, and the bits of an element, in the document's words. Conditions: none but the elements' kinds. -/
import Derived.Test.YtlegcabfgkccmaaBrBit
import Derived.Test.YtlegcabfgkccmaaPx6
set_option linter.unusedVariables false
namespace Go.Proofs.Ytlegcabfgkccmaa.Br
open Go.RowKit Go.Proofs.YtlegcabfgkccmaaT Go.Proofs.Ytlegcabfgkccmaa.P Go.Proofs.YtlegcabfgkccmaaW.PrintWords Go.Proofs.YtlegcabfgkccmaaW.PrintLast Go.Proofs.YtlegcabfgkccmaaW.PrintMore
theorem refBit_ev (n : Int) : Ev (fun k => steepleref02_Bit.f k n) (hiW (bitE n), loW (bitE n)) := by
  unfold steepleref02_Bit.f
  by_cases h0 : n < 0
  · refine Ev.pos h0 (Ev.succ ?_)
    simp only [steepleref02_Bit.j0]
    rw [bitE_none (.inl h0), hi_zero, lo_zero]
    exact Ev.now _
  · refine Ev.neg h0 (Ev.succ ?_)
    simp only [steepleref02_Bit.j0]
    by_cases h7 : n > 127
    · refine Ev.pos (by simpa using h7) ?_
      rw [bitE_none (.inr h7), hi_zero, lo_zero]
      exact Ev.now _
    · refine Ev.neg (by simpa using h7) ?_
      obtain ⟨j, rfl⟩ := Int.eq_ofNat_of_zero_le (by omega : 0 ≤ n)
      by_cases h6 : j < 64
      · refine Ev.neg (by omega) ?_
        rw [u64_cast (by omega), (bitE_lo h6).1, (bitE_lo h6).2, shl_one h6]
        exact Ev.pos (by omega) (Ev.now _)
      · obtain ⟨m, rfl⟩ : ∃ m, j = m + 64 := ⟨j - 64, by omega⟩
        refine Ev.pos (by omega) ?_
        rw [wrap_sub64 (by omega) (by omega), Nat.add_sub_cancel, u64_cast (by omega), (bitE_hi (by omega)).1, (bitE_hi (by omega)).2, shl_one (by omega)]
        exact Ev.pos (by omega) (Ev.now _)
theorem refHas_ev (x : T 7) (n : Int) : Ev (fun k => steepleref02_Has.f k (hiW x) (loW x) n) (hasE x n) := by
  unfold steepleref02_Has.f
  refine Ev.bind (refBit_ev n) ?_
  by_cases h : 0 ≤ n ∧ n ≤ 127
  · obtain ⟨j, rfl⟩ := Int.eq_ofNat_of_zero_le h.1
    have e : hasE x (j : Int) = (enc 7 x).testBit j := by
      unfold hasE
      rw [if_pos h, Int.toNat_natCast]
    rw [e, ← has_words x (by omega)]
    exact Ev.now _
  · have e : hasE x n = false := if_neg h
    rw [e, ← has_none x (n := n) (by omega)]
    exact Ev.now _
end Go.Proofs.Ytlegcabfgkccmaa.Br
