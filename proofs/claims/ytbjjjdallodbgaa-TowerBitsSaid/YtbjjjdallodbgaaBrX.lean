/- The element of a bit, and a level's generator. Conditions: none. -/
import Derived.Test.YtbjjjdallodbgaaBrBit
import Derived.Test.YtbjjjdallodbgaaBrMul
import Derived.Test.YtbjjjdallodbgaaPx4
set_option linter.unusedVariables false
namespace Go.Proofs.Ytbjjjdallodbgaa.Br
open Go.RowKit Go.Proofs.YtbjjjdallodbgaaT Go.Proofs.Ytbjjjdallodbgaa.P Go.Proofs.YtbjjjdallodbgaaW.PrintWords Go.Proofs.YtbjjjdallodbgaaW.PrintLast Go.Proofs.YtbjjjdallodbgaaW.PrintMore
theorem Bit_ev (n : Int) : Ev (fun k => tower_Bit.f k n) (hiW (bitE n), loW (bitE n)) := by
  unfold tower_Bit.f
  by_cases h0 : n ≥ 0
  · obtain ⟨j, rfl⟩ := Int.eq_ofNat_of_zero_le h0
    refine Ev.pos h0 (Ev.succ ?_)
    simp only [tower_Bit.j0]
    by_cases h6 : j < 64
    · refine Ev.pos (by rw [decide_eq_true_eq]; omega) (Ev.pos h0 ?_)
      rw [(bitE_lo h6).1, (bitE_lo h6).2, shl_one h6]
      exact Ev.now _
    · refine Ev.neg (by rw [decide_eq_true_eq]; omega) (Ev.pos (by omega) ?_)
      by_cases h7 : j < 128
      · obtain ⟨m, rfl⟩ : ∃ m, j = m + 64 := ⟨j - 64, by omega⟩
        refine Ev.pos (by omega) ?_
        rw [wrap_sub64 (by omega) (by omega), Nat.add_sub_cancel, (bitE_hi (by omega)).1, (bitE_hi (by omega)).2, shl_one (by omega)]
        exact Ev.pos (by omega) (Ev.now _)
      · refine Ev.neg (by omega) ?_
        rw [bitE_none (.inr (by omega)), hi_zero, lo_zero]
        exact Ev.now _
  · refine Ev.neg h0 (Ev.succ ?_)
    simp only [tower_Bit.j0]
    refine Ev.neg (by decide) (Ev.neg (by omega) ?_)
    rw [bitE_none (.inl (by omega)), hi_zero, lo_zero]
    exact Ev.now _
theorem X_ev (l : Int) : Ev (fun k => tower_X.f k l) (hiW (X7 l), loW (X7 l)) := by
  unfold tower_X.f
  by_cases h0 : l < 0
  · refine Ev.pos h0 (Ev.succ ?_)
    simp only [tower_X.j0]
    rw [X7_none (.inl h0), hi_zero, lo_zero]
    exact Ev.now _
  · refine Ev.neg h0 (Ev.succ ?_)
    simp only [tower_X.j0]
    by_cases h7 : l > 7
    · refine Ev.pos (by simpa using h7) ?_
      rw [X7_none (.inr h7), hi_zero, lo_zero]
      exact Ev.now _
    · refine Ev.neg (by simpa using h7) ?_
      obtain ⟨j, rfl⟩ := Int.eq_ofNat_of_zero_le (by omega : 0 ≤ l)
      by_cases hj : j = 0
      · subst hj
        refine Ev.pos rfl ?_
        have e : X7 ((0 : Nat) : Int) = 1 := by
          have e1 : X7 ((0 : Nat) : Int) = emb 7 0 1 := if_pos (by omega)
          rw [e1, emb_one]
        rw [e]
        exact Ev.bind (Ev.const One_f) (Ev.now _)
      · obtain ⟨m, rfl⟩ : ∃ m, j = m + 1 := ⟨j - 1, by omega⟩
        refine Ev.neg (by omega) ?_
        rw [wrap_pred m (by omega), shl1_i64 m (by omega), X7_bit (by omega)]
        exact Ev.pos (by omega) (Ev.bind (Bit_ev _) (Ev.now _))
end Go.Proofs.Ytbjjjdallodbgaa.Br
