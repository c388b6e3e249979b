/- The value of the polynomial of any values at any element, or the error; which degrees fit; the first two values added. Conditions: none but the arguments' kinds. -/
import Derived.Test.YthnaalocgoeddaaBrRefAt
import Derived.Test.YthnaalocgoeddaaBrSum
import Derived.Test.YthnaalocgoeddaaPx12
import Derived.Test.YthnaalocgoeddaaPx9
set_option linter.unusedVariables false
set_option linter.unusedSimpArgs false
namespace Go.Proofs.Ythnaalocgoeddaa.Pure
open Go.RowKit Go.Proofs.YthnaalocgoeddaaT Go.Proofs.Ythnaalocgoeddaa.P Go.Proofs.Ythnaalocgoeddaa.Br Go.Proofs.YthnaalocgoeddaaW.PrintWords Go.Proofs.YthnaalocgoeddaaW.PrintLast Go.Proofs.YthnaalocgoeddaaW.PrintMore
theorem Fits_all (a : Int) {n : Nat} (hn : n < 1000) : ∃ b : Bool, Ev (fun k => line_Fits.f k a (wrap64 ((n : Int) - 1))) b ∧ steepleref17_Fits.f a (wrap64 ((n : Int) - 1)) = some b := by
  by_cases h : a < 0 ∨ a > 7
  · refine ⟨false, ?_, ?_⟩
    · unfold line_Fits.f
      exact Ev.bind (Wide_none h) (Ev.pos rfl (Ev.now _))
    · unfold steepleref17_Fits.f
      rw [Option.bind_some]
      by_cases h0 : a < 0
      · rw [if_pos h0]
      · rw [if_neg h0, if_pos (by omega)]
  · obtain ⟨j, rfl⟩ := Int.eq_ofNat_of_zero_le (show 0 ≤ a by omega)
    by_cases h0 : n = 0
    · subst h0
      rw [show wrap64 (((0 : Nat) : Int) - 1) = -1 by unfold wrap64; omega]
      refine ⟨false, ?_, ?_⟩
      · unfold line_Fits.f
        obtain ⟨t, ht0, ht⟩ := Wide_some (show j ≤ 7 by omega)
        exact Ev.bind ht (Ev.neg ht0 (Ev.neg (by decide) (Ev.now _)))
      · unfold steepleref17_Fits.f
        rw [Option.bind_some, if_neg (by omega), if_neg (by omega), if_pos (by decide)]
    · rw [show wrap64 ((n : Int) - 1) = ((n - 1 : Nat) : Int) by unfold wrap64; omega]
      exact ⟨_, Fits_ev (by omega) (by omega), refFits_f (by omega)⟩
theorem Ends_ev (L : List (T 7)) (hL : L.length < 1000) : Ev (fun k => line_Ends.f k (L.map elS)) (hiW (sumE (L.take 2)), loW (sumE (L.take 2))) := by
  unfold line_Ends.f
  rw [List.length_map]
  have e : (mn (L.length : Int) 2).toNat = min L.length 2 := by
    unfold mn
    split <;> omega
  have h0 : 0 ≤ mn (L.length : Int) 2 := by unfold mn; split <;> omega
  have h1 : mn (L.length : Int) 2 ≤ (L.length : Int) := by unfold mn; split <;> omega
  refine Ev.pos h0 (Ev.pos h1 ?_)
  rw [e, ← List.map_take]
  have e2 : L.take (min L.length 2) = L.take 2 := by
    rcases Nat.le_total L.length 2 with h | h
    · rw [Nat.min_eq_left h, List.take_of_length_le (Nat.le_refl _), List.take_of_length_le h]
    · rw [Nat.min_eq_right h]
  rw [e2]
  exact Ev.bind (Sum_ev _ (by rw [List.length_take]; omega)) (Ev.now _)
/-- The end: the errors are one, the first two added are, which degrees fit; and then r holds of what is left. -/
theorem Values_j3 {a e : Int} {L : List (T 7)} (hL : L.length < 1000) {x y : T 7} {z : T 7} (hz : z = sumE (L.take 2)) (hr : (e = 0 → ∃ j : Nat, a = (j : Int) ∧ j ≤ 7 ∧ 0 < L.length ∧ L.length ≤ 9 ∧ (∀ m, m < L.length → InL j (pl m)) ∧ y = atE L x) ∧ (e ≠ 0 → y = 0)) :
    Ev (fun k => steeplelaw17_LineValues.j3 k a (L.map elS) e e (hiW x) (loW x) (hiW y) (loW y) (hiW z) (loW z)) true := by
  refine Ev.succ ?_
  simp only [steeplelaw17_LineValues.j3]
  refine Ev.pos trivial (Ev.bind (Ends_ev L hL) ?_)
  refine Ev.neg (by rw [same_pair hz.symm]; decide) ?_
  obtain ⟨b, hb1, hb2⟩ := Fits_all a hL
  rw [List.length_map]
  refine Ev.bind hb1 (Ev.bind (Ev.const hb2) (Ev.neg (by simp) ?_))
  by_cases h0 : e = 0
  · obtain ⟨j, rfl, hj, hl0, h9, hp, hy⟩ := hr.1 h0
    refine Ev.pos h0 (Ev.bind awake_ev (Ev.pos rfl ?_))
    refine Ev.bind (Ref_ev L (by omega)) ?_
    refine Ev.bind (refAt_ev hj h9 hl0 hp x) ?_
    exact Ev.const (by rw [eq_pair hy])
  · refine Ev.neg h0 (Ev.bind awake_ev (Ev.pos rfl ?_))
    rw [hr.2 h0, hi_zero, lo_zero]
    exact Ev.const rfl
theorem Values_l0 {a e : Int} {L : List (T 7)} (hL : L.length < 1000) {x y : T 7} (hr : (e = 0 → ∃ j : Nat, a = (j : Int) ∧ j ≤ 7 ∧ 0 < L.length ∧ L.length ≤ 9 ∧ (∀ m, m < L.length → InL j (pl m)) ∧ y = atE L x) ∧ (e ≠ 0 → y = 0)) : ∀ d i : Nat, i + d = 2 → ∀ z : T 7, sumE (L.take 2) = z + sumE ((L.take 2).drop i) →
    Ev (fun k => steeplelaw17_LineValues.l0 k a (L.map elS) e e (i : Int) (hiW x) (loW x) (hiW y) (loW y) (hiW z) (loW z)) true
  | d, i, h, z, hz => by
    refine Ev.succ ?_
    simp only [steeplelaw17_LineValues.l0]
    by_cases hi : i < L.length
    · refine Ev.pos (by rw [List.length_map]; omega) ?_
      match d with
      | 0 =>
        refine Ev.neg (by omega) (Values_j3 hL ?_ hr)
        rw [hz, List.drop_of_length_le (by rw [List.length_take]; omega)]
        exact (add_zero z).symm
      | d + 1 =>
        refine Ev.pos (by omega) (Ev.pos (by omega) ?_)
        rw [rd_elS hi, elS_f0, elS_f1, wrap_succ i (by omega)]
        refine Ev.bind (Ev.const (refAdd_f _ _)) ?_
        refine Values_l0 hL hr d (i + 1) (by omega) _ ?_
        have hi2 : i < (L.take 2).length := by rw [List.length_take]; omega
        rw [hz, List.drop_eq_getElem_cons hi2, add_assoc, List.getElem_take]
        rfl
    · refine Ev.neg (by rw [List.length_map]; omega) (Values_j3 hL ?_ hr)
      rw [hz, List.drop_of_length_le (by rw [List.length_take]; omega)]
      exact (add_zero z).symm
theorem Values_j1 {a e : Int} {L : List (T 7)} (hL : L.length < 1000) {x y : T 7} (hr : (e = 0 → ∃ j : Nat, a = (j : Int) ∧ j ≤ 7 ∧ 0 < L.length ∧ L.length ≤ 9 ∧ (∀ m, m < L.length → InL j (pl m)) ∧ y = atE L x) ∧ (e ≠ 0 → y = 0)) :
    Ev (fun k => steeplelaw17_LineValues.j1 k a (L.map elS) e e (hiW x) (loW x) (hiW y) (loW y)) true := by
  refine Ev.succ ?_
  simp only [steeplelaw17_LineValues.j1]
  have := Values_l0 hL hr 2 0 (by omega) 0 (by rw [List.drop_zero, zero_add])
  rw [hi_zero, lo_zero] at this
  exact this
theorem LineValues : steeplelaw17_LineValues.Pure := by
  intro a l s ha ⟨_, _, hl⟩ ⟨h1, h2⟩
  obtain ⟨L, rfl⟩ := elS_of hl
  obtain ⟨x, e1, e2⟩ := el_of h1 h2
  rw [e1, e2]
  refine Ev.rounds ?_
  unfold steeplelaw17_LineValues.f
  rw [List.length_map]
  by_cases h12 : (L.length : Int) > 12
  · exact Ev.pos h12 (Ev.bind awake_ev (Ev.now _))
  · refine Ev.neg h12 ?_
    have hL : L.length < 1000 := by omega
    by_cases h : mayE a L = 0
    · obtain ⟨j, rfl, hj, h0, h9, hp, hin⟩ := may_ok h
      have hm := may_ev (j : Int) L hL
      rw [h] at hm
      by_cases hx : ofB (j : Int) x = true
      · refine Ev.bind (At_ok h hx) (Ev.bind hm (Ev.pos rfl (Ev.bind (refOf_ev _ _) ?_)))
        rw [hx, show (!true) = false from rfl]
        refine Ev.succ ?_
        simp only [steeplelaw17_LineValues.j0]
        refine Ev.neg (by decide) (Values_j1 hL ⟨fun _ => ⟨j, rfl, hj, h0, h9, hp, rfl⟩, fun hne => absurd rfl hne⟩)
      · have hx := Bool.eq_false_iff.2 hx
        have hat : Ev (fun k => line_At.f k (j : Int) (L.map elS) (hiW x) (loW x)) (hiW 0, loW 0, (5 : Int)) := by
          rw [hi_zero, lo_zero]
          exact At_not hL h hx
        refine Ev.bind hat (Ev.bind hm (Ev.pos rfl (Ev.bind (refOf_ev _ _) ?_)))
        rw [hx, show (!false) = true from rfl]
        refine Ev.succ ?_
        simp only [steeplelaw17_LineValues.j0]
        exact Ev.pos trivial (Values_j1 hL ⟨fun he => absurd he (by decide), fun _ => rfl⟩)
    · have hat : Ev (fun k => line_At.f k a (L.map elS) (hiW x) (loW x)) (hiW 0, loW 0, mayE a L) := by
        rw [hi_zero, lo_zero]
        exact At_bad x hL h
      refine Ev.bind hat (Ev.bind (may_ev a L hL) (Ev.neg h ?_))
      refine Ev.succ ?_
      simp only [steeplelaw17_LineValues.j0]
      exact Ev.neg (by decide) (Values_j1 hL ⟨fun he => absurd he h, fun _ => rfl⟩)
end Go.Proofs.Ythnaalocgoeddaa.Pure
