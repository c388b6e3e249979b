/- A vector of one element again and again, of any level and length, or the error. Conditions: none but the arguments' kinds. -/
import Derived.Test.YtceneggampgboaaPkFill
import Derived.Test.YtceneggampgboaaPk03
import Derived.Test.YtceneggampgboaaPx19
set_option linter.unusedVariables false
namespace Go.Proofs.Ytceneggampgboaa.Pure
open Go.RowKit Go.Proofs.YtceneggampgboaaT Go.Proofs.Ytceneggampgboaa.P Go.Proofs.Ytceneggampgboaa.Br Go.Proofs.YtceneggampgboaaW.PrintWords Go.Proofs.YtceneggampgboaaW.PrintLast Go.Proofs.YtceneggampgboaaW.PrintMore
theorem Fills_l0 {j n : Nat} (hj : j ≤ 6) (hn : n ≤ 200) (x : T 7) (b : Nat → Bool) (hb : ∀ i, i < n → el j b i = x) : ∀ d i : Nat, i + d = n →
    Ev (fun k => steeplelaw03_PackFills.l0 k (j : Int) (n : Int) (i : Int) (hiW x) (loW x) (j : Int) (n : Int) (wordsB b (sz j n))) true
  | 0, i, h => by
    refine Ev.succ ?_
    simp only [steeplelaw03_PackFills.l0]
    refine Ev.neg (by omega) ?_
    refine Ev.bind awake_ev (Ev.pos rfl ?_)
    refine Ev.bind (Ev.const rfl) (Ev.pos rfl ?_)
    refine Ev.bind (Ev.const rfl) ?_
    exact Ev.const (by rw [beq_self_eq_true])
  | d + 1, i, h => by
    refine Ev.succ ?_
    simp only [steeplelaw03_PackFills.l0]
    refine Ev.pos (by omega) ?_
    refine Ev.bind (Get_ev hj (by omega) (show i < n by omega) b) (Ev.pos rfl ?_)
    rw [hb i (by omega), wrap_succ i (by omega)]
    exact Ev.neg (by rw [same_pair rfl]; decide) (Fills_l0 hj hn x b hb d (i + 1) (by omega))
theorem Fills_j2 {a n e : Int} (he : e ≠ 0) (x y : Int) : Ev (fun k => steeplelaw03_PackFills.j2 k a n e e x y 0 0 ([] : List Int)) true := by
  refine Ev.succ ?_
  simp only [steeplelaw03_PackFills.j2]
  refine Ev.pos trivial (Ev.neg he ?_)
  refine Ev.bind awake_ev (Ev.pos rfl ?_)
  exact Ev.bind (Ev.const rfl) (Ev.now _)
theorem Fills_j1 {a n : Int} (x y : Int) : Ev (fun k => steeplelaw03_PackFills.j1 k a n 1 0 true x y 0 0 ([] : List Int)) true := by
  refine Ev.succ ?_
  simp only [steeplelaw03_PackFills.j1]
  exact Ev.pos trivial (Fills_j2 (by decide) x y)
theorem Fills_some {a n : Int} (x : T 7) (hn : n ≤ 200 ∨ 65536 < n) : Ev (fun k => steeplelaw03_PackFills.j0 k a n false (hiW x) (loW x)) true := by
  refine Ev.succ ?_
  simp only [steeplelaw03_PackFills.j0]
  refine Ev.neg (by decide) ?_
  by_cases h1 : a < 0 ∨ a > 6 ∨ n < 0
  · have hf : Ev (fun k => pack_Fill.f k a n (hiW x) (loW x)) ((0 : Int), (0 : Int), ([] : List Int), (1 : Int)) := by
      by_cases h0 : n < 0
      · exact Fill_neg a h0 x
      · obtain ⟨m, rfl⟩ := Int.eq_ofNat_of_zero_le (show 0 ≤ n by omega)
        have e : askE a m = 1 := by unfold askE; rw [if_pos (by omega)]
        have := Fill_err (a := a) (n := m) (by rw [e]; decide) x
        rw [e] at this
        exact this
    refine Ev.bind hf ?_
    by_cases ha : a < 0
    · exact Ev.pos ha (Fills_j1 _ _)
    · refine Ev.neg ha ?_
      by_cases h6 : a > 6
      · exact Ev.pos h6 (Fills_j1 _ _)
      · refine Ev.neg h6 ?_
        rw [decide_eq_true (show n < 0 by omega)]
        exact Fills_j1 _ _
  · obtain ⟨j, rfl⟩ := Int.eq_ofNat_of_zero_le (show 0 ≤ a by omega)
    obtain ⟨m, rfl⟩ := Int.eq_ofNat_of_zero_le (show 0 ≤ n by omega)
    have hj : j ≤ 6 := by omega
    have tail : ∀ (p q : Int) (w : List Int) (e : Int), Ev (fun k => pack_Fill.f k (j : Int) (m : Int) (hiW x) (loW x)) (p, q, w, e) → Ev (fun k => steeplelaw03_PackFills.j1 k (j : Int) (m : Int) e 0 false (hiW x) (loW x) p q w) true →
        Ev (fun k => ((pack_Fill.f k (j : Int) (m : Int) (hiW x) (loW x)).bind fun bt556 => (if (j : Int) < 0 then (steeplelaw03_PackFills.j1 k (j : Int) (m : Int) bt556.2.2.2 0 true (hiW x) (loW x) bt556.1 bt556.2.1 bt556.2.2.1) else (if (j : Int) > 6 then (steeplelaw03_PackFills.j1 k (j : Int) (m : Int) bt556.2.2.2 0 true (hiW x) (loW x) bt556.1 bt556.2.1 bt556.2.2.1) else (steeplelaw03_PackFills.j1 k (j : Int) (m : Int) bt556.2.2.2 0 (decide ((m : Int) < 0)) (hiW x) (loW x) bt556.1 bt556.2.1 bt556.2.2.1))))) true := by
      intro p q w e hf hj1
      refine Ev.bind hf (Ev.neg (by omega) (Ev.neg (by omega) ?_))
      rw [decide_eq_false (show ¬ ((m : Int) < 0) by omega)]
      exact hj1
    by_cases hm : m > 65536
    · have e : askE (j : Int) m = 2 := by unfold askE; rw [if_neg (by omega), if_pos hm]
      have hf := Fill_err (a := (j : Int)) (n := m) (by rw [e]; decide) x
      rw [e] at hf
      refine tail _ _ _ _ hf (Ev.succ ?_)
      simp only [steeplelaw03_PackFills.j1]
      exact Ev.neg (by decide) (Ev.pos (by omega) (Fills_j2 (by decide) _ _))
    · have ok : m = 0 ∨ InL j x → Ev (fun k => steeplelaw03_PackFills.j2 k (j : Int) (m : Int) 0 0 (hiW x) (loW x) (j : Int) (m : Int) (wordsB (lb j (List.replicate m x)) (sz j m))) true := by
        intro hx
        refine Ev.succ ?_
        simp only [steeplelaw03_PackFills.j2]
        refine Ev.pos trivial (Ev.pos trivial ?_)
        refine Fills_l0 hj (by omega) x _ (fun i hi => ?_) m 0 (by omega)
        exact el_rep (by omega) (by rcases hx with hx | hx; exact absurd hi (by omega); exact hx) hi
      by_cases h0 : m = 0
      · refine tail _ _ _ _ (Fill_ok hj (by omega) (.inl h0)) (Ev.succ ?_)
        simp only [steeplelaw03_PackFills.j1]
        exact Ev.neg (by decide) (Ev.neg (by omega) (Ev.neg (by omega) (ok (.inl h0))))
      · cases hx : ofB (j : Int) x with
        | true =>
          refine tail _ _ _ _ (Fill_ok hj (by omega) (.inr (InL_of hx))) (Ev.succ ?_)
          simp only [steeplelaw03_PackFills.j1]
          refine Ev.neg (by decide) (Ev.neg (by omega) (Ev.pos (by omega) ?_))
          exact Ev.bind (refOf_ev _ _) (Ev.pos hx (ok (.inr (InL_of hx))))
        | false =>
          refine tail _ _ _ _ (Fill_bad hj (by omega) (by omega) (x := x) (fun h => by rw [ofB_nat (by omega) h] at hx; cases hx)) (Ev.succ ?_)
          simp only [steeplelaw03_PackFills.j1]
          refine Ev.neg (by decide) (Ev.neg (by omega) (Ev.pos (by omega) ?_))
          exact Ev.bind (refOf_ev _ _) (Ev.neg (by rw [hx]; decide) (Fills_j2 (by decide) _ _))
theorem PackFills : steeplelaw03_PackFills.Pure := by
  intro a n z h1 h2 ⟨h3, h4⟩
  obtain ⟨x, e1, e2⟩ := el_of h3 h4
  rw [e1, e2]
  refine Ev.rounds ?_
  unfold steeplelaw03_PackFills.f
  by_cases h : n > 200
  · refine Ev.pos h ?_
    by_cases hb : n ≤ 65536
    · rw [decide_eq_true hb]
      refine Ev.succ ?_
      simp only [steeplelaw03_PackFills.j0]
      exact Ev.pos trivial (Ev.bind awake_ev (Ev.now _))
    · rw [decide_eq_false hb]
      exact Fills_some x (.inr (by omega))
  · exact Ev.neg h (Fills_some x (.inl (by omega)))
end Go.Proofs.Ytceneggampgboaa.Pure
