/- A vector made, read and changed is as the document has it. Conditions: none but the arguments' kinds. -/
import Derived.Test.YtceneggampgboaaPkRef
import Derived.Test.YtceneggampgboaaPk03
import Derived.Test.YtceneggampgboaaPx11
set_option linter.unusedVariables false
namespace Go.Proofs.Ytceneggampgboaa.Pure
open Go.RowKit Go.Proofs.YtceneggampgboaaT Go.Proofs.Ytceneggampgboaa.P Go.Proofs.Ytceneggampgboaa.Br Go.Proofs.YtceneggampgboaaW.PrintWords Go.Proofs.YtceneggampgboaaW.PrintLast Go.Proofs.YtceneggampgboaaW.PrintMore
theorem Makes_end {j n : Nat} (hj : j ≤ 6) (hn : n ≤ 200) (b : Nat → Bool) (hz : Zb j n b) {a : Int} (x : T 7) :
    Ev (fun k => steeplelaw03_PackMakes.j0 k false a (hiW x) (loW x) (j : Int) (n : Int) (wordsB b (sz j n)) (j : Int) ((els j b n).map elR)) true := by
  refine Ev.succ ?_
  simp only [steeplelaw03_PackMakes.j0]
  refine Ev.neg (by decide) ?_
  have hl : (els j b n).length = n := els_length j b n
  by_cases hi : a < 0 ∨ a ≥ n
  · refine Ev.bind (With_none hi _ x) ?_
    refine Ev.bind (refWith_none _ (by rw [hl]; exact hi) x) ?_
    refine Ev.bind awake_ev (Ev.pos rfl (Ev.pos rfl ?_))
    have s0 := same_ev (j := 0) (n := 0) (by omega) (by omega) (fun _ => false) (fun _ _ => rfl)
    rw [wordsB_zero] at s0
    refine Ev.bind s0 (Ev.pos rfl ?_)
    exact Ev.bind (same_ev hj (by omega) b hz) (Ev.now _)
  · obtain ⟨i, rfl⟩ := Int.eq_ofNat_of_zero_le (by omega : 0 ≤ a)
    have hi : i < n := by omega
    by_cases hx : InL j x
    · refine Ev.bind (With_ev hj (by omega) hi b hx) ?_
      refine Ev.bind (refWith_ev hj _ (by omega) (by omega) hx) ?_
      refine Ev.bind awake_ev (Ev.pos rfl (Ev.pos rfl ?_))
      rw [← els_put (by omega) hi hx]
      refine Ev.bind (same_ev hj (by omega) _ (Zb_put hi hz x)) (Ev.pos rfl ?_)
      exact Ev.bind (same_ev hj (by omega) b hz) (Ev.now _)
    · have hx := ofB_false_of (show j ≤ 7 by omega) hx
      refine Ev.bind (With_bad hi _ hx) ?_
      refine Ev.bind (refWith_bad _ (by omega) hx) ?_
      refine Ev.bind awake_ev (Ev.pos rfl (Ev.pos rfl ?_))
      have s0 := same_ev (j := 0) (n := 0) (by omega) (by omega) (fun _ => false) (fun _ _ => rfl)
      rw [wordsB_zero] at s0
      refine Ev.bind s0 (Ev.pos rfl ?_)
      exact Ev.bind (same_ev hj (by omega) b hz) (Ev.now _)
theorem PackMakes : steeplelaw03_PackMakes.Pure := by
  intro a l s ha ⟨_, _, hl⟩ ⟨hs, h1, h2⟩
  obtain ⟨L, rfl⟩ := elS_of hl
  obtain ⟨x, ex, ex'⟩ := el_of h1 h2
  rw [ex, ex']
  refine Ev.rounds ?_
  unfold steeplelaw03_PackMakes.f
  rw [List.length_map]
  by_cases hL : L.length > 200
  · exact Ev.pos (by omega) (Ev.bind awake_ev (Ev.now _))
  · refine Ev.neg (by omega) ?_
    obtain ⟨j, n, b, e, hj, hn, hn2, hz, _, _, hm, hr⟩ := both_make a L
    refine Ev.bind hm ?_
    refine Ev.bind (Ref_ev L (by omega)) ?_
    refine Ev.bind hr (Ev.pos rfl ?_)
    refine Ev.bind (same_ev hj (by omega) b hz) (Ev.pos rfl ?_)
    have hle : (els j b n).length = n := els_length j b n
    generalize s.f0 = i
    by_cases hi : i < 0 ∨ i ≥ n
    · refine Ev.bind (Get_none hi _) ?_
      by_cases h0 : i ≥ 0
      · refine Ev.pos h0 (Ev.neg ?_ (Ev.neg (by decide) ?_))
        · rw [List.length_map, hle, decide_eq_false (by omega)]
          decide
        · exact Makes_end hj (by omega) b hz x
      · refine Ev.neg h0 (Ev.neg (by decide) (Ev.neg (by decide) ?_))
        exact Makes_end hj (by omega) b hz x
    · obtain ⟨i, rfl⟩ := Int.eq_ofNat_of_zero_le (by omega : 0 ≤ i)
      have hi : i < n := by omega
      have hi' : i < (els j b n).length := by omega
      refine Ev.bind (Get_ev hj (by omega) hi b) ?_
      refine Ev.pos (by omega) (Ev.neg ?_ (Ev.pos rfl (Ev.pos (by omega) (Ev.pos (by rw [List.length_map]; omega) (Ev.neg ?_ ?_)))))
      · rw [List.length_map, hle, decide_eq_true (by omega)]
        show ¬ ((true != true) = true)
        decide
      · rw [rd_elR hi', els_get hi', elR_f0, elR_f1, same_pair rfl]
        decide
      · exact Makes_end hj (by omega) b hz x
end Go.Proofs.Ytceneggampgboaa.Pure
