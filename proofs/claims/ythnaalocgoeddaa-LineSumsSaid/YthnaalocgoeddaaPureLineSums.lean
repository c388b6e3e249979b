/- Values go over sums and factors. Conditions: none but the arguments' kinds. -/
import Derived.Test.YthnaalocgoeddaaBrAwake
import Derived.Test.YthnaalocgoeddaaPx8
set_option linter.unusedVariables false
namespace Go.Proofs.Ythnaalocgoeddaa.Pure
open Go.RowKit Go.Proofs.YthnaalocgoeddaaT Go.Proofs.Ythnaalocgoeddaa.P Go.Proofs.Ythnaalocgoeddaa.Br Go.Proofs.YthnaalocgoeddaaW.PrintWords Go.Proofs.YthnaalocgoeddaaW.PrintLast Go.Proofs.YthnaalocgoeddaaW.PrintMore
/-- Nothing hinders the sums either. -/
theorem may_sum {a : Int} {A B : List (T 7)} {c : T 7} (hA : mayE a A = 0) (hB : mayE a B = 0) (hl : A.length = B.length) (hc : ofB a c = true) : mayE a (List.zipWith (fun x y => x + c * y) A B) = 0 := by
  obtain ⟨j, rfl, hj, h0, h9, hp, hiA⟩ := may_ok hA
  obtain ⟨j', e, _, _, _, _, hiB⟩ := may_ok hB
  obtain rfl : j = j' := by omega
  obtain ⟨j', e', _, hci⟩ := ofB_iff.1 hc
  obtain rfl : j = j' := by omega
  have hall : (List.zipWith (fun x y => x + c * y) A B).all (ofB (j : Int)) = true := by
    rw [List.all_eq_true]
    intro z hz
    obtain ⟨i, hi, rfl⟩ := List.getElem_of_mem hz
    rw [List.length_zipWith] at hi
    rw [List.getElem_zipWith]
    exact ofB_nat hj (inL_add (hiA _ (List.getElem_mem _)) (inL_mul hj hci (hiB _ (List.getElem_mem _))))
  unfold mayE at hA ⊢
  rw [List.length_zipWith, ← hl, Nat.min_self, hall]
  split at hA
  · cases hA
  · rename_i h1
    rw [if_neg h1]
    split at hA
    · cases hA
    · rename_i h2
      rw [if_neg h2, if_pos rfl]
theorem Sums_l0 {a : Int} {A B : List (T 7)} {c x : T 7} (hA : mayE a A = 0) (hB : mayE a B = 0) (hl : A.length = B.length) (hc : ofB a c = true) (hx : ofB a x = true) : ∀ d i : Nat, i + d = A.length →
    Ev (fun k => steeplelaw17_LineSums.l0 k a (((List.zipWith (fun x y => x + c * y) A B).take i).map elS) (i : Int) (A.map elS) (B.map elS) (hiW c) (loW c) (hiW x) (loW x)) true
  | 0, i, h => by
    obtain ⟨j, rfl, hj, h0, h9, hp, hiA⟩ := may_ok hA
    obtain ⟨j', e, _, _, _, hpB, hiB⟩ := may_ok hB
    obtain rfl : j = j' := by omega
    obtain ⟨j', e', _, hci⟩ := ofB_iff.1 hc
    obtain rfl : j = j' := by omega
    obtain ⟨j', e'', _, hxi⟩ := ofB_iff.1 hx
    obtain rfl : j = j' := by omega
    refine Ev.succ ?_
    simp only [steeplelaw17_LineSums.l0]
    refine Ev.neg (by rw [List.length_map]; omega) ?_
    rw [List.take_of_length_le (by rw [List.length_zipWith]; omega)]
    refine Ev.bind (At_ok hA hx) ?_
    refine Ev.bind (At_ok hB hx) ?_
    refine Ev.bind (At_ok (may_sum hA hB hl hc) hx) ?_
    refine Ev.bind awake_ev (Ev.pos rfl (Ev.pos rfl (Ev.pos rfl (Ev.pos rfl ?_))))
    refine Ev.bind (Mul_ev _ _ _) ?_
    rw [mulE_in hj hci (atE_in hj hxi hpB hiB)]
    refine Ev.bind (Ev.const (Add_f _ _)) ?_
    exact Ev.const (by rw [eq_pair (atE_sum hl c x)])
  | d + 1, i, h => by
    have hiA : i < A.length := by omega
    have hiB : i < B.length := by omega
    obtain ⟨j, rfl, hj, h0, h9, hp, hA'⟩ := may_ok hA
    obtain ⟨j', e, _, _, _, _, hB'⟩ := may_ok hB
    obtain rfl : j = j' := by omega
    obtain ⟨j', e', _, hci⟩ := ofB_iff.1 hc
    obtain rfl : j = j' := by omega
    refine Ev.succ ?_
    simp only [steeplelaw17_LineSums.l0]
    refine Ev.pos (by rw [List.length_map]; omega) (Ev.pos (by omega) (Ev.pos (by rw [List.length_map]; omega) ?_))
    rw [rd_elS hiA, rd_elS hiB, elS_f0, elS_f1, elS_f0, elS_f1, wrap_succ i (by omega)]
    refine Ev.bind (Mul_ev _ _ _) ?_
    rw [mulE_in hj hci (hB' _ (List.getElem_mem _))]
    refine Ev.bind (Ev.const (Add_f _ _)) ?_
    refine Ev.pos (by rw [List.length_map, List.length_take, List.length_zipWith]; omega) ?_
    have hz : i < (List.zipWith (fun x y => x + c * y) A B).length := by rw [List.length_zipWith]; omega
    have e : ((List.zipWith (fun x y => x + c * y) A B).take i).map elS ++ [(⟨hiW (A[i] + c * B[i]), loW (A[i] + c * B[i])⟩ : S28)] = ((List.zipWith (fun x y => x + c * y) A B).take (i + 1)).map elS := by
      rw [List.take_succ_eq_append_getElem hz, List.map_append, List.getElem_zipWith]
      rfl
    rw [e]
    exact Sums_l0 hA hB hl hc hx d (i + 1) (by omega)
theorem LineSums : steeplelaw17_LineSums.Pure := by
  intro a v y ha ⟨⟨_, _, hl1⟩, ⟨_, _, hl2⟩⟩ ⟨⟨h1, h2⟩, ⟨h3, h4⟩⟩
  obtain ⟨A, eA⟩ := elS_of hl1
  obtain ⟨B, eB⟩ := elS_of hl2
  obtain ⟨c, e1, e2⟩ := el_of h1 h2
  obtain ⟨x, e3, e4⟩ := el_of h3 h4
  rw [eA, eB, e1, e2, e3, e4]
  refine Ev.rounds ?_
  unfold steeplelaw17_LineSums.f
  have jt : Ev (fun k => steeplelaw17_LineSums.j0 k a true (A.map elS) (B.map elS) (hiW c) (loW c) (hiW x) (loW x)) true := by
    refine Ev.succ ?_
    simp only [steeplelaw17_LineSums.j0]
    exact Ev.pos trivial (Ev.bind awake_ev (Ev.now _))
  rw [List.length_map, List.length_map]
  by_cases h9 : (A.length : Int) > 9
  · exact Ev.pos h9 jt
  · refine Ev.neg h9 ?_
    by_cases hl : A.length = B.length
    · refine Ev.pos (by omega) (Ev.bind (may_ev a A (by omega)) ?_)
      by_cases hA : mayE a A = 0
      · refine Ev.pos hA (Ev.bind (may_ev a B (by omega)) ?_)
        by_cases hB : mayE a B = 0
        · refine Ev.pos hB (Ev.bind (refOf_ev _ _) ?_)
          by_cases hc : ofB a c = true
          · refine Ev.pos hc (Ev.bind (refOf_ev _ _) ?_)
            by_cases hx : ofB a x = true
            · rw [hx, show (!true) = false from rfl]
              refine Ev.succ ?_
              simp only [steeplelaw17_LineSums.j0]
              refine Ev.neg (by decide) ?_
              exact Sums_l0 hA hB hl hc hx A.length 0 (by omega)
            · rw [Bool.eq_false_iff.2 hx, show (!false) = true from rfl]
              exact jt
          · exact Ev.neg hc jt
        · exact Ev.neg hB jt
      · exact Ev.neg hA jt
    · exact Ev.neg (by omega) jt
end Go.Proofs.Ythnaalocgoeddaa.Pure
