/- Conjugates, trace and norm of any element over any level below. Conditions: none but the arguments' kinds. -/
import Derived.Test.YtlegcabfgkccmaaBrLsR
import Derived.Test.YtlegcabfgkccmaaBrFrA
import Derived.Test.YtlegcabfgkccmaaHConj
import Derived.Test.YtlegcabfgkccmaaPx14
import Derived.Test.YtlegcabfgkccmaaPx15
set_option linter.unusedVariables false
set_option linter.unusedSimpArgs false
namespace Go.Proofs.Ytlegcabfgkccmaa.Pure
open Go.RowKit Go.Proofs.YtlegcabfgkccmaaT Go.Proofs.Ytlegcabfgkccmaa.P Go.Proofs.Ytlegcabfgkccmaa.Br Go.Proofs.YtlegcabfgkccmaaW.PrintWords Go.Proofs.YtlegcabfgkccmaaW.PrintLast Go.Proofs.YtlegcabfgkccmaaW.PrintMore
theorem cS_elP (L : List (T 7)) : (L.map elP).map cS = L.map elS := by
  rw [List.map_map]
  rfl
theorem Conj_ok {j k : Nat} (hj : j ≤ k) (hk : k ≤ 7) {x : T 7} (hx : InL k x) : Ev (fun n => frob_Conjugates.f n (k : Int) (j : Int) (hiW x) (loW x)) ((cjT (2 ^ j) (2 ^ (k - j)) x).map elS) := by
  unfold frob_Conjugates.f frob_co
  refine Ev.bind (fits_ev _ _ x) ?_
  refine Ev.pos (fitE_iff.2 ⟨k, j, rfl, rfl, hj, hk, hx⟩) (Ev.pos (by omega) ?_)
  rw [show ((k : Int) - (j : Int)) = ((k - j : Nat) : Int) by omega, Int.toNat_natCast, Int.toNat_natCast]
  refine Ev.bind (cj_ev hk (2 ^ j) (2 ^ (k - j)) x hx) ?_
  rw [cjL_T, cS_elP]
  exact Ev.now _
theorem Conj_bad {a b : Int} {x : T 7} (h : fitE a b x = false) : Ev (fun n => frob_Conjugates.f n a b (hiW x) (loW x)) ([] : List S24) := by
  unfold frob_Conjugates.f frob_co
  exact Ev.bind (fits_ev _ _ x) (Ev.neg (by rw [h]; decide) (Ev.now _))
theorem refFits_ev (a b : Int) (x : T 7) : Ev (fun k => steepleref33_Fits.f k a b (hiW x) (loW x)) (fitE a b x) := by
  unfold steepleref33_Fits.f fitE
  refine Ev.bind (refOf_ev a x) ?_
  cases ofB a x with
  | true =>
    refine Ev.pos rfl ?_
    by_cases h : b ≥ 0
    · refine Ev.pos h ?_
      rw [Bool.true_and, show decide (0 ≤ b ∧ b ≤ a) = decide (b ≤ a) from by
        by_cases h2 : b ≤ a
        · rw [decide_eq_true h2, decide_eq_true ⟨h, h2⟩]
        · rw [decide_eq_false h2, decide_eq_false (fun h3 => h2 h3.2)]]
      exact Ev.now _
    · refine Ev.neg h ?_
      rw [Bool.true_and, decide_eq_false (fun h3 => h h3.1)]
      exact Ev.now _
  | false =>
    refine Ev.neg (by decide) ?_
    rw [Bool.false_and]
    exact Ev.now _
theorem Same_l0 (L : List (T 7)) (hL : L.length < 2 ^ 40) : ∀ d i : Nat, i + d = L.length → Ev (fun k => steeplelaw01_Same.l0 k (L.map elS) (L.map elR) (i : Int)) true
  | 0, i, h => by
    refine Ev.succ ?_
    simp only [steeplelaw01_Same.l0]
    exact Ev.neg (by rw [List.length_map]; omega) (Ev.now _)
  | d + 1, i, h => by
    have hi : i < L.length := by omega
    refine Ev.succ ?_
    simp only [steeplelaw01_Same.l0]
    refine Ev.pos (by rw [List.length_map]; omega) (Ev.pos (by omega) (Ev.pos (by rw [List.length_map]; omega) ?_))
    rw [rd_elS hi, rd_elR hi, elR_f0, elR_f1, elS_f0, elS_f1, wrap_succ i (by omega)]
    exact Ev.neg (by rw [same_pair rfl]; decide) (Same_l0 L hL d (i + 1) (by omega))
theorem Same_ev (L : List (T 7)) (hL : L.length < 2 ^ 40) : Ev (fun k => steeplelaw01_Same.f k (L.map elS) (L.map elR)) true := by
  unfold steeplelaw01_Same.f
  exact Ev.pos (by rw [List.length_map, List.length_map]) (Same_l0 L hL L.length 0 (by omega))
theorem refTr_l0 (L : List (T 7)) (hL : L.length < 1000) : ∀ (d i : Nat) (p : T 7), i + d = L.length → Ev (fun k => steepleref33_Trace.l0 k (L.map elR) (i : Int) (hiW p) (loW p)) (elP ((L.drop i).foldl (addOp 7).op p))
  | 0, i, p, h => by
    refine Ev.succ ?_
    simp only [steepleref33_Trace.l0]
    refine Ev.neg (by rw [List.length_map]; omega) ?_
    rw [List.drop_of_length_le (by omega), List.foldl_nil, elP_def]
    exact Ev.now _
  | d + 1, i, p, h => by
    have hi : i < L.length := by omega
    refine Ev.succ ?_
    simp only [steepleref33_Trace.l0]
    refine Ev.pos (by rw [List.length_map]; omega) (Ev.pos (by omega) ?_)
    rw [rd_elR hi, elR_f0, elR_f1, wrap_succ i (by omega), List.drop_eq_getElem_cons hi, List.foldl_cons]
    refine Ev.bind (Ev.const (refAdd_f p L[i])) ?_
    exact refTr_l0 L hL d (i + 1) (p + L[i]) (by omega)
theorem refNm_l0 (L : List (T 7)) (hL : L.length < 1000) : ∀ (d i : Nat) (p : T 7), i + d = L.length → Ev (fun k => steepleref33_Norm.l0 k (L.map elR) (i : Int) (hiW p) (loW p)) (elP ((L.drop i).foldl (mulOp 7).op p))
  | 0, i, p, h => by
    refine Ev.succ ?_
    simp only [steepleref33_Norm.l0]
    refine Ev.neg (by rw [List.length_map]; omega) ?_
    rw [List.drop_of_length_le (by omega), List.foldl_nil, elP_def]
    exact Ev.now _
  | d + 1, i, p, h => by
    have hi : i < L.length := by omega
    refine Ev.succ ?_
    simp only [steepleref33_Norm.l0]
    refine Ev.pos (by rw [List.length_map]; omega) (Ev.pos (by omega) ?_)
    rw [rd_elR hi, elR_f0, elR_f1, wrap_succ i (by omega), List.drop_eq_getElem_cons hi, List.foldl_cons]
    refine Ev.bind (Product_ev p L[i]) ?_
    exact refNm_l0 L hL d (i + 1) (p * L[i]) (by omega)
theorem short {j k : Nat} (hj : j ≤ k) (hk : k ≤ 7) (x : T 7) : (cjT (2 ^ j) (2 ^ (k - j)) x).length ≤ 128 := by
  rw [cjT_len]
  exact pow_le7 (by omega)
theorem refTrace_ev {j k : Nat} (hj : j ≤ k) (hk : k ≤ 7) (x : T 7) : Ev (fun n => steepleref33_Trace.f n (k : Int) (j : Int) (hiW x) (loW x)) (elP (conjE (addOp 7) k j x)) := by
  unfold steepleref33_Trace.f
  refine Ev.bind (refConj_ev hj hk x) ?_
  have h := refTr_l0 (cjT (2 ^ j) (2 ^ (k - j)) x) (by have := short hj hk x; omega) _ 0 0 (Nat.zero_add _)
  rw [List.drop_zero, ← cjL_T, fold_cjL, hi_zero, lo_zero] at h
  have e : (addOp 7).op 0 (gfold (addOp 7) (2 ^ j) (2 ^ (k - j)) x) = conjE (addOp 7) k j x := zero_add _
  rw [e, cjL_T] at h
  exact h
theorem refNorm_ev {j k : Nat} (hj : j ≤ k) (hk : k ≤ 7) (x : T 7) : Ev (fun n => steepleref33_Norm.f n (k : Int) (j : Int) (hiW x) (loW x)) (elP (conjE (mulOp 7) k j x)) := by
  unfold steepleref33_Norm.f
  refine Ev.bind (refConj_ev hj hk x) ?_
  have h := refNm_l0 (cjT (2 ^ j) (2 ^ (k - j)) x) (by have := short hj hk x; omega) _ 0 1 (Nat.zero_add _)
  rw [List.drop_zero, ← cjL_T, fold_cjL, hi_one, lo_one] at h
  have e : (mulOp 7).op 1 (gfold (mulOp 7) (2 ^ j) (2 ^ (k - j)) x) = conjE (mulOp 7) k j x := one_mul _
  rw [e, cjL_T] at h
  exact h
theorem FrobTraces : steeplelaw33_FrobTraces.Pure := by
  intro a b s ha hb hs
  obtain ⟨s0, s1⟩ := s
  obtain ⟨x, rfl, rfl⟩ := el_of hs.1 hs.2
  dsimp only
  refine Ev.rounds ?_
  unfold steeplelaw33_FrobTraces.f
  cases ho : fitE a b x with
  | false =>
    refine Ev.bind (Conj_bad ho) (Ev.bind (Trace_bad ho) (Ev.bind (Norm_bad ho) (Ev.bind (refFits_ev a b x) (Ev.neg (by rw [ho]; decide) (Ev.bind awake_ev (Ev.pos rfl (Ev.pos rfl (Ev.pos (by decide) ?_))))))))
    exact Ev.const (by decide)
  | true =>
    obtain ⟨k, j, rfl, rfl, hj, hk, hx⟩ := fitE_iff.1 ho
    have hT := conj_in (addOp 7) hj hk hx
    have hN := conj_in (mulOp 7) hj hk hx
    refine Ev.bind (Conj_ok hj hk hx) (Ev.bind (Trace_ev hj hk hx) (Ev.bind (Norm_ev hj hk hx) (Ev.bind (refFits_ev _ _ x) (Ev.pos ho (Ev.bind awake_ev (Ev.pos rfl (Ev.bind (refConj_ev hj hk x) (Ev.bind (Same_ev _ (by have := short hj hk x; omega)) (Ev.pos rfl (Ev.bind (refTrace_ev hj hk x) (Ev.pos (eq_pair rfl) (Ev.bind (refNorm_ev hj hk x) (Ev.pos (eq_pair rfl) (Ev.bind (Of_ev _ _) ?_))))))))))))))
    rw [ofB_nat (by omega) hT]
    refine Ev.pos rfl (Ev.bind (Of_ev _ _) ?_)
    rw [ofB_nat (by omega) hN]
    exact Ev.now _
end Go.Proofs.Ytlegcabfgkccmaa.Pure
