/- The least polynomial of any element: its degree, its coefficients, and that the element is its nought. Conditions: none but the arguments' kinds. -/
import Derived.Test.YtlegcabfgkccmaaBrLsR
import Derived.Test.YtlegcabfgkccmaaBrFrA
import Derived.Test.YtlegcabfgkccmaaPx10a
set_option linter.unusedVariables false
set_option linter.unusedSimpArgs false
namespace Go.Proofs.Ytlegcabfgkccmaa.Pure
open Go.RowKit Go.Proofs.YtlegcabfgkccmaaT Go.Proofs.Ytlegcabfgkccmaa.P Go.Proofs.Ytlegcabfgkccmaa.Br Go.Proofs.YtlegcabfgkccmaaW.PrintWords Go.Proofs.YtlegcabfgkccmaaW.PrintLast Go.Proofs.YtlegcabfgkccmaaW.PrintMore
theorem FrobLeast_l0 {P : List (T 7)} (hP : ∀ y ∈ P, y = 0 ∨ y = 1) (hL : P.length < 1000) (x : T 7) : ∀ (d i : Nat) (S : T 7), i + d = P.length → S + powN x i * pv x (P.drop i) = 0 →
    Ev (fun k => steeplelaw33_FrobLeast.l0 k (P.map nzB) (P.map elR) (i : Int) (hiW x) (loW x) 0 0 (hiW S) (loW S) 0 1 (hiW (powN x i)) (loW (powN x i))) true
  | 0, i, S, h, hs => by
    refine Ev.succ ?_
    simp only [steeplelaw33_FrobLeast.l0]
    refine Ev.neg (by rw [List.length_map]; omega) (Ev.bind awake_ev (Ev.pos rfl ?_))
    rw [List.drop_of_length_le (by omega)] at hs
    rw [pv_nil, mul_zero, add_zero] at hs
    rw [hs, hi_zero, lo_zero]
    exact Ev.const (by decide)
  | d + 1, i, S, h, hs => by
    have hi : i < P.length := by omega
    have hlb : (P.map nzB).length = P.length := List.length_map ..
    have hlr : (P.map elR).length = P.length := List.length_map ..
    have hrb : rdOf false (P.map nzB) (i : Int) = nzB P[i] := by
      unfold rdOf
      rw [Int.toNat_natCast, List.getD_eq_getElem?_getD, List.getElem?_map, List.getElem?_eq_getElem hi, Option.map_some, Option.getD_some]
    have hy := hP P[i] (List.getElem_mem hi)
    have hnext : ∀ S' : T 7, S' = S + powN x i * P[i] → Ev (fun k => (steepleref02_Product.f k (hiW (powN x i)) (loW (powN x i)) (hiW x) (loW x)).bind fun bt => steeplelaw33_FrobLeast.l0 k (P.map nzB) (P.map elR) (wrap64 ((i : Int) + 1)) (hiW x) (loW x) 0 0 (hiW S') (loW S') 0 1 bt.1 bt.2) true := by
      intro S' hS
      refine Ev.bind (Product_ev (powN x i) x) ?_
      rw [wrap_succ i (by omega), ← powN_last]
      refine FrobLeast_l0 hP hL x d (i + 1) S' (by omega) ?_
      rw [List.drop_eq_getElem_cons hi] at hs
      rw [pv_cons, mul_add, ← mul_assoc, ← powN_last, ← add_assoc, ← hS] at hs
      exact hs
    refine Ev.succ ?_
    simp only [steeplelaw33_FrobLeast.l0]
    refine Ev.pos (by rw [hlb]; omega) (Ev.pos (by omega) (Ev.pos (by rw [hlr]; omega) ?_))
    rw [rd_elR hi, elR_f0, elR_f1, hrb]
    have hj : Ev (fun k => steeplelaw33_FrobLeast.j1 k (P.map nzB) (P.map elR) (i : Int) (nzB P[i] != (hiW P[i] == 0 && (loW P[i] == 1))) (hiW x) (loW x) 0 0 (hiW S) (loW S) 0 1 (hiW (powN x i)) (loW (powN x i))) true := by
      refine Ev.succ ?_
      simp only [steeplelaw33_FrobLeast.j1]
      rcases hy with e | e
      · have hb : nzB P[i] = false := by rw [e]; unfold nzB; rw [hi_zero, lo_zero]; decide
        refine Ev.neg (by rw [hb, e, hi_zero, lo_zero]; decide) (Ev.pos (by omega) (Ev.pos (by rw [hlb]; omega) ?_))
        rw [hrb, hb]
        refine Ev.neg (by decide) ?_
        exact hnext S (by rw [e, mul_zero, add_zero])
      · have hb : nzB P[i] = true := by rw [e]; unfold nzB; rw [hi_one, lo_one]; decide
        refine Ev.neg (by rw [hb, e, hi_one, lo_one]; decide) (Ev.pos (by omega) (Ev.pos (by rw [hlb]; omega) ?_))
        rw [hrb, hb]
        refine Ev.pos rfl (Ev.bind (Ev.const (refAdd_f S (powN x i))) ?_)
        exact hnext (S + powN x i) (by rw [e, mul_one])
    rcases hy with e | e
    · refine Ev.neg (by rw [e, hi_zero, lo_zero]; decide) ?_
      exact hj
    · refine Ev.pos (by rw [e, hi_one, lo_one]; decide) (Ev.neg (by rw [e, hi_one, lo_one]; decide) ?_)
      exact hj
theorem FrobLeast : steeplelaw33_FrobLeast.Pure := by
  intro a s ha hs
  obtain ⟨s0, s1⟩ := s
  obtain ⟨x, rfl, rfl⟩ := el_of hs.1 hs.2
  dsimp only
  refine Ev.rounds ?_
  unfold steeplelaw33_FrobLeast.f
  cases ho : ofB a x with
  | false =>
    refine Ev.bind (Least_bad ho) (Ev.bind (refOf_ev a x) (Ev.neg (by rw [ho]; decide) (Ev.bind awake_ev (Ev.pos rfl ?_))))
    exact Ev.const (by decide)
  | true =>
    obtain ⟨j, rfl, hj, hx⟩ := ofB_iff.1 ho
    have hlen := lsP_len x
    have h2 := two_le x
    have e1 : ((lsP x).map nzB).length = 2 ^ lvE x + 1 := by rw [List.length_map, hlen]
    have e2 : ((lsP x).map elR).length = 2 ^ lvE x + 1 := by rw [List.length_map, hlen]
    refine Ev.bind (Least_ev hj hx) (Ev.bind (refOf_ev _ x) (Ev.pos ho (Ev.bind (refLeast_ev hj hx) (Ev.pos (by rw [e1, e2]) (Ev.bind (refLevel_ev x) (Ev.bind (Two_ev (lvE_le x)) (Ev.pos (by rw [e1, wrap_succ _ (by omega)]) ?_)))))))
    have hfull : frob (2 ^ lvE x) x = x := frob_in (lvE_le x) (lvE_in x)
    obtain ⟨m, hm⟩ : ∃ m, 2 ^ lvE x = m + 1 := ⟨2 ^ lvE x - 1, by have := Nat.two_pow_pos (lvE x); omega⟩
    have hP : ∀ y ∈ lsP x, y = 0 ∨ y = 1 := by
      unfold lsP
      rw [hm]
      exact prod_bits (by rw [← hm]; exact hfull)
    have hz : pv x (lsP x) = 0 := by
      unfold lsP
      rw [hm]
      exact prod_zero m x
    have := FrobLeast_l0 hP (by omega) x (lsP x).length 0 0 (by omega) (by rw [List.drop_zero, hz, mul_zero, add_zero])
    rw [powN_nil, hi_one, lo_one, hi_zero, lo_zero] at this
    exact this
end Go.Proofs.Ytlegcabfgkccmaa.Pure
