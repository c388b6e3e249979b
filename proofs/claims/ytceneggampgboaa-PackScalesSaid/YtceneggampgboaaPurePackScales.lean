/- Any vector times any element, or the error. Conditions: none but the arguments' kinds. -/
import Derived.Test.YtceneggampgboaaPkFill
import Derived.Test.YtceneggampgboaaPkProd
import Derived.Test.YtceneggampgboaaPk03
import Derived.Test.YtceneggampgboaaPx23
set_option linter.unusedVariables false
namespace Go.Proofs.Ytceneggampgboaa.Pure
open Go.RowKit Go.Proofs.YtceneggampgboaaT Go.Proofs.Ytceneggampgboaa.P Go.Proofs.Ytceneggampgboaa.Br Go.Proofs.YtceneggampgboaaW.PrintWords Go.Proofs.YtceneggampgboaaW.PrintLast Go.Proofs.YtceneggampgboaaW.PrintMore
theorem Scales_l0 {j n : Nat} (hj : j ≤ 6) (hn : n ≤ 200) (L : List (T 7)) (hL : L.length = n) (L' : List S25) (a' : Int) (x : T 7) (p : Nat → Bool) (hz : Zb j n p) (hp : ∀ i (h : i < L.length), el j p i = L[i] * x) : ∀ d i : Nat, i + d = n →
    Ev (fun k => steeplelaw03_PackScales.l0 k 0 ((els j p i).map elR) (i : Int) (j : Int) a' (L.map elS) L' (hiW x) (loW x) (j : Int) (n : Int) (wordsB p (sz j n))) true
  | 0, i, h => by
    obtain rfl : i = n := by omega
    refine Ev.succ ?_
    simp only [steeplelaw03_PackScales.l0]
    refine Ev.neg (by rw [List.length_map]; omega) ?_
    refine Ev.bind awake_ev (Ev.pos rfl (Ev.pos trivial ?_))
    exact Ev.bind (same_ev hj (by omega) p hz) (Ev.now _)
  | d + 1, i, h => by
    have hi : i < L.length := by omega
    refine Ev.succ ?_
    simp only [steeplelaw03_PackScales.l0]
    refine Ev.pos (by rw [List.length_map]; omega) (Ev.pos (by omega) ?_)
    rw [rd_elS hi, elS_f0, elS_f1, wrap_succ i (by omega)]
    refine Ev.bind (Product_ev _ _) ?_
    refine Ev.pos (by rw [List.length_map, els_length]; omega) ?_
    have e : (els j p i).map elR ++ [(⟨hiW (L[i] * x), loW (L[i] * x)⟩ : S44)] = (els j p (i + 1)).map elR := by
      rw [els_succ, List.map_append, hp i hi]
      rfl
    rw [e]
    exact Scales_l0 hj hn L hL L' a' x p hz hp d (i + 1) (by omega)
theorem PackScales : steeplelaw03_PackScales.Pure := by
  intro z y ⟨h1, h2, ⟨_, _, h3⟩, ⟨_, _, h4⟩⟩ ⟨h5, h6⟩
  obtain ⟨L, e3⟩ := elS_of h3
  obtain ⟨L', e4⟩ := elS_of h4
  obtain ⟨x, e5, e6⟩ := el_of h5 h6
  rw [e3, e4, e5, e6]
  generalize z.f0 = a
  generalize z.f1 = a'
  refine Ev.rounds ?_
  unfold steeplelaw03_PackScales.f
  rcases made_ev a a' L L' with ⟨v, w, hm⟩ | ⟨j, j', rfl, rfl, hj, hj', hl, hl', hin, hin', hm⟩
  · refine Ev.bind hm (Ev.neg (by show ¬ (false = true); decide) ?_)
    exact Ev.bind awake_ev (Ev.now _)
  · refine Ev.bind hm (Ev.pos rfl ?_)
    cases hx : ofB (j : Int) x with
    | true =>
      have hxi := InL_of hx
      have hs : Ev (fun k => pack_Scale.f k (j : Int) (L.length : Int) (wordsB (lb j L) (sz j L.length)) (hiW x) (loW x)) ((j : Int), (L.length : Int), wordsB (prodB j (lb j L) (lb j (List.replicate L.length x))) (sz j L.length), (0 : Int)) := by
        unfold pack_Scale.f
        refine Ev.bind (Of_ev _ _) (Ev.pos hx ?_)
        refine Ev.bind (Fill_ok hj (by omega) (.inr hxi)) ?_
        exact Ev.bind (pMul_ev hj (by omega) _ _) (Ev.now _)
      refine Ev.bind hs ?_
      refine Ev.bind (refOf_ev _ _) (Ev.pos hx ?_)
      refine Scales_l0 hj hl L rfl _ _ x _ (Zb_prod (Zb_lb j L) _) (fun i hi => ?_) L.length 0 (by omega)
      rw [el_prod (by omega), el_lb (by omega) hin hi, el_rep (by omega) hxi hi]
    | false =>
      have hs : Ev (fun k => pack_Scale.f k (j : Int) (L.length : Int) (wordsB (lb j L) (sz j L.length)) (hiW x) (loW x)) ((0 : Int), (0 : Int), ([] : List Int), (5 : Int)) := by
        unfold pack_Scale.f
        exact Ev.bind (Of_ev _ _) (Ev.neg (by rw [hx]; decide) (Ev.now _))
      refine Ev.bind hs ?_
      refine Ev.bind (refOf_ev _ _) (Ev.neg (by rw [hx]; decide) ?_)
      refine Ev.bind awake_ev (Ev.pos rfl (Ev.pos rfl ?_))
      exact Ev.bind (Ev.const rfl) (Ev.now _)
end Go.Proofs.Ytceneggampgboaa.Pure
