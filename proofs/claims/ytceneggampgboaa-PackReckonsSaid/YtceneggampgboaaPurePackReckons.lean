/- All of a word at once is each by itself. Conditions: none but the arguments' kinds. -/
import Derived.Test.YtceneggampgboaaPkProd
import Derived.Test.YtceneggampgboaaPk03
import Derived.Test.YtceneggampgboaaPx22
set_option linter.unusedVariables false
namespace Go.Proofs.Ytceneggampgboaa.Pure
open Go.RowKit Go.Proofs.YtceneggampgboaaT Go.Proofs.Ytceneggampgboaa.P Go.Proofs.Ytceneggampgboaa.Br Go.Proofs.YtceneggampgboaaW.PrintWords Go.Proofs.YtceneggampgboaaW.PrintLast Go.Proofs.YtceneggampgboaaW.PrintMore
/-- The end: sums and products are the document's, and so is the sum of all products. -/
theorem Reckons_l0 {j j' js n n' m : Nat} (hj : j ≤ 6) (hj' : j' ≤ 6) (hjs : js ≤ 6) (hn : n ≤ 200) (hn' : n' ≤ 200) (hm : m ≤ 200) {b c s p : Nat → Bool} (hb : Zb j n b) (hc : Zb j' n' c) (hs : Zb js m s) (hp : Zb js m p) (e : Int) (z : T 7) : ∀ d i : Nat, i + d = m → ∀ out : T 7, z = out + sumE ((els js p m).drop i) →
    Ev (fun k => steeplelaw03_PackReckons.l0 k e e e e e (i : Int) (j : Int) (n : Int) (wordsB b (sz j n)) (j' : Int) (n' : Int) (wordsB c (sz j' n')) (j : Int) ((els j b n).map elR) (j' : Int) ((els j' c n').map elR)
      (js : Int) (m : Int) (wordsB s (sz js m)) (js : Int) (m : Int) (wordsB p (sz js m)) (hiW z) (loW z) (js : Int) ((els js s m).map elR) (js : Int) ((els js p m).map elR) (hiW out) (loW out)) true
  | 0, i, h, out, hz => by
    refine Ev.succ ?_
    simp only [steeplelaw03_PackReckons.l0]
    refine Ev.neg (by rw [List.length_map, els_length]; omega) ?_
    rw [List.drop_of_length_le (by rw [els_length]; omega)] at hz
    have hz : z = out := hz.trans (add_zero out)
    refine Ev.bind awake_ev (Ev.pos rfl (Ev.pos trivial ?_))
    refine Ev.bind (same_ev hjs (by omega) s hs) (Ev.pos rfl (Ev.pos trivial ?_))
    refine Ev.bind (same_ev hjs (by omega) p hp) (Ev.pos rfl (Ev.pos trivial (Ev.pos (eq_pair hz) ?_)))
    refine Ev.bind (same_ev hj (by omega) b hb) (Ev.pos rfl ?_)
    exact Ev.bind (same_ev hj' (by omega) c hc) (Ev.now _)
  | d + 1, i, h, out, hz => by
    have h1 : i < (els js p m).length := by rw [els_length]; omega
    refine Ev.succ ?_
    simp only [steeplelaw03_PackReckons.l0]
    refine Ev.pos (by rw [List.length_map, els_length]; omega) (Ev.pos (by omega) ?_)
    rw [rd_elR h1, elR_f0, elR_f1, wrap_succ i (by omega)]
    refine Ev.bind (Ev.const (refAdd_f _ _)) ?_
    refine Reckons_l0 hj hj' hjs hn hn' hm hb hc hs hp e z d (i + 1) (by omega) _ ?_
    rw [hz, List.drop_eq_getElem_cons h1, add_assoc]
    rfl
theorem PackReckons : steeplelaw03_PackReckons.Pure := by
  intro x ⟨h1, h2, ⟨_, _, h3⟩, ⟨_, _, h4⟩⟩
  obtain ⟨L, e3⟩ := elS_of h3
  obtain ⟨L', e4⟩ := elS_of h4
  rw [e3, e4]
  generalize x.f0 = a
  generalize x.f1 = a'
  refine Ev.rounds ?_
  unfold steeplelaw03_PackReckons.f
  rcases made_ev a a' L L' with ⟨v, w, hm⟩ | ⟨j, j', rfl, rfl, hj, hj', hl, hl', hin, hin', hm⟩
  · refine Ev.bind hm (Ev.neg (by show ¬ (false = true); decide) ?_)
    exact Ev.bind awake_ev (Ev.now _)
  · refine Ev.bind hm (Ev.pos rfl ?_)
    refine Ev.bind (Ref_ev L (by omega)) ?_
    refine Ev.bind (Ref_ev L' (by omega)) ?_
    have eL : L.map elR = (els j (lb j L) L.length).map elR := by rw [els_lb (by omega) hin]
    have eL' : L'.map elR = (els j' (lb j' L') L'.length).map elR := by rw [els_lb (by omega) hin']
    rw [eL, eL']
    have hb := Zb_lb j L
    have hc := Zb_lb j' L'
    generalize lb j L = b at hb ⊢
    generalize lb j' L' = c at hc ⊢
    generalize L.length = n at hb hl ⊢
    generalize L'.length = n' at hc hl' ⊢
    by_cases hs : j = j' ∧ n = n'
    · obtain ⟨rfl, rfl⟩ := hs
      refine Ev.bind (Add_ev (by omega) b c) ?_
      refine Ev.bind (pMul_ev hj (by omega) b c) ?_
      refine Ev.bind (pDot_ev hj (by omega) b c) ?_
      refine Ev.bind (Both_ev hj (by omega) b c 0 (xorB b c) (fun i => by rw [if_pos rfl]; exact el_add b c i)) ?_
      refine Ev.bind (Both_ev hj (by omega) b c 1 (prodB j b c) (fun i => by rw [if_neg (by decide)]; exact el_prod (by omega) b c i)) ?_
      have := Reckons_l0 hj hj hj hl hl hl hb hc (Zb_xor hb hc) (Zb_prod hb c) 0 (sumE (els j (prodB j b c) n)) n 0 (by omega) 0 (by rw [List.drop_zero, zero_add])
      rw [hi_zero, lo_zero] at this
      exact this
    · refine Ev.bind (Add_err hs) ?_
      refine Ev.bind (pMul_err hs) ?_
      refine Ev.bind (pDot_err hs) ?_
      refine Ev.bind (Both_err hs b c 0) ?_
      refine Ev.bind (Both_err hs b c 1) ?_
      have := Reckons_l0 hj hj' (js := 0) (m := 0) (by omega) hl hl' (by omega) hb hc (s := fun _ => false) (p := fun _ => false) (fun _ _ => rfl) (fun _ _ => rfl) 6 0 0 0 rfl 0 rfl
      rw [hi_zero, lo_zero, wordsB_zero] at this
      exact this
end Go.Proofs.Ytceneggampgboaa.Pure
