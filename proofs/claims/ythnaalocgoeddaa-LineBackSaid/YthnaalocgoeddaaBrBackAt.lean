/- The value at an element by coefficients, in the reference; what coefficients of given values are. Conditions: those that each theorem names. -/
import Derived.Test.YthnaalocgoeddaaBrBack
import Derived.Test.YthnaalocgoeddaaPureLineApart
import Derived.Test.YthnaalocgoeddaaBrRefOf
import Derived.Test.YthnaalocgoeddaaPx15
set_option linter.unusedVariables false
set_option linter.unusedSimpArgs false
namespace Go.Proofs.Ythnaalocgoeddaa.Br
open Go.RowKit Go.Proofs.YthnaalocgoeddaaT Go.Proofs.Ythnaalocgoeddaa.P Go.Proofs.Ythnaalocgoeddaa.Pure Go.Proofs.YthnaalocgoeddaaW.PrintWords Go.Proofs.YthnaalocgoeddaaW.PrintLast Go.Proofs.YthnaalocgoeddaaW.PrintMore
theorem Same_l0 (L : List (T 7)) (hL : L.length < 2 ^ 40) : ∀ d i : Nat, i + d = L.length → Ev (fun k => steeplelaw01_Same.l0 k (L.map elS) (L.map elR) (i : Int)) true
  | 0, i, h => by
    refine Ev.succ ?_
    simp only [steeplelaw01_Same.l0]
    exact Ev.neg (by rw [List.length_map]; omega) (Ev.now _)
  | d + 1, i, h => by
    have hi : i < L.length := by omega
    refine Ev.succ ?_
    simp only [steeplelaw01_Same.l0]
    refine Ev.pos (by rw [List.length_map]; omega) (Ev.pos (by omega) (Ev.pos (by rw [List.length_map]; omega) ?_))
    rw [rd_elS hi, rd_elR hi, elR_f0, elR_f1, elS_f0, elS_f1, wrap_succ i (by omega)]
    exact Ev.neg (by rw [same_pair rfl]; decide) (Same_l0 L hL d (i + 1) (by omega))
theorem Same_ev (L : List (T 7)) (hL : L.length < 2 ^ 40) : Ev (fun k => steeplelaw01_Same.f k (L.map elS) (L.map elR)) true := by
  unfold steeplelaw01_Same.f
  exact Ev.pos (by rw [List.length_map, List.length_map]) (Same_l0 L hL L.length 0 (by omega))
/-! The value by coefficients, in the reference. -/
theorem refHv_l0 (c : List (T 7)) (hc : c.length < 1000) (x : T 7) : ∀ d i : Nat, i + d = c.length → ∀ o p : T 7,
    Ev (fun k => steepleref06_At.l0 k (c.map elR) (i : Int) (hiW x) (loW x) (hiW o) (loW o) (hiW p) (loW p)) (hiW (o + p * hv (c.drop i) x), loW (o + p * hv (c.drop i) x))
  | 0, i, h, o, p => by
    refine Ev.succ ?_
    simp only [steepleref06_At.l0]
    rw [List.drop_of_length_le (by omega), hv_nil, mul_zero, add_zero]
    exact Ev.neg (by rw [List.length_map]; omega) (Ev.now _)
  | d + 1, i, h, o, p => by
    have hi : i < c.length := by omega
    refine Ev.succ ?_
    simp only [steepleref06_At.l0]
    refine Ev.pos (by rw [List.length_map]; omega) (Ev.pos (by omega) ?_)
    rw [rd_elR hi, elR_f0, elR_f1]
    refine Ev.bind (Product_ev _ _) ?_
    refine Ev.bind (Ev.const (refAdd_f _ _)) ?_
    refine Ev.bind (Product_ev _ _) ?_
    rw [wrap_succ i (by omega)]
    have e : o + p * hv (c.drop i) x = o + c[i] * p + p * x * hv (c.drop (i + 1)) x := by
      rw [List.drop_eq_getElem_cons hi, hv_cons, mul_add, mul_comm p c[i], mul_assoc, add_assoc]
    rw [e]
    exact refHv_l0 c hc x d (i + 1) (by omega) _ _
theorem refHv_ev {a : Int} {c : List (T 7)} (hc : c.length < 1000) (hin : ∀ y ∈ c, ofB a y = true) {x : T 7} (hx : ofB a x = true) : Ev (fun k => steepleref06_At.f k a (c.map elR) (hiW x) (loW x)) (hiW (hv c x), loW (hv c x)) := by
  unfold steepleref06_At.f
  have hr := refOf_ev a x
  rw [hx] at hr
  have ha := refAll_ev a c (by omega)
  rw [List.all_eq_true.2 hin] at ha
  refine Ev.bind hr (Ev.pos rfl (Ev.bind ha (Ev.succ ?_)))
  simp only [steepleref06_At.j0]
  refine Ev.neg (by decide) ?_
  have := refHv_l0 c hc x c.length 0 (by omega) 0 1
  rw [hi_zero, lo_zero, List.drop_zero, zero_add, one_mul] at this
  exact this
/-! Coefficients of given values. -/
theorem nodup_first {n : Nat} (h : n ≤ 9) : ((List.range n).map pl).Nodup := by
  have big : 9 ≤ 2 ^ 2 ^ 7 := by decide
  exact nodup_pl _ List.nodup_range (fun q hq => by
    have := List.mem_range.1 hq
    omega)
theorem hv_at {c L : List (T 7)} (hl : c.length = L.length) (h0 : 0 < L.length) (h9 : L.length ≤ 9) (hc : ∀ m (h : m < L.length), hv c (pl m) = L[m]) (x : T 7) : hv c x = atE L x := by
  have hz := isP_roots (L.length - 1) ((List.range L.length).map pl) (isP_add (isP_hv (L.length - 1) c (by omega)) (isP_atE h0)) (nodup_first h9)
    (fun r hr => by
      obtain ⟨m, hm, rfl⟩ := List.mem_map.1 hr
      have hm' := List.mem_range.1 hm
      show hv c (pl m) + atE L (pl m) = 0
      rw [hc m hm', atE_place h9 hm', add_self])
    (by rw [List.length_map, List.length_range]; omega) x
  exact add_eq_zero.1 hz
theorem addS_low (b : T 7) : ∀ (o z : List (T 7)) (m : Nat) (hm : m < z.length) (ho : m < o.length), (addS b o z)[m]'(by rw [addS_length]; exact ho) = o[m] + b * z[m]
  | [], _, m, _, h => absurd h (Nat.not_lt_zero m)
  | _ :: _, [], m, h, _ => absurd h (Nat.not_lt_zero m)
  | _ :: _, _ :: _, 0, _, _ => (rfl)
  | _ :: o, _ :: z, m + 1, h, h' => addS_low b o z m (Nat.lt_of_succ_lt_succ h) (Nat.lt_of_succ_lt_succ h')
/-- Coefficients of one polynomial are one, but for noughts at the end. -/
theorem hv_same {c y : List (T 7)} {n : Nat} (hn : n + 1 ≤ 9) (hc : c.length = n + 1) (hy : y.length ≤ n + 1) (h : ∀ m, m < n + 1 → hv c (pl m) = hv y (pl m)) :
    (∀ i (h1 : i < y.length) (h2 : i < c.length), c[i] = y[i]) ∧ (∀ i (h2 : i < c.length), y.length ≤ i → c[i] = 0) := by
  have hval : ∀ t, hv (addS 1 c y) t = hv c t + 1 * hv y t := fun t => hv_addS 1 t c y (by omega)
  have hz := isP_roots n ((List.range (n + 1)).map pl) (isP_hv n (addS 1 c y) (by rw [addS_length]; omega)) (nodup_first hn)
    (fun r hr => by
      obtain ⟨m, hm, rfl⟩ := List.mem_map.1 hr
      have hm' := List.mem_range.1 hm
      show hv (addS 1 c y) (pl m) = 0
      rw [hval, h m hm', one_mul, add_self])
    (by rw [List.length_map, List.length_range]; omega)
  have hn := hv_none (addS 1 c y) (by rw [addS_length]; omega) hz
  refine ⟨fun i h1 h2 => ?_, fun i h2 h1 => ?_⟩
  · have := hn _ (List.getElem_mem (show i < (addS 1 c y).length by rw [addS_length]; exact h2))
    rw [addS_low 1 c y i h1 h2, one_mul] at this
    exact add_eq_zero.1 this
  · have := hn _ (List.getElem_mem (show i < (addS 1 c y).length by rw [addS_length]; exact h2))
    rw [addS_get 1 c y i h2 h1] at this
    exact this
end Go.Proofs.Ythnaalocgoeddaa.Br
