/- The document's value at an element, by lines between polynomials of one value less. Conditions: those that each theorem names. -/
import Derived.Test.YthnaalocgoeddaaBrAwake
import Derived.Test.YthnaalocgoeddaaBrRefInv
import Derived.Test.YthnaalocgoeddaaPx11
set_option linter.unusedVariables false
set_option linter.unusedSimpArgs false
namespace Go.Proofs.Ythnaalocgoeddaa.Br
open Go.RowKit Go.Proofs.YthnaalocgoeddaaT Go.Proofs.Ythnaalocgoeddaa.P Go.Proofs.YthnaalocgoeddaaW.PrintWords Go.Proofs.YthnaalocgoeddaaW.PrintLast Go.Proofs.YthnaalocgoeddaaW.PrintMore
/-- The values as a function. -/
def vF (L : List (T 7)) (i : Nat) : T 7 := L.getD i 0
theorem vF_get {L : List (T 7)} {i : Nat} (h : i < L.length) : vF L i = L[i] := by
  unfold vF
  rw [List.getD_eq_getElem?_getD, List.getElem?_eq_getElem h]
  rfl
theorem dotW_sumN (w : Nat → T 7) : ∀ (l : List (T 7)) (s : Nat), dotW w s l = sumN (fun t => vF l t * w (s + t)) l.length
  | [], s => rfl
  | x :: l, s => by
    have ih := dotW_sumN w l (s + 1)
    show x * w s + dotW w (s + 1) l = sumN _ (l.length + 1)
    rw [sumN_front, ih]
    have e : vF (x :: l) 0 = x := rfl
    rw [e, Nat.add_zero]
    refine congrArg (x * w s + ·) ?_
    refine sumN_congr _ fun t _ => ?_
    have e2 : vF (x :: l) (t + 1) = vF l t := rfl
    rw [e2, show s + (t + 1) = s + 1 + t by omega]
theorem atE_Lg (L : List (T 7)) (x : T 7) : atE L x = Lg (vF L) x 0 L.length := by
  unfold atE Lg
  rw [dotW_sumN]
  refine sumN_congr _ fun t _ => ?_
  rw [Nat.zero_add]
  unfold wE wN
  rw [cP_zero, cP_zero]
/-- The row of the values of polynomials of n values. -/
def rowN (L : List (T 7)) (x : T 7) (n m : Nat) : List (T 7) := (List.range m).map fun i => Lg (vF L) x i n
theorem rowN_length (L : List (T 7)) (x : T 7) (n m : Nat) : (rowN L x n m).length = m := by
  unfold rowN
  rw [List.length_map, List.length_range]
theorem rowN_get {L : List (T 7)} {x : T 7} {n m i : Nat} (h : i < (rowN L x n m).length) : (rowN L x n m)[i] = Lg (vF L) x i n := by
  have h' : i < m := by rw [rowN_length] at h; exact h
  have : (rowN L x n m)[i]? = some (Lg (vF L) x i n) := by
    unfold rowN
    rw [List.getElem?_map, List.getElem?_range h']
    rfl
  rw [List.getElem?_eq_getElem h] at this
  exact Option.some.inj this
theorem rowN_one (L : List (T 7)) (x : T 7) : rowN L x 1 L.length = L := by
  refine List.ext_getElem (rowN_length _ _ _ _) fun i h1 h2 => ?_
  rw [rowN_get h1, Lg_one, vF_get h2]
theorem refAdd_pl (x : T 7) {q : Nat} (h : q < 2 ^ 62) : steepleref02_Add.f (hiW x) (loW x) 0 (q : Int) = some (hiW (x + pl q), loW (x + pl q)) := by
  have hw := pl_w (show q < 2 ^ 64 by omega)
  rw [← refAdd_f, hw.1, hw.2]
theorem wrapU {q : Nat} (h : q < 2 ^ 62) : IntKind.u64.wrap (q : Int) = (q : Int) := wrap_u64 q (by omega)
theorem refAt_l1 {j n : Nat} {L : List (T 7)} (hj : j ≤ 7) (h9 : L.length ≤ 9) (hn : 0 < n) (hnl : n < L.length) (hp : ∀ m, m < L.length → InL j (pl m)) (x : T 7) {r : Int × Int}
    (hr : Ev (fun k => steepleref17_At.l0 k (j : Int) (L.map elR) ((rowN L x (n + 1) (L.length - n)).map elR) ((n + 1 : Nat) : Int) (hiW x) (loW x)) r) : ∀ d i : Nat, i + d = L.length - n →
    Ev (fun k => steepleref17_At.l1 k (j : Int) (L.map elR) ((rowN L x n (L.length + 1 - n)).map elR) (n : Int) ((rowN L x (n + 1) i).map elR) (i : Int) (hiW x) (loW x)) r
  | 0, i, h => by
    obtain rfl : i = L.length - n := by omega
    refine Ev.succ ?_
    simp only [steepleref17_At.l1]
    rw [wrap_succ _ (by omega), wrap_succ n (by omega)]
    exact Ev.neg (by rw [List.length_map, rowN_length]; omega) hr
  | d + 1, i, h => by
    have h0 : i < (rowN L x n (L.length + 1 - n)).length := by rw [rowN_length]; omega
    have h1 : i + 1 < (rowN L x n (L.length + 1 - n)).length := by rw [rowN_length]; omega
    refine Ev.succ ?_
    simp only [steepleref17_At.l1]
    rw [wrap_succ i (by omega), show wrap64 ((i : Int) + (n : Int)) = ((i + n : Nat) : Int) by unfold wrap64; omega, wrapU (show i + n < 2 ^ 62 by omega), wrapU (show i < 2 ^ 62 by omega)]
    refine Ev.pos (by rw [List.length_map, rowN_length]; omega) ?_
    refine Ev.bind (Ev.const (refAdd_pl x (by omega))) (Ev.pos (by omega) (Ev.pos (by rw [List.length_map, rowN_length]; omega) ?_))
    rw [rd_elR h0, elR_f0, elR_f1, rowN_get h0, rd_elR h1, elR_f0, elR_f1, rowN_get h1]
    refine Ev.bind (Product_ev _ _) ?_
    refine Ev.bind (Ev.const (refAdd_pl x (by omega))) (Ev.pos (by omega) ?_)
    refine Ev.bind (Product_ev _ _) ?_
    refine Ev.bind (Ev.const (refAdd_f _ _)) ?_
    have hw := pl_w (show i < 2 ^ 64 by omega)
    have hpp := refAdd_pl (pl i) (show i + n < 2 ^ 62 by omega)
    rw [hw.1, hw.2] at hpp
    refine Ev.bind (Ev.const hpp) ?_
    refine Ev.bind (refInv_ev _ _) ?_
    refine Ev.bind (Product_ev _ _) ?_
    refine Ev.pos (by rw [List.length_map, rowN_length]; omega) ?_
    rw [invE_in hj (inL_add (hp i (by omega)) (hp (i + n) (by omega))), ← Lg_step (vF L) x hn (Nat.lt_of_lt_of_le (show i + n < 9 by omega) (by decide))]
    have e : (rowN L x (n + 1) i).map elR ++ [(⟨hiW (Lg (vF L) x i (n + 1)), loW (Lg (vF L) x i (n + 1))⟩ : S37)] = (rowN L x (n + 1) (i + 1)).map elR := by
      unfold rowN
      rw [List.range_succ, List.map_append, List.map_append]
      rfl
    rw [e]
    exact refAt_l1 hj h9 hn hnl hp x hr d (i + 1) (by omega)
theorem refAt_l0 {j : Nat} {L : List (T 7)} (hj : j ≤ 7) (h9 : L.length ≤ 9) (h0 : 0 < L.length) (hp : ∀ m, m < L.length → InL j (pl m)) (x : T 7) : ∀ d n : Nat, n + d = L.length → 0 < n →
    Ev (fun k => steepleref17_At.l0 k (j : Int) (L.map elR) ((rowN L x n (L.length + 1 - n)).map elR) (n : Int) (hiW x) (loW x)) (hiW (atE L x), loW (atE L x))
  | 0, n, h, hn => by
    have e : n = L.length := by omega
    refine Ev.succ ?_
    simp only [steepleref17_At.l0]
    refine Ev.neg (by rw [List.length_map]; omega) (Ev.pos (by rw [List.length_map, rowN_length]; omega) ?_)
    have hz : 0 < (rowN L x n (L.length + 1 - n)).length := by rw [rowN_length]; omega
    have := rd_elR hz
    rw [show ((0 : Nat) : Int) = 0 from rfl] at this
    rw [this, elR_f0, elR_f1, rowN_get hz, e, ← atE_Lg]
    exact Ev.now _
  | d + 1, n, h, hn => by
    refine Ev.succ ?_
    simp only [steepleref17_At.l0]
    refine Ev.pos (by rw [List.length_map]; omega) ?_
    have := refAt_l0 hj h9 h0 hp x d (n + 1) (by omega) (by omega)
    rw [show L.length + 1 - (n + 1) = L.length - n by omega] at this
    exact refAt_l1 hj h9 hn (by omega) hp x this (L.length - n) 0 (by omega)
theorem refAt_ev {j : Nat} {L : List (T 7)} (hj : j ≤ 7) (h9 : L.length ≤ 9) (h0 : 0 < L.length) (hp : ∀ m, m < L.length → InL j (pl m)) (x : T 7) :
    Ev (fun k => steepleref17_At.f k (j : Int) (L.map elR) (hiW x) (loW x)) (hiW (atE L x), loW (atE L x)) := by
  unfold steepleref17_At.f
  have := refAt_l0 hj h9 h0 hp x (L.length - 1) 1 (by omega) (by omega)
  rw [show L.length + 1 - 1 = L.length by omega, rowN_one] at this
  exact this
end Go.Proofs.Ythnaalocgoeddaa.Br
