/- The weights and the value at an element: what the code comes to. Conditions: those that each theorem names. -/
import Derived.Test.YthnaalocgoeddaaBrLine
import Derived.Test.YthnaalocgoeddaaBrAdd
import Derived.Test.YthnaalocgoeddaaBrInv
import Derived.Test.YthnaalocgoeddaaBrDot
import Derived.Test.YthnaalocgoeddaaHLat
set_option linter.unusedVariables false
set_option linter.unusedSimpArgs false
namespace Go.Proofs.Ythnaalocgoeddaa.Br
open Go.RowKit Go.Proofs.YthnaalocgoeddaaT Go.Proofs.Ythnaalocgoeddaa.P Go.Proofs.YthnaalocgoeddaaW.PrintWords Go.Proofs.YthnaalocgoeddaaW.PrintLast Go.Proofs.YthnaalocgoeddaaW.PrintMore
/-- The array when i weights are there. -/
def arrE (n : Nat) (x : T 7) (i : Nat) : List (T 7) := (List.range i).map (wE n x) ++ List.replicate (9 - i) 0
theorem arrE_length {n : Nat} (x : T 7) {i : Nat} (h : i ≤ 9) : (arrE n x i).length = 9 := by
  unfold arrE
  rw [List.length_append, List.length_map, List.length_range, List.length_replicate]
  omega
theorem arrE_set {n : Nat} (x : T 7) {i : Nat} (h : i < 9) : (arrE n x i).set i (wE n x i) = arrE n x (i + 1) := by
  unfold arrE
  rw [List.set_append_right _ _ (by rw [List.length_map, List.length_range]; exact Nat.le_refl _), List.length_map, List.length_range, Nat.sub_self, List.range_succ, List.map_append]
  obtain ⟨m, hm⟩ : ∃ m, 9 - i = m + 1 := ⟨8 - i, by omega⟩
  rw [hm, List.replicate_succ, List.set_cons_zero, show 9 - (i + 1) = m by omega, List.append_assoc]
  rfl
theorem weights_l1 {j n i : Nat} (hj : j ≤ 7) (hn : n ≤ 9) (hi : i < n) {x : T 7} (hx : InL j x) (hp : ∀ m, m < n → InL j (pl m)) {r : List S28}
    (hr : Ev (fun k => line_weights.l0 k (j : Int) ((n - 1 : Nat) : Int) (n : Int) ((i + 1 : Nat) : Int) (hiW x) (loW x) ((arrE n x (i + 1)).map elS)) r) : ∀ d m : Nat, m + d = n →
    Ev (fun k => line_weights.l1 k (j : Int) ((n - 1 : Nat) : Int) (i : Int) (n : Int) (i : Int) (n : Int) (m : Int) (hiW x) (loW x) ((arrE n x i).map elS) (hiW (upP x i m)) (loW (upP x i m)) (hiW (upP (pl i) i m)) (loW (upP (pl i) i m))) r
  | 0, m, h => by
    obtain rfl : m = n := by omega
    refine Ev.succ ?_
    simp only [line_weights.l1]
    refine Ev.neg (by omega) (Ev.pos (by rw [List.length_map, arrE_length x (by omega)]) (Ev.pos (by omega) (Ev.pos (by omega) ?_)))
    refine Ev.bind (Div_ev _ _ _) ?_
    have h1 := upP_in hj hx i m hp
    have h2 := upP_in hj (hp i hi) i m hp
    rw [invE_in hj h2, mulE_in hj h1 (inL_inv hj h2), wrap_succ i (by omega), Int.toNat_natCast]
    show Ev (fun k => line_weights.l0 k (j : Int) ((m - 1 : Nat) : Int) (m : Int) ((i + 1 : Nat) : Int) (hiW x) (loW x) (((arrE m x i).map elS).set i (elS (wE m x i)))) r
    rw [← List.map_set, arrE_set x (by omega)]
    exact hr
  | d + 1, m, h => by
    have ih := weights_l1 hj hn hi hx hp hr d (m + 1) (by omega)
    refine Ev.succ ?_
    simp only [line_weights.l1]
    refine Ev.pos (by omega) ?_
    rw [wrap_succ m (by omega)]
    by_cases e : m = i
    · refine Ev.pos (by omega) ?_
      have e1 : upP x i (m + 1) = upP x i m := if_pos e
      have e2 : upP (pl i) i (m + 1) = upP (pl i) i m := if_pos e
      rw [e1, e2] at ih
      exact ih
    · refine Ev.neg (by omega) ?_
      have hm := fun q (hq : q < m) => hp q (by omega)
      have e1 : upP x i (m + 1) = upP x i m * (x + pl m) := if_neg e
      have e2 : upP (pl i) i (m + 1) = upP (pl i) i m * (pl i + pl m) := if_neg e
      rw [e1, e2] at ih
      refine Ev.bind (Ev.const (place_f (by omega))) ?_
      refine Ev.bind (Ev.const (Add_f _ _)) ?_
      refine Ev.bind (Mul_ev _ _ _) ?_
      rw [mulE_in hj (upP_in hj hx i m hm) (inL_add hx (hp m (by omega)))]
      refine Ev.bind (Ev.const (place_f (by omega))) ?_
      refine Ev.bind (Ev.const (place_f (by omega))) ?_
      refine Ev.bind (Ev.const (Add_f _ _)) ?_
      refine Ev.bind (Mul_ev _ _ _) ?_
      rw [mulE_in hj (upP_in hj (hp i hi) i m hm) (inL_add (hp i hi) (hp m (by omega)))]
      exact ih
theorem weights_l0 {j n : Nat} (hj : j ≤ 7) (hn : n ≤ 9) (h0 : 0 < n) {x : T 7} (hx : InL j x) (hp : ∀ m, m < n → InL j (pl m)) : ∀ d i : Nat, i + d = n →
    Ev (fun k => line_weights.l0 k (j : Int) ((n - 1 : Nat) : Int) (n : Int) (i : Int) (hiW x) (loW x) ((arrE n x i).map elS)) ((arrE n x n).map elS)
  | 0, i, h => by
    obtain rfl : i = n := by omega
    refine Ev.succ ?_
    simp only [line_weights.l0]
    exact Ev.neg (by omega) (Ev.pos (by rw [List.length_map, arrE_length x (by omega)]) (Ev.now _))
  | d + 1, i, h => by
    refine Ev.succ ?_
    simp only [line_weights.l0]
    refine Ev.pos (by omega) ?_
    refine Ev.bind (Ev.const One_f) ?_
    refine Ev.bind (Ev.const One_f) ?_
    rw [wrap_succ (n - 1) (by omega), show n - 1 + 1 = n by omega]
    exact weights_l1 hj hn (show i < n by omega) hx hp (weights_l0 hj hn h0 hx hp d (i + 1) (by omega)) n 0 (by omega)
theorem weights_ev {j n : Nat} (hj : j ≤ 7) (hn : n ≤ 9) (h0 : 0 < n) {x : T 7} (hx : InL j x) (hp : ∀ m, m < n → InL j (pl m)) :
    Ev (fun k => line_weights.f k (j : Int) ((n - 1 : Nat) : Int) (hiW x) (loW x)) ((arrE n x n).map elS) := by
  unfold line_weights.f
  rw [wrap_succ (n - 1) (by omega), show n - 1 + 1 = n by omega]
  have := weights_l0 hj hn h0 hx hp n 0 (by omega)
  have e : (arrE n x 0).map elS = List.replicate 9 (⟨0, 0⟩ : S28) := by
    unfold arrE
    rw [List.range_zero, List.map_nil, List.nil_append, List.map_replicate]
    show List.replicate 9 (⟨hiW 0, loW 0⟩ : S28) = _
    rw [hi_zero, lo_zero]
  rw [e] at this
  exact this
/-- The sum of values by weights. -/
def dotW (w : Nat → T 7) : Nat → List (T 7) → T 7
  | _, [] => 0
  | s, x :: l => x * w s + dotW w (s + 1) l
theorem dotE_all {l : Int} (w : Nat → T 7) : ∀ (a : List (T 7)) (s : Nat) (out : T 7), (∀ x ∈ a, ofB l x = true) → (∀ i, s ≤ i → i < s + a.length → ofB l (w i) = true) → dotE l a ((List.range' s a.length).map w) out = some (out + dotW w s a)
  | [], s, out, _, _ => by
    show some out = some (out + 0)
    rw [add_zero]
  | x :: a, s, out, h1, h2 => by
    show (if ofB l x = true ∧ ofB l (w s) = true then dotE l a ((List.range' (s + 1) a.length).map w) (out + x * w s) else none) = _
    rw [if_pos ⟨h1 x List.mem_cons_self, h2 s (Nat.le_refl _) (by rw [List.length_cons]; omega)⟩, dotE_all w a (s + 1) _ (fun y hy => h1 y (List.mem_cons_of_mem _ hy)) (fun i hi hi' => h2 i (by omega) (by rw [List.length_cons]; omega)), add_assoc]
    rfl
/-- The value at x of the polynomial with these values. -/
def atE (L : List (T 7)) (x : T 7) : T 7 := dotW (wE L.length x) 0 L
theorem wE_in {j n : Nat} (hj : j ≤ 7) {x : T 7} (hx : InL j x) (hp : ∀ m, m < n → InL j (pl m)) {i : Nat} (hi : i < n) : InL j (wE n x i) := by
  unfold wE
  exact inL_mul hj (upP_in hj hx i n hp) (inL_inv hj (upP_in hj (hp i hi) i n hp))
theorem dotW_in {j : Nat} (hj : j ≤ 7) {w : Nat → T 7} : ∀ (l : List (T 7)) (s : Nat), (∀ x ∈ l, InL j x) → (∀ i, s ≤ i → i < s + l.length → InL j (w i)) → InL j (dotW w s l)
  | [], _, _, _ => inL_zero
  | x :: l, s, h1, h2 => inL_add (inL_mul hj (h1 x List.mem_cons_self) (h2 s (Nat.le_refl _) (by rw [List.length_cons]; omega))) (dotW_in hj l (s + 1) (fun y hy => h1 y (List.mem_cons_of_mem _ hy)) (fun i hi hi' => h2 i (by omega) (by rw [List.length_cons]; omega)))
theorem atE_in {j : Nat} (hj : j ≤ 7) {L : List (T 7)} {x : T 7} (hx : InL j x) (hp : ∀ m, m < L.length → InL j (pl m)) (hL : ∀ y ∈ L, InL j y) : InL j (atE L x) :=
  dotW_in hj L 0 hL fun i _ hi => wE_in hj hx hp (by omega)
theorem At_ok {a : Int} {L : List (T 7)} {x : T 7} (h : mayE a L = 0) (hx : ofB a x = true) : Ev (fun k => line_At.f k a (L.map elS) (hiW x) (loW x)) (hiW (atE L x), loW (atE L x), (0 : Int)) := by
  obtain ⟨j, rfl, hj, h0, h9, hp, hL⟩ := may_ok h
  have hxi : InL j x := by
    obtain ⟨j', e, _, hi⟩ := ofB_iff.1 hx
    obtain rfl : j = j' := by omega
    exact hi
  unfold line_At.f
  rw [List.length_map]
  have ha := ask_ev (j : Int) L (by omega)
  rw [h] at ha
  refine Ev.bind ha (Ev.pos rfl ?_)
  refine Ev.bind (Of_ev _ _) (Ev.pos hx ?_)
  rw [show wrap64 ((L.length : Int) - 1) = ((L.length - 1 : Nat) : Int) by unfold wrap64; omega]
  refine Ev.bind (weights_ev hj h9 h0 hxi hp) (Ev.pos h9 ?_)
  have ht : ((arrE L.length x L.length).map elS).take L.length = ((List.range' 0 L.length).map (wE L.length x)).map elS := by
    rw [← List.map_take]
    unfold arrE
    rw [List.take_append_of_le_length (by rw [List.length_map, List.length_range]; exact Nat.le_refl _), List.take_of_length_le (by rw [List.length_map, List.length_range]; exact Nat.le_refl _), List.range_eq_range']
  rw [ht]
  refine Ev.bind (Dot_ev _ _ _ (by omega)) ?_
  have hd : dotF (j : Int) L ((List.range' 0 L.length).map (wE L.length x)) = atE L x := by
    unfold dotF atE
    rw [if_pos (by rw [List.length_map, List.length_range']), dotE_all _ L 0 0 (fun y hy => ofB_nat hj (hL y hy)) (fun i _ hi => ofB_nat hj (wE_in hj hxi hp (by omega))), zero_add]
    rfl
  rw [hd]
  exact Ev.now _
theorem At_bad {a : Int} {L : List (T 7)} (x : T 7) (hl : L.length < 1000) (h : mayE a L ≠ 0) : Ev (fun k => line_At.f k a (L.map elS) (hiW x) (loW x)) ((0 : Int), (0 : Int), mayE a L) := by
  unfold line_At.f
  rw [List.length_map]
  exact Ev.bind (ask_ev a L hl) (Ev.neg h (Ev.now _))
theorem At_not {a : Int} {L : List (T 7)} {x : T 7} (hl : L.length < 1000) (h : mayE a L = 0) (hx : ofB a x = false) : Ev (fun k => line_At.f k a (L.map elS) (hiW x) (loW x)) ((0 : Int), (0 : Int), (5 : Int)) := by
  unfold line_At.f
  rw [List.length_map]
  have ha := ask_ev a L hl
  rw [h] at ha
  refine Ev.bind ha (Ev.pos rfl ?_)
  exact Ev.bind (Of_ev _ _) (Ev.neg (by rw [hx]; decide) (Ev.now _))
/-! What the sum by weights is. -/
theorem dotW_congr {w w' : Nat → T 7} : ∀ (l : List (T 7)) (s : Nat), (∀ i, s ≤ i → i < s + l.length → w i = w' i) → dotW w s l = dotW w' s l
  | [], _, _ => rfl
  | x :: l, s, h => by
    show x * w s + dotW w (s + 1) l = x * w' s + dotW w' (s + 1) l
    rw [h s (Nat.le_refl _) (by rw [List.length_cons]; omega), dotW_congr l (s + 1) fun i hi hi' => h i (by omega) (by rw [List.length_cons]; omega)]
theorem dotW_none (m : Nat) : ∀ (l : List (T 7)) (s : Nat), m < s → dotW (fun i => if i = m then 1 else 0) s l = 0
  | [], _, _ => rfl
  | x :: l, s, h => by
    show x * (if s = m then 1 else 0) + dotW _ (s + 1) l = 0
    rw [if_neg (by omega), mul_zero, zero_add, dotW_none m l (s + 1) (by omega)]
theorem dotW_one : ∀ (l : List (T 7)) (s m : Nat) (h : m < l.length), dotW (fun i => if i = s + m then 1 else 0) s l = l[m]
  | x :: l, s, 0, _ => by
    show x * (if s = s + 0 then 1 else 0) + dotW _ (s + 1) l = x
    rw [if_pos (Nat.add_zero s).symm, mul_one, dotW_none (s + 0) l (s + 1) (by omega), add_zero]
  | x :: l, s, m + 1, h => by
    have hm : m < l.length := by simpa using h
    have ih := dotW_one l (s + 1) m hm
    show x * (if s = s + (m + 1) then 1 else 0) + dotW _ (s + 1) l = l[m]'hm
    rw [if_neg (by omega), mul_zero, zero_add, ← ih]
    exact dotW_congr l (s + 1) fun i _ _ => by rw [show s + (m + 1) = s + 1 + m by omega]
theorem atE_place {L : List (T 7)} (h9 : L.length ≤ 9) {m : Nat} (h : m < L.length) : atE L (pl m) = L[m] := by
  have h' : 9 ≤ 2 ^ 2 ^ 7 := by decide
  unfold atE
  rw [← dotW_one L 0 m h]
  refine dotW_congr L 0 fun i _ hi => ?_
  rw [wE_at (by omega) (by omega) h, Nat.zero_add]
theorem dotW_sum (w : Nat → T 7) (c : T 7) : ∀ (a b : List (T 7)) (s : Nat), a.length = b.length → dotW w s (List.zipWith (fun x y => x + c * y) a b) = dotW w s a + c * dotW w s b
  | [], b, s, h => by
    obtain rfl : b = [] := List.length_eq_zero_iff.1 h.symm
    have e1 : dotW w s [] = 0 := rfl
    rw [List.zipWith_nil_left, e1, mul_zero, add_zero]
  | x :: a, b, s, h => by
    obtain ⟨y, b, rfl⟩ : ∃ y b', b = y :: b' := by
      cases b with
      | nil => cases h
      | cons y b' => exact ⟨y, b', rfl⟩
    have ih := dotW_sum w c a b (s + 1) (by simpa using h)
    have e1 : dotW w s (x :: a) = x * w s + dotW w (s + 1) a := rfl
    have e2 : dotW w s (y :: b) = y * w s + dotW w (s + 1) b := rfl
    have e3 : ∀ q l, dotW w s (q :: l) = q * w s + dotW w (s + 1) l := fun _ _ => rfl
    rw [List.zipWith_cons_cons, e3, e1, e2, ih]
    generalize dotW w (s + 1) a = A
    generalize dotW w (s + 1) b = B
    generalize w s = W
    rw [add_mul, mul_assoc c y, mul_add c (y * W)]
    generalize x * W = p
    generalize c * (y * W) = q
    generalize c * B = r
    ac_rfl
theorem atE_sum {a b : List (T 7)} (h : a.length = b.length) (c x : T 7) : atE (List.zipWith (fun x y => x + c * y) a b) x = atE a x + c * atE b x := by
  unfold atE
  rw [List.length_zipWith, ← h, Nat.min_self]
  exact dotW_sum _ c a b 0 h
end Go.Proofs.Ythnaalocgoeddaa.Br
