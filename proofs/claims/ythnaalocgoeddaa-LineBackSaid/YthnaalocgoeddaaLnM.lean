/- The polynomial of values at the first places, by weights, in plain Lean. Conditions: those that each theorem names. -/
import Derived.Test.YthnaalocgoeddaaTw
set_option linter.unusedVariables false
namespace Go.Proofs.YthnaalocgoeddaaT
/-- A place. -/
def pl (i : Nat) : T 7 := dec 7 i
theorem pl_ne {i m : Nat} (hi : i < 2 ^ 2 ^ 7) (hm : m < 2 ^ 2 ^ 7) (h : i ≠ m) : pl i + pl m ≠ 0 := fun e => by
  have e1 : pl i = pl m := by
    have := congrArg (· + pl m) e
    simp only [add_assoc, add_self, add_zero, zero_add] at this
    exact this
  have := congrArg (enc 7) e1
  unfold pl at this
  rw [enc_dec_of_lt hi, enc_dec_of_lt hm] at this
  exact h this
/-- The product over all places below n but i. -/
def upP (x : T 7) (i : Nat) : Nat → T 7
  | 0 => 1
  | m + 1 => if m = i then upP x i m else upP x i m * (x + pl m)
theorem upP_zero (x : T 7) (i : Nat) {m : Nat} (hi : m ≠ i) (hx : x + pl m = 0) : ∀ n, m < n → upP x i n = 0
  | n + 1, h => by
    unfold upP
    by_cases e : m = n
    · subst e
      rw [if_neg hi, hx, mul_zero]
    · by_cases h1 : n = i
      · rw [if_pos h1, upP_zero x i hi hx n (by omega)]
      · rw [if_neg h1, upP_zero x i hi hx n (by omega), zero_mul]
theorem upP_ne (x : T 7) (i : Nat) : ∀ n, (∀ m, m < n → m ≠ i → x + pl m ≠ 0) → upP x i n ≠ 0
  | 0, _ => one_ne_zero
  | n + 1, h => by
    unfold upP
    by_cases h1 : n = i
    · rw [if_pos h1]
      exact upP_ne x i n fun m hm => h m (by omega)
    · rw [if_neg h1]
      intro e
      rcases mul_eq_zero.1 e with e | e
      · exact upP_ne x i n (fun m hm => h m (by omega)) e
      · exact h n (by omega) h1 e
theorem upP_in {j : Nat} (hj : j ≤ 7) {x : T 7} (hx : InL j x) (i : Nat) : ∀ n, (∀ m, m < n → InL j (pl m)) → InL j (upP x i n)
  | 0, _ => inL_one
  | n + 1, h => by
    unfold upP
    by_cases h1 : n = i
    · rw [if_pos h1]
      exact upP_in hj hx i n fun m hm => h m (by omega)
    · rw [if_neg h1]
      exact inL_mul hj (upP_in hj hx i n fun m hm => h m (by omega)) (inL_add hx (h n (by omega)))
/-- By what the value at place i is taken. -/
def wE (n : Nat) (x : T 7) (i : Nat) : T 7 := upP x i n * inv 7 (upP (pl i) i n)
theorem down_ne {n i : Nat} (hn : n ≤ 2 ^ 2 ^ 7) (hi : i < n) : upP (pl i) i n ≠ 0 := upP_ne _ _ n fun m hm h => pl_ne (by omega) (by omega) (fun e => h e.symm)
theorem wE_at {n i m : Nat} (hn : n ≤ 2 ^ 2 ^ 7) (hi : i < n) (hm : m < n) : wE n (pl m) i = if i = m then 1 else 0 := by
  unfold wE
  by_cases e : i = m
  · subst e
    rw [if_pos rfl, mul_inv (down_ne hn hi)]
  · rw [if_neg e, upP_zero _ _ (fun h => e h.symm) (add_self _) n hm, zero_mul]
theorem inv_of {a b : T 7} (h : a * b = 1) : inv 7 a = b := by
  have h0 : a ≠ 0 := fun e => one_ne_zero (k := 7) (by rw [← h, e, zero_mul])
  have := mul_inv h0
  exact mul_left_cancel h0 (this.trans h.symm)
theorem inv_prod (a b : T 7) : inv 7 (a * b) = inv 7 a * inv 7 b := by
  by_cases ha : a = 0
  · rw [ha, zero_mul, inv_zero, zero_mul]
  · by_cases hb : b = 0
    · rw [hb, mul_zero, inv_zero, mul_zero]
    · refine inv_of ?_
      rw [show a * b * (inv 7 a * inv 7 b) = a * inv 7 a * (b * inv 7 b) by ac_rfl, mul_inv ha, mul_inv hb, one_mul]
theorem inv_sum {p q : T 7} (hp : p ≠ 0) (hq : q ≠ 0) : inv 7 p + inv 7 q = (p + q) * (inv 7 p * inv 7 q) := by
  rw [add_mul, show p * (inv 7 p * inv 7 q) = p * inv 7 p * inv 7 q by ac_rfl, show q * (inv 7 p * inv 7 q) = q * inv 7 q * inv 7 p by ac_rfl, mul_inv hp, mul_inv hq, one_mul, one_mul, add_comm]
/-- The product over n places from s on, but i. -/
def cP (x : T 7) (s i : Nat) : Nat → T 7
  | 0 => 1
  | n + 1 => if s + n = i then cP x s i n else cP x s i n * (x + pl (s + n))
theorem cP_zero (x : T 7) (i : Nat) : ∀ n, cP x 0 i n = upP x i n
  | 0 => rfl
  | n + 1 => by
    unfold cP upP
    rw [Nat.zero_add, cP_zero x i n]
theorem cP_front (x : T 7) (i : Nat) : ∀ n s, cP x s i (n + 1) = (if s = i then 1 else x + pl s) * cP x (s + 1) i n
  | 0, s => by
    show (if s + 0 = i then (1 : T 7) else 1 * (x + pl (s + 0))) = _ * 1
    rw [Nat.add_zero, one_mul, mul_one]
  | n + 1, s => by
    have ih := cP_front x i n s
    have e : cP x s i (n + 1 + 1) = if s + (n + 1) = i then cP x s i (n + 1) else cP x s i (n + 1) * (x + pl (s + (n + 1))) := rfl
    have e2 : cP x (s + 1) i (n + 1) = if s + 1 + n = i then cP x (s + 1) i n else cP x (s + 1) i n * (x + pl (s + 1 + n)) := rfl
    rw [e, e2, ih, show s + 1 + n = s + (n + 1) by omega]
    by_cases h : s + (n + 1) = i
    · rw [if_pos h, if_pos h]
    · rw [if_neg h, if_neg h, mul_assoc]
theorem cP_ne {s i : Nat} : ∀ n, (s + n ≤ 2 ^ 2 ^ 7) → i < 2 ^ 2 ^ 7 → cP (pl i) s i n ≠ 0
  | 0, _, _ => one_ne_zero
  | n + 1, h, hi => by
    unfold cP
    by_cases e : s + n = i
    · rw [if_pos e]
      exact cP_ne n (by omega) hi
    · rw [if_neg e]
      intro h0
      rcases mul_eq_zero.1 h0 with h0 | h0
      · exact cP_ne n (by omega) hi h0
      · exact pl_ne hi (by omega) (fun q => e q.symm) h0
def wN (x : T 7) (s n i : Nat) : T 7 := cP x s i n * inv 7 (cP (pl i) s i n)
def sumN (f : Nat → T 7) : Nat → T 7
  | 0 => 0
  | n + 1 => sumN f n + f n
theorem sumN_congr {f g : Nat → T 7} : ∀ n, (∀ t, t < n → f t = g t) → sumN f n = sumN g n
  | 0, _ => rfl
  | n + 1, h => by
    unfold sumN
    rw [sumN_congr n fun t ht => h t (by omega), h n (by omega)]
theorem sumN_add (f g : Nat → T 7) : ∀ n, sumN (fun t => f t + g t) n = sumN f n + sumN g n
  | 0 => (add_zero _).symm
  | n + 1 => by
    unfold sumN
    rw [sumN_add f g n]
    ac_rfl
theorem sumN_mul (c : T 7) (f : Nat → T 7) : ∀ n, sumN (fun t => c * f t) n = c * sumN f n
  | 0 => (mul_zero c).symm
  | n + 1 => by
    unfold sumN
    rw [sumN_mul c f n, mul_add]
theorem sumN_front (f : Nat → T 7) : ∀ n, sumN f (n + 1) = f 0 + sumN (fun t => f (t + 1)) n
  | 0 => by
    show 0 + f 0 = f 0 + 0
    rw [add_zero, zero_add]
  | n + 1 => by
    show sumN f (n + 1) + f (n + 1) = f 0 + (sumN (fun t => f (t + 1)) n + f (n + 1))
    rw [sumN_front f n, add_assoc]
/-- The polynomial of n values from s on, at x. -/
def Lg (v : Nat → T 7) (x : T 7) (s n : Nat) : T 7 := sumN (fun t => v (s + t) * wN x s n (s + t)) n
theorem Lg_one (v : Nat → T 7) (x : T 7) (s : Nat) : Lg v x s 1 = v s := by
  unfold Lg sumN sumN wN cP
  rw [Nat.add_zero, if_pos rfl, if_pos rfl]
  unfold cP
  rw [inv_of (mul_one 1), mul_one, mul_one, zero_add]
/-- One place's weight, by those of one place less. -/
theorem wN_step {s n i : Nat} (x : T 7) (hn : 0 < n) (hb : s + n < 2 ^ 2 ^ 7) (hi : s ≤ i) (hi' : i ≤ s + n) :
    wN x s (n + 1) i = ((x + pl (s + n)) * (if i < s + n then wN x s n i else 0) + (x + pl s) * (if s < i then wN x (s + 1) n i else 0)) * inv 7 (pl s + pl (s + n)) := by
  unfold wN
  have hab : pl s + pl (s + n) ≠ 0 := pl_ne (by omega) hb (by omega)
  have C1 : ∀ y, cP y s i (n + 1) = if s + n = i then cP y s i n else cP y s i n * (y + pl (s + n)) := fun y => rfl
  by_cases e1 : s = i
  · subst e1
    rw [if_pos (by omega), if_neg (by omega), mul_zero, add_zero, C1, C1, if_neg (by omega), if_neg (by omega), inv_prod]
    ac_rfl
  · by_cases e2 : s + n = i
    · subst e2
      rw [if_neg (by omega), if_pos (by omega), mul_zero, zero_add, cP_front, cP_front, if_neg e1, if_neg e1, inv_prod, add_comm (pl (s + n)) (pl s)]
      ac_rfl
    · obtain ⟨m, rfl⟩ : ∃ m, n = m + 1 := ⟨n - 1, by omega⟩
      rw [if_pos (by omega), if_pos (by omega), C1, C1, if_neg e2, if_neg e2, cP_front, cP_front, if_neg e1, if_neg e1]
      have B1 : ∀ y, cP y (s + 1) i (m + 1) = cP y (s + 1) i m * (y + pl (s + (m + 1))) := fun y => by
        show (if s + 1 + m = i then _ else cP y (s + 1) i m * (y + pl (s + 1 + m))) = _
        rw [if_neg (by omega), show s + 1 + m = s + (m + 1) by omega]
      rw [B1, B1, inv_prod, inv_prod, inv_prod]
      have ha : pl i + pl s ≠ 0 := pl_ne (by omega) (by omega) (fun q => e1 q.symm)
      have hc : pl i + pl (s + (m + 1)) ≠ 0 := pl_ne (by omega) hb (fun q => e2 q.symm)
      generalize cP x (s + 1) i m = D
      generalize cP (pl i) (s + 1) i m = E
      have key := inv_sum ha hc
      rw [show pl i + pl s + (pl i + pl (s + (m + 1))) = pl s + pl (s + (m + 1)) by
        rw [add_comm (pl i) (pl s), add_assoc, add_left_self]] at key
      generalize pl s + pl (s + (m + 1)) = g at hab key ⊢
      generalize inv 7 (pl i + pl s) = p at key ⊢
      generalize inv 7 (pl i + pl (s + (m + 1))) = q at key ⊢
      generalize x + pl (s + (m + 1)) = u
      generalize x + pl s = w
      rw [show u * (w * D * (p * inv 7 E)) + w * (D * u * (inv 7 E * q)) = u * w * D * inv 7 E * (p + q) by rw [mul_add]; ac_rfl, key,
        show u * w * D * inv 7 E * (g * (p * q)) * inv 7 g = u * w * D * inv 7 E * (p * q) * (g * inv 7 g) by ac_rfl, mul_inv hab, mul_one]
      ac_rfl
theorem Lg_step (v : Nat → T 7) (x : T 7) {s n : Nat} (hn : 0 < n) (hb : s + n < 2 ^ 2 ^ 7) :
    Lg v x s (n + 1) = ((x + pl (s + n)) * Lg v x s n + (x + pl s) * Lg v x (s + 1) n) * inv 7 (pl s + pl (s + n)) := by
  have h1 : Lg v x s n = sumN (fun t => v (s + t) * (if s + t < s + n then wN x s n (s + t) else 0)) (n + 1) := by
    have e : sumN (fun t => v (s + t) * (if s + t < s + n then wN x s n (s + t) else 0)) (n + 1) = sumN (fun t => v (s + t) * (if s + t < s + n then wN x s n (s + t) else 0)) n + v (s + n) * (if s + n < s + n then wN x s n (s + n) else 0) := rfl
    rw [e, if_neg (Nat.lt_irrefl _), mul_zero, add_zero]
    exact sumN_congr n fun t ht => by rw [if_pos (by omega)]
  have h2 : Lg v x (s + 1) n = sumN (fun t => v (s + t) * (if s < s + t then wN x (s + 1) n (s + t) else 0)) (n + 1) := by
    rw [sumN_front, if_neg (by omega), mul_zero, zero_add]
    refine sumN_congr n fun t ht => ?_
    rw [if_pos (by omega), show s + 1 + t = s + (t + 1) by omega]
  rw [h1, h2, ← sumN_mul, ← sumN_mul, ← sumN_add, mul_comm _ (inv 7 _), ← sumN_mul]
  refine sumN_congr (n + 1) fun t ht => ?_
  rw [wN_step x hn hb (by omega) (by omega)]
  generalize (if s + t < s + n then wN x s n (s + t) else 0) = F
  generalize (if s < s + t then wN x (s + 1) n (s + t) else 0) = G
  generalize v (s + t) = V
  generalize inv 7 (pl s + pl (s + n)) = I
  generalize x + pl (s + n) = u
  generalize x + pl s = w
  rw [show V * ((u * F + w * G) * I) = I * (V * (u * F + w * G)) by ac_rfl, mul_add V, show V * (u * F) = u * (V * F) by ac_rfl, show V * (w * G) = w * (V * G) by ac_rfl]
end Go.Proofs.YthnaalocgoeddaaT
