/- Products of factors X + c, coefficient by coefficient, in plain Lean: any order, values, squared coefficients, unlike conjugates. Conditions: those that each theorem names. -/
import Derived.Test.YtlegcabfgkccmaaFrM
set_option linter.unusedVariables false
namespace Go.Proofs.YtlegcabfgkccmaaT
variable {K : Nat}
/-- Times X + c, with u carried. -/
def ml (c : T K) : T K → List (T K) → List (T K)
  | u, [] => [u]
  | u, y :: l => (u + c * y) :: ml c y l
theorem ml_len (c : T K) : ∀ (l : List (T K)) (u : T K), (ml c u l).length = l.length + 1
  | [], _ => rfl
  | y :: l, u => congrArg (· + 1) (ml_len c l y)
/-- The value at x. -/
def pv (x : T K) : List (T K) → T K
  | [] => 0
  | y :: l => y + x * pv x l
theorem powN_last (x : T K) (i : Nat) : powN x (i + 1) = powN x i * x := rfl
theorem powN_nil (x : T K) : powN x 0 = 1 := rfl
theorem pv_nil (x : T K) : pv x [] = 0 := rfl
theorem pv_cons (x y : T K) (l : List (T K)) : pv x (y :: l) = y + x * pv x l := rfl
theorem pv_ml (x c : T K) : ∀ (l : List (T K)) (u : T K), pv x (ml c u l) = u + (x + c) * pv x l
  | [], u => by
    show u + x * 0 = u + (x + c) * 0
    rw [mul_zero, mul_zero]
  | y :: l, u => by
    show (u + c * y) + x * pv x (ml c y l) = u + (x + c) * (y + x * pv x l)
    rw [pv_ml x c l y]
    generalize pv x l = e
    have h1 : x * ((x + c) * e) = (x + c) * (x * e) := by rw [← mul_assoc, mul_comm x (x + c), mul_assoc]
    rw [mul_add, mul_add, h1, add_mul x c y, add_assoc u, add_comm (x * y) (c * y), add_assoc (c * y)]
theorem ml_swap (c d : T K) : ∀ (p : List (T K)) (u u' v : T K), u + c * v = u' + d * v → ml c u (ml d v p) = ml d u' (ml c v p)
  | [], u, u', v, h => by
    show [u + c * v, v] = [u' + d * v, v]
    rw [h]
  | y :: l, u, u', v, h => by
    show (u + c * (v + d * y)) :: ml c (v + d * y) (ml d y l) = (u' + d * (v + c * y)) :: ml d (v + c * y) (ml c y l)
    have e1 : u + c * (v + d * y) = u' + d * (v + c * y) := by
      rw [mul_add, mul_add, ← add_assoc, ← add_assoc, h, ← mul_assoc, ← mul_assoc, mul_comm c d]
    have e2 : (v + d * y) + c * y = (v + c * y) + d * y := by
      rw [add_assoc, add_assoc, add_comm (d * y)]
    rw [e1, ml_swap c d l _ _ _ e2]
theorem ml_frob (n : Nat) (c : T K) : ∀ (l : List (T K)) (u : T K), (ml c u l).map (frob n) = ml (frob n c) (frob n u) (l.map (frob n))
  | [], _ => rfl
  | y :: l, u => by
    show frob n (u + c * y) :: (ml c y l).map (frob n) = (frob n u + frob n c * frob n y) :: ml (frob n c) (frob n y) (l.map (frob n))
    rw [frob_add, frob_mul, ml_frob n c l y]
theorem ml_in {j : Nat} (hj : j ≤ K) {c : T K} (hc : InL j c) : ∀ (l : List (T K)) (u : T K), InL j u → (∀ y ∈ l, InL j y) → ∀ y ∈ ml c u l, InL j y
  | [], u, hu, _ => fun y hy => by
    rcases List.mem_cons.1 hy with h | h
    · rw [h]; exact hu
    · cases h
  | z :: l, u, hu, hl => fun y hy => by
    rcases List.mem_cons.1 hy with h | h
    · rw [h]; exact inL_add hu (inL_mul hj hc (hl z List.mem_cons_self))
    · exact ml_in hj hc l z (hl z List.mem_cons_self) (fun w hw => hl w (List.mem_cons_of_mem _ hw)) y h
def prodL (p : List (T K)) (l : List (T K)) : List (T K) := l.foldl (fun p c => ml c 0 p) p
theorem prodL_cons (p : List (T K)) (c : T K) (l : List (T K)) : prodL p (c :: l) = prodL (ml c 0 p) l := rfl
theorem prodL_front (c : T K) : ∀ (l p : List (T K)), prodL (ml c 0 p) l = ml c 0 (prodL p l)
  | [], _ => rfl
  | d :: l, p => by
    rw [prodL_cons, prodL_cons, ml_swap d c p 0 0 0 (by rw [mul_zero, mul_zero]), prodL_front c l]
theorem prodL_snoc (p l : List (T K)) (c : T K) : prodL p (l ++ [c]) = ml c 0 (prodL p l) := by
  unfold prodL
  rw [List.foldl_append]
  rfl
theorem prodL_frob (n : Nat) : ∀ (l p : List (T K)), (prodL p l).map (frob n) = prodL (p.map (frob n)) (l.map (frob n))
  | [], _ => rfl
  | c :: l, p => by
    rw [prodL_cons, prodL_frob n l, ml_frob, frob_zero]
    rfl
theorem prodL_in {j : Nat} (hj : j ≤ K) : ∀ (l p : List (T K)), (∀ y ∈ l, InL j y) → (∀ y ∈ p, InL j y) → ∀ y ∈ prodL p l, InL j y
  | [], _, _, hp => hp
  | c :: l, p, hl, hp => prodL_in hj l _ (fun y hy => hl y (List.mem_cons_of_mem _ hy)) (ml_in hj (hl c List.mem_cons_self) p 0 inL_zero hp)
theorem prodL_len : ∀ (l p : List (T K)), (prodL p l).length = p.length + l.length
  | [], _ => rfl
  | c :: l, p => by rw [prodL_cons, prodL_len l, ml_len, List.length_cons]; omega
/-- The conjugates, s squarings apart. -/
def cjT (s : Nat) : Nat → T K → List (T K)
  | 0, _ => []
  | n + 1, x => x :: cjT s n (frob s x)
theorem cjT_snoc (s : Nat) : ∀ (n : Nat) (x : T K), cjT s (n + 1) x = cjT s n x ++ [frob (n * s) x]
  | 0, x => by
    rw [Nat.zero_mul]
    rfl
  | n + 1, x => by
    show x :: cjT s (n + 1) (frob s x) = x :: (cjT s n (frob s x) ++ [frob ((n + 1) * s) x])
    rw [cjT_snoc s n, frob_frob, Nat.add_mul, Nat.one_mul, Nat.add_comm s]
theorem cjT_map (s t : Nat) : ∀ (n : Nat) (x : T K), (cjT s n x).map (frob t) = cjT s n (frob t x)
  | 0, _ => rfl
  | n + 1, x => by
    show frob t x :: (cjT s n (frob s x)).map (frob t) = frob t x :: cjT s n (frob s (frob t x))
    rw [cjT_map s t n, frob_frob, frob_frob, Nat.add_comm]
theorem cjT_len (s : Nat) : ∀ (n : Nat) (x : T K), (cjT s n x).length = n
  | 0, _ => rfl
  | n + 1, x => congrArg (· + 1) (cjT_len s n _)
theorem cjT_at (s : Nat) : ∀ (n : Nat) (x : T K) (i : Nat) (h : i < (cjT s n x).length), (cjT s n x)[i] = frob (i * s) x
  | 0, _, _, h => by cases h
  | n + 1, x, 0, _ => by
    rw [Nat.zero_mul]
    rfl
  | n + 1, x, i + 1, h => by
    show (cjT s n (frob s x))[i]'(by simpa [cjT] using h) = _
    rw [cjT_at s n, frob_frob, Nat.add_mul, Nat.one_mul, Nat.add_comm s]
theorem cjT_add (s m : Nat) : ∀ (n : Nat) (x : T K), cjT s (n + m) x = cjT s n x ++ cjT s m (frob (n * s) x)
  | 0, x => by
    rw [Nat.zero_add, Nat.zero_mul]
    rfl
  | n + 1, x => by
    rw [show n + 1 + m = (n + m) + 1 by omega]
    show x :: cjT s (n + m) (frob s x) = x :: (cjT s n (frob s x) ++ cjT s m (frob ((n + 1) * s) x))
    rw [cjT_add s m n, frob_frob, Nat.add_mul, Nat.one_mul, Nat.add_comm s]
/-- The product over a whole circle of conjugates: its coefficients are 0 or 1, and x is its nought. -/
theorem prod_fixed {m : Nat} {x : T K} (h : frob (m + 1) x = x) : (prodL [1] (cjT 1 (m + 1) x)).map (frob 1) = prodL [1] (cjT 1 (m + 1) x) := by
  rw [prodL_frob, cjT_map, cjT_snoc, frob_frob, Nat.mul_one, Nat.add_comm 1 m, h, prodL_snoc, List.map_singleton, frob_one]
  exact (prodL_front x _ [1]).symm
theorem of_map_self {α : Type} {f : α → α} : ∀ {l : List α}, l.map f = l → ∀ y ∈ l, f y = y
  | [], _, y, h => by cases h
  | z :: l, h, y, hy => by
    rw [List.map_cons, List.cons.injEq] at h
    rcases List.mem_cons.1 hy with e | e
    · rw [e]; exact h.1
    · exact of_map_self h.2 y e
theorem one_or_zero {y : T K} (h : y * y = y) : y = 0 ∨ y = 1 := by
  have h1 : y * (y + 1) = 0 := by rw [mul_add, mul_one, h, add_self]
  rcases mul_eq_zero.1 h1 with h2 | h2
  · exact .inl h2
  · exact .inr (add_eq_zero.1 h2)
theorem prod_bits {m : Nat} {x : T K} (h : frob (m + 1) x = x) : ∀ y ∈ prodL [1] (cjT 1 (m + 1) x), y = 0 ∨ y = 1 :=
  fun y hy => one_or_zero (of_map_self (prod_fixed h) y hy)
theorem prod_zero (m : Nat) (x : T K) : pv x (prodL [1] (cjT 1 (m + 1) x)) = 0 := by
  show pv x (prodL [1] (x :: cjT 1 m (frob 1 x))) = 0
  rw [prodL_cons, prodL_front, pv_ml, add_self, zero_mul, add_zero]
/-! The least circle. -/
theorem frob_sub {x : T K} {a b : Nat} (ha : frob a x = x) (hb : frob b x = x) (h : b ≤ a) : frob (a - b) x = x := by
  have h1 : frob (a - b) (frob b x) = x := by rw [frob_frob, Nat.add_sub_cancel' h, ha]
  rwa [hb] at h1
theorem frob_gcd {x : T K} : ∀ (n a b : Nat), a + b ≤ n → frob a x = x → frob b x = x → frob (Nat.gcd a b) x = x
  | 0, a, b, hn, ha, hb => by
    obtain rfl : a = 0 := by omega
    obtain rfl : b = 0 := by omega
    exact ha
  | n + 1, a, b, hn, ha, hb => by
    by_cases h0 : a = 0
    · rw [h0, Nat.gcd_zero_left]; exact hb
    · by_cases h1 : b = 0
      · rw [h1, Nat.gcd_zero_right]; exact ha
      · by_cases h2 : b ≤ a
        · have := frob_gcd n (a - b) b (by omega) (frob_sub ha hb h2) hb
          rwa [Nat.gcd_sub_self_left h2] at this
        · have := frob_gcd n a (b - a) (by omega) ha (frob_sub hb ha (by omega))
          rwa [Nat.gcd_sub_self_right (by omega)] at this
theorem odd_dvd {q : Nat} (h : q % 2 = 1) : ∀ m : Nat, q ∣ 2 ^ m → q = 1
  | 0, hd => Nat.dvd_one.1 hd
  | m + 1, hd => by
    have hc : Nat.Coprime q 2 := by
      show Nat.gcd q 2 = 1
      rw [Nat.gcd_comm, Nat.gcd_rec, h, Nat.gcd_one_left]
    rw [Nat.pow_succ] at hd
    exact odd_dvd h m (hc.dvd_of_dvd_mul_right hd)
/-- A divisor of 2^(n+1) that is less divides 2^n. -/
theorem dvd_half {n d : Nat} (h : d ∣ 2 ^ (n + 1)) (hl : d < 2 ^ (n + 1)) : d ∣ 2 ^ n := by
  obtain ⟨q, hq⟩ := h
  by_cases h2 : q % 2 = 1
  · have h1 := odd_dvd h2 (n + 1) ⟨d, by rw [Nat.mul_comm]; exact hq⟩
    rw [h1, Nat.mul_one] at hq
    omega
  · refine ⟨q / 2, ?_⟩
    have e : q = q / 2 * 2 := by omega
    rw [e, ← Nat.mul_assoc, Nat.pow_succ] at hq
    omega
/-- Unlike conjugates: an element of level n + 1 that is of no level below has as many as the level has bits. -/
theorem conj_unlike {K n : Nat} {x : T K} (hn : n + 1 ≤ K) (h1 : InL (n + 1) x) (h0 : ¬ InL n x) {i j : Nat} (hij : i < j) (hj : j < 2 ^ (n + 1)) : frob i x ≠ frob j x := by
  intro e
  have hfull := frob_in hn h1
  have hd : frob (j - i) x = x := by
    have h2 : frob (2 ^ (n + 1) - i) (frob i x) = frob (2 ^ (n + 1) - i) (frob j x) := congrArg _ e
    rw [frob_frob, frob_frob, show i + (2 ^ (n + 1) - i) = 2 ^ (n + 1) by omega, hfull, show j + (2 ^ (n + 1) - i) = 2 ^ (n + 1) + (j - i) by omega, ← frob_frob, hfull] at h2
    exact h2.symm
  have hg := frob_gcd _ (j - i) (2 ^ (n + 1)) (Nat.le_refl _) hd hfull
  have hgl : Nat.gcd (j - i) (2 ^ (n + 1)) < 2 ^ (n + 1) := by
    have := Nat.gcd_le_left (2 ^ (n + 1)) (show 0 < j - i by omega)
    omega
  obtain ⟨c, hc⟩ := dvd_half (Nat.gcd_dvd_right (j - i) (2 ^ (n + 1))) hgl
  have hh : frob (2 ^ n) x = x := by
    rw [hc, Nat.mul_comm]
    exact frob_times hg c
  exact h0 (in_of_frob hh 1 hn h1)
end Go.Proofs.YtlegcabfgkccmaaT
