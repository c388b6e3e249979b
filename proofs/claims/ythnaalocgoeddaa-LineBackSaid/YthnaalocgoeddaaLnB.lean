/- Coefficients: values by them, and how Newton's way finds them, in plain Lean. Conditions: those that each theorem names. -/
import Derived.Test.YthnaalocgoeddaaLnP
set_option linter.unusedVariables false
namespace Go.Proofs.YthnaalocgoeddaaT
theorem add_left_comm_ (a b c : T 7) : a + (b + c) = b + a + c := by rw [← add_assoc, add_comm a b]
/-- The value of coefficients, the lowest first. -/
def hv : List (T 7) → T 7 → T 7
  | [], _ => 0
  | c :: l, x => c + x * hv l x
theorem hv_cons (c : T 7) (l : List (T 7)) (x : T 7) : hv (c :: l) x = c + x * hv l x := rfl
theorem hv_nil (x : T 7) : hv [] x = 0 := rfl
theorem hv_in {j : Nat} (hj : j ≤ 7) {x : T 7} (hx : InL j x) : ∀ l : List (T 7), (∀ c ∈ l, InL j c) → InL j (hv l x)
  | [], _ => inL_zero
  | c :: l, h => inL_add (h c List.mem_cons_self) (inL_mul hj hx (hv_in hj hx l fun q hq => h q (List.mem_cons_of_mem _ hq)))
theorem isP_hv : ∀ (d : Nat) (l : List (T 7)), l.length ≤ d + 1 → isP d (fun x => hv l x)
  | d, [], _ => isP_zero d
  | 0, [c], _ => ⟨c, fun x => by
    show c + x * 0 = c
    rw [mul_zero, add_zero]⟩
  | 0, _ :: _ :: _, h => by simp at h
  | d + 1, c :: l, h => ⟨fun x => hv l x, c, isP_hv d l (by simpa using h), fun x => add_comm _ _⟩
theorem hv_zeros (x : T 7) : ∀ n, hv (List.replicate n 0) x = 0
  | 0 => rfl
  | n + 1 => by
    rw [List.replicate_succ, hv_cons, hv_zeros x n, mul_zero, add_zero]
theorem hv_pad (x : T 7) (n : Nat) : ∀ l, hv (l ++ List.replicate n 0) x = hv l x
  | [] => hv_zeros x n
  | c :: l => by
    rw [List.cons_append, hv_cons, hv_cons, hv_pad x n l]
/-- a row longer than z: the first of it plus b times z's. -/
def addS (b : T 7) : List (T 7) → List (T 7) → List (T 7)
  | p :: o, q :: z => (p + b * q) :: addS b o z
  | o, _ => o
theorem addS_length (b : T 7) : ∀ o z : List (T 7), (addS b o z).length = o.length
  | [], z => by cases z <;> rfl
  | p :: o, [] => rfl
  | p :: o, q :: z => by
    show (addS b o z).length + 1 = o.length + 1
    rw [addS_length b o z]
theorem hv_addS (b x : T 7) : ∀ o z : List (T 7), z.length ≤ o.length → hv (addS b o z) x = hv o x + b * hv z x
  | o, [], _ => by
    have e : addS b o [] = o := by cases o <;> rfl
    have e2 : hv [] x = 0 := rfl
    rw [e, e2, mul_zero, add_zero]
  | [], q :: z, h => by simp at h
  | p :: o, q :: z, h => by
    have ih := hv_addS b x o z (by simpa using h)
    have e3 : addS b (p :: o) (q :: z) = (p + b * q) :: addS b o z := rfl
    rw [e3, hv_cons, hv_cons, hv_cons, ih]
    generalize hv o x = A
    generalize hv z x = B
    have e4 : x * (A + b * B) = x * A + b * (x * B) := by rw [mul_add, ← mul_assoc, mul_comm x b, mul_assoc]
    rw [e4, mul_add b]
    generalize x * A = A'
    generalize b * q = B'
    generalize b * (x * B) = C'
    rw [add_assoc, add_assoc, add_left_comm_ B' A' C', add_assoc A' B']
theorem addS_in {j : Nat} (hj : j ≤ 7) {b : T 7} (hb : InL j b) : ∀ o z : List (T 7), (∀ c ∈ o, InL j c) → (∀ c ∈ z, InL j c) → ∀ c ∈ addS b o z, InL j c
  | [], z, h, _, c, hc => by
    have e : addS b [] z = [] := by cases z <;> rfl
    rw [e] at hc
    cases hc
  | p :: o, [], h, _, c, hc => h c hc
  | p :: o, q :: z, h, h2, c, hc => by
    rcases List.mem_cons.1 hc with rfl | hc
    · exact inL_add (h p List.mem_cons_self) (inL_mul hj hb (h2 q List.mem_cons_self))
    · exact addS_in hj hb o z (fun c hc => h c (List.mem_cons_of_mem _ hc)) (fun c hc => h2 c (List.mem_cons_of_mem _ hc)) c hc
/-- One more element of z taken in. -/
theorem addS_set (b : T 7) : ∀ (o z : List (T 7)) (m : Nat) (hm : m < z.length) (ho : m < o.length), (addS b o (z.take m)).set m (o[m] + b * z[m]) = addS b o (z.take (m + 1))
  | p :: o, q :: z, 0, _, _ => by
    have e : ∀ o : List (T 7), addS b o [] = o := fun o => by cases o <;> rfl
    show (addS b (p :: o) []).set 0 (p + b * q) = (p + b * q) :: addS b o (z.take 0)
    rw [e, List.take_zero, e]
    rfl
  | p :: o, q :: z, m + 1, hm, ho => by
    have ih := addS_set b o z m (by simpa using hm) (by simpa using ho)
    show (p + b * q) :: (addS b o (z.take m)).set m (o[m]'(by simpa using ho) + b * z[m]'(by simpa using hm)) = (p + b * q) :: addS b o (z.take (m + 1))
    rw [ih]
theorem addS_get (b : T 7) : ∀ (o z : List (T 7)) (m : Nat) (ho : m < o.length) (hz : z.length ≤ m), (addS b o z)[m]'(by rw [addS_length]; exact ho) = o[m]
  | o, [], m, ho, _ => by
    have e : addS b o [] = o := by cases o <;> rfl
    simp only [e]
  | p :: o, q :: z, m, ho, hz => by
    obtain ⟨m, rfl⟩ : ∃ q, m = q + 1 := ⟨m - 1, by simp at hz; omega⟩
    exact addS_get b o z m (by simpa using ho) (by simpa using hz)
/-- Coefficients times (t + x), k carried in. -/
def mulX (x : T 7) : T 7 → List (T 7) → List (T 7)
  | k, [] => [k]
  | k, c :: l => (k + c * x) :: mulX x c l
theorem mulX_length (x : T 7) : ∀ (l : List (T 7)) (k : T 7), (mulX x k l).length = l.length + 1
  | [], _ => rfl
  | c :: l, k => by
    show (mulX x c l).length + 1 = l.length + 1 + 1
    rw [mulX_length x l c]
theorem mulX_cons (x k c : T 7) (l : List (T 7)) : mulX x k (c :: l) = (k + c * x) :: mulX x c l := rfl
theorem mulX_nil (x k : T 7) : mulX x k [] = [k] := rfl
theorem hv_mulX (x t : T 7) : ∀ (l : List (T 7)) (k : T 7), hv (mulX x k l) t = k + (t + x) * hv l t
  | [], k => by rw [mulX_nil, hv_cons, hv_nil, mul_zero, mul_zero]
  | c :: l, k => by
    rw [mulX_cons, hv_cons, hv_cons, hv_mulX x t l c]
    generalize hv l t = A
    have e1 : t * (c + (t + x) * A) = t * c + (t + x) * (t * A) := by
      rw [mul_add, ← mul_assoc, mul_comm t (t + x), mul_assoc]
    have e2 : (t + x) * (c + t * A) = t * c + c * x + (t + x) * (t * A) := by
      rw [mul_add, add_mul, mul_comm x c]
    rw [e1, e2]
    generalize (t + x) * (t * A) = p
    generalize c * x = q
    generalize t * c = r
    rw [add_assoc, add_left_comm_ q r p, add_comm r q]
theorem mulX_in {j : Nat} (hj : j ≤ 7) {x : T 7} (hx : InL j x) : ∀ (l : List (T 7)) (k : T 7), InL j k → (∀ c ∈ l, InL j c) → ∀ c ∈ mulX x k l, InL j c := by
  intro l
  induction l with
  | nil =>
    intro k hk _ c hc
    rw [mulX_nil] at hc
    rw [List.mem_singleton.1 hc]
    exact hk
  | cons q l ih =>
    intro k hk h c hc
    rw [mulX_cons] at hc
    rcases List.mem_cons.1 hc with e | hc
    · rw [e]
      exact inL_add hk (inL_mul hj (h q List.mem_cons_self) hx)
    · exact ih q (h q List.mem_cons_self) (fun c hc => h c (List.mem_cons_of_mem _ hc)) c hc
/-- The last one so far. -/
def lastK (k : T 7) : List (T 7) → T 7
  | [] => k
  | c :: l => lastK c l
theorem mulX_snoc (x c : T 7) (r : List (T 7)) : ∀ (l : List (T 7)) (k : T 7), ((mulX x k l ++ (0 : T 7) :: r).set l.length (lastK k l + c * x)).set (l.length + 1) (0 + c) = mulX x k (l ++ [c]) ++ r
  | [], k => by
    show [k + c * x, 0 + c] ++ r = [k + c * x, c] ++ r
    rw [zero_add]
  | q :: l, k => by
    have ih := mulX_snoc x c r l q
    show (k + q * x) :: ((mulX x q l ++ (0 : T 7) :: r).set l.length (lastK q l + c * x)).set (l.length + 1) (0 + c) = (k + q * x) :: (mulX x q (l ++ [c]) ++ r)
    rw [ih]
theorem mulX_last (x : T 7) (r : List (T 7)) : ∀ (l : List (T 7)) (k : T 7) (h : l.length < (mulX x k l ++ r).length), (mulX x k l ++ r)[l.length] = lastK k l
  | [], k, _ => rfl
  | q :: l, k, h => by
    have := mulX_last x r l q (by
      have h : l.length + 1 < (mulX x q l ++ r).length + 1 := h
      omega)
    exact this
theorem mulX_next (x c : T 7) (r : List (T 7)) : ∀ (l : List (T 7)) (k v : T 7) (h : l.length + 1 < ((mulX x k l ++ (0 : T 7) :: r).set l.length v).length), ((mulX x k l ++ (0 : T 7) :: r).set l.length v)[l.length + 1] = 0
  | [], k, v, _ => rfl
  | q :: l, k, v, h => mulX_next x c r l q v (by
      have h : l.length + 1 + 1 < ((mulX x q l ++ (0 : T 7) :: r).set l.length v).length + 1 := h
      omega)
/-- What is zero everywhere has no coefficients. -/
theorem hv_none : ∀ (l : List (T 7)), l.length < 100 → (∀ t, hv l t = 0) → ∀ c ∈ l, c = 0
  | [], _, _, c, hc => by cases hc
  | q :: l, hl, h, c, hc => by
    have hq : q = 0 := by
      have h0 : q + 0 * hv l 0 = 0 := h 0
      rw [zero_mul, add_zero] at h0
      exact h0
    have hl' : ∀ t, t ≠ 0 → hv l t = 0 := fun t ht => by
      have h1 : q + t * hv l t = 0 := h t
      rw [hq, zero_add] at h1
      rcases mul_eq_zero.1 h1 with h2 | h2
      · exact absurd h2 ht
      · exact h2
    have big : (1000 : Nat) ≤ 2 ^ 2 ^ 7 := by decide
    have hz : ∀ t, hv l t = 0 := by
      intro t
      refine isP_roots l.length ((List.range (l.length + 1)).map fun i => pl (i + 1)) (isP_hv l.length l (by omega)) ?_ ?_ (by rw [List.length_map, List.length_range]; omega) t
      · rw [List.nodup_iff_pairwise_ne, List.pairwise_map]
        refine List.Pairwise.imp_of_mem ?_ List.pairwise_lt_range
        intro a b ha hb hlt e
        have ha := List.mem_range.1 ha
        have hb := List.mem_range.1 hb
        simp only [List.length_cons] at hl
        exact pl_ne (show a + 1 < 2 ^ 2 ^ 7 by omega) (show b + 1 < 2 ^ 2 ^ 7 by omega) (by omega) (by rw [e, add_self])
      · intro r hr
        obtain ⟨i, hi, rfl⟩ := List.mem_map.1 hr
        have hi := List.mem_range.1 hi
        simp only [List.length_cons] at hl
        refine hl' _ fun e => ?_
        have e0 : pl 0 = 0 := dec_zero 7
        exact pl_ne (show i + 1 < 2 ^ 2 ^ 7 by omega) (show 0 < 2 ^ 2 ^ 7 by omega) (by omega) (by rw [e, e0, add_zero])
    rcases List.mem_cons.1 hc with rfl | hc
    · exact hq
    · exact hv_none l (by simp only [List.length_cons] at hl; omega) hz c hc
end Go.Proofs.YthnaalocgoeddaaT
