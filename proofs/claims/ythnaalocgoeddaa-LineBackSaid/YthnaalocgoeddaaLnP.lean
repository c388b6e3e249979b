/- Polynomials of a degree have no more zeros than their degree, in plain Lean. Conditions: those that each theorem names. -/
import Derived.Test.YthnaalocgoeddaaLnM
set_option linter.unusedVariables false
namespace Go.Proofs.YthnaalocgoeddaaT
/-- A polynomial of degree d at the most, as a function. -/
def isP : Nat → (T 7 → T 7) → Prop
  | 0, f => ∃ c, ∀ x, f x = c
  | d + 1, f => ∃ g c, isP d g ∧ ∀ x, f x = x * g x + c
theorem isP_zero : ∀ d, isP d (fun _ => 0)
  | 0 => ⟨0, fun _ => rfl⟩
  | d + 1 => ⟨fun _ => 0, 0, isP_zero d, fun x => by rw [mul_zero, add_zero]⟩
theorem isP_add : ∀ {d : Nat} {f g : T 7 → T 7}, isP d f → isP d g → isP d (fun x => f x + g x)
  | 0, f, g, ⟨a, ha⟩, ⟨b, hb⟩ => ⟨a + b, fun x => by
    show f x + g x = a + b
    rw [ha, hb]⟩
  | d + 1, f, g, ⟨f', a, hf, ha⟩, ⟨g', b, hg, hb⟩ => ⟨_, a + b, isP_add hf hg, fun x => by
    show f x + g x = x * (f' x + g' x) + (a + b)
    rw [ha, hb, mul_add]
    generalize x * f' x = p
    generalize x * g' x = q
    ac_rfl⟩
theorem isP_scale (c : T 7) : ∀ {d : Nat} {f : T 7 → T 7}, isP d f → isP d (fun x => c * f x)
  | 0, f, ⟨a, ha⟩ => ⟨c * a, fun x => by
    show c * f x = c * a
    rw [ha]⟩
  | d + 1, f, ⟨g, a, hg, ha⟩ => ⟨_, c * a, isP_scale c hg, fun x => by
    show c * f x = x * (c * g x) + c * a
    rw [ha, mul_add, ← mul_assoc, mul_comm c x, mul_assoc]⟩
theorem isP_up : ∀ {d : Nat} {f : T 7 → T 7}, isP d f → isP (d + 1) f
  | 0, f, ⟨a, ha⟩ => ⟨fun _ => 0, a, ⟨0, fun _ => rfl⟩, fun x => by rw [ha, mul_zero, zero_add]⟩
  | d + 1, f, ⟨g, a, hg, ha⟩ => ⟨g, a, isP_up hg, ha⟩
theorem isP_times {d : Nat} {f : T 7 → T 7} (h : isP d f) (c : T 7) : isP (d + 1) (fun x => f x * (x + c)) := by
  have h1 : isP (d + 1) (fun x => x * f x) := ⟨f, 0, h, fun x => by rw [add_zero]⟩
  have h2 := isP_add h1 (isP_up (isP_scale c h))
  have e : (fun x => f x * (x + c)) = fun x => x * f x + c * f x := funext fun x => by rw [mul_add, mul_comm (f x) x, mul_comm (f x) c]
  rw [e]
  exact h2
theorem isP_upP_lo (i : Nat) : ∀ n, n ≤ i → isP n (fun x => upP x i n)
  | 0, _ => ⟨1, fun _ => rfl⟩
  | n + 1, h => by
    have ih := isP_times (isP_upP_lo i n (by omega)) (pl n)
    have e : (fun x => upP x i (n + 1)) = fun x => upP x i n * (x + pl n) := funext fun x => if_neg (show ¬ n = i by omega)
    rw [e]
    exact ih
theorem isP_upP (i : Nat) : ∀ n, i < n + 1 → isP n (fun x => upP x i (n + 1))
  | n, h => by
    by_cases e : n = i
    · have e' : (fun x => upP x i (n + 1)) = fun x => upP x i n := funext fun x => if_pos e
      rw [e']
      exact isP_upP_lo i n (by omega)
    · match n, h, e with
      | 0, h, e => exact absurd (show 0 = i by omega) e
      | n + 1, h, e =>
        have ih := isP_times (isP_upP i n (by omega)) (pl (n + 1))
        have e' : (fun x => upP x i (n + 1 + 1)) = fun x => upP x i (n + 1) * (x + pl (n + 1)) := funext fun x => if_neg e
        rw [e']
        exact ih
theorem isP_div : ∀ (d : Nat) {f : T 7 → T 7} (r : T 7), isP (d + 1) f → ∃ h, isP d h ∧ ∀ x, f x + f r = (x + r) * h x
  | 0, f, r, ⟨g, c, ⟨g0, hg⟩, hf⟩ => ⟨fun _ => g0, ⟨g0, fun _ => rfl⟩, fun x => by
    rw [hf, hf, hg, hg, add_mul]
    generalize x * g0 = p
    generalize r * g0 = q
    rw [show p + c + (q + c) = p + q + (c + c) by ac_rfl, add_self, add_zero]⟩
  | d + 1, f, r, ⟨g, c, hg, hf⟩ => by
    obtain ⟨h, hh, he⟩ := isP_div d r hg
    refine ⟨fun x => g x + r * h x, isP_add hg (isP_up (isP_scale r hh)), fun x => ?_⟩
    have e1 : r * (g x + g r) = r * ((x + r) * h x) := by rw [he]
    rw [hf, hf, mul_add (x + r), add_mul x r (g x), show (x + r) * (r * h x) = r * ((x + r) * h x) by ac_rfl, ← e1, mul_add r]
    generalize x * g x = p
    generalize r * g x = q
    generalize r * g r = s
    rw [show p + q + (q + s) = p + s + (q + q) by ac_rfl, add_self, add_zero, show p + c + (s + c) = p + s + (c + c) by ac_rfl, add_self, add_zero]
theorem isP_roots : ∀ (d : Nat) {f : T 7 → T 7} (R : List (T 7)), isP d f → R.Nodup → (∀ r ∈ R, f r = 0) → d < R.length → ∀ x, f x = 0
  | 0, f, R, ⟨c, hc⟩, _, hr, hl, x => by
    match R, hl with
    | r :: R, _ => rw [hc, ← hc r, hr r List.mem_cons_self]
  | d + 1, f, R, hf, hn, hr, hl, x => by
    match R, hl, hn, hr with
    | r :: R, hl, hn, hr =>
      obtain ⟨h, hh, he⟩ := isP_div d r hf
      rw [List.nodup_cons] at hn
      have h0 := isP_roots d R hh hn.2 (fun q hq => by
        have e := he q
        rw [hr q (List.mem_cons_of_mem _ hq), hr r List.mem_cons_self, add_zero] at e
        rcases mul_eq_zero.1 e.symm with e1 | e1
        · exact absurd (add_eq_zero.1 e1 ▸ hq) hn.1
        · exact e1) (by rw [List.length_cons] at hl; omega) x
      have e := he x
      rw [hr r List.mem_cons_self, add_zero, h0, mul_zero] at e
      exact e
end Go.Proofs.YthnaalocgoeddaaT
