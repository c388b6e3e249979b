/- Which elements sum up to one (Gauss), in plain Lean: rows with leading bits. Conditions: those that each theorem names. -/
import Derived.Test.YtlegcabfgkccmaaFrH
set_option linter.unusedVariables false
namespace Go.Proofs.YtlegcabfgkccmaaT
def hasB (x : T 7) (n : Nat) : Bool := (enc 7 x).testBit n
def leadN (x : T 7) : Nat := (enc 7 x).log2
/-- Has x the leading bit of y? None has the leading bit of 0. -/
def hasL (x y : T 7) : Bool := if y = 0 then false else hasB x (leadN y)
def xorL (a b : List Bool) : List Bool := List.zipWith (fun x y => x != y) a b
def unitL (n i : Nat) : List Bool := (List.replicate n false).set i true
theorem hasB_add (a b : T 7) (n : Nat) : hasB (a + b) n = Bool.xor (hasB a n) (hasB b n) := by
  unfold hasB
  rw [enc_add, Nat.testBit_xor]
theorem hasB_zero (n : Nat) : hasB 0 n = false := by
  unfold hasB
  rw [enc_zero, Nat.zero_testBit]
theorem hasB_lead {x : T 7} (h : x ≠ 0) : hasB x (leadN x) = true := by
  have h1 : enc 7 x ≠ 0 := fun e => h (enc_eq_zero.1 e)
  exact Nat.testBit_log2 h1
theorem hasL_self {x : T 7} (h : x ≠ 0) : hasL x x = true := by
  unfold hasL
  rw [if_neg h, hasB_lead h]
theorem hasL_add (a b y : T 7) : hasL (a + b) y = Bool.xor (hasL a y) (hasL b y) := by
  unfold hasL
  split
  · rfl
  · exact hasB_add a b _
theorem hasL_zero (y : T 7) : hasL 0 y = false := by
  unfold hasL
  split
  · rfl
  · exact hasB_zero _
/-- The sum of those elements that are in. -/
def comb : List (T 7) → List Bool → T 7
  | x :: l, b :: of => (if b = true then x else 0) + comb l of
  | _, _ => 0
theorem comb_xor : ∀ (l : List (T 7)) (a b : List Bool), a.length = l.length → b.length = l.length → comb l (xorL a b) = comb l a + comb l b
  | [], [], [], _, _ => (add_zero 0).symm
  | x :: l, p :: a, q :: b, ha, hb => by
    have ih := comb_xor l a b (Nat.succ.inj ha) (Nat.succ.inj hb)
    have e : xorL (p :: a) (q :: b) = (p != q) :: xorL a b := rfl
    rw [e]
    show (if (p != q) = true then x else 0) + comb l (xorL a b) = ((if p = true then x else 0) + comb l a) + ((if q = true then x else 0) + comb l b)
    rw [ih]
    have hx : (if (p != q) = true then x else (0 : T 7)) = (if p = true then x else 0) + (if q = true then x else 0) := by
      cases p <;> cases q
      · exact (add_zero 0).symm
      · exact (zero_add x).symm
      · exact (add_zero x).symm
      · exact (add_self x).symm
    rw [hx]
    ac_rfl
theorem xorL_len {a b : List Bool} {n : Nat} (ha : a.length = n) (hb : b.length = n) : (xorL a b).length = n := by
  unfold xorL
  rw [List.length_zipWith, ha, hb, Nat.min_self]
theorem comb_none : ∀ (l : List (T 7)) (n : Nat), comb l (List.replicate n false) = 0
  | [], n => by cases n <;> rfl
  | x :: l, 0 => rfl
  | x :: l, n + 1 => by
    rw [List.replicate_succ]
    show (if false = true then x else 0) + comb l (List.replicate n false) = 0
    rw [comb_none l n, if_neg (by decide), add_zero]
theorem comb_unit : ∀ (l : List (T 7)) (i : Nat) (h : i < l.length), comb l (unitL l.length i) = l[i]
  | x :: l, 0, h => by
    show (if true = true then x else 0) + comb l (List.replicate l.length false) = x
    rw [comb_none, if_pos rfl, add_zero]
  | x :: l, i + 1, h => by
    have ih := comb_unit l i (Nat.lt_of_succ_lt_succ h)
    show (if false = true then x else 0) + comb l (unitL l.length i) = l[i]'(Nat.lt_of_succ_lt_succ h)
    rw [ih, if_neg (by decide), zero_add]
theorem unitL_len (n i : Nat) : (unitL n i).length = n := by
  unfold unitL
  rw [List.length_set, List.length_replicate]
abbrev Step : Type := T 7 × List Bool
def red1 (s t : Step) : Step := if hasL s.1 t.1 = true then (s.1 + t.1, xorL s.2 t.2) else s
def red (ts : List Step) (s : Step) : Step := ts.foldl red1 s
def growT (n : Nat) (ts : List Step) (i : Nat) (e : T 7) : List Step :=
  if (red ts (e, unitL n i)).1 = 0 then ts else ts ++ [red ts (e, unitL n i)]
/-- The rows of the first elements. -/
def stepsT (l : List (T 7)) : Nat → List Step
  | 0 => []
  | i + 1 => growT l.length (stepsT l i) i (l.getD i 0)
def solveT (l : List (T 7)) (x : T 7) : Option (List Bool) :=
  if (red (stepsT l l.length) (x, List.replicate l.length false)).1 = 0 then some (red (stepsT l l.length) (x, List.replicate l.length false)).2 else none
/-- Sums of rows. -/
def Sums : List Step → T 7 → Prop
  | [], y => y = 0
  | t :: ts, y => Sums ts y ∨ Sums ts (y + t.1)
theorem Sums.zero : ∀ ts : List Step, Sums ts 0
  | [] => rfl
  | _ :: ts => Or.inl (Sums.zero ts)
theorem Sums.add : ∀ {ts : List Step} {a b : T 7}, Sums ts a → Sums ts b → Sums ts (a + b)
  | [], a, b, ha, hb => by
    have e1 : a = 0 := ha
    have e2 : b = 0 := hb
    rw [e1, e2]
    exact add_zero 0
  | t :: ts, a, b, ha, hb => by
    rcases ha with ha | ha <;> rcases hb with hb | hb
    · exact Or.inl (ha.add hb)
    · refine Or.inr ?_
      have := ha.add hb
      rwa [← add_assoc] at this
    · refine Or.inr ?_
      have := ha.add hb
      have e : a + t.1 + b = a + b + t.1 := by ac_rfl
      rwa [e] at this
    · refine Or.inl ?_
      have := ha.add hb
      have e : a + t.1 + (b + t.1) = a + b + (t.1 + t.1) := by ac_rfl
      rwa [e, add_self, add_zero] at this
theorem Sums.mem {t : Step} (ts : List Step) (h : t ∈ ts) : Sums ts t.1 := by
  induction ts with
  | nil => exact absurd h List.not_mem_nil
  | cons t' ts ih =>
    rcases List.mem_cons.1 h with e | h
    · subst e
      exact Or.inr ((add_self t.1).symm ▸ Sums.zero ts)
    · exact Or.inl (ih h)
theorem Sums.append : ∀ {ts us : List Step} {y : T 7}, Sums ts y → Sums (ts ++ us) y
  | [], us, y, h => by
    have e : y = 0 := h
    rw [e]
    exact Sums.zero _
  | t :: ts, us, y, h => by
    rcases h with h | h
    · exact Or.inl h.append
    · exact Or.inr h.append
theorem Sums.bits {P : T 7 → Prop} (h0 : P 0) (ha : ∀ a b, P a → P b → P (a + b)) : ∀ {ts : List Step} {y : T 7}, (∀ t ∈ ts, P t.1) → Sums ts y → P y
  | [], y, _, h => by
    have e : y = 0 := h
    rw [e]
    exact h0
  | t :: ts, y, ht, h => by
    rcases h with h | h
    · exact Sums.bits h0 ha (fun t' m => ht t' (List.mem_cons_of_mem _ m)) h
    · have h1 := Sums.bits h0 ha (fun t' m => ht t' (List.mem_cons_of_mem _ m)) h
      have h2 := ha _ _ h1 (ht t List.mem_cons_self)
      rw [add_assoc, add_self, add_zero] at h2
      exact h2
/-- No later row has the leading bit of one ahead of it. -/
def Tri (ts : List Step) : Prop := (∀ t ∈ ts, t.1 ≠ 0) ∧ ts.Pairwise (fun a b => hasL b.1 a.1 = false)
theorem tri_zero : ∀ {ts : List Step} {y : T 7}, Tri ts → Sums ts y → (∀ t ∈ ts, hasL y t.1 = false) → y = 0
  | [], y, _, h, _ => h
  | t :: ts, y, hT, h, hy => by
    obtain ⟨h1, h2⟩ := hT
    have h3 := List.pairwise_cons.1 h2
    have hT' : Tri ts := ⟨fun t' m => h1 t' (List.mem_cons_of_mem _ m), h3.2⟩
    rcases h with h | h
    · exact tri_zero hT' h (fun t' m => hy t' (List.mem_cons_of_mem _ m))
    · exfalso
      have h4 : hasL (y + t.1) t.1 = false := Sums.bits (P := fun z => hasL z t.1 = false) (hasL_zero _) (fun a b ha hb => by rw [hasL_add, ha, hb]; rfl) (fun t' m => h3.1 t' m) h
      rw [hasL_add, hy t List.mem_cons_self, hasL_self (h1 t List.mem_cons_self)] at h4
      exact absurd h4 (by decide)
theorem red_sums : ∀ (ts : List Step) (s : Step), Sums ts (s.1 + (red ts s).1)
  | [], s => add_self s.1
  | t :: ts, s => by
    have ih := red_sums ts (red1 s t)
    have e : red (t :: ts) s = red ts (red1 s t) := rfl
    rw [e]
    by_cases h : hasL s.1 t.1 = true
    · have e2 : red1 s t = (s.1 + t.1, xorL s.2 t.2) := if_pos h
      refine Or.inr ?_
      rw [e2] at ih ⊢
      have e3 : s.1 + (red ts (s.1 + t.1, xorL s.2 t.2)).1 + t.1 = s.1 + t.1 + (red ts (s.1 + t.1, xorL s.2 t.2)).1 := by ac_rfl
      rw [e3]
      exact ih
    · have e2 : red1 s t = s := if_neg h
      rw [e2] at ih ⊢
      exact Or.inl ih
theorem red_keeps : ∀ (ts : List Step) (s : Step) (y : T 7), (∀ t ∈ ts, hasL t.1 y = false) → hasL (red ts s).1 y = hasL s.1 y
  | [], s, y, _ => rfl
  | t :: ts, s, y, h => by
    have e : red (t :: ts) s = red ts (red1 s t) := rfl
    rw [e, red_keeps ts _ y (fun t' m => h t' (List.mem_cons_of_mem _ m))]
    unfold red1
    split
    · show hasL (s.1 + t.1) y = _
      rw [hasL_add, h t List.mem_cons_self, Bool.xor_false]
    · rfl
theorem red1_clear {s t : Step} (h : t.1 ≠ 0) : hasL (red1 s t).1 t.1 = false := by
  unfold red1
  by_cases hq : hasL s.1 t.1 = true
  · rw [if_pos hq]
    show hasL (s.1 + t.1) t.1 = false
    rw [hasL_add, hq, hasL_self h]
    rfl
  · rw [if_neg hq]
    exact Bool.eq_false_iff.2 hq
theorem red_clear {t : Step} (ts : List Step) : ∀ s : Step, Tri ts → t ∈ ts → hasL (red ts s).1 t.1 = false := by
  induction ts with
  | nil => exact fun s _ m => absurd m List.not_mem_nil
  | cons t0 ts ih =>
    intro s hT m
    obtain ⟨h1, h2⟩ := hT
    have h3 := List.pairwise_cons.1 h2
    have hT' : Tri ts := ⟨fun t' m => h1 t' (List.mem_cons_of_mem _ m), h3.2⟩
    have e : red (t0 :: ts) s = red ts (red1 s t0) := rfl
    rw [e]
    rcases List.mem_cons.1 m with e | m
    · subst e
      rw [red_keeps ts _ t.1 (fun t' m' => h3.1 t' m')]
      exact red1_clear (h1 t List.mem_cons_self)
    · exact ih _ hT' m
/-- Which elements a row is the sum of. -/
theorem red_comb (l : List (T 7)) (c : T 7) : ∀ (ts : List Step) (s : Step), (∀ t ∈ ts, t.2.length = l.length ∧ comb l t.2 = t.1) → s.2.length = l.length → comb l s.2 = s.1 + c → (red ts s).2.length = l.length ∧ comb l (red ts s).2 = (red ts s).1 + c
  | [], s, _, h1, h2 => ⟨h1, h2⟩
  | t :: ts, s, ht, h1, h2 => by
    have e : red (t :: ts) s = red ts (red1 s t) := rfl
    rw [e]
    obtain ⟨g1, g2⟩ := ht t List.mem_cons_self
    refine red_comb l c ts _ (fun t' m => ht t' (List.mem_cons_of_mem _ m)) ?_ ?_
    · unfold red1
      split
      · exact xorL_len h1 g1
      · exact h1
    · unfold red1
      split
      · show comb l (xorL s.2 t.2) = s.1 + t.1 + c
        rw [comb_xor l _ _ h1 g1, h2, g2]
        ac_rfl
      · exact h2
theorem steps_inv (l : List (T 7)) : ∀ i, i ≤ l.length → Tri (stepsT l i) ∧ (∀ t ∈ stepsT l i, t.2.length = l.length ∧ comb l t.2 = t.1) ∧ ∀ j, j < i → Sums (stepsT l i) (l.getD j 0)
  | 0, _ => ⟨⟨fun _ m => absurd m List.not_mem_nil, List.Pairwise.nil⟩, fun _ m => absurd m List.not_mem_nil, fun j hj => absurd hj (Nat.not_lt_zero j)⟩
  | i + 1, hi => by
    obtain ⟨hT, hC, hS⟩ := steps_inv l i (by omega)
    have hil : i < l.length := hi
    have eD : l.getD i 0 = l[i] := by rw [List.getD_eq_getElem?_getD, List.getElem?_eq_getElem hil, Option.getD_some]
    have hc := red_comb l 0 (stepsT l i) (l.getD i 0, unitL l.length i) hC (unitL_len _ _) (by rw [comb_unit l i hil, eD, add_zero])
    have hs := red_sums (stepsT l i) (l.getD i 0, unitL l.length i)
    have hcl : ∀ t ∈ stepsT l i, hasL (red (stepsT l i) (l.getD i 0, unitL l.length i)).1 t.1 = false := fun t m => red_clear _ _ hT m
    have e : stepsT l (i + 1) = growT l.length (stepsT l i) i (l.getD i 0) := rfl
    rw [e]
    unfold growT
    generalize red (stepsT l i) (l.getD i 0, unitL l.length i) = r at hc hs hcl ⊢
    rw [add_zero] at hc
    by_cases h : r.1 = 0
    · rw [if_pos h]
      refine ⟨hT, hC, fun j hj => ?_⟩
      by_cases hj2 : j < i
      · exact hS j hj2
      · obtain rfl : j = i := by omega
        have hs' : Sums (stepsT l j) (l.getD j 0 + r.1) := hs
        rw [h, add_zero] at hs'
        exact hs'
    · rw [if_neg h]
      refine ⟨⟨fun t m => ?_, ?_⟩, fun t m => ?_, fun j hj => ?_⟩
      · rcases List.mem_append.1 m with m | m
        · exact hT.1 t m
        · have e := List.mem_singleton.1 m
          subst e
          exact h
      · refine List.pairwise_append.2 ⟨hT.2, List.pairwise_singleton _ _, fun a ha b hb => ?_⟩
        have e := List.mem_singleton.1 hb
        subst e
        exact hcl a ha
      · rcases List.mem_append.1 m with m | m
        · exact hC t m
        · have e := List.mem_singleton.1 m
          subst e
          exact hc
      · by_cases hj2 : j < i
        · exact (hS j hj2).append
        · obtain rfl : j = i := by omega
          have hs' : Sums (stepsT l j) (l.getD j 0 + r.1) := hs
          have h1 := (hs'.append (us := [r])).add (Sums.mem (t := r) (stepsT l j ++ [r]) (List.mem_append_right _ (List.mem_singleton.2 rfl)))
          rw [add_assoc, add_self, add_zero] at h1
          exact h1
theorem solve_comb {l : List (T 7)} {x : T 7} {of : List Bool} (h : solveT l x = some of) : of.length = l.length ∧ comb l of = x := by
  obtain ⟨hT, hC, _⟩ := steps_inv l l.length (Nat.le_refl _)
  unfold solveT at h
  have hc := red_comb l x (stepsT l l.length) (x, List.replicate l.length false) hC (List.length_replicate ..) (by rw [comb_none, add_self])
  by_cases h0 : (red (stepsT l l.length) (x, List.replicate l.length false)).1 = 0
  · rw [if_pos h0] at h
    obtain rfl := Option.some.inj h
    rw [h0, zero_add] at hc
    exact hc
  · rw [if_neg h0] at h
    exact absurd h (by simp)
theorem comb_sums (l : List (T 7)) (ts : List Step) : ∀ (m : List (T 7)) (of : List Bool), (∀ e ∈ m, Sums ts e) → Sums ts (comb m of)
  | [], of, _ => by cases of <;> exact Sums.zero ts
  | x :: m, [], _ => Sums.zero ts
  | x :: m, b :: of, h => by
    show Sums ts ((if b = true then x else 0) + comb m of)
    refine Sums.add ?_ (comb_sums l ts m of (fun e he => h e (List.mem_cons_of_mem _ he)))
    split
    · exact h x List.mem_cons_self
    · exact Sums.zero ts
theorem solve_all {l : List (T 7)} {x : T 7} {of : List Bool} (h : comb l of = x) : ∃ o, solveT l x = some o := by
  obtain ⟨hT, hC, hS⟩ := steps_inv l l.length (Nat.le_refl _)
  have hm : ∀ e ∈ l, Sums (stepsT l l.length) e := fun e he => by
    obtain ⟨i, hi, rfl⟩ := List.getElem_of_mem he
    have := hS i hi
    rwa [List.getD_eq_getElem?_getD, List.getElem?_eq_getElem hi, Option.getD_some] at this
  have hx : Sums (stepsT l l.length) x := h ▸ comb_sums l _ l of hm
  have hr := red_sums (stepsT l l.length) (x, List.replicate l.length false)
  have hq := hx.add hr
  rw [← add_assoc] at hq
  have e : x + x + (red (stepsT l l.length) (x, List.replicate l.length false)).1 = (red (stepsT l l.length) (x, List.replicate l.length false)).1 := by rw [add_self, zero_add]
  have hq' : Sums (stepsT l l.length) (red (stepsT l l.length) (x, List.replicate l.length false)).1 := by
    have h9 : Sums (stepsT l l.length) (x + x + (red (stepsT l l.length) (x, List.replicate l.length false)).1) := hq
    rwa [e] at h9
  have h0 := tri_zero hT hq' (fun t m => red_clear _ _ hT m)
  exact ⟨_, if_pos h0⟩
end Go.Proofs.YtlegcabfgkccmaaT
