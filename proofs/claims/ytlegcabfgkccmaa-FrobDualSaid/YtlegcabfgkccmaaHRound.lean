/- A region in a round, walked as a region anywhere: no defer statement stands in it. Conditions: those that each theorem names. -/
import Derived.Test.YtlegcabfgkccmaaPx0
import Derived.Test.YtlegcabfgkccmaaHRange
import Derived.OrdersIn
import Derived.TacticsIn
set_option linter.unusedVariables false
namespace Go.Rc
open Go.RowKit
variable {P : Program} {n l : Nat} {ops : Array Oper} {Q : Exit → Act → World → Prop}
def plainB (ops : List Oper) : Bool := ops.all fun o => match o.op with
  | .defer _ => false
  | _ => true
theorem plainB_spec {o : Oper} {rest : List Oper} (h : plainB (o :: rest) = true) : (∀ c, o.op ≠ .defer c) ∧ plainB rest = true := by
  unfold plainB at h ⊢
  rw [List.all_cons, Bool.and_eq_true] at h
  refine ⟨fun c e => ?_, h.2⟩
  have := h.1
  rw [e] at this
  cases this
theorem upon_round {o : Oper} {a : Act} {K : Act → World → Prop} {r : Result Next} (h : o.upon P a K Q r) : o.uponIn (Fence.wide.inRound l) n P a K Q r := by
  cases r with
  | ok x w' =>
    cases x with
    | value v => exact h
    | skip => exact h
    | «defer» d => exact h
    | enter f args => exact ⟨fun e => absurd (show false = true from e) (by decide), CallsIn.inRound l (callsIn_wide.2 h)⟩
    | row row args =>
      refine ⟨fun e => absurd (show false = true from e) (by decide), fun c cs _ => ?_⟩
      obtain ⟨v, w'', r, s⟩ := h c cs
      exact ⟨v, w'', r, stepsIn_wide.2 s⟩
    | round _ _ _ _ _ => exact h.elim
    | _ => exact h.elim
  | halt x w' =>
    cases x with
    | panic v => exact h
    | _ => exact h.elim
theorem op_round {o : Oper} {a : Act} {w : World} {K : Act → World → Prop} (hd : ∀ c, o.op ≠ .defer c) (h : o.wp P a w K Q) : o.wpIn (Fence.wide.inRound l) n P a w K Q := by
  refine ⟨fun _ _ => trivial, ?_⟩
  rw [Oper.semAt_eq _ _ _ hd]
  exact upon_round h
theorem list_round (hQ : ¬ LetsOut Q) : ∀ (rest : List Oper) (a : Act) (w : World), plainB rest = true → wpList P ops Q rest a w → wpListIn (Fence.wide.inRound l) n P ops Q rest a w
  | [], _, _, _, h => h
  | o :: rest, a, w, hp, h => by
    obtain ⟨hd, hp2⟩ := plainB_spec hp
    unfold wpList at h
    unfold wpListIn
    by_cases hw : Region.wanted o (yielded ops a.tmps) = true
    · rw [if_pos hw] at h ⊢
      rcases h with h | h
      · exact op_round hd (Oper.wp_mono (fun a w => list_round hQ rest a w hp2) h)
      · exact absurd h.2 hQ
    · rw [if_neg hw] at h ⊢
      exact ⟨fun _ _ => trivial, list_round hQ rest _ _ hp2 h⟩
/-- A plain region. -/
theorem region_round {id : Nat} {a : Act} {w : World} (hQ : ¬ LetsOut Q) (hp : plainB ops.toList = true) (h : wpList P ops Q ops.toList a w) : (Code.region id ops false).wpIn (Fence.wide.inRound l) n P Q a w :=
  wpIn_region_list (list_round hQ _ _ _ hp h)
theorem plainB_at : ∀ {os : List Oper} {i : Nat} {o : Oper}, plainB os = true → os[i]? = some o → ∀ c, o.op ≠ .defer c
  | [], _, _, _, h => by simp at h
  | _ :: _, 0, _, hp, h => by
    obtain rfl := Option.some.inj h
    exact (plainB_spec hp).1
  | _ :: os, i + 1, _, hp, h => plainB_at (plainB_spec hp).2 h
theorem any_round (hQ : ¬ LetsOut Q) (hp : plainB ops.toList = true) {md : Region.Mode} : ∀ (fuel : Nat) (listed : Array Bool) (a : Act) (w : World), wpAny P md ops Q fuel listed a w → wpAnyIn (Fence.wide.inRound l) n P md ops Q fuel listed a w
  | 0, _, _, _, h => h
  | fuel + 1, listed, a, w, h => by
    refine ⟨h.1, fun i hi => ?_⟩
    have h2 := h.2 i hi
    unfold wpOp at h2
    unfold wpOpIn
    cases ho : ops[i]? with
    | none =>
      rw [ho] at h2
      exact any_round hQ hp fuel _ a w h2
    | some o =>
      rw [ho] at h2
      have hd := plainB_at hp (i := i) (o := o) (by rw [Array.getElem?_toList]; exact ho)
      dsimp only at h2 ⊢
      by_cases hw : Region.wanted o (yielded ops a.tmps) = true
      · rw [if_pos hw] at h2 ⊢
        rcases h2 with h2 | h2
        · exact op_round hd (Oper.wp_mono (fun a w => any_round hQ hp fuel _ a w) h2)
        · exact absurd h2.2 hQ
      · rw [if_neg hw] at h2 ⊢
        exact ⟨fun _ _ => trivial, any_round hQ hp fuel _ _ _ h2⟩
theorem out_then {K : Act → World → Prop} (h : ¬ LetsOut Q) : ¬ LetsOut (Exit.then K Q) := h
theorem out_block {id : Nat} (h : ¬ LetsOut Q) : ¬ LetsOut (Exit.inBlock id Q) := h
theorem out_normal {R : Act → World → Prop} : ¬ LetsOut (fun e a w => e = Exit.normal ∧ R a w) := fun ⟨_, _, h, _⟩ => by cases h
end Go.Rc
namespace Go.Proofs.YtlegcabfgkccmaaW.PrintLast
open Go Go.RowKit Go.Rc
variable {P : Program} {ops : Array Oper} {Q : Exit → Act → World → Prop} {S : World → Prop} {ds : List Nat}
/-- start_, in a round. -/
theorem start_round {id n m l : Nat} {a : Act} {w : World} (lb : Array Bool) (hQ : ¬ LetsOut Q) (hp : plainB ops.toList = true) (hm : P.follows .mixedOrders = true) (hn : ops.size = n) (hl : Array.replicate n false = lb) (hS : S w.drew)
    (h : S w.drew → wpAnyLast P .any ops Q S ds n lb a w.drew) : (Code.region id ops true).wpIn (Fence.wide.inRound l) m P Q a w := by
  subst hn
  subst hl
  exact wpIn_region_any hm (any_round hQ hp _ _ _ _ (wpAny_of_last _ _ _ _ (h hS)))
end Go.Proofs.YtlegcabfgkccmaaW.PrintLast
