/- What hinders values, and the values' list. Conditions: those that each theorem names. -/
import Derived.Test.YthnaalocgoeddaaBrOf
import Derived.Test.YthnaalocgoeddaaBrList
import Derived.Test.YthnaalocgoeddaaBrBit
import Derived.Test.YthnaalocgoeddaaBrRefList
import Derived.Test.YthnaalocgoeddaaBrRefOf
import Derived.Test.YthnaalocgoeddaaLnM
import Derived.Test.YthnaalocgoeddaaHLof
import Derived.Test.YthnaalocgoeddaaPx3
import Derived.Test.YthnaalocgoeddaaPx4
import Derived.Test.YthnaalocgoeddaaPx5
set_option linter.unusedVariables false
set_option linter.unusedSimpArgs false
namespace Go.Proofs.Ythnaalocgoeddaa.Br
open Go.RowKit Go.Proofs.YthnaalocgoeddaaT Go.Proofs.Ythnaalocgoeddaa.P Go.Proofs.YthnaalocgoeddaaW.PrintWords Go.Proofs.YthnaalocgoeddaaW.PrintLast Go.Proofs.YthnaalocgoeddaaW.PrintMore
theorem Wide_none {a : Int} (h : a < 0 ∨ a > 7) : Ev (fun k => octet_Wide.f k a) 0 := by
  unfold octet_Wide.f
  by_cases h0 : a < 0
  · refine Ev.pos h0 (Ev.succ ?_)
    simp only [octet_Wide.j0]
    exact Ev.pos trivial (Ev.now _)
  · refine Ev.neg h0 (Ev.succ ?_)
    simp only [octet_Wide.j0]
    exact Ev.pos (decide_eq_true (by omega)) (Ev.now _)
theorem Wide_some {j : Nat} (h : j ≤ 7) : ∃ t : Int, t ≠ 0 ∧ Ev (fun k => octet_Wide.f k (j : Int)) t := by
  have : ∀ j : Nat, j ≤ 7 → octet_Wide.f 1 (j : Int) = some (if j ≤ 3 then 1 else ((2 ^ (j - 3) : Nat) : Int)) := by decide +kernel
  refine ⟨_, ?_, Ev.of (octet_Wide.mono _) (this j h)⟩
  by_cases h3 : j ≤ 3
  · rw [if_pos h3]
    decide
  · rw [if_neg h3]
    have := Nat.two_pow_pos (j - 3)
    omega
theorem pl_w {i : Nat} (h : i < 2 ^ 64) : hiW (pl i) = 0 ∧ loW (pl i) = (i : Int) := by
  unfold pl
  rw [dec7_lo h]
  refine ⟨?_, ?_⟩
  · show ((enc 6 0 : Nat) : Int) = 0
    rw [enc_zero]
    rfl
  · show ((enc 6 (dec 6 i) : Nat) : Int) = i
    rw [enc_dec_of_lt (by exact h)]
theorem place_f {i : Nat} (h : i < 2 ^ 62) : line_place.f (i : Int) = some (hiW (pl i), loW (pl i)) := by
  unfold line_place.f
  rw [(pl_w (show i < 2 ^ 64 by omega)).1, (pl_w (show i < 2 ^ 64 by omega)).2, wrap_u64 i (by omega)]
theorem enc_pl {i : Nat} (h : i < 2 ^ 2 ^ 7) : enc 7 (pl i) = i := enc_dec_of_lt h
/-- May there be places up to d? -/
def fitsB (j d : Nat) : Bool := decide (d ≤ 8 ∧ d < 2 ^ 2 ^ j)
theorem ofB_pl {j d : Nat} (hj : j ≤ 7) (hd : d ≤ 8) : ofB (j : Int) (pl d) = fitsB j d := by
  unfold ofB fitsB
  rw [Int.toNat_natCast, enc_pl (by have : 8 < 2 ^ 2 ^ 7 := by decide
                                    omega)]
  rw [Bool.eq_iff_iff, decide_eq_true_eq, decide_eq_true_eq]
  constructor
  · rintro ⟨_, _, h⟩
    exact ⟨hd, h⟩
  · rintro ⟨_, h⟩
    exact ⟨by omega, by omega, h⟩
theorem Fits_ev {j d : Nat} (hj : j ≤ 7) (hd : d < 2 ^ 40) : Ev (fun k => line_Fits.f k (j : Int) (d : Int)) (fitsB j d) := by
  unfold line_Fits.f
  obtain ⟨t, h0, ht⟩ := Wide_some hj
  refine Ev.bind ht (Ev.neg h0 (Ev.pos (by omega) ?_))
  by_cases h8 : d ≤ 8
  · refine Ev.pos (by omega) ?_
    refine Ev.bind (Ev.const (place_f (by omega))) ?_
    refine Ev.bind (Of_ev _ _) ?_
    rw [ofB_pl hj h8]
    exact Ev.now _
  · refine Ev.neg (by omega) ?_
    rw [show fitsB j d = false from decide_eq_false (by omega)]
    exact Ev.now _
theorem refFits_f {j d : Nat} (hj : j ≤ 7) : steepleref17_Fits.f (j : Int) (d : Int) = some (fitsB j d) := by
  have key : fitsB j d = decide ((d : Int) ≤ rd [1, 3, 8, 8, 8, 8, 8, 8] (j : Int)) := by
    unfold fitsB
    rw [Bool.eq_iff_iff, decide_eq_true_eq, decide_eq_true_eq]
    have cases8 : j = 0 ∨ j = 1 ∨ j = 2 ∨ j = 3 ∨ j = 4 ∨ j = 5 ∨ j = 6 ∨ j = 7 := by omega
    have big : ∀ q : Nat, 2 ≤ q → 8 < 2 ^ 2 ^ q := fun q hq => Nat.lt_of_lt_of_le (show 8 < 2 ^ 2 ^ 2 by decide) (Nat.pow_le_pow_right (by decide) (Nat.pow_le_pow_right (by decide) hq))
    rcases cases8 with rfl | rfl | rfl | rfl | rfl | rfl | rfl | rfl
    · show d ≤ 8 ∧ d < 2 ↔ (d : Int) ≤ 1
      omega
    · show d ≤ 8 ∧ d < 4 ↔ (d : Int) ≤ 3
      omega
    all_goals
      constructor
      · rintro ⟨h, _⟩
        show (d : Int) ≤ 8
        omega
      · intro h
        have h : (d : Int) ≤ 8 := h
        refine ⟨by omega, Nat.lt_of_le_of_lt (show d ≤ 8 by omega) (big _ (by decide))⟩
  rw [key]
  unfold steepleref17_Fits.f
  rw [Option.bind_some, if_neg (by omega), if_neg (by omega), if_neg (by omega), if_pos (by omega), if_pos (by show (j : Int) < 8; omega)]
theorem lineOf_ev (j : Int) : ∀ L : List (T 7), Ev (fun k => line_of.f k j (L.map elS)) (L.all (ofB j))
  | [] => by
    unfold line_of.f
    exact Ev.now _
  | x :: L => by
    have ih := lineOf_ev j L
    unfold line_of.f at ih ⊢
    show Ev (fun k => line_of.l k j (elS x :: L.map elS)) _
    unfold line_of.l
    refine Ev.bind (Of_ev _ _) ?_
    cases h : ofB j x with
    | true =>
      refine Ev.pos rfl ?_
      rw [List.all_cons, h, Bool.true_and]
      exact ih
    | false =>
      refine Ev.neg (by decide) ?_
      rw [List.all_cons, h, Bool.false_and]
      exact Ev.now _
theorem refAll_l0 (j : Int) (L : List (T 7)) (hL : L.length < 2 ^ 40) : ∀ d i : Nat, i + d = L.length → Ev (fun k => steepleref06_All.l0 k j (L.map elR) (i : Int)) ((L.drop i).all (ofB j))
  | 0, i, h => by
    refine Ev.succ ?_
    simp only [steepleref06_All.l0]
    rw [List.drop_of_length_le (by omega)]
    exact Ev.neg (by rw [List.length_map]; omega) (Ev.now _)
  | d + 1, i, h => by
    have hi : i < L.length := by omega
    refine Ev.succ ?_
    simp only [steepleref06_All.l0]
    refine Ev.pos (by rw [List.length_map]; omega) (Ev.pos (by omega) ?_)
    rw [rd_elR hi, elR_f0, elR_f1, wrap_succ i (by omega)]
    refine Ev.bind (refOf_ev _ _) ?_
    rw [List.drop_eq_getElem_cons hi, List.all_cons]
    cases h : ofB j L[i] with
    | true =>
      refine Ev.pos rfl ?_
      rw [Bool.true_and]
      exact refAll_l0 j L hL d (i + 1) (by omega)
    | false =>
      refine Ev.neg (by decide) ?_
      rw [Bool.false_and]
      exact Ev.now _
theorem refAll_ev (j : Int) (L : List (T 7)) (hL : L.length < 2 ^ 40) : Ev (fun k => steepleref06_All.f k j (L.map elR)) (L.all (ofB j)) := by
  unfold steepleref06_All.f
  exact refAll_l0 j L hL L.length 0 (by omega)
/-- What hinders values. -/
def mayE (a : Int) (L : List (T 7)) : Int := if a < 0 ∨ a > 7 then 1 else if L.length = 0 ∨ fitsB a.toNat (L.length - 1) = false then 6 else if L.all (ofB a) = true then 0 else 5
theorem may_ev (a : Int) (L : List (T 7)) (hL : L.length < 1000) : Ev (fun k => steeplelaw17_may.f k a (L.map elS)) (mayE a L) := by
  unfold steeplelaw17_may.f mayE
  by_cases h1 : a < 0 ∨ a > 7
  · rw [if_pos h1]
    have j0 : Ev (fun k => steeplelaw17_may.j0 k a (L.map elS) true) 1 := by
      refine Ev.succ ?_
      simp only [steeplelaw17_may.j0]
      exact Ev.pos trivial (Ev.now _)
    by_cases h0 : a < 0
    · exact Ev.pos h0 j0
    · refine Ev.neg h0 ?_
      rw [decide_eq_true (show a > 7 by omega)]
      exact j0
  · rw [if_neg h1]
    obtain ⟨j, rfl⟩ := Int.eq_ofNat_of_zero_le (show 0 ≤ a by omega)
    refine Ev.neg (by omega) ?_
    rw [decide_eq_false (show ¬ (j : Int) > 7 by omega)]
    refine Ev.succ ?_
    simp only [steeplelaw17_may.j0]
    refine Ev.neg (by decide) ?_
    have j1t : Ev (fun k => steeplelaw17_may.j1 k (j : Int) (L.map elS) true) 6 := by
      refine Ev.succ ?_
      simp only [steeplelaw17_may.j1]
      exact Ev.pos trivial (Ev.now _)
    rw [Int.toNat_natCast]
    by_cases h0 : L.length = 0
    · rw [if_pos (.inl h0)]
      exact Ev.pos (by rw [List.length_map]; omega) j1t
    · refine Ev.neg (by rw [List.length_map]; omega) ?_
      rw [List.length_map, show wrap64 ((L.length : Int) - 1) = ((L.length - 1 : Nat) : Int) by unfold wrap64; omega]
      refine Ev.bind (Ev.const (refFits_f (by omega))) ?_
      cases hf : fitsB j (L.length - 1) with
      | false =>
        rw [if_pos (.inr rfl)]
        exact j1t
      | true =>
        rw [if_neg (by simp [h0])]
        refine Ev.succ ?_
        simp only [steeplelaw17_may.j1]
        refine Ev.neg (by decide) ?_
        refine Ev.bind (Ref_ev L (by omega)) ?_
        refine Ev.bind (refAll_ev _ L (by omega)) ?_
        cases hA : L.all (ofB (j : Int)) with
        | true =>
          rw [if_pos (rfl : true = true)]
          exact Ev.const rfl
        | false =>
          rw [if_neg (by decide : ¬ (false = true))]
          exact Ev.const rfl
theorem ask_ev (a : Int) (L : List (T 7)) (hL : L.length < 1000) : Ev (fun k => line_ask.f k a (wrap64 ((L.length : Int) - 1)) (L.map elS)) (mayE a L) := by
  unfold line_ask.f mayE
  by_cases h1 : a < 0 ∨ a > 7
  · rw [if_pos h1]
    exact Ev.bind (Wide_none h1) (Ev.pos rfl (Ev.now _))
  · rw [if_neg h1]
    obtain ⟨j, rfl⟩ := Int.eq_ofNat_of_zero_le (show 0 ≤ a by omega)
    obtain ⟨t, ht0, ht⟩ := Wide_some (show j ≤ 7 by omega)
    refine Ev.bind ht (Ev.neg ht0 ?_)
    rw [Int.toNat_natCast]
    have j0t : Ev (fun k => line_ask.j0 k (j : Int) (L.map elS) true) 6 := by
      refine Ev.succ ?_
      simp only [line_ask.j0]
      exact Ev.pos trivial (Ev.now _)
    by_cases h0 : L.length = 0
    · rw [if_pos (.inl h0)]
      exact Ev.pos (by rw [List.length_map]; omega) j0t
    · refine Ev.neg (by rw [List.length_map]; omega) ?_
      rw [show wrap64 ((L.length : Int) - 1) = ((L.length - 1 : Nat) : Int) by unfold wrap64; omega, wrap_succ _ (by omega)]
      refine Ev.neg (by rw [List.length_map]; omega) ?_
      refine Ev.bind (Fits_ev (by omega) (by omega)) ?_
      cases hf : fitsB j (L.length - 1) with
      | false =>
        rw [if_pos (.inr rfl)]
        exact j0t
      | true =>
        rw [if_neg (by simp [h0])]
        refine Ev.succ ?_
        simp only [line_ask.j0]
        refine Ev.neg (by decide) ?_
        refine Ev.bind (lineOf_ev _ L) ?_
        cases hA : L.all (ofB (j : Int)) with
        | true =>
          rw [if_pos (rfl : true = true)]
          exact Ev.const rfl
        | false =>
          rw [if_neg (by decide : ¬ (false = true))]
          exact Ev.const rfl
/-- Nothing hinders: what is known then. -/
theorem may_ok {a : Int} {L : List (T 7)} (h : mayE a L = 0) : ∃ j : Nat, a = (j : Int) ∧ j ≤ 7 ∧ 0 < L.length ∧ L.length ≤ 9 ∧ (∀ m, m < L.length → InL j (pl m)) ∧ ∀ x ∈ L, InL j x := by
  unfold mayE at h
  split at h
  · cases h
  · rename_i h1
    split at h
    · cases h
    · rename_i h2
      split at h
      · rename_i h3
        obtain ⟨j, rfl⟩ := Int.eq_ofNat_of_zero_le (show 0 ≤ a by omega)
        rw [Int.toNat_natCast] at h2
        have hf : fitsB j (L.length - 1) = true := by
          cases hq : fitsB j (L.length - 1) with
          | true => rfl
          | false => exact absurd (.inr hq) h2
        unfold fitsB at hf
        rw [decide_eq_true_eq] at hf
        have h0 : L.length ≠ 0 := fun e => h2 (.inl e)
        refine ⟨j, rfl, by omega, by omega, by omega, fun m hm => ?_, fun x hx => ?_⟩
        · show enc 7 (pl m) < _
          rw [enc_pl (Nat.lt_of_le_of_lt (show m ≤ 8 by omega) (by decide))]
          omega
        · have := List.all_eq_true.1 h3 x hx
          obtain ⟨j', e, _, hi⟩ := ofB_iff.1 this
          obtain rfl : j = j' := by omega
          exact hi
      · cases h
end Go.Proofs.Ythnaalocgoeddaa.Br
