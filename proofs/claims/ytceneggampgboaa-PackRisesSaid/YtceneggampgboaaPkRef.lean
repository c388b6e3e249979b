/- Vectors in the document's words, and that both are the same. Conditions: a level from 0 to 6, as many elements as there may be. -/
import Derived.Test.YtceneggampgboaaPkVec
import Derived.Test.YtceneggampgboaaBrRefOf
import Derived.Test.YtceneggampgboaaBrRefBit
import Derived.Test.YtceneggampgboaaBrRefList
import Derived.Test.YtceneggampgboaaPx10
import Derived.Test.YtceneggampgboaaPx5
import Derived.Test.YtceneggampgboaaPx6
import Derived.Test.YtceneggampgboaaPx7
import Derived.Test.YtceneggampgboaaPx8
set_option linter.unusedVariables false
set_option linter.unusedSimpArgs false
namespace Go.Proofs.Ytceneggampgboaa.Br
open Go.RowKit Go.Proofs.YtceneggampgboaaT Go.Proofs.Ytceneggampgboaa.P Go.Proofs.YtceneggampgboaaW.PrintWords Go.Proofs.YtceneggampgboaaW.PrintLast Go.Proofs.YtceneggampgboaaW.PrintMore
theorem refMake_l0 {j : Nat} (hj : j ≤ 6) (L : List (T 7)) (hL : L.length ≤ 65536) (hin : ∀ x ∈ L, InL j x) : ∀ d i : Nat, i + d = L.length →
    Ev (fun k => steepleref03_Make.l0 k (j : Int) (L.map elR) (i : Int)) ((j : Int), L.map elR, (0 : Int))
  | 0, i, h => by
    refine Ev.succ ?_
    simp only [steepleref03_Make.l0]
    exact Ev.neg (by rw [List.length_map]; omega) (Ev.now _)
  | d + 1, i, h => by
    have hi : i < L.length := by omega
    refine Ev.succ ?_
    simp only [steepleref03_Make.l0]
    refine Ev.pos (by rw [List.length_map]; omega) (Ev.pos (by omega) ?_)
    rw [rd_elR hi, elR_f0, elR_f1]
    refine Ev.bind (refOf_ev _ _) ?_
    refine Ev.pos (ofB_nat (by omega) (hin _ (List.getElem_mem hi))) ?_
    rw [wrap_succ i (by omega)]
    exact refMake_l0 hj L hL hin d (i + 1) (by omega)
theorem refMake_l0_bad {j : Nat} (hj : j ≤ 6) (L : List (T 7)) (hL : L.length ≤ 65536) {m : Nat} (hm : m < L.length) (hbad : ¬ InL j L[m]) (hin : ∀ i (h : i < L.length), i < m → InL j L[i]) : ∀ d i : Nat, i + d = m →
    Ev (fun k => steepleref03_Make.l0 k (j : Int) (L.map elR) (i : Int)) ((0 : Int), ([] : List S44), (5 : Int))
  | 0, i, h => by
    obtain rfl : i = m := by omega
    refine Ev.succ ?_
    simp only [steepleref03_Make.l0]
    refine Ev.pos (by rw [List.length_map]; omega) (Ev.pos (by omega) ?_)
    rw [rd_elR hm, elR_f0, elR_f1]
    refine Ev.bind (refOf_ev _ _) ?_
    rw [ofB_false_of (by omega) hbad]
    exact Ev.neg (by decide) (Ev.now _)
  | d + 1, i, h => by
    have hi : i < L.length := by omega
    refine Ev.succ ?_
    simp only [steepleref03_Make.l0]
    refine Ev.pos (by rw [List.length_map]; omega) (Ev.pos (by omega) ?_)
    rw [rd_elR hi, elR_f0, elR_f1]
    refine Ev.bind (refOf_ev _ _) ?_
    refine Ev.pos (ofB_nat (by omega) (hin i hi (by omega))) ?_
    rw [wrap_succ i (by omega)]
    exact refMake_l0_bad hj L hL hm hbad hin d (i + 1) (by omega)
theorem refMake_in {j : Nat} (hj : j ≤ 6) {L : List (T 7)} (hL : L.length ≤ 65536) {r : Int × List S44 × Int} (h : Ev (fun k => steepleref03_Make.l0 k (j : Int) (L.map elR) 0) r) :
    Ev (fun k => steepleref03_Make.f k (j : Int) (L.map elR)) r := by
  unfold steepleref03_Make.f
  refine Ev.neg (by omega) (Ev.succ ?_)
  simp only [steepleref03_Make.j0]
  exact Ev.neg (by rw [decide_eq_true_eq]; omega) (Ev.neg (by rw [List.length_map]; omega) h)
theorem refMake_err {a : Int} (L : List (T 7)) (h : askE a L.length ≠ 0) : Ev (fun k => steepleref03_Make.f k a (L.map elR)) ((0 : Int), ([] : List S44), askE a L.length) := by
  unfold steepleref03_Make.f
  unfold askE at h ⊢
  by_cases h0 : a < 0
  · rw [if_pos (.inl h0)]
    refine Ev.pos h0 (Ev.succ ?_)
    simp only [steepleref03_Make.j0]
    exact Ev.pos trivial (Ev.now _)
  · refine Ev.neg h0 (Ev.succ ?_)
    simp only [steepleref03_Make.j0]
    by_cases h6 : a > 6
    · rw [if_pos (.inr h6)]
      exact Ev.pos (by rw [decide_eq_true_eq]; omega) (Ev.now _)
    · rw [if_neg (by omega)] at h ⊢
      refine Ev.neg (by rw [decide_eq_true_eq]; omega) ?_
      by_cases hn : L.length > 65536
      · rw [if_pos hn]
        exact Ev.pos (by rw [List.length_map]; omega) (Ev.now _)
      · rw [if_neg hn] at h
        exact absurd rfl h
/-- The bits from an element on are none. -/
def Zb (j n : Nat) (b : Nat → Bool) : Prop := ∀ t, n * 2 ^ j ≤ t → b t = false
theorem Zb_lb (j : Nat) (L : List (T 7)) : Zb j L.length (lb j L) := fun t h => lb_big h
/-- Both make the same vector, or have the same error. -/
theorem both_make (a : Int) (L : List (T 7)) : ∃ (j n : Nat) (b : Nat → Bool) (e : Int), j ≤ 6 ∧ n ≤ L.length ∧ n ≤ 65536 ∧ Zb j n b ∧
    (e = 0 → a = (j : Int) ∧ n = L.length ∧ (∀ x ∈ L, InL j x) ∧ b = lb j L) ∧ (e ≠ 0 → n = 0 ∧ j = 0) ∧
    Ev (fun k => pack_Make.f k a (L.map elS)) ((j : Int), (n : Int), wordsB b (sz j n), e) ∧ Ev (fun k => steepleref03_Make.f k a (L.map elR)) ((j : Int), (els j b n).map elR, e) := by
  have hz0 : wordsB (fun _ => false) (sz 0 0) = [] := by rw [wordsB_zero]; rfl
  by_cases hE : askE a L.length = 0
  · have hr : 0 ≤ a ∧ a ≤ 6 ∧ L.length ≤ 65536 := by
      unfold askE at hE
      by_cases h1 : a < 0 ∨ a > 6
      · rw [if_pos h1] at hE; omega
      · rw [if_neg h1] at hE
        by_cases h2 : L.length > 65536
        · rw [if_pos h2] at hE; omega
        · omega
    obtain ⟨h0, h6, hL⟩ := hr
    obtain ⟨j, rfl⟩ := Int.eq_ofNat_of_zero_le h0
    have hj : j ≤ 6 := by omega
    by_cases hin : ∀ x ∈ L, InL j x
    · refine ⟨j, L.length, lb j L, 0, hj, Nat.le_refl _, hL, Zb_lb j L, fun _ => ⟨rfl, rfl, hin, rfl⟩, fun h => absurd rfl h, Make_ok hj L hL hin, ?_⟩
      rw [els_lb (by omega) hin]
      exact refMake_in hj hL (refMake_l0 hj L hL hin L.length 0 (by omega))
    · have hex : ∃ m, ∃ h : m < L.length, ¬ InL j L[m] := by
        apply Classical.byContradiction
        intro hn
        apply hin
        intro x hx
        obtain ⟨i, hi, rfl⟩ := List.getElem_of_mem hx
        apply Classical.byContradiction
        intro hb
        exact hn ⟨i, hi, hb⟩
      have hmin : ∃ m, (∃ h : m < L.length, ¬ InL j L[m]) ∧ ∀ i, i < m → ¬ ∃ h : i < L.length, ¬ InL j L[i] := by
        obtain ⟨m, hm⟩ := hex
        induction m using Nat.strongRecOn with
        | ind m ih =>
          by_cases hlt : ∃ i, i < m ∧ ∃ h : i < L.length, ¬ InL j L[i]
          · obtain ⟨i, hi, h⟩ := hlt
            exact ih i hi h
          · exact ⟨m, hm, fun i hi h => hlt ⟨i, hi, h⟩⟩
      obtain ⟨m, ⟨hm, hb⟩, hlt⟩ := hmin
      have hall : ∀ i (h : i < L.length), i < m → InL j L[i] := fun i h hi => Classical.byContradiction fun hn => hlt i hi ⟨h, hn⟩
      refine ⟨0, 0, fun _ => false, 5, by omega, Nat.zero_le _, by omega, fun _ _ => rfl, fun h => absurd h (by decide), fun _ => ⟨rfl, rfl⟩, ?_, ?_⟩
      · rw [hz0]
        exact Make_bad hj L hL hm hb hall
      · exact refMake_in hj hL (refMake_l0_bad hj L hL hm hb hall m 0 (by omega))
  · refine ⟨0, 0, fun _ => false, askE a L.length, by omega, Nat.zero_le _, by omega, fun _ _ => rfl, fun h => absurd h hE, fun _ => ⟨rfl, rfl⟩, ?_, ?_⟩
    · rw [hz0]
      exact Make_err L hE
    · exact refMake_err L hE
theorem width_f {j : Nat} (hj : j ≤ 6) : steepleref03_width.f (j : Int) = some ((2 ^ j : Nat) : Int) := by
  have : ∀ j : Nat, j < 7 → steepleref03_width.f (j : Int) = some ((2 ^ j : Nat) : Int) := by decide
  exact this j (by omega)
/-- The bits below a place. -/
def cutB (i : Nat) (b : Nat → Bool) (t : Nat) : Bool := decide (t < i) && b t
theorem has_el {j n t : Nat} (hj : j ≤ 6) (b : Nat → Bool) : hasE (el j b (t / 2 ^ j)) ((t % 2 ^ j : Nat) : Int) = b t := by
  have h1 := Nat.mod_lt t (Nat.two_pow_pos j)
  have h2 : 2 ^ j ≤ 64 := Nat.pow_le_pow_right (n := 2) (by decide) hj
  rw [hasE_nat _ (by omega), el_bit (by omega) b _ h1]
  congr 1
  have := Nat.div_add_mod t (2 ^ j)
  rw [Nat.mul_comm] at this
  exact this
theorem or_bit {b : Nat → Bool} {m i : Nat} (hi : i / 64 < m) (hb : b i = true) :
    (wordsB (cutB i b) m).set (i / 64) (((num (fun t => cutB i b (64 * (i / 64) + t)) 64 ||| 2 ^ (i % 64) : Nat)) : Int) = wordsB (cutB (i + 1) b) m := by
  refine wordsB_set hi (Nat.or_lt_two_pow (num64 _) (Nat.pow_lt_pow_right (by decide) (Nat.mod_lt _ (by decide)))) ?_ ?_
  · intro t ht
    rw [Nat.testBit_or, num_bit, decide_eq_true ht, Bool.true_and, Nat.testBit_two_pow]
    unfold cutB
    by_cases e : i % 64 = t
    · have e2 : 64 * (i / 64) + t = i := by omega
      rw [e2, decide_eq_true e, hb, decide_eq_true (by omega : i < i + 1)]
      simp
    · rw [decide_eq_false e, Bool.or_false]
      congr 1
      rw [decide_eq_decide]
      omega
  · intro v t hv ht
    unfold cutB
    congr 1
    rw [decide_eq_decide]
    omega
theorem no_bit {b : Nat → Bool} {m i : Nat} (hb : b i = false) : wordsB (cutB i b) m = wordsB (cutB (i + 1) b) m := by
  refine wordsB_congr fun t _ => ?_
  unfold cutB
  by_cases e : t = i
  · rw [e, hb, Bool.and_false, Bool.and_false]
  · congr 1
    rw [decide_eq_decide]
    omega
theorem refWords_step {j n : Nat} (hj : j ≤ 6) (hn : n ≤ 131072) (b : Nat → Bool) {i m : Nat} (hi : i < n * 2 ^ j) (hm : i / 64 < m) {r : List Int}
    (nx : Ev (fun k => steepleref03_Words.l0 k (wordsB (cutB (i + 1) b) m) ((2 ^ j : Nat) : Int) ((i + 1 : Nat) : Int) (j : Int) ((els j b n).map elR)) r) :
    Ev (fun k => if ((2 ^ j : Nat) : Int) = 0 then (none) else (if 0 ≤ (wrap64 (Int.tdiv (i : Int) ((2 ^ j : Nat) : Int))) then (if (wrap64 (Int.tdiv (i : Int) ((2 ^ j : Nat) : Int))) < (((els j b n).map elR).length : Int) then ((steepleref02_Has.f k ((rd_T44 ((els j b n).map elR) (wrap64 (Int.tdiv (i : Int) ((2 ^ j : Nat) : Int)))).f0) ((rd_T44 ((els j b n).map elR) (wrap64 (Int.tdiv (i : Int) ((2 ^ j : Nat) : Int)))).f1) (Int.tmod (i : Int) ((2 ^ j : Nat) : Int))).bind fun t234 => (if t234 = true then (if 0 ≤ (wrap64 (Int.tdiv (i : Int) 64)) then (if (wrap64 (Int.tdiv (i : Int) 64)) < ((wordsB (cutB i b) m).length : Int) then (if 0 ≤ (IntKind.u64.wrap (Int.tmod (i : Int) 64)) then (steepleref03_Words.l0 k ((wordsB (cutB i b) m).set ((wrap64 (Int.tdiv (i : Int) 64)) : Int).toNat (Go.bits .or .u64 (rd (wordsB (cutB i b) m) (wrap64 (Int.tdiv (i : Int) 64))) (shl .u64 1 (IntKind.u64.wrap (Int.tmod (i : Int) 64))))) ((2 ^ j : Nat) : Int) (wrap64 ((i : Int) + 1)) (j : Int) ((els j b n).map elR)) else (none)) else (none)) else (none)) else (steepleref03_Words.l0 k (wordsB (cutB i b) m) ((2 ^ j : Nat) : Int) (wrap64 ((i : Int) + 1)) (j : Int) ((els j b n).map elR)))) else (none)) else (none))) r := by
  have h0 := Nat.two_pow_pos j
  have h2 : 2 ^ j ≤ 64 := Nat.pow_le_pow_right (n := 2) (by decide) hj
  have hnj : n * 2 ^ j ≤ 131072 * 64 := Nat.mul_le_mul hn h2
  have hd : i / 2 ^ j < n := (Nat.div_lt_iff_lt_mul h0).2 hi
  have hdi := Nat.div_le_self i (2 ^ j)
  have e64 : wrap64 (Int.tdiv (i : Int) 64) = ((i / 64 : Nat) : Int) := by
    have := tdiv_nat i 64
    rw [show ((64 : Nat) : Int) = 64 from rfl] at this
    rw [this]
    exact wrap_nat (by omega)
  have m64 : Int.tmod (i : Int) 64 = ((i % 64 : Nat) : Int) := by
    have := tmod_nat i 64
    rw [show ((64 : Nat) : Int) = 64 from rfl] at this
    exact this
  refine Ev.neg (by omega) ?_
  rw [tdiv_nat, wrap_nat (by omega : i / 2 ^ j < 2 ^ 62), tmod_nat, e64, m64, wrap_succ i (by omega)]
  refine Ev.pos (Int.natCast_nonneg _) (Ev.pos (by rw [List.length_map, els_length]; omega) ?_)
  have hd' : i / 2 ^ j < (els j b n).length := by rw [els_length]; exact hd
  rw [rd_elR hd', els_get hd', elR_f0, elR_f1]
  refine Ev.bind (refHas_ev _ _) ?_
  rw [has_el (n := n) hj b]
  by_cases hb : b i = true
  · refine Ev.pos hb (Ev.pos (Int.natCast_nonneg _) (Ev.pos (by rw [wordsB_length]; omega) ?_))
    rw [wrap_u64 _ (by omega)]
    refine Ev.pos (Int.natCast_nonneg _) ?_
    rw [Int.toNat_natCast, rd_wordsB hm, shl_one (by omega), bits_or _ _ (num64 _) (Nat.pow_lt_pow_right (by decide) (by omega)), or_bit hm hb]
    exact nx
  · have hb : b i = false := by simpa using hb
    refine Ev.neg (by rw [hb]; decide) ?_
    rw [no_bit hb]
    exact nx
theorem refWords_l0 {j n : Nat} (hj : j ≤ 6) (hn : n ≤ 131072) (b : Nat → Bool) (hz : Zb j n b) : ∀ d i : Nat, i + d = n * 2 ^ j →
    Ev (fun k => steepleref03_Words.l0 k (wordsB (cutB i b) ((i + 63) / 64)) ((2 ^ j : Nat) : Int) (i : Int) (j : Int) ((els j b n).map elR)) (wordsB b (sz j n))
  | 0, i, h => by
    have h2 : 2 ^ j ≤ 64 := Nat.pow_le_pow_right (n := 2) (by decide) hj
    have hnj : n * 2 ^ j ≤ 131072 * 64 := Nat.mul_le_mul hn h2
    refine Ev.succ ?_
    simp only [steepleref03_Words.l0]
    refine Ev.neg ?_ ?_
    · rw [List.length_map, els_length, ← Int.natCast_mul, wrap_nat (by omega)]
      omega
    · have e : wordsB (cutB i b) ((i + 63) / 64) = wordsB b (sz j n) := by
        rw [sz_bits hj, show n * 2 ^ j = i by omega]
        refine wordsB_congr fun t _ => ?_
        unfold cutB
        by_cases ht : t < i
        · rw [decide_eq_true ht, Bool.true_and]
        · rw [decide_eq_false ht, Bool.false_and, hz t (by omega)]
      rw [e]
      exact Ev.now _
  | d + 1, i, h => by
    have h2 : 2 ^ j ≤ 64 := Nat.pow_le_pow_right (n := 2) (by decide) hj
    have hnj : n * 2 ^ j ≤ 131072 * 64 := Nat.mul_le_mul hn h2
    have nx := refWords_l0 hj hn b hz d (i + 1) (by omega)
    have m64 : Int.tmod (i : Int) 64 = ((i % 64 : Nat) : Int) := by
      have := tmod_nat i 64
      rw [show ((64 : Nat) : Int) = 64 from rfl] at this
      exact this
    refine Ev.succ ?_
    simp only [steepleref03_Words.l0]
    refine Ev.pos ?_ ?_
    · rw [List.length_map, els_length, ← Int.natCast_mul, wrap_nat (by omega)]
      omega
    · by_cases h64 : i % 64 = 0
      · refine Ev.pos (by rw [m64, h64]; rfl) (Ev.pos (by rw [wordsB_length]; omega) ?_)
        refine Ev.bind (Ev.now _) ?_
        have e : wordsB (cutB i b) ((i + 63) / 64) ++ [0] = wordsB (cutB i b) ((i + 1 + 63) / 64) := by
          rw [show (i + 1 + 63) / 64 = (i + 63) / 64 + 1 by omega, wordsB_succ, num_false 64 (fun t ht => by unfold cutB; rw [decide_eq_false (by omega), Bool.false_and])]
          rfl
        rw [e]
        exact refWords_step hj hn b (by omega) (by omega) nx
      · refine Ev.neg (by rw [m64]; omega) ?_
        rw [show (i + 63) / 64 = (i + 1 + 63) / 64 by omega]
        exact refWords_step hj hn b (by omega) (by omega) nx
theorem refWords_ev {j n : Nat} (hj : j ≤ 6) (hn : n ≤ 131072) (b : Nat → Bool) (hz : Zb j n b) :
    Ev (fun k => steepleref03_Words.f k (j : Int) ((els j b n).map elR)) (wordsB b (sz j n)) := by
  unfold steepleref03_Words.f
  refine Ev.bind (Ev.const (width_f hj)) ?_
  exact refWords_l0 hj hn b hz (n * 2 ^ j) 0 (by omega)
theorem Same_l0 (L : List (T 7)) (hL : L.length < 2 ^ 40) : ∀ d i : Nat, i + d = L.length → Ev (fun k => steeplelaw01_Same.l0 k (L.map elS) (L.map elR) (i : Int)) true
  | 0, i, h => by
    refine Ev.succ ?_
    simp only [steeplelaw01_Same.l0]
    exact Ev.neg (by rw [List.length_map]; omega) (Ev.now _)
  | d + 1, i, h => by
    have hi : i < L.length := by omega
    refine Ev.succ ?_
    simp only [steeplelaw01_Same.l0]
    refine Ev.pos (by rw [List.length_map]; omega) (Ev.pos (by omega) (Ev.pos (by rw [List.length_map]; omega) ?_))
    rw [rd_elS hi, rd_elR hi, elR_f0, elR_f1, elS_f0, elS_f1, wrap_succ i (by omega)]
    exact Ev.neg (by rw [same_pair rfl]; decide) (Same_l0 L hL d (i + 1) (by omega))
theorem Same_ev (L : List (T 7)) (hL : L.length < 2 ^ 40) : Ev (fun k => steeplelaw01_Same.f k (L.map elS) (L.map elR)) true := by
  unfold steeplelaw01_Same.f
  exact Ev.pos (by rw [List.length_map, List.length_map]) (Same_l0 L hL L.length 0 (by omega))
theorem same_l0 (l : List Int) (hl : l.length < 2 ^ 40) : ∀ d i : Nat, i + d = l.length → Ev (fun k => steeplelaw03_same.l0 k l l (i : Int)) true
  | 0, i, h => by
    refine Ev.succ ?_
    simp only [steeplelaw03_same.l0]
    exact Ev.neg (by omega) (Ev.now _)
  | d + 1, i, h => by
    refine Ev.succ ?_
    simp only [steeplelaw03_same.l0]
    refine Ev.pos (by omega) (Ev.pos (by omega) (Ev.pos (by omega) (Ev.pos trivial ?_)))
    rw [wrap_succ i (by omega)]
    exact same_l0 l hl d (i + 1) (by omega)
theorem same_ev {j n : Nat} (hj : j ≤ 6) (hn : n ≤ 131072) (b : Nat → Bool) (hz : Zb j n b) :
    Ev (fun k => steeplelaw03_same.f k (j : Int) (n : Int) (wordsB b (sz j n)) (j : Int) ((els j b n).map elR)) true := by
  have hs := sz_le j n
  unfold steeplelaw03_same.f
  refine Ev.bind (Ev.const (Words_f (by rw [wordsB_length]; omega))) ?_
  refine Ev.bind (refWords_ev hj hn b hz) ?_
  refine Ev.bind (Ev.const rfl) (Ev.pos rfl ?_)
  refine Ev.bind (Ev.const rfl) (Ev.pos (by rw [List.length_map, els_length]) (Ev.pos rfl ?_))
  refine Ev.bind (Elems_ev hj (by omega) b) ?_
  refine Ev.bind (Same_ev _ (by rw [els_length]; omega)) (Ev.pos rfl ?_)
  exact same_l0 _ (by rw [wordsB_length]; omega) (sz j n) 0 (by rw [wordsB_length]; omega)
theorem refWith_l0 {j : Nat} (L : List (T 7)) (hL : L.length ≤ 131072) {m : Nat} (hm : m < L.length) (x : T 7) : ∀ d i : Nat, i + d = L.length →
    Ev (fun k => steepleref03_With.l0 k (m : Int) (((L.set m x).take i).map elR) (i : Int) (j : Int) (L.map elR) (hiW x) (loW x)) ((j : Int), (L.set m x).map elR, (0 : Int))
  | 0, i, h => by
    refine Ev.succ ?_
    simp only [steepleref03_With.l0]
    refine Ev.neg (by rw [List.length_map]; omega) ?_
    rw [List.take_of_length_le (by rw [List.length_set]; omega)]
    exact Ev.now _
  | d + 1, i, h => by
    have hi : i < L.length := by omega
    have hi' : i < (L.set m x).length := by rw [List.length_set]; omega
    refine Ev.succ ?_
    simp only [steepleref03_With.l0]
    refine Ev.pos (by rw [List.length_map]; omega) ?_
    have nx := refWith_l0 (j := j) L hL hm x d (i + 1) (by omega)
    have e : ((L.set m x).take (i + 1)).map elR = ((L.set m x).take i).map elR ++ [elR (L.set m x)[i]] := by
      rw [List.take_succ_eq_append_getElem hi', List.map_append]
      rfl
    rw [e] at nx
    rw [wrap_succ i (by omega)]
    by_cases hc : i = m
    · subst hc
      refine Ev.pos rfl (Ev.pos (by rw [List.length_map, List.length_take, List.length_set]; omega) ?_)
      have e2 : elR (L.set i x)[i] = (⟨hiW x, loW x⟩ : S44) := by rw [List.getElem_set_self]; rfl
      rw [e2] at nx
      exact nx
    · refine Ev.neg (by omega) (Ev.pos (by omega) (Ev.pos (by rw [List.length_map, List.length_take, List.length_set]; omega) ?_))
      rw [rd_elR hi, elR_f0, elR_f1]
      have e2 : elR (L.set m x)[i] = (⟨hiW L[i], loW L[i]⟩ : S44) := by rw [List.getElem_set_ne (fun h => hc h.symm)]; rfl
      rw [e2] at nx
      exact nx
theorem refWith_ev {j : Nat} (hj : j ≤ 6) (L : List (T 7)) (hL : L.length ≤ 131072) {m : Nat} (hm : m < L.length) {x : T 7} (hx : InL j x) :
    Ev (fun k => steepleref03_With.f k (j : Int) (L.map elR) (m : Int) (hiW x) (loW x)) ((j : Int), (L.set m x).map elR, (0 : Int)) := by
  unfold steepleref03_With.f
  refine Ev.neg (by omega) (Ev.succ ?_)
  simp only [steepleref03_With.j0]
  refine Ev.neg (by rw [decide_eq_true_eq, List.length_map]; omega) ?_
  refine Ev.bind (refOf_ev _ _) ?_
  refine Ev.pos (ofB_nat (by omega) hx) ?_
  exact refWith_l0 L hL hm x L.length 0 (by omega)
theorem refWith_none {j : Int} (L : List (T 7)) {a : Int} (h : a < 0 ∨ a ≥ L.length) (x : T 7) : Ev (fun k => steepleref03_With.f k j (L.map elR) a (hiW x) (loW x)) ((0 : Int), ([] : List S44), (4 : Int)) := by
  unfold steepleref03_With.f
  by_cases h0 : a < 0
  · refine Ev.pos h0 (Ev.succ ?_)
    simp only [steepleref03_With.j0]
    exact Ev.pos trivial (Ev.now _)
  · refine Ev.neg h0 (Ev.succ ?_)
    simp only [steepleref03_With.j0]
    exact Ev.pos (by rw [decide_eq_true_eq, List.length_map]; omega) (Ev.now _)
theorem refWith_bad {j : Nat} (L : List (T 7)) {m : Nat} (hm : m < L.length) {x : T 7} (hx : ofB (j : Int) x = false) : Ev (fun k => steepleref03_With.f k (j : Int) (L.map elR) (m : Int) (hiW x) (loW x)) ((0 : Int), ([] : List S44), (5 : Int)) := by
  unfold steepleref03_With.f
  refine Ev.neg (by omega) (Ev.succ ?_)
  simp only [steepleref03_With.j0]
  refine Ev.neg (by rw [decide_eq_true_eq, List.length_map]; omega) ?_
  refine Ev.bind (refOf_ev _ _) ?_
  rw [hx]
  exact Ev.neg (by decide) (Ev.now _)
theorem els_put {j n i : Nat} (hj : j ≤ 7) (hi : i < n) {x : T 7} (hx : InL j x) (b : Nat → Bool) : els j (putB j b i x) n = (els j b n).set i x := by
  apply List.ext_getElem
  · rw [els_length, List.length_set, els_length]
  · intro m h1 h2
    have hm : m < n := by rw [els_length] at h1; exact h1
    have hdm : ∀ t, t < 2 ^ j → (m * 2 ^ j + t) / 2 ^ j = m ∧ (m * 2 ^ j + t) % 2 ^ j = t := fun t ht => by
      rw [Nat.mul_comm]
      exact ⟨by rw [Nat.mul_add_div (Nat.two_pow_pos j), Nat.div_eq_of_lt ht, Nat.add_zero], by rw [Nat.mul_add_mod, Nat.mod_eq_of_lt ht]⟩
    rw [els_get]
    by_cases e : i = m
    · subst e
      rw [List.getElem_set_self]
      apply enc_inj
      rw [enc_el hj]
      refine (eq_num (show enc 7 x < 2 ^ 2 ^ j from hx) fun t ht => ?_).symm
      unfold putB
      rw [if_pos (hdm t ht).1, (hdm t ht).2]
    · rw [List.getElem_set_ne e, els_get]
      refine el_congr fun t ht => ?_
      unfold putB
      rw [if_neg (by rw [(hdm t ht).1]; omega)]
theorem Zb_put {j n i : Nat} (hi : i < n) {b : Nat → Bool} (hz : Zb j n b) (x : T 7) : Zb j n (putB j b i x) := fun t ht => by
  unfold putB
  rw [if_neg (by intro e; have := (Nat.div_lt_iff_lt_mul (Nat.two_pow_pos j) (x := t) (y := n)).1 (by omega); omega), hz t ht]
end Go.Proofs.Ytceneggampgboaa.Br
