/- Vectors of elements in words: made, read, changed, told whole. Conditions: a level from 0 to 6, as many elements as there may be. -/
import Derived.Test.YtceneggampgboaaPkBits
import Derived.Test.YtceneggampgboaaBrOf
import Derived.Test.YtceneggampgboaaBrList
import Derived.Test.YtceneggampgboaaHClone
import Derived.Test.YtceneggampgboaaPx3
import Derived.Test.YtceneggampgboaaPx4
import Derived.Test.YtceneggampgboaaPx5
import Derived.Test.YtceneggampgboaaPx6
import Derived.Test.YtceneggampgboaaPx9
set_option linter.unusedVariables false
set_option linter.unusedSimpArgs false
namespace Go.Proofs.Ytceneggampgboaa.Br
open Go.RowKit Go.Proofs.YtceneggampgboaaT Go.Proofs.Ytceneggampgboaa.P Go.Proofs.YtceneggampgboaaW.PrintWords Go.Proofs.YtceneggampgboaaW.PrintLast Go.Proofs.YtceneggampgboaaW.PrintMore
theorem wrap_nat {n : Nat} (h : n < 2 ^ 62) : wrap64 (n : Int) = n := by unfold wrap64; omega
theorem tdiv_nat (m p : Nat) : Int.tdiv (m : Int) (p : Int) = ((m / p : Nat) : Int) := (Int.ofNat_tdiv m p).symm
theorem tmod_nat (m p : Nat) : Int.tmod (m : Int) (p : Int) = ((m % p : Nat) : Int) := (Int.ofNat_tmod m p).symm
theorem shl_i64 (m c : Nat) (hc : c ≤ 64) (h : m * 2 ^ c < 2 ^ 62) : shl .i64 (m : Int) (c : Int) = ((m * 2 ^ c : Nat) : Int) := by
  unfold shl
  rw [Int.toNat_natCast, show IntKind.i64.bits = 64 from rfl, Nat.min_eq_left hc]
  have : ((m : Int) * 2 ^ c) = ((m * 2 ^ c : Nat) : Int) := by rw [Int.natCast_mul, Int.natCast_pow]; rfl
  rw [this]
  simp [IntKind.wrap, IntKind.bits, IntKind.signed]
  omega
theorem at_le {j : Nat} (hj : j ≤ 6) (i : Nat) : i % 2 ^ (6 - j) * 2 ^ j ≤ 64 := Nat.le_trans (Nat.le_add_right _ _) (at_lt hj i)
theorem p64 {j : Nat} (hj : j ≤ 6) : 0 < 2 ^ (6 - j) ∧ 2 ^ (6 - j) ≤ 64 := by
  refine ⟨Nat.two_pow_pos _, ?_⟩
  have := Nat.pow_le_pow_right (n := 2) (by decide) (show 6 - j ≤ 6 by omega)
  exact this
theorem lanes_f {j : Nat} (hj : j ≤ 6) : pack_lanes.f (j : Int) = some ((2 ^ (6 - j) : Nat) : Int) := by
  have : ∀ j : Nat, j < 7 → pack_lanes.f (j : Int) = some ((2 ^ (6 - j) : Nat) : Int) := by decide
  exact this j (by omega)
theorem size_f {j n : Nat} (hj : j ≤ 6) (hn : n < 2 ^ 40) : pack_size.f (j : Int) (n : Int) = some ((sz j n : Nat) : Int) := by
  unfold pack_size.f
  rw [lanes_f hj, Option.bind_some, Option.bind_some]
  have hp := p64 hj
  unfold sz
  generalize 2 ^ (6 - j) = p at *
  rw [if_neg (by omega)]
  congr 1
  have e1 : wrap64 (wrap64 ((n : Int) + (p : Int)) - 1) = ((n + p - 1 : Nat) : Int) := by unfold wrap64; omega
  rw [e1, tdiv_nat]
  refine wrap_nat (Nat.lt_of_le_of_lt (Nat.div_le_self _ _) (by omega))
def askE (a : Int) (n : Nat) : Int := if a < 0 ∨ a > 6 then 1 else if n > 65536 then 2 else 0
theorem ask_ev (a : Int) (n : Nat) : Ev (fun k => pack_ask.f k a (n : Int)) (askE a n) := by
  unfold pack_ask.f askE
  by_cases h0 : a < 0
  · rw [if_pos (.inl h0)]
    refine Ev.pos h0 (Ev.succ ?_)
    simp only [pack_ask.j0]
    exact Ev.pos trivial (Ev.now _)
  · refine Ev.neg h0 ?_
    by_cases h6 : a > 6
    · rw [if_pos (.inr h6)]
      refine Ev.pos h6 (Ev.succ ?_)
      simp only [pack_ask.j0]
      exact Ev.pos trivial (Ev.now _)
    · rw [if_neg (by omega)]
      refine Ev.neg h6 (Ev.succ ?_)
      simp only [pack_ask.j0]
      refine Ev.neg (by rw [decide_eq_true_eq]; omega) ?_
      by_cases hn : n > 65536
      · rw [if_pos hn]
        exact Ev.pos (by omega) (Ev.now _)
      · rw [if_neg hn]
        exact Ev.neg (by omega) (Ev.now _)
/-- The place of an element: its word, and how far up. -/
theorem place_w {j i : Nat} (hj : j ≤ 6) (hi : i < 2 ^ 40) : wrap64 (Int.tdiv (i : Int) ((2 ^ (6 - j) : Nat) : Int)) = ((i / 2 ^ (6 - j) : Nat) : Int) := by
  rw [tdiv_nat]
  exact wrap_nat (Nat.lt_of_le_of_lt (Nat.div_le_self _ _) (by omega))
theorem place_s {j : Nat} (hj : j ≤ 6) (i : Nat) : shl .i64 (Int.tmod (i : Int) ((2 ^ (6 - j) : Nat) : Int)) (j : Int) = ((i % 2 ^ (6 - j) * 2 ^ j : Nat) : Int) := by
  rw [tmod_nat]
  have h := at_le hj i
  exact shl_i64 _ _ (by omega) (by omega)
theorem in_up {j : Nat} (hj : j ≤ 6) (i : Nat) {x : T 7} (hx : InL j x) : enc 7 x * 2 ^ (i % 2 ^ (6 - j) * 2 ^ j) < 2 ^ 64 := by
  have hx : enc 7 x < 2 ^ 2 ^ j := hx
  have ha := at_lt hj i
  calc enc 7 x * 2 ^ (i % 2 ^ (6 - j) * 2 ^ j) < 2 ^ 2 ^ j * 2 ^ (i % 2 ^ (6 - j) * 2 ^ j) := Nat.mul_lt_mul_of_pos_right hx (Nat.two_pow_pos _)
    _ = 2 ^ (2 ^ j + i % 2 ^ (6 - j) * 2 ^ j) := by rw [Nat.pow_add]
    _ ≤ 2 ^ 64 := Nat.pow_le_pow_right (by decide) (by omega)
theorem vec_f (a n : Int) (l : List Int) : pack_vec.f a n l = some (a, n, l) := (rfl)
theorem ofB_false_of {j : Nat} (hj : j ≤ 7) {x : T 7} (hx : ¬ InL j x) : ofB (j : Int) x = false := by
  rw [Bool.eq_false_iff]
  intro h
  obtain ⟨j', e, _, h'⟩ := ofB_iff.1 h
  rw [Int.ofNat.inj e] at hx
  exact hx h'
theorem Make_l0 {j : Nat} (hj : j ≤ 6) (L : List (T 7)) (hL : L.length ≤ 65536) (hin : ∀ x ∈ L, InL j x) : ∀ d i : Nat, i + d = L.length →
    Ev (fun k => pack_Make.l0 k (j : Int) (L.map elS) (wordsB (lb j (L.take i)) (sz j L.length)) (L.map elS) ((L.length : Nat) : Int) (i : Int)) ((j : Int), ((L.length : Nat) : Int), wordsB (lb j L) (sz j L.length), (0 : Int))
  | 0, i, h => by
    refine Ev.succ ?_
    simp only [pack_Make.l0]
    refine Ev.neg (by omega) ?_
    refine Ev.bind (Ev.const (vec_f _ _ _)) ?_
    rw [List.take_of_length_le (by omega), List.length_map]
    exact Ev.now _
  | d + 1, i, h => by
    have hi : i < L.length := by omega
    have hx := hin _ (List.getElem_mem hi)
    have hw := sz_lt (j := j) hi
    have hp := p64 hj
    refine Ev.succ ?_
    simp only [pack_Make.l0]
    refine Ev.pos (by omega) (Ev.pos (by omega) (Ev.pos (by rw [List.length_map]; omega) ?_))
    rw [rd_elS hi, elS_f0, elS_f1]
    refine Ev.bind (Of_ev _ _) ?_
    refine Ev.pos (ofB_nat (by omega) hx) ?_
    refine Ev.bind (Ev.const (lanes_f hj)) (Ev.neg (by omega) ?_)
    rw [place_w hj (by omega)]
    refine Ev.pos (Int.natCast_nonneg _) (Ev.pos (by rw [wordsB_length]; omega) ?_)
    refine Ev.bind (Ev.const (lanes_f hj)) (Ev.neg (by omega) (Ev.pos (by omega) ?_))
    rw [place_s hj]
    refine Ev.pos (Int.natCast_nonneg _) ?_
    have ha := at_lt hj i
    rw [Int.toNat_natCast, rd_wordsB hw, lo_in hj hx, shl_u64 _ _ (at_le hj i) (in_up hj i hx), bits_or _ _ (num64 _) (in_up hj i hx), wrap_succ i (by omega)]
    rw [or_put hj hw hx (fun t ht => lb_none (by rw [List.length_take, ht]; omega))]
    rw [show putB j (lb j (L.take i)) i L[i] = lb j (L.take (i + 1)) from funext fun t => (lb_take hi t).symm]
    exact Make_l0 hj L hL hin d (i + 1) (by omega)
theorem Make_ok {j : Nat} (hj : j ≤ 6) (L : List (T 7)) (hL : L.length ≤ 65536) (hin : ∀ x ∈ L, InL j x) :
    Ev (fun k => pack_Make.f k (j : Int) (L.map elS)) ((j : Int), ((L.length : Nat) : Int), wordsB (lb j L) (sz j L.length), (0 : Int)) := by
  unfold pack_Make.f
  rw [List.length_map]
  refine Ev.bind (ask_ev _ _) ?_
  refine Ev.pos (by unfold askE; rw [if_neg (by omega), if_neg (by omega)]) ?_
  refine Ev.bind (Ev.const (size_f hj (by omega))) ?_
  have := sz_le j L.length
  refine Ev.pos (by omega) (Ev.pos (by omega) ?_)
  rw [Int.toNat_natCast, ← wordsB_zero]
  have e : (fun _ => false) = lb j (L.take 0) := funext fun t => (lb_none (by rw [List.take_zero]; exact Nat.zero_le _)).symm
  rw [e]
  exact Make_l0 hj L hL hin L.length 0 (by omega)
theorem Make_l0_bad {j : Nat} (hj : j ≤ 6) (L : List (T 7)) (hL : L.length ≤ 65536) {m : Nat} (hm : m < L.length) (hbad : ¬ InL j L[m]) (hin : ∀ i (h : i < L.length), i < m → InL j L[i]) : ∀ d i : Nat, i + d = m → ∀ b : Nat → Bool,
    Ev (fun k => pack_Make.l0 k (j : Int) (L.map elS) (wordsB b (sz j L.length)) (L.map elS) ((L.length : Nat) : Int) (i : Int)) ((0 : Int), (0 : Int), ([] : List Int), (5 : Int))
  | 0, i, h, b => by
    obtain rfl : i = m := by omega
    refine Ev.succ ?_
    simp only [pack_Make.l0]
    refine Ev.pos (by omega) (Ev.pos (by omega) (Ev.pos (by rw [List.length_map]; omega) ?_))
    rw [rd_elS hm, elS_f0, elS_f1]
    refine Ev.bind (Of_ev _ _) ?_
    rw [ofB_false_of (by omega) hbad]
    exact Ev.neg (by decide) (Ev.now _)
  | d + 1, i, h, b => by
    have hi : i < L.length := by omega
    have hx := hin i hi (by omega)
    have hw := sz_lt (j := j) hi
    have hp := p64 hj
    refine Ev.succ ?_
    simp only [pack_Make.l0]
    refine Ev.pos (by omega) (Ev.pos (by omega) (Ev.pos (by rw [List.length_map]; omega) ?_))
    rw [rd_elS hi, elS_f0, elS_f1]
    refine Ev.bind (Of_ev _ _) ?_
    refine Ev.pos (ofB_nat (by omega) hx) ?_
    refine Ev.bind (Ev.const (lanes_f hj)) (Ev.neg (by omega) ?_)
    rw [place_w hj (by omega)]
    refine Ev.pos (Int.natCast_nonneg _) (Ev.pos (by rw [wordsB_length]; omega) ?_)
    refine Ev.bind (Ev.const (lanes_f hj)) (Ev.neg (by omega) (Ev.pos (by omega) ?_))
    rw [place_s hj]
    refine Ev.pos (Int.natCast_nonneg _) ?_
    have ha := at_lt hj i
    rw [Int.toNat_natCast, rd_wordsB hw, lo_in hj hx, shl_u64 _ _ (at_le hj i) (in_up hj i hx), bits_or _ _ (num64 _) (in_up hj i hx), wrap_succ i (by omega)]
    obtain ⟨b', hb'⟩ : ∃ b', (wordsB b (sz j L.length)).set (i / 2 ^ (6 - j)) (((num (fun t => b (64 * (i / 2 ^ (6 - j)) + t)) 64 ||| enc 7 L[i] * 2 ^ (i % 2 ^ (6 - j) * 2 ^ j) : Nat)) : Int) = wordsB b' (sz j L.length) := by
      refine ⟨fun t => if t / 64 = i / 2 ^ (6 - j) then (num (fun t => b (64 * (i / 2 ^ (6 - j)) + t)) 64 ||| enc 7 L[i] * 2 ^ (i % 2 ^ (6 - j) * 2 ^ j)).testBit (t % 64) else b t, ?_⟩
      refine wordsB_set hw (Nat.or_lt_two_pow (num64 _) (in_up hj i hx)) ?_ ?_
      · intro t ht
        rw [if_pos (by omega)]
        congr 1
        omega
      · intro v t hv ht
        rw [if_neg (by omega)]
    rw [hb']
    exact Make_l0_bad hj L hL hm hbad hin d (i + 1) (by omega) b'
theorem Make_bad {j : Nat} (hj : j ≤ 6) (L : List (T 7)) (hL : L.length ≤ 65536) {m : Nat} (hm : m < L.length) (hbad : ¬ InL j L[m]) (hin : ∀ i (h : i < L.length), i < m → InL j L[i]) :
    Ev (fun k => pack_Make.f k (j : Int) (L.map elS)) ((0 : Int), (0 : Int), ([] : List Int), (5 : Int)) := by
  unfold pack_Make.f
  rw [List.length_map]
  refine Ev.bind (ask_ev _ _) ?_
  refine Ev.pos (by unfold askE; rw [if_neg (by omega), if_neg (by omega)]) ?_
  refine Ev.bind (Ev.const (size_f hj (by omega))) ?_
  have := sz_le j L.length
  refine Ev.pos (by omega) (Ev.pos (by omega) ?_)
  rw [Int.toNat_natCast, ← wordsB_zero]
  exact Make_l0_bad hj L hL hm hbad hin m 0 (by omega) _
theorem Make_err {a : Int} (L : List (T 7)) (h : askE a L.length ≠ 0) :
    Ev (fun k => pack_Make.f k a (L.map elS)) ((0 : Int), (0 : Int), ([] : List Int), askE a L.length) := by
  unfold pack_Make.f
  rw [List.length_map]
  refine Ev.bind (ask_ev _ _) ?_
  exact Ev.neg h (Ev.now _)
theorem mask_f' {j : Nat} (hj : j ≤ 6) (n : Int) (l : List Int) : pack_Vec_mask.f (j : Int) n l = some ((2 ^ 2 ^ j - 1 : Nat) : Int) := by
  unfold pack_Vec_mask.f
  by_cases h : j = 6
  · subst h
    rw [if_pos (by omega)]
    rfl
  · rw [if_neg (by omega), if_pos (by omega), shl1_u64 j (by omega), mask_u64 j (by omega)]
theorem Get_ev {j n i : Nat} (hj : j ≤ 6) (hn : n < 2 ^ 40) (hi : i < n) (b : Nat → Bool) :
    Ev (fun k => pack_Vec_Get.f k (j : Int) (n : Int) (wordsB b (sz j n)) (i : Int)) (hiW (el j b i), loW (el j b i), true) := by
  unfold pack_Vec_Get.f
  have hw := sz_lt (j := j) hi
  have hp := p64 hj
  refine Ev.neg (by omega) (Ev.succ ?_)
  simp only [pack_Vec_Get.j0]
  refine Ev.neg (by rw [decide_eq_true_eq]; omega) ?_
  refine Ev.bind (Ev.const (lanes_f hj)) (Ev.neg (by omega) ?_)
  rw [place_w hj (by omega)]
  refine Ev.pos (Int.natCast_nonneg _) (Ev.pos (by rw [wordsB_length]; omega) (Ev.pos (by omega) ?_))
  rw [place_s hj]
  refine Ev.pos (Int.natCast_nonneg _) ?_
  refine Ev.bind (Ev.const (mask_f' hj _ _)) ?_
  have ha := at_lt hj i
  have h2 : 2 ^ 2 ^ j - 1 < 2 ^ 64 := by
    have h1 : 2 ^ j ≤ 64 := Nat.le_trans (Nat.pow_le_pow_right (by decide) hj) (by decide)
    exact Nat.lt_of_lt_of_le (Nat.sub_lt (Nat.two_pow_pos _) (by decide)) (Nat.pow_le_pow_right (by decide) h1)
  rw [rd_wordsB hw, shr_u64 _ _ (at_le hj i), bits_and _ _ (Nat.lt_of_le_of_lt (Nat.div_le_self _ _) (num64 _)) h2, cut_out hj, hi_el hj, lo_el hj]
  exact Ev.now _
theorem Get_none {j n : Nat} {a : Int} (h : a < 0 ∨ a ≥ n) (l : List Int) : Ev (fun k => pack_Vec_Get.f k (j : Int) (n : Int) l a) ((0 : Int), (0 : Int), false) := by
  unfold pack_Vec_Get.f
  by_cases h0 : a < 0
  · refine Ev.pos h0 (Ev.succ ?_)
    simp only [pack_Vec_Get.j0]
    exact Ev.pos trivial (Ev.now _)
  · refine Ev.neg h0 (Ev.succ ?_)
    simp only [pack_Vec_Get.j0]
    exact Ev.pos (by rw [decide_eq_true_eq]; omega) (Ev.now _)
theorem clone_f {l : List Int} (h : l.length ≤ 2 ^ 40) : slices_Clone_uint64_uint64.f l = some l := by
  unfold slices_Clone_uint64_uint64.f
  rw [if_pos (by omega)]
theorem Words_f {j n : Int} {l : List Int} (h : l.length ≤ 2 ^ 40) : pack_Vec_Words.f j n l = some l := by
  unfold pack_Vec_Words.f
  rw [clone_f h]
  rfl
theorem bits_andNot (m n : Nat) (hm : m < 2 ^ 64) (hn : n < 2 ^ 64) : ∃ r : Nat, Go.bits .andNot .u64 (m : Int) (n : Int) = (r : Int) ∧ r < 2 ^ 64 ∧ ∀ i, i < 64 → r.testBit i = (m.testBit i && !n.testBit i) := by
  refine ⟨((BitVec.ofInt 64 (m : Int)) &&& ~~~(BitVec.ofInt 64 (n : Int))).toNat, ?_, BitVec.isLt _, ?_⟩
  · show IntKind.u64.wrap (((BitVec.ofInt 64 (m : Int)) &&& ~~~(BitVec.ofInt 64 (n : Int))).toNat : Int) = _
    exact wrap_u64 _ (BitVec.isLt _)
  · intro i hi
    rw [BitVec.testBit_toNat, BitVec.getLsbD_and, BitVec.getLsbD_not, decide_eq_true hi, Bool.true_and, ← BitVec.testBit_toNat, ← BitVec.testBit_toNat, bv_of m hm, bv_of n hn]
theorem With_ev {j n i : Nat} (hj : j ≤ 6) (hn : n < 2 ^ 20) (hi : i < n) (b : Nat → Bool) {x : T 7} (hx : InL j x) :
    Ev (fun k => pack_Vec_With.f k (j : Int) (n : Int) (wordsB b (sz j n)) (i : Int) (hiW x) (loW x)) ((j : Int), (n : Int), wordsB (putB j b i x) (sz j n), (0 : Int)) := by
  unfold pack_Vec_With.f
  have hw := sz_lt (j := j) hi
  have hp := p64 hj
  have hs := sz_le j n
  refine Ev.neg (by omega) (Ev.succ ?_)
  simp only [pack_Vec_With.j0]
  refine Ev.neg (by rw [decide_eq_true_eq]; omega) ?_
  refine Ev.bind (Of_ev _ _) ?_
  refine Ev.pos (ofB_nat (by omega) hx) ?_
  refine Ev.bind (Ev.const (lanes_f hj)) (Ev.neg (by omega) (Ev.pos (by omega) ?_))
  refine Ev.bind (Ev.const (clone_f (by rw [wordsB_length]; omega))) ?_
  rw [place_w hj (by omega)]
  refine Ev.pos (Int.natCast_nonneg _) (Ev.pos (by rw [wordsB_length]; omega) ?_)
  refine Ev.bind (Ev.const (mask_f' hj _ _)) ?_
  rw [place_s hj]
  refine Ev.pos (Int.natCast_nonneg _) ?_
  refine Ev.bind (Ev.const (vec_f _ _ _)) ?_
  have ha := at_lt hj i
  have hx' : enc 7 x < 2 ^ 2 ^ j := hx
  have h2 : (2 ^ 2 ^ j - 1) * 2 ^ (i % 2 ^ (6 - j) * 2 ^ j) < 2 ^ 64 := by
    calc (2 ^ 2 ^ j - 1) * 2 ^ (i % 2 ^ (6 - j) * 2 ^ j) < 2 ^ 2 ^ j * 2 ^ (i % 2 ^ (6 - j) * 2 ^ j) := Nat.mul_lt_mul_of_pos_right (Nat.sub_lt (Nat.two_pow_pos _) (by decide)) (Nat.two_pow_pos _)
      _ = 2 ^ (2 ^ j + i % 2 ^ (6 - j) * 2 ^ j) := by rw [Nat.pow_add]
      _ ≤ 2 ^ 64 := Nat.pow_le_pow_right (by decide) (by omega)
  rw [Int.toNat_natCast, rd_wordsB hw, lo_in hj hx, shl_u64 _ _ (at_le hj i) (in_up hj i hx), shl_u64 _ _ (at_le hj i) h2]
  obtain ⟨r, hr, hrl, hrb⟩ := bits_andNot (num (fun t => b (64 * (i / 2 ^ (6 - j)) + t)) 64) ((2 ^ 2 ^ j - 1) * 2 ^ (i % 2 ^ (6 - j) * 2 ^ j)) (num64 _) h2
  rw [hr, bits_or _ _ hrl (in_up hj i hx)]
  have e : (wordsB b (sz j n)).set (i / 2 ^ (6 - j)) ((r ||| enc 7 x * 2 ^ (i % 2 ^ (6 - j) * 2 ^ j) : Nat) : Int) = wordsB (putB j b i x) (sz j n) := by
    refine wordsB_set hw (Nat.or_lt_two_pow hrl (in_up hj i hx)) ?_ ?_
    · intro t ht
      rw [Nat.testBit_or, hrb t ht, num_bit, decide_eq_true ht, Bool.true_and, Nat.testBit_mul_two_pow, Nat.testBit_mul_two_pow, Nat.testBit_two_pow_sub_one]
      unfold putB
      by_cases hq : (64 * (i / 2 ^ (6 - j)) + t) / 2 ^ j = i
      · obtain ⟨h1, h3⟩ := (place hj i t).1 hq
        rw [if_pos hq, place_mod hj i t h1 h3, decide_eq_true h1, decide_eq_true (by omega : t - i % 2 ^ (6 - j) * 2 ^ j < 2 ^ j)]
        simp
      · have hno : ¬ (i % 2 ^ (6 - j) * 2 ^ j ≤ t ∧ t < i % 2 ^ (6 - j) * 2 ^ j + 2 ^ j) := fun h => hq ((place hj i t).2 h)
        rw [if_neg hq]
        by_cases hle : i % 2 ^ (6 - j) * 2 ^ j ≤ t
        · have hbig : enc 7 x < 2 ^ (t - i % 2 ^ (6 - j) * 2 ^ j) := Nat.lt_of_lt_of_le hx' (Nat.pow_le_pow_right (by decide) (by omega))
          rw [Nat.testBit_lt_two_pow hbig, decide_eq_false (by omega : ¬ t - i % 2 ^ (6 - j) * 2 ^ j < 2 ^ j)]
          simp
        · rw [decide_eq_false hle]
          simp
    · intro v t hv ht
      unfold putB
      rw [if_neg (other_word hj hv ht)]
  rw [e]
  exact Ev.now _
theorem With_none {j n : Nat} {a : Int} (h : a < 0 ∨ a ≥ n) (l : List Int) (x : T 7) : Ev (fun k => pack_Vec_With.f k (j : Int) (n : Int) l a (hiW x) (loW x)) ((0 : Int), (0 : Int), ([] : List Int), (4 : Int)) := by
  unfold pack_Vec_With.f
  by_cases h0 : a < 0
  · refine Ev.pos h0 (Ev.succ ?_)
    simp only [pack_Vec_With.j0]
    exact Ev.pos trivial (Ev.now _)
  · refine Ev.neg h0 (Ev.succ ?_)
    simp only [pack_Vec_With.j0]
    exact Ev.pos (by rw [decide_eq_true_eq]; omega) (Ev.now _)
theorem With_bad {j n i : Nat} (hi : i < n) (l : List Int) {x : T 7} (hx : ofB (j : Int) x = false) : Ev (fun k => pack_Vec_With.f k (j : Int) (n : Int) l (i : Int) (hiW x) (loW x)) ((0 : Int), (0 : Int), ([] : List Int), (5 : Int)) := by
  unfold pack_Vec_With.f
  refine Ev.neg (by omega) (Ev.succ ?_)
  simp only [pack_Vec_With.j0]
  refine Ev.neg (by rw [decide_eq_true_eq]; omega) ?_
  refine Ev.bind (Of_ev _ _) ?_
  rw [hx]
  exact Ev.neg (by decide) (Ev.now _)
theorem Elems_l0 {j n : Nat} (hj : j ≤ 6) (hn : n < 2 ^ 20) (b : Nat → Bool) : ∀ d i : Nat, i + d = n →
    Ev (fun k => pack_Vec_Elems.l0 k ((els j b i).map elS) (n : Int) (i : Int) (j : Int) (n : Int) (wordsB b (sz j n))) ((els j b n).map elS)
  | 0, i, h => by
    obtain rfl : i = n := by omega
    refine Ev.succ ?_
    simp only [pack_Vec_Elems.l0]
    exact Ev.neg (by omega) (Ev.now _)
  | d + 1, i, h => by
    refine Ev.succ ?_
    simp only [pack_Vec_Elems.l0]
    refine Ev.pos (by omega) ?_
    refine Ev.bind (Get_ev hj (by omega) (by omega) b) ?_
    refine Ev.pos (by rw [List.length_map, els_length]; omega) ?_
    rw [wrap_succ i (by omega)]
    have e : (els j b i).map elS ++ [(⟨hiW (el j b i), loW (el j b i)⟩ : S25)] = (els j b (i + 1)).map elS := by
      rw [els_succ, List.map_append]
      rfl
    rw [e]
    exact Elems_l0 hj hn b d (i + 1) (by omega)
theorem Elems_ev {j n : Nat} (hj : j ≤ 6) (hn : n < 2 ^ 20) (b : Nat → Bool) :
    Ev (fun k => pack_Vec_Elems.f k (j : Int) (n : Int) (wordsB b (sz j n))) ((els j b n).map elS) := by
  unfold pack_Vec_Elems.f
  exact Elems_l0 hj hn b n 0 (by omega)
end Go.Proofs.Ytceneggampgboaa.Br
