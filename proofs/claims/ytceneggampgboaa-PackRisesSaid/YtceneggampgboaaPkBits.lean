/- Words of bits, and the elements of a level that lie in them one behind the other. Conditions: those that each theorem names. -/
import Derived.Test.YtceneggampgboaaBrBits
set_option linter.unusedVariables false
set_option linter.unusedSimpArgs false
namespace Go.Proofs.Ytceneggampgboaa.Br
open Go.RowKit Go.Proofs.YtceneggampgboaaT Go.Proofs.YtceneggampgboaaW.PrintWords Go.Proofs.YtceneggampgboaaW.PrintLast Go.Proofs.YtceneggampgboaaW.PrintMore
/-! Bits as a number; words of bits. -/
def num (b : Nat → Bool) : Nat → Nat
  | 0 => 0
  | m + 1 => num b m + (b m).toNat * 2 ^ m
theorem num_lt (b : Nat → Bool) : ∀ m, num b m < 2 ^ m
  | 0 => Nat.one_pos
  | m + 1 => by
    have := num_lt b m
    have h1 := Nat.two_pow_pos m
    show num b m + (b m).toNat * 2 ^ m < 2 ^ (m + 1)
    rw [Nat.pow_succ]
    cases b m with
    | false => rw [show Bool.toNat false = 0 from rfl, Nat.zero_mul]; omega
    | true => rw [show Bool.toNat true = 1 from rfl, Nat.one_mul]; omega
theorem num_bit (b : Nat → Bool) : ∀ m i, (num b m).testBit i = (decide (i < m) && b i)
  | 0, i => by
    show (0 : Nat).testBit i = _
    rw [Nat.zero_testBit, decide_eq_false (by omega), Bool.false_and]
  | m + 1, i => by
    show (num b m + (b m).toNat * 2 ^ m).testBit i = _
    rw [Nat.add_comm, Nat.mul_comm, Nat.testBit_two_pow_mul_add _ (num_lt b m)]
    by_cases h : i < m
    · rw [if_pos h, num_bit b m i, decide_eq_true h, decide_eq_true (by omega : i < m + 1)]
    · rw [if_neg h]
      by_cases e : i = m
      · subst e
        rw [Nat.sub_self, decide_eq_true (by omega : i < i + 1), Bool.true_and]
        cases b i <;> rfl
      · rw [decide_eq_false (by omega : ¬ i < m + 1), Bool.false_and]
        have : (b m).toNat < 2 ^ (i - m) := Nat.lt_of_le_of_lt (show (b m).toNat ≤ 1 by cases b m <;> decide) (Nat.one_lt_two_pow (by omega))
        exact Nat.testBit_lt_two_pow this
theorem num_congr {b b' : Nat → Bool} : ∀ {m : Nat}, (∀ i, i < m → b i = b' i) → num b m = num b' m
  | 0, _ => rfl
  | m + 1, h => by
    show num b m + (b m).toNat * 2 ^ m = num b' m + (b' m).toNat * 2 ^ m
    rw [num_congr (fun i hi => h i (by omega)), h m (by omega)]
theorem eq_num {a m : Nat} (ha : a < 2 ^ m) {b : Nat → Bool} (h : ∀ i, i < m → a.testBit i = b i) : a = num b m := by
  apply Nat.eq_of_testBit_eq
  intro i
  rw [num_bit]
  by_cases hi : i < m
  · rw [h i hi, decide_eq_true hi, Bool.true_and]
  · rw [decide_eq_false hi, Bool.false_and]
    exact Nat.testBit_lt_two_pow (Nat.lt_of_lt_of_le ha (Nat.pow_le_pow_right (by decide) (by omega)))
attribute [irreducible] num
/-- m words of bits. -/
def wordsB (b : Nat → Bool) (m : Nat) : List Int := (List.range m).map fun w => ((num (fun t => b (64 * w + t)) 64 : Nat) : Int)
theorem wordsB_length (b : Nat → Bool) (m : Nat) : (wordsB b m).length = m := by
  unfold wordsB
  rw [List.length_map, List.length_range]
theorem rd_wordsB {b : Nat → Bool} {m w : Nat} (h : w < m) : rd (wordsB b m) (w : Int) = ((num (fun t => b (64 * w + t)) 64 : Nat) : Int) := by
  unfold rd wordsB
  rw [Int.toNat_natCast, List.getD_eq_getElem?_getD, List.getElem?_map, List.getElem?_range h]
  rfl
theorem wordsB_congr {b b' : Nat → Bool} {m : Nat} (h : ∀ t, t < 64 * m → b t = b' t) : wordsB b m = wordsB b' m := by
  unfold wordsB
  refine List.map_congr_left fun w hw => ?_
  have hw := List.mem_range.1 hw
  congr 1
  exact num_congr fun i hi => h _ (by omega)
theorem wordsB_set {b b' : Nat → Bool} {m w : Nat} (hw : w < m) {x : Nat} (hx : x < 2 ^ 64) (h1 : ∀ t, t < 64 → x.testBit t = b' (64 * w + t)) (h2 : ∀ v t, v ≠ w → t < 64 → b (64 * v + t) = b' (64 * v + t)) :
    (wordsB b m).set w (x : Int) = wordsB b' m := by
  apply List.ext_getElem?
  intro v
  rw [List.getElem?_set]
  unfold wordsB
  rw [List.length_map, List.length_range]
  by_cases e : w = v
  · subst e
    rw [if_pos rfl, if_pos hw, List.getElem?_map, List.getElem?_range hw]
    have e : x = num (fun t => b' (64 * w + t)) 64 := eq_num (m := 64) hx h1
    show some (x : Int) = some ((num (fun t => b' (64 * w + t)) 64 : Nat) : Int)
    exact congrArg (fun n : Nat => some (n : Int)) e
  · rw [if_neg e, List.getElem?_map, List.getElem?_map]
    by_cases hv : v < m
    · rw [List.getElem?_range hv]
      have e2 : num (fun t => b (64 * v + t)) 64 = num (fun t => b' (64 * v + t)) 64 := num_congr fun i hi => h2 v i (fun h => e h.symm) hi
      exact congrArg (fun n : Nat => some (n : Int)) e2
    · rw [List.getElem?_eq_none (by rw [List.length_range]; omega), Option.map_none, Option.map_none]
theorem wordsB_zero (m : Nat) : wordsB (fun _ => false) m = List.replicate m 0 := by
  apply List.ext_getElem?
  intro v
  unfold wordsB
  rw [List.getElem?_map, List.getElem?_replicate]
  by_cases hv : v < m
  · rw [List.getElem?_range hv, if_pos hv]
    have : num (fun _ => false) 64 = 0 := (eq_num (a := 0) (m := 64) (by decide) (b := fun _ => false) (fun i _ => Nat.zero_testBit i)).symm
    exact congrArg (fun n : Nat => some (n : Int)) this
  · rw [List.getElem?_eq_none (by rw [List.length_range]; omega), if_neg hv, Option.map_none]
theorem wordsB_succ (b : Nat → Bool) (m : Nat) : wordsB b (m + 1) = wordsB b m ++ [((num (fun t => b (64 * m + t)) 64 : Nat) : Int)] := by
  unfold wordsB
  rw [List.range_succ, List.map_append]
  rfl

theorem num64 (b : Nat → Bool) : num b 64 < 2 ^ 64 := num_lt b 64
theorem num_false (m : Nat) {b : Nat → Bool} (h : ∀ i, i < m → b i = false) : num b m = 0 :=
  (eq_num (Nat.two_pow_pos m) fun i hi => by rw [Nat.zero_testBit, h i hi]).symm
/-- The element with these bits. -/
def el (j : Nat) (b : Nat → Bool) (i : Nat) : T 7 := emb 7 j (decB j (i * 2 ^ j) b)
theorem decB_num (j off : Nat) (b : Nat → Bool) : decB j off b = dec j (num (fun t => b (off + t)) (2 ^ j)) := by
  refine decB_congr fun i hi => ?_
  rw [num_bit, decide_eq_true (by omega : 0 + i < 2 ^ j), Bool.true_and, Nat.zero_add]
theorem enc_decB (j off : Nat) (b : Nat → Bool) : enc j (decB j off b) = num (fun t => b (off + t)) (2 ^ j) := by
  rw [decB_num, enc_dec_of_lt (num_lt _ _)]
theorem decB_false {j off : Nat} {b : Nat → Bool} (h : ∀ i, i < 2 ^ j → b (off + i) = false) : decB j off b = 0 := by
  rw [decB_num, num_false _ h, dec_zero]
theorem bits_of_zero {j off : Nat} {b : Nat → Bool} (h : decB j off b = 0) : ∀ i, i < 2 ^ j → b (off + i) = false :=
  decB_bits (b' := fun _ => false) (by rw [h, decB_false fun _ _ => rfl])
theorem el_in {j : Nat} (hj : j ≤ 7) (b : Nat → Bool) (i : Nat) : InL j (el j b i) := inL_emb hj _
theorem enc_el {j : Nat} (hj : j ≤ 7) (b : Nat → Bool) (i : Nat) : enc 7 (el j b i) = num (fun t => b (i * 2 ^ j + t)) (2 ^ j) := by
  unfold el
  rw [enc_emb hj, enc_decB]
theorem el_bit {j : Nat} (hj : j ≤ 7) (b : Nat → Bool) (i : Nat) {t : Nat} (ht : t < 2 ^ j) : (enc 7 (el j b i)).testBit t = b (i * 2 ^ j + t) := by
  rw [enc_el hj, num_bit, decide_eq_true ht, Bool.true_and]
theorem el_congr {j i i' : Nat} {b b' : Nat → Bool} (h : ∀ t, t < 2 ^ j → b (i * 2 ^ j + t) = b' (i' * 2 ^ j + t)) : el j b i = el j b' i' := by
  unfold el
  rw [decB_congr h]
theorem el_add {j : Nat} (b c : Nat → Bool) (i : Nat) : el j (fun t => Bool.xor (b t) (c t)) i = el j b i + el j c i := by
  unfold el
  rw [decB_add, emb_add]
theorem lo_el {j : Nat} (hj : j ≤ 6) (b : Nat → Bool) (i : Nat) : loW (el j b i) = ((num (fun t => b (i * 2 ^ j + t)) (2 ^ j) : Nat) : Int) := by
  rw [lo_in hj (el_in (by omega) b i), enc_el (by omega)]
theorem hi_el {j : Nat} (hj : j ≤ 6) (b : Nat → Bool) (i : Nat) : hiW (el j b i) = 0 := hi_in hj (el_in (by omega) b i)
/-- The elements with these bits. -/
def els (j : Nat) (b : Nat → Bool) (n : Nat) : List (T 7) := (List.range n).map (el j b)
theorem els_length (j : Nat) (b : Nat → Bool) (n : Nat) : (els j b n).length = n := by
  unfold els
  rw [List.length_map, List.length_range]
theorem els_get {j : Nat} {b : Nat → Bool} {n i : Nat} (h : i < (els j b n).length) : (els j b n)[i] = el j b i := by
  simp only [els, List.getElem_map, List.getElem_range]
theorem els_succ (j : Nat) (b : Nat → Bool) (n : Nat) : els j b (n + 1) = els j b n ++ [el j b n] := by
  unfold els
  rw [List.range_succ, List.map_append]
  rfl
theorem els_congr {j n : Nat} {b b' : Nat → Bool} (h : ∀ t, t < n * 2 ^ j → b t = b' t) : els j b n = els j b' n := by
  unfold els
  refine List.map_congr_left fun i hi => el_congr fun t ht => h _ ?_
  have hi := List.mem_range.1 hi
  have : (i + 1) * 2 ^ j ≤ n * 2 ^ j := Nat.mul_le_mul_right _ hi
  rw [Nat.add_mul, Nat.one_mul] at this
  omega
/-- The bits of elements of a level, one behind the other. -/
def lb (j : Nat) (l : List (T 7)) (t : Nat) : Bool := match l[t / 2 ^ j]? with
  | some x => (enc 7 x).testBit (t % 2 ^ j)
  | none => false
theorem lb_some {j : Nat} {l : List (T 7)} {t : Nat} (h : t / 2 ^ j < l.length) : lb j l t = (enc 7 l[t / 2 ^ j]).testBit (t % 2 ^ j) := by
  unfold lb
  rw [List.getElem?_eq_getElem h]
theorem lb_none {j : Nat} {l : List (T 7)} {t : Nat} (h : l.length ≤ t / 2 ^ j) : lb j l t = false := by
  unfold lb
  rw [List.getElem?_eq_none h]
theorem lb_big {j : Nat} {l : List (T 7)} {t : Nat} (h : l.length * 2 ^ j ≤ t) : lb j l t = false :=
  lb_none (by rw [Nat.le_div_iff_mul_le (Nat.two_pow_pos j)]; exact h)
theorem el_lb {j : Nat} (hj : j ≤ 7) {l : List (T 7)} (hl : ∀ x ∈ l, InL j x) {i : Nat} (h : i < l.length) : el j (lb j l) i = l[i] := by
  apply enc_inj
  rw [enc_el hj]
  have hx : enc 7 l[i] < 2 ^ 2 ^ j := hl _ (List.getElem_mem h)
  refine (eq_num hx fun t ht => ?_).symm
  have e1 : (i * 2 ^ j + t) / 2 ^ j = i := by rw [Nat.mul_comm, Nat.mul_add_div (Nat.two_pow_pos j), Nat.div_eq_of_lt ht, Nat.add_zero]
  have e2 : (i * 2 ^ j + t) % 2 ^ j = t := by rw [Nat.mul_comm, Nat.mul_add_mod, Nat.mod_eq_of_lt ht]
  unfold lb
  rw [e1, e2, List.getElem?_eq_getElem h]
theorem els_lb {j : Nat} (hj : j ≤ 7) {l : List (T 7)} (hl : ∀ x ∈ l, InL j x) : els j (lb j l) l.length = l := by
  apply List.ext_getElem
  · exact els_length _ _ _
  · intro i h1 h2
    rw [els_get, el_lb hj hl h2]
/-- Other bits where an element lies. -/
def putB (j : Nat) (b : Nat → Bool) (i : Nat) (x : T 7) (t : Nat) : Bool := if t / 2 ^ j = i then (enc 7 x).testBit (t % 2 ^ j) else b t
theorem lb_set {j : Nat} {l : List (T 7)} {i : Nat} (h : i < l.length) (x : T 7) (t : Nat) : lb j (l.set i x) t = putB j (lb j l) i x t := by
  unfold putB lb
  rw [List.getElem?_set]
  by_cases e : i = t / 2 ^ j
  · rw [if_pos e, if_pos h, if_pos e.symm]
  · rw [if_neg e, if_neg (fun h => e h.symm)]
theorem lb_take {j : Nat} {l : List (T 7)} {i : Nat} (h : i < l.length) (t : Nat) : lb j (l.take (i + 1)) t = putB j (lb j (l.take i)) i l[i] t := by
  unfold putB lb
  rw [List.getElem?_take, List.getElem?_take]
  by_cases e : t / 2 ^ j = i
  · rw [if_pos e, e, if_pos (by omega), List.getElem?_eq_getElem h]
  · rw [if_neg e]
    by_cases h2 : t / 2 ^ j < i
    · rw [if_pos h2, if_pos (by omega)]
    · rw [if_neg h2, if_neg (by omega)]
/-- How many words. -/
def sz (j n : Nat) : Nat := (n + 2 ^ (6 - j) - 1) / 2 ^ (6 - j)
theorem pw {j : Nat} (hj : j ≤ 6) : 2 ^ (6 - j) * 2 ^ j = 64 := by
  rw [← Nat.pow_add, Nat.sub_add_cancel hj]
theorem sz_lt {j n i : Nat} (hi : i < n) : i / 2 ^ (6 - j) < sz j n := by
  unfold sz
  have := Nat.two_pow_pos (6 - j)
  rw [Nat.div_lt_iff_lt_mul this]
  have h2 := Nat.lt_mul_div_succ (n + 2 ^ (6 - j) - 1) this
  rw [Nat.mul_add, Nat.mul_one, Nat.mul_comm] at h2
  generalize (n + 2 ^ (6 - j) - 1) / 2 ^ (6 - j) * 2 ^ (6 - j) = a at *
  omega
theorem sz_le (j n : Nat) : sz j n ≤ n := by
  unfold sz
  have h0 := Nat.two_pow_pos (6 - j)
  cases n with
  | zero => rw [Nat.zero_add, Nat.div_eq_of_lt (by omega)]; exact Nat.le_refl _
  | succ n =>
    rw [show n + 1 + 2 ^ (6 - j) - 1 = n + 2 ^ (6 - j) by omega, Nat.add_div_right _ h0]
    have := Nat.div_le_self n (2 ^ (6 - j))
    omega
/-- As many words as bits take. -/
theorem sz_bits {j : Nat} (hj : j ≤ 6) (n : Nat) : sz j n = (n * 2 ^ j + 63) / 64 := by
  unfold sz
  have hp := pw hj
  have h0 := Nat.two_pow_pos j
  have h1 := Nat.two_pow_pos (6 - j)
  generalize 2 ^ (6 - j) = p at *
  generalize 2 ^ j = w at *
  have hw : p ≤ 64 := by
    have := Nat.le_mul_of_pos_right p h0
    omega
  have e : (n + p - 1) / p = (n * w + (p - 1) * w) / 64 := by
    rw [← Nat.add_mul, ← hp, Nat.mul_div_mul_right _ _ h0]
    congr 1
    omega
  rw [e]
  have e2 : (p - 1) * w = 64 - w := by rw [Nat.sub_mul, hp, Nat.one_mul]
  rw [e2]
  have hw2 : w ≤ 64 := by
    have := Nat.le_mul_of_pos_left w h1
    omega
  have hd : 64 % w = 0 := by rw [← hp]; exact Nat.mul_mod_left p w
  -- both are the least count of words
  have k1 : n * w % w = 0 := Nat.mul_mod_left n w
  obtain ⟨q, hq⟩ : ∃ q, n * w = 64 * (n * w / 64) + q * w ∧ q * w < 64 := by
    refine ⟨(n * w % 64) / w, ?_, ?_⟩
    · have h2 : n * w % 64 % w = 0 := by rw [Nat.mod_mod_of_dvd _ (Nat.dvd_of_mod_eq_zero hd)]; exact k1
      have h3 := Nat.div_add_mod (n * w % 64) w
      rw [h2, Nat.add_zero, Nat.mul_comm] at h3
      have h4 := Nat.div_add_mod (n * w) 64
      omega
    · have h3 := Nat.div_mul_le_self (n * w % 64) w
      have := Nat.mod_lt (n * w) (by decide : 0 < 64)
      omega
  generalize n * w = m at *
  obtain ⟨hq, hq2⟩ := hq
  rcases Nat.eq_zero_or_pos q with h | h
  · subst h
    rw [Nat.zero_mul] at hq
    omega
  · have : w ≤ q * w := Nat.le_mul_of_pos_left w h
    generalize q * w = r at *
    omega
/-- Where the bits of an element lie. -/
theorem at_eq {j : Nat} (hj : j ≤ 6) (i : Nat) : 64 * (i / 2 ^ (6 - j)) + i % 2 ^ (6 - j) * 2 ^ j = i * 2 ^ j := by
  have hp := pw hj
  have e2 := Nat.div_add_mod i (2 ^ (6 - j))
  generalize 2 ^ (6 - j) = p at *
  generalize 2 ^ j = w at *
  calc 64 * (i / p) + i % p * w = p * w * (i / p) + i % p * w := by rw [hp]
    _ = (p * (i / p) + i % p) * w := by rw [Nat.add_mul]; congr 1; rw [Nat.mul_assoc, Nat.mul_comm w, ← Nat.mul_assoc]
    _ = i * w := by rw [e2]
theorem at_lt {j : Nat} (hj : j ≤ 6) (i : Nat) : i % 2 ^ (6 - j) * 2 ^ j + 2 ^ j ≤ 64 := by
  have hp := pw hj
  have e2 := Nat.mod_lt i (Nat.two_pow_pos (6 - j))
  generalize 2 ^ (6 - j) = p at *
  generalize 2 ^ j = w at *
  calc i % p * w + w = (i % p + 1) * w := by rw [Nat.add_mul, Nat.one_mul]
    _ ≤ p * w := Nat.mul_le_mul_right _ e2
    _ = 64 := hp
theorem place {j : Nat} (hj : j ≤ 6) (i t : Nat) : (64 * (i / 2 ^ (6 - j)) + t) / 2 ^ j = i ↔ i % 2 ^ (6 - j) * 2 ^ j ≤ t ∧ t < i % 2 ^ (6 - j) * 2 ^ j + 2 ^ j := by
  have h1 := at_eq hj i
  rw [Nat.div_eq_iff (Nat.two_pow_pos j)]
  have := Nat.two_pow_pos j
  omega
theorem place_mod {j : Nat} (hj : j ≤ 6) (i t : Nat) (h1 : i % 2 ^ (6 - j) * 2 ^ j ≤ t) (h2 : t < i % 2 ^ (6 - j) * 2 ^ j + 2 ^ j) : (64 * (i / 2 ^ (6 - j)) + t) % 2 ^ j = t - i % 2 ^ (6 - j) * 2 ^ j := by
  have h3 := at_eq hj i
  have e : 64 * (i / 2 ^ (6 - j)) + t = (t - i % 2 ^ (6 - j) * 2 ^ j) + 2 ^ j * i := by rw [Nat.mul_comm (2 ^ j) i]; omega
  rw [e, Nat.add_mul_mod_self_left, Nat.mod_eq_of_lt (by omega)]
theorem other_word {j i v t : Nat} (hj : j ≤ 6) (hv : v ≠ i / 2 ^ (6 - j)) (ht : t < 64) : (64 * v + t) / 2 ^ j ≠ i := by
  intro h
  apply hv
  have hp := pw hj
  have h1 : (64 * v + t) / 2 ^ j / 2 ^ (6 - j) = v := by
    rw [Nat.div_div_eq_div_mul, Nat.mul_comm (2 ^ j), hp]
    omega
  rw [← h1, h]
/-- An element put in where there was none. -/
theorem or_put {j : Nat} (hj : j ≤ 6) {b : Nat → Bool} {m i : Nat} (hi : i / 2 ^ (6 - j) < m) {x : T 7} (hx : InL j x) (h0 : ∀ t, t / 2 ^ j = i → b t = false) :
    (wordsB b m).set (i / 2 ^ (6 - j)) (((num (fun t => b (64 * (i / 2 ^ (6 - j)) + t)) 64 ||| enc 7 x * 2 ^ (i % 2 ^ (6 - j) * 2 ^ j) : Nat)) : Int) = wordsB (putB j b i x) m := by
  have hx : enc 7 x < 2 ^ 2 ^ j := hx
  have ha := at_lt hj i
  have hlt : enc 7 x * 2 ^ (i % 2 ^ (6 - j) * 2 ^ j) < 2 ^ 64 := by
    calc enc 7 x * 2 ^ (i % 2 ^ (6 - j) * 2 ^ j) < 2 ^ 2 ^ j * 2 ^ (i % 2 ^ (6 - j) * 2 ^ j) := Nat.mul_lt_mul_of_pos_right hx (Nat.two_pow_pos _)
      _ = 2 ^ (2 ^ j + i % 2 ^ (6 - j) * 2 ^ j) := by rw [Nat.pow_add]
      _ ≤ 2 ^ 64 := Nat.pow_le_pow_right (by decide) (by omega)
  refine wordsB_set hi (Nat.or_lt_two_pow (num64 _) hlt) ?_ ?_
  · intro t ht
    rw [Nat.testBit_or, num_bit, decide_eq_true ht, Bool.true_and, Nat.testBit_mul_two_pow]
    unfold putB
    by_cases hp : (64 * (i / 2 ^ (6 - j)) + t) / 2 ^ j = i
    · obtain ⟨h1, h2⟩ := (place hj i t).1 hp
      rw [if_pos hp, h0 _ hp, Bool.false_or, place_mod hj i t h1 h2, decide_eq_true (by omega), Bool.true_and]
    · rw [if_neg hp]
      have hn : ¬ (i % 2 ^ (6 - j) * 2 ^ j ≤ t ∧ t < i % 2 ^ (6 - j) * 2 ^ j + 2 ^ j) := fun h => hp ((place hj i t).2 h)
      by_cases hle : i % 2 ^ (6 - j) * 2 ^ j ≤ t
      · have hbig : enc 7 x < 2 ^ (t - i % 2 ^ (6 - j) * 2 ^ j) := Nat.lt_of_lt_of_le hx (Nat.pow_le_pow_right (by decide) (by omega))
        rw [Nat.testBit_lt_two_pow hbig, Bool.and_false, Bool.or_false]
      · rw [decide_eq_false (by omega), Bool.false_and, Bool.or_false]
  · intro v t hv ht
    unfold putB
    rw [if_neg (other_word hj hv ht)]
/-- An element cut out. -/
theorem cut_out {j : Nat} (hj : j ≤ 6) (b : Nat → Bool) (i : Nat) :
    (num (fun t => b (64 * (i / 2 ^ (6 - j)) + t)) 64 / 2 ^ (i % 2 ^ (6 - j) * 2 ^ j)) &&& (2 ^ 2 ^ j - 1) = num (fun t => b (i * 2 ^ j + t)) (2 ^ j) := by
  have ha := at_lt hj i
  have he := at_eq hj i
  rw [Nat.and_two_pow_sub_one_eq_mod]
  refine eq_num (Nat.mod_lt _ (Nat.two_pow_pos _)) fun t ht => ?_
  rw [Nat.testBit_mod_two_pow, decide_eq_true ht, Bool.true_and, ← Nat.shiftRight_eq_div_pow, Nat.testBit_shiftRight, num_bit, decide_eq_true (by omega), Bool.true_and]
  congr 1
  omega
end Go.Proofs.Ytceneggampgboaa.Br
