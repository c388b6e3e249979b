/- All lanes of two words multiplied at once. Conditions: those that each theorem names. -/
import Derived.Test.YtceneggampgboaaPkBits
import Derived.Test.YtceneggampgboaaHLow
import Derived.Test.YtceneggampgboaaPx20
set_option linter.unusedVariables false
set_option linter.unusedSimpArgs false
namespace Go.Proofs.Ytceneggampgboaa.Br
open Go.RowKit Go.Proofs.YtceneggampgboaaT Go.Proofs.Ytceneggampgboaa.P Go.Proofs.YtceneggampgboaaW.PrintWords Go.Proofs.YtceneggampgboaaW.PrintLast Go.Proofs.YtceneggampgboaaW.PrintMore
/-- The lower halves of all lanes, alone. -/
def loB (j : Nat) (b : Nat → Bool) : Nat → Bool := fun i => b i && !i.testBit j
def lowN : Nat → Nat
  | 0 => 6148914691236517205
  | 1 => 3689348814741910323
  | 2 => 1085102592571150095
  | 3 => 71777214294589695
  | 4 => 281470681808895
  | _ => 4294967295
theorem lowN_bits : ∀ n : Nat, n < 6 → ∀ i : Nat, i < 64 → (lowN n).testBit i = !i.testBit n := by decide +kernel
theorem lowN_lt : ∀ n : Nat, n < 6 → lowN n < 2 ^ 64 := by decide
theorem low_f {n : Nat} (h : n < 6) : pack_low.f ((n + 1 : Nat) : Int) = some (lowN n : Int) := by
  have : ∀ n : Nat, n < 6 → pack_low.f ((n + 1 : Nat) : Int) = some (lowN n : Int) := by decide
  exact this n h
theorem half_in : ∀ j : Nat, j < 6 → ∀ t : Nat, t < 64 → t.testBit j = false → t + 2 ^ j < 64 := by decide +kernel
theorem pow_le32 {j : Nat} (h : j < 6) : 2 ^ j ≤ 32 := Nat.pow_le_pow_right (n := 2) (by decide) (show j ≤ 5 by omega)
theorem hi_word {j : Nat} (hj : j < 6) (b : Nat → Bool) : num b 64 / 2 ^ 2 ^ j &&& lowN j = num (hiB j b) 64 := by
  refine eq_num (Nat.and_lt_two_pow _ (lowN_lt j hj)) fun t ht => ?_
  rw [Nat.testBit_and, ← Nat.shiftRight_eq_div_pow, Nat.testBit_shiftRight, num_bit, lowN_bits j hj t ht]
  unfold hiB
  cases h : t.testBit j with
  | true => rw [Bool.not_true, Bool.and_false, Bool.and_false]
  | false =>
    have := half_in j hj t ht h
    rw [Nat.add_comm, decide_eq_true this, Bool.true_and]
theorem lo_word {j : Nat} (hj : j < 6) (b : Nat → Bool) : num b 64 &&& lowN j = num (loB j b) 64 := by
  refine eq_num (Nat.and_lt_two_pow _ (lowN_lt j hj)) fun t ht => ?_
  rw [Nat.testBit_and, num_bit, lowN_bits j hj t ht, decide_eq_true ht, Bool.true_and]
  rfl
theorem xor_word (b c : Nat → Bool) : num b 64 ^^^ num c 64 = num (fun t => Bool.xor (b t) (c t)) 64 := by
  refine eq_num (Nat.xor_lt_two_pow (num64 b) (num64 c)) fun t ht => ?_
  rw [Nat.testBit_xor, num_bit, num_bit, decide_eq_true ht, Bool.true_and, Bool.true_and]
theorem and_word (b c : Nat → Bool) : num b 64 &&& num c 64 = num (fun t => b t && c t) 64 := by
  refine eq_num (Nat.and_lt_two_pow _ (num64 c)) fun t ht => ?_
  rw [Nat.testBit_and, num_bit, num_bit, decide_eq_true ht, Bool.true_and, Bool.true_and]
theorem or_word (b c : Nat → Bool) : num b 64 ||| num c 64 = num (fun t => b t || c t) 64 := by
  refine eq_num (Nat.or_lt_two_pow (num64 b) (num64 c)) fun t ht => ?_
  rw [Nat.testBit_or, num_bit, num_bit, decide_eq_true ht, Bool.true_and, Bool.true_and]
/-- A word moved up. -/
def upB (w : Nat) (b : Nat → Bool) : Nat → Bool := fun t => decide (w ≤ t) && b (t - w)
theorem shl_word {w : Nat} (hw : w ≤ 64) (b : Nat → Bool) : shl .u64 ((num b 64 : Nat) : Int) ((w : Nat) : Int) = ((num (upB w b) 64 : Nat) : Int) := by
  have e1 : shl .u64 ((num b 64 : Nat) : Int) ((w : Nat) : Int) = ((num b 64 * 2 ^ w % 2 ^ 64 : Nat) : Int) := by
    unfold shl
    rw [Int.toNat_natCast, show IntKind.u64.bits = 64 from rfl, Nat.min_eq_left hw]
    have : (((num b 64 : Nat) : Int) * 2 ^ w) = ((num b 64 * 2 ^ w : Nat) : Int) := by rw [Int.natCast_mul, Int.natCast_pow]; rfl
    rw [this]
    simp [IntKind.wrap, IntKind.bits, IntKind.signed]
  rw [e1]
  have e2 : num b 64 * 2 ^ w % 2 ^ 64 = num (upB w b) 64 := by
    refine eq_num (Nat.mod_lt _ (Nat.two_pow_pos _)) fun t ht => ?_
    rw [Nat.testBit_mod_two_pow, decide_eq_true ht, Bool.true_and, Nat.testBit_mul_two_pow, num_bit]
    unfold upB
    rw [decide_eq_true (by omega : t - w < 64), Bool.true_and]
  rw [e2]
theorem bxor (b c : Nat → Bool) : Go.bits .xor .u64 ((num b 64 : Nat) : Int) ((num c 64 : Nat) : Int) = ((num (fun t => Bool.xor (b t) (c t)) 64 : Nat) : Int) := by
  rw [bits_xor _ _ (num64 b) (num64 c), xor_word]
theorem band (b c : Nat → Bool) : Go.bits .and .u64 ((num b 64 : Nat) : Int) ((num c 64 : Nat) : Int) = ((num (fun t => b t && c t) 64 : Nat) : Int) := by
  rw [bits_and _ _ (num64 b) (num64 c), and_word]
theorem bor (b c : Nat → Bool) : Go.bits .or .u64 ((num b 64 : Nat) : Int) ((num c 64 : Nat) : Int) = ((num (fun t => b t || c t) 64 : Nat) : Int) := by
  rw [bits_or _ _ (num64 b) (num64 c), or_word]
theorem bhi {j : Nat} (hj : j < 6) (b : Nat → Bool) : Go.bits .and .u64 (shr .u64 ((num b 64 : Nat) : Int) ((2 ^ j : Nat) : Int)) (lowN j : Int) = ((num (hiB j b) 64 : Nat) : Int) := by
  have := pow_le32 hj
  rw [shr_u64 _ _ (by omega), bits_and _ _ (Nat.lt_of_le_of_lt (Nat.div_le_self _ _) (num64 b)) (lowN_lt j hj), hi_word hj]
theorem blo {j : Nat} (hj : j < 6) (b : Nat → Bool) : Go.bits .and .u64 ((num b 64 : Nat) : Int) (lowN j : Int) = ((num (loB j b) 64 : Nat) : Int) := by
  rw [bits_and _ _ (num64 b) (lowN_lt j hj), lo_word hj]
/-! Lanes. -/
def ln (j : Nat) (b : Nat → Bool) (i : Nat) : T j := decB j (i * 2 ^ j) b
theorem even_off (j m : Nat) : 2 * m * 2 ^ j = m * 2 ^ (j + 1) := by rw [Nat.pow_succ, Nat.mul_comm (2 ^ j), ← Nat.mul_assoc, Nat.mul_comm m 2]
theorem odd_off (j m : Nat) : (2 * m + 1) * 2 ^ j = m * 2 ^ (j + 1) + 2 ^ j := by rw [Nat.add_mul, Nat.one_mul, even_off]
theorem even_bit (j m : Nat) {i : Nat} (h : i < 2 ^ j) : (2 * m * 2 ^ j + i).testBit j = false := by
  rw [even_off, Nat.mul_comm]
  exact bit_low m h
theorem odd_bit (j m : Nat) {i : Nat} (h : i < 2 ^ j) : ((2 * m + 1) * 2 ^ j + i).testBit j = true := by
  rw [odd_off, Nat.mul_comm]
  exact bit_high m h
theorem ln_hi (j : Nat) (b : Nat → Bool) (m : Nat) : ln j (hiB j b) (2 * m) = ln j b (2 * m + 1) := by
  refine decB_congr fun i hi => ?_
  unfold hiB
  rw [even_bit j m hi, Bool.not_false, Bool.and_true, odd_off, even_off]
  congr 1
  omega
theorem ln_hi_odd (j : Nat) (b : Nat → Bool) (m : Nat) : ln j (hiB j b) (2 * m + 1) = 0 := by
  refine decB_false fun i hi => ?_
  unfold hiB
  rw [odd_bit j m hi, Bool.not_true, Bool.and_false]
theorem ln_lo (j : Nat) (b : Nat → Bool) (m : Nat) : ln j (loB j b) (2 * m) = ln j b (2 * m) := by
  refine decB_congr fun i hi => ?_
  unfold loB
  rw [even_bit j m hi, Bool.not_false, Bool.and_true]
theorem ln_lo_odd (j : Nat) (b : Nat → Bool) (m : Nat) : ln j (loB j b) (2 * m + 1) = 0 := by
  refine decB_false fun i hi => ?_
  unfold loB
  rw [odd_bit j m hi, Bool.not_true, Bool.and_false]
theorem ln_xor (j : Nat) (b c : Nat → Bool) (i : Nat) : ln j (fun t => Bool.xor (b t) (c t)) i = ln j b i + ln j c i := decB_add j _ b c
theorem ln_succ (j : Nat) (b : Nat → Bool) (m : Nat) : ln (j + 1) b m = ((ln j b (2 * m + 1), ln j b (2 * m)) : T j × T j) := by
  unfold ln
  rw [odd_off, even_off]
  rfl
theorem ln_fst (j : Nat) (b : Nat → Bool) (m : Nat) : (ln (j + 1) b m).1 = ln j b (2 * m + 1) := congrArg Prod.fst (ln_succ j b m)
theorem ln_snd (j : Nat) (b : Nat → Bool) (m : Nat) : (ln (j + 1) b m).2 = ln j b (2 * m) := congrArg Prod.snd (ln_succ j b m)
theorem ln_zero_bit {j i : Nat} {b : Nat → Bool} (h : ln j b i = 0) {t : Nat} (ht : t < 2 ^ j) : b (i * 2 ^ j + t) = false := bits_of_zero h t ht
/-- An odd lane of a word moved up by one lane is the even one below. -/
theorem ln_up_odd (j : Nat) (b : Nat → Bool) (m : Nat) : ln j (upB (2 ^ j) b) (2 * m + 1) = ln j b (2 * m) := by
  refine decB_congr fun i hi => ?_
  unfold upB
  rw [odd_off, decide_eq_true (by omega), Bool.true_and, even_off]
  congr 1
  omega
theorem ln_up_even (j : Nat) (b : Nat → Bool) (m N : Nat) (hN : 2 * m < N) (h : ∀ m, 2 * m + 1 < N → ln j b (2 * m + 1) = 0) : ln j (upB (2 ^ j) b) (2 * m) = 0 := by
  refine decB_false fun i hi => ?_
  unfold upB
  cases m with
  | zero =>
    rw [Nat.mul_zero, Nat.zero_mul, Nat.zero_add, decide_eq_false (by omega), Bool.false_and]
  | succ m =>
    have h0 := h m (by omega)
    have := ln_zero_bit h0 hi
    have e : 2 * (m + 1) * 2 ^ j + i - 2 ^ j = (2 * m + 1) * 2 ^ j + i := by
      rw [show 2 * (m + 1) = 2 * m + 1 + 1 by omega, Nat.add_mul (2 * m + 1) 1, Nat.one_mul]
      omega
    rw [e, this, Bool.and_false]
theorem ln_or_l (j : Nat) (b c : Nat → Bool) (i : Nat) (h : ln j c i = 0) : ln j (fun t => b t || c t) i = ln j b i :=
  decB_congr fun t ht => by
    show (b (i * 2 ^ j + t) || c (i * 2 ^ j + t)) = _
    rw [ln_zero_bit h ht, Bool.or_false]
theorem ln_or_r (j : Nat) (b c : Nat → Bool) (i : Nat) (h : ln j b i = 0) : ln j (fun t => b t || c t) i = ln j c i :=
  decB_congr fun t ht => by
    show (b (i * 2 ^ j + t) || c (i * 2 ^ j + t)) = _
    rw [ln_zero_bit h ht, Bool.false_or]
/-- Lanes that a word has. -/
def nl_ (j : Nat) : Nat := 2 ^ (6 - j)
theorem nl_succ {j : Nat} (h : j < 6) : nl_ j = 2 * nl_ (j + 1) := by
  unfold nl_
  rw [show 6 - j = 6 - (j + 1) + 1 by omega, Nat.pow_succ, Nat.mul_comm]
theorem ptimesX_f : ∀ (j fuel : Nat), j ≤ 6 → j + 1 ≤ fuel → ∀ b : Nat → Bool, ∃ d : Nat → Bool, pack_timesX.f fuel (j : Int) ((num b 64 : Nat) : Int) = some ((num d 64 : Nat) : Int) ∧ ∀ i, i < nl_ j → ln j d i = ln j b i * gen j
  | 0, f + 1, _, _, b => ⟨b, by rw [pack_timesX.f, if_pos (by omega)], fun i _ => (mul_one _).symm⟩
  | j + 1, f + 1, h, hf, b => by
    have hj : j < 6 := by omega
    have hp := pow_le32 hj
    obtain ⟨d, hd, hl⟩ := ptimesX_f j f (by omega) (by omega) (hiB j b)
    refine ⟨fun t => upB (2 ^ j) (fun t => Bool.xor (loB j b t) (d t)) t || hiB j b t, ?_, ?_⟩
    · rw [pack_timesX.f, if_neg (by omega), wrap_pred j (by omega), shl1_i64 j (by omega), if_pos (Int.natCast_nonneg _), if_pos (Int.natCast_nonneg _), low_f hj]
      simp only [Option.bind_some]
      rw [bhi hj, blo hj, hd, Option.bind_some, bxor, shl_word (by omega), bor]
    · intro m hm
      have hn := nl_succ hj
      have hz : ∀ m, 2 * m + 1 < nl_ j → ln j (fun t => Bool.xor (loB j b t) (d t)) (2 * m + 1) = 0 := fun m hm => by
        rw [ln_xor, ln_lo_odd, hl _ hm, ln_hi_odd, zero_mul, add_zero]
      rw [mulgen]
      refine ext2 ?_ ?_
      · rw [ln_fst, ln_or_l _ _ _ _ (ln_hi_odd j b m), ln_up_odd, ln_xor, ln_lo, hl _ (by omega), ln_hi]
        show _ = (ln (j + 1) b m).2 + (ln (j + 1) b m).1 * gen j
        rw [ln_fst, ln_snd]
      · rw [ln_snd, ln_or_r _ _ _ _ (ln_up_even j _ m (nl_ j) (by omega) hz), ln_hi]
        exact (ln_fst j b m).symm
theorem ptimes_f : ∀ (j fuel : Nat), j ≤ 6 → 2 * j + 2 ≤ fuel → ∀ b c : Nat → Bool, ∃ d : Nat → Bool, pack_times.f fuel (j : Int) ((num b 64 : Nat) : Int) ((num c 64 : Nat) : Int) = some ((num d 64 : Nat) : Int) ∧ ∀ i, i < nl_ j → ln j d i = ln j b i * ln j c i
  | 0, f + 1, _, _, b, c => ⟨fun t => b t && c t, by rw [pack_times.f, if_pos (by omega), band], fun i _ => rfl⟩
  | j + 1, f + 1, h, hf, b, c => by
    have hj : j < 6 := by omega
    have hp := pow_le32 hj
    obtain ⟨p, hp1, hp2⟩ := ptimes_f j f (by omega) (by omega) (hiB j b) (hiB j c)
    obtain ⟨q, hq1, hq2⟩ := ptimes_f j f (by omega) (by omega) (loB j b) (loB j c)
    obtain ⟨r, hr1, hr2⟩ := ptimes_f j f (by omega) (by omega) (fun t => Bool.xor (hiB j b t) (loB j b t)) (fun t => Bool.xor (hiB j c t) (loB j c t))
    obtain ⟨s, hs1, hs2⟩ := ptimesX_f j f (by omega) (by omega) p
    refine ⟨fun t => Bool.xor (upB (2 ^ j) (fun t => Bool.xor (Bool.xor (Bool.xor (r t) (p t)) (q t)) (s t)) t || q t) (p t), ?_, ?_⟩
    · rw [pack_times.f, if_neg (by omega), wrap_pred j (by omega), shl1_i64 j (by omega), if_pos (Int.natCast_nonneg _), low_f hj, Option.bind_some, if_pos (Int.natCast_nonneg _), bhi hj, bhi hj, blo hj, blo hj, hp1, Option.bind_some, hq1, Option.bind_some, bxor, bxor, hr1, Option.bind_some, hs1, Option.bind_some, bxor, bxor, bxor, shl_word (by omega), bor, bxor]
    · intro m hm
      have hn := nl_succ hj
      have zp : ∀ m, 2 * m + 1 < nl_ j → ln j p (2 * m + 1) = 0 := fun m hm => by rw [hp2 _ hm, ln_hi_odd, zero_mul]
      have zq : ∀ m, 2 * m + 1 < nl_ j → ln j q (2 * m + 1) = 0 := fun m hm => by rw [hq2 _ hm, ln_lo_odd, zero_mul]
      have zr : ∀ m, 2 * m + 1 < nl_ j → ln j r (2 * m + 1) = 0 := fun m hm => by rw [hr2 _ hm, ln_xor, ln_hi_odd, ln_lo_odd, add_zero, zero_mul]
      have zs : ∀ m, 2 * m + 1 < nl_ j → ln j s (2 * m + 1) = 0 := fun m hm => by rw [hs2 _ hm, zp m hm, zero_mul]
      have hz : ∀ m, 2 * m + 1 < nl_ j → ln j (fun t => Bool.xor (Bool.xor (Bool.xor (r t) (p t)) (q t)) (s t)) (2 * m + 1) = 0 := fun m hm => by
        rw [ln_xor, ln_xor, ln_xor, zr m hm, zp m hm, zq m hm, zs m hm, add_zero, add_zero, add_zero]
      have ho : 2 * m + 1 < nl_ j := by omega
      have he : 2 * m < nl_ j := by omega
      rw [mul_kara, ln_fst, ln_fst, ln_snd, ln_snd]
      refine ext2 ?_ ?_
      · rw [ln_fst, ln_xor, zp m ho, add_zero, ln_or_l _ _ _ _ (zq m ho), ln_up_odd, ln_xor, ln_xor, ln_xor, hr2 _ he, hs2 _ he, hp2 _ he, hq2 _ he, ln_xor, ln_xor, ln_hi, ln_hi, ln_lo, ln_lo]
      · rw [ln_snd, ln_xor, ln_or_r _ _ _ _ (ln_up_even j _ m (nl_ j) he hz), hp2 _ he, hq2 _ he, ln_hi, ln_hi, ln_lo, ln_lo]
end Go.Proofs.Ytceneggampgboaa.Br
