/- The level above and the level below, with the same words, on bits. Conditions: those that each theorem names. -/
import Derived.Test.YtceneggampgboaaPkReck
import Derived.Test.YtceneggampgboaaBrRefX
import Derived.Test.YtceneggampgboaaPx14
import Derived.Test.YtceneggampgboaaPx15
import Derived.Test.YtceneggampgboaaPx5
set_option linter.unusedVariables false
set_option linter.unusedSimpArgs false
namespace Go.Proofs.Ytceneggampgboaa.Br
open Go.RowKit Go.Proofs.YtceneggampgboaaT Go.Proofs.Ytceneggampgboaa.P Go.Proofs.YtceneggampgboaaW.PrintWords Go.Proofs.YtceneggampgboaaW.PrintLast Go.Proofs.YtceneggampgboaaW.PrintMore
theorem sz_up {j : Nat} (hj : j < 6) (n : Nat) : sz (j + 1) n = sz j (2 * n) := by
  rw [sz_bits (by omega), sz_bits (by omega), Nat.pow_succ, Nat.mul_comm (2 ^ j) 2, ← Nat.mul_assoc, Nat.mul_comm n 2]
theorem Zb_up {j n : Nat} {b : Nat → Bool} (h : Zb j (2 * n) b) : Zb (j + 1) n b := fun t ht => h t (by
  rw [Nat.pow_succ, Nat.mul_comm (2 ^ j) 2, ← Nat.mul_assoc, Nat.mul_comm n 2] at ht
  exact ht)
theorem Zb_down {j n : Nat} {b : Nat → Bool} (h : Zb (j + 1) n b) : Zb j (2 * n) b := fun t ht => h t (by
  rw [Nat.pow_succ, Nat.mul_comm (2 ^ j) 2, ← Nat.mul_assoc, Nat.mul_comm n 2]
  exact ht)
theorem pair_gen {k : Nat} (h l : T k) : (show T (k + 1) from ((h, l) : T k × T k)) = lift l + lift h * gen (k + 1) := by
  rw [mulgen]
  refine ext2 ?_ ?_
  · show h = 0 + (h + 0 * gen k)
    rw [zero_mul, add_zero, zero_add]
  · show l = l + 0
    rw [add_zero]
theorem X7_nat {j : Nat} (h : j ≤ 7) : X7 (j : Int) = emb 7 j (gen j) := by
  unfold X7
  rw [if_pos (by omega), Int.toNat_natCast]
theorem el_up {j : Nat} (hj : j < 6) (b : Nat → Bool) (i : Nat) : el (j + 1) b i = el j b (2 * i) + el j b (2 * i + 1) * X7 ((j + 1 : Nat) : Int) := by
  rw [X7_nat (by omega)]
  unfold el
  have e : decB (j + 1) (i * 2 ^ (j + 1)) b = lift (decB j (2 * i * 2 ^ j) b) + lift (decB j ((2 * i + 1) * 2 ^ j) b) * gen (j + 1) := by
    rw [← pair_gen]
    have h1 : i * 2 ^ (j + 1) = 2 * i * 2 ^ j := by rw [Nat.pow_succ, Nat.mul_comm (2 ^ j) 2, ← Nat.mul_assoc, Nat.mul_comm i 2]
    have h2 : (2 * i + 1) * 2 ^ j = 2 * i * 2 ^ j + 2 ^ j := by rw [Nat.add_mul, Nat.one_mul]
    rw [h1, h2]
    rfl
  rw [e, emb_add, emb_mul (by omega), ← emb_lift, ← emb_lift]
theorem tmod2 (n : Nat) : (Int.tmod (n : Int) 2 == 1) = decide (n % 2 = 1) := by
  rw [show Int.tmod (n : Int) 2 = ((n % 2 : Nat) : Int) from tmod_nat n 2]
  rcases Nat.mod_two_eq_zero_or_one n with h | h <;> rw [h] <;> rfl
theorem emod2 (n : Nat) : ((n : Int) % 2 == 1) = decide (n % 2 = 1) := by
  rw [show (n : Int) % 2 = ((n % 2 : Nat) : Int) from (Int.natCast_emod n 2).symm]
  rcases Nat.mod_two_eq_zero_or_one n with h | h <;> rw [h] <;> rfl
theorem Rise_ev {j m : Nat} (hj : j < 6) (hm : m < 2 ^ 20) {l : List Int} (hl : l.length ≤ 2 ^ 40) : Ev (fun k => pack_Rise.f k (j : Int) ((2 * m : Nat) : Int) l) (((j + 1 : Nat) : Int), (m : Int), l, (0 : Int)) := by
  unfold pack_Rise.f
  refine Ev.neg (by omega) (Ev.succ ?_)
  rw [tmod2, decide_eq_false (by omega)]
  simp only [pack_Rise.j0]
  refine Ev.neg (by decide) ?_
  refine Ev.bind (Ev.const (clone_f hl)) ?_
  refine Ev.bind (Ev.const (vec_f _ _ _)) ?_
  show Ev (fun _ => some (wrap64 ((j : Int) + 1), wrap64 (Int.tdiv ((2 * m : Nat) : Int) 2), l, (0 : Int))) _
  rw [wrap_succ j (by omega), show Int.tdiv ((2 * m : Nat) : Int) 2 = ((2 * m / 2 : Nat) : Int) from tdiv_nat (2 * m) 2, Nat.mul_div_cancel_left m (by decide), wrap_nat (by omega)]
  exact Ev.now _
theorem Rise_err {j n : Nat} (h : j = 6 ∨ n % 2 = 1) (l : List Int) : Ev (fun k => pack_Rise.f k (j : Int) (n : Int) l) ((0 : Int), (0 : Int), ([] : List Int), (6 : Int)) := by
  unfold pack_Rise.f
  by_cases h6 : j = 6
  · refine Ev.pos (by omega) (Ev.succ ?_)
    simp only [pack_Rise.j0]
    exact Ev.pos trivial (Ev.now _)
  · refine Ev.neg (by omega) (Ev.succ ?_)
    rw [tmod2, decide_eq_true (by omega)]
    simp only [pack_Rise.j0]
    exact Ev.pos trivial (Ev.now _)
theorem Fall_ev {j n : Nat} (hj : j < 6) (hn : n ≤ 32768) {l : List Int} (hl : l.length ≤ 2 ^ 40) : Ev (fun k => pack_Fall.f k ((j + 1 : Nat) : Int) (n : Int) l) ((j : Int), ((2 * n : Nat) : Int), l, (0 : Int)) := by
  unfold pack_Fall.f
  refine Ev.neg (by omega) (Ev.succ ?_)
  rw [decide_eq_false (show ¬ ((n : Int) > 32768) by omega)]
  simp only [pack_Fall.j0]
  refine Ev.neg (by decide) ?_
  refine Ev.bind (Ev.const (clone_f hl)) ?_
  refine Ev.bind (Ev.const (vec_f _ _ _)) ?_
  show Ev (fun _ => some (wrap64 (((j + 1 : Nat) : Int) - 1), wrap64 (2 * (n : Int)), l, (0 : Int))) _
  rw [wrap_pred j (by omega), show 2 * (n : Int) = ((2 * n : Nat) : Int) by omega, wrap_nat (by omega)]
  exact Ev.now _
theorem Fall_err {n : Nat} (l : List Int) : Ev (fun k => pack_Fall.f k 0 (n : Int) l) ((0 : Int), (0 : Int), ([] : List Int), (6 : Int)) := by
  unfold pack_Fall.f
  refine Ev.pos rfl (Ev.succ ?_)
  simp only [pack_Fall.j0]
  exact Ev.pos trivial (Ev.now _)
/-! The document's answers. -/
theorem refRise_l0 {j m : Nat} (hj : j < 6) (hm : m < 2 ^ 20) (b : Nat → Bool) : ∀ d q : Nat, q + d = m →
    Ev (fun k => steepleref03_Rise.l0 k ((els (j + 1) b q).map elR) ((2 * q : Nat) : Int) (j : Int) ((els j b (2 * m)).map elR) (hiW (X7 ((j + 1 : Nat) : Int))) (loW (X7 ((j + 1 : Nat) : Int)))) (((j + 1 : Nat) : Int), (els (j + 1) b m).map elR, (0 : Int))
  | 0, q, h => by
    obtain rfl : q = m := by omega
    refine Ev.succ ?_
    simp only [steepleref03_Rise.l0]
    rw [wrap_succ (2 * q) (by omega), wrap_succ j (by omega)]
    exact Ev.neg (by rw [List.length_map, els_length]; omega) (Ev.now _)
  | d + 1, q, h => by
    have h0 : 2 * q < (els j b (2 * m)).length := by rw [els_length]; omega
    have h1 : 2 * q + 1 < (els j b (2 * m)).length := by rw [els_length]; omega
    refine Ev.succ ?_
    simp only [steepleref03_Rise.l0]
    rw [wrap_succ (2 * q) (by omega), show wrap64 (((2 * q : Nat) : Int) + 2) = ((2 * (q + 1) : Nat) : Int) by unfold wrap64; omega]
    refine Ev.pos (by rw [List.length_map]; omega) (Ev.pos (by omega) (Ev.pos (by rw [List.length_map]; omega) (Ev.pos (by omega) ?_)))
    rw [rd_elR h0, rd_elR h1, elR_f0, elR_f1, elR_f0, elR_f1, els_get h0, els_get h1]
    refine Ev.bind (Product_ev _ _) ?_
    refine Ev.bind (Ev.const (refAdd_f _ _)) ?_
    refine Ev.pos (by rw [List.length_map, els_length]; omega) ?_
    have e : (els (j + 1) b q).map elR ++ [(⟨hiW (el j b (2 * q) + el j b (2 * q + 1) * X7 ((j + 1 : Nat) : Int)), loW (el j b (2 * q) + el j b (2 * q + 1) * X7 ((j + 1 : Nat) : Int))⟩ : S44)] = (els (j + 1) b (q + 1)).map elR := by
      rw [els_succ, List.map_append, el_up hj]
      rfl
    rw [e]
    exact refRise_l0 hj hm b d (q + 1) (by omega)
theorem refRise_ev {j m : Nat} (hj : j < 6) (hm : m < 2 ^ 20) (b : Nat → Bool) :
    Ev (fun k => steepleref03_Rise.f k (j : Int) ((els j b (2 * m)).map elR)) (((j + 1 : Nat) : Int), (els (j + 1) b m).map elR, (0 : Int)) := by
  unfold steepleref03_Rise.f
  refine Ev.neg (by omega) (Ev.succ ?_)
  rw [List.length_map, els_length, emod2, decide_eq_false (by omega)]
  simp only [steepleref03_Rise.j0]
  rw [wrap_succ j (by omega)]
  refine Ev.neg (by decide) ?_
  refine Ev.bind (refX_ev _) ?_
  exact refRise_l0 hj hm b m 0 (by omega)
theorem refRise_err {j n : Nat} (h : j = 6 ∨ n % 2 = 1) (b : Nat → Bool) : Ev (fun k => steepleref03_Rise.f k (j : Int) ((els j b n).map elR)) ((0 : Int), ([] : List S44), (6 : Int)) := by
  unfold steepleref03_Rise.f
  by_cases h6 : j = 6
  · refine Ev.pos (by omega) (Ev.succ ?_)
    simp only [steepleref03_Rise.j0]
    exact Ev.pos trivial (Ev.now _)
  · refine Ev.neg (by omega) (Ev.succ ?_)
    rw [List.length_map, els_length, emod2, decide_eq_true (by omega)]
    simp only [steepleref03_Rise.j0]
    exact Ev.pos trivial (Ev.now _)
/-- The first bits of an element, as an element. -/
def firstB (b : Nat → Bool) (off t : Nat) : T 7 := dec 7 (num (fun u => b (off + u)) t)
theorem num_step (b : Nat → Bool) (t : Nat) : num b (t + 1) = num b t ^^^ ((b t).toNat * 2 ^ t) := by
  symm
  refine eq_num ?_ fun i hi => ?_
  · refine Nat.xor_lt_two_pow (Nat.lt_of_lt_of_le (num_lt b t) (Nat.pow_le_pow_right (by decide) (by omega))) ?_
    rw [Nat.pow_succ]
    have := Nat.two_pow_pos t
    cases b t
    · rw [show Bool.toNat false = 0 from rfl]; omega
    · rw [show Bool.toNat true = 1 from rfl]; omega
  · rw [Nat.testBit_xor, num_bit]
    cases hb : b t with
    | false =>
      rw [show Bool.toNat false = 0 from rfl, Nat.zero_mul, Nat.zero_testBit, Bool.xor_false]
      by_cases h : i < t
      · rw [decide_eq_true h, Bool.true_and]
      · obtain rfl : i = t := by omega
        rw [hb, Bool.and_false]
    | true =>
      rw [show Bool.toNat true = 1 from rfl, Nat.one_mul, Nat.testBit_two_pow]
      by_cases h : i < t
      · rw [decide_eq_true h, Bool.true_and, decide_eq_false (by omega), Bool.xor_false]
      · obtain rfl : i = t := by omega
        rw [decide_eq_false h, Bool.false_and, decide_eq_true rfl, Bool.false_xor, hb]
theorem firstB_zero (b : Nat → Bool) (off : Nat) : firstB b off 0 = 0 := by
  unfold firstB
  rw [num_false 0 (fun i hi => absurd hi (Nat.not_lt_zero i)), dec_zero]
theorem firstB_step (b : Nat → Bool) (off : Nat) {t : Nat} (ht : t ≤ 127) : firstB b off (t + 1) = if b (off + t) = true then firstB b off t + bitE (t : Int) else firstB b off t := by
  unfold firstB
  rw [num_step, dec_xor]
  cases b (off + t) with
  | false => rw [if_neg (by decide), show Bool.toNat false = 0 from rfl, Nat.zero_mul, dec_zero, add_zero]
  | true =>
    rw [if_pos rfl, show Bool.toNat true = 1 from rfl, Nat.one_mul]
    unfold bitE
    rw [if_pos (by omega), Int.toNat_natCast]
theorem firstB_el (j : Nat) (b : Nat → Bool) (i : Nat) : firstB b (i * 2 ^ j) (2 ^ j) = el j b i := by
  unfold firstB el emb
  rw [enc_decB]
theorem has_at {j i t : Nat} (hj : j ≤ 6) (ht : t < 2 ^ j) (b : Nat → Bool) : hasE (el j b i) (t : Int) = b (i * 2 ^ j + t) := by
  have h64 : 2 ^ j ≤ 2 ^ 6 := Nat.pow_le_pow_right (by decide) hj
  rw [hasE_nat _ (by omega), el_bit (by omega) b i ht]
theorem Ev.cond {α : Type} {c : Bool} {f g : Nat → Option α} {r : α} (h1 : c = true → Ev f r) (h2 : c = false → Ev g r) : Ev (fun k => if c = true then f k else g k) r := by
  cases c with
  | true => exact Ev.pos rfl (h1 rfl)
  | false => exact Ev.neg (by decide) (h2 rfl)
theorem refFall_l1 {j n i : Nat} (hj : j < 6) (hn : n ≤ 32768) (hi : i < n) (b : Nat → Bool) {out : List S44} {r : Int × List S44 × Int}
    (hr : Ev (fun k => steepleref03_Fall.l0 k (out ++ [elR (el j b (2 * i)), elR (el j b (2 * i + 1))]) ((2 ^ j : Nat) : Int) ((i + 1 : Nat) : Int) ((j + 1 : Nat) : Int) ((els (j + 1) b n).map elR)) r) (ho : out.length ≤ 65536) : ∀ d t : Nat, t + d = 2 ^ j →
    Ev (fun k => steepleref03_Fall.l1 k out ((2 ^ j : Nat) : Int) (i : Int) (t : Int) ((j + 1 : Nat) : Int) ((els (j + 1) b n).map elR) (hiW (firstB b (2 * i * 2 ^ j) t)) (loW (firstB b (2 * i * 2 ^ j) t)) (hiW (firstB b ((2 * i + 1) * 2 ^ j) t)) (loW (firstB b ((2 * i + 1) * 2 ^ j) t))) r
  | 0, t, h => by
    obtain rfl : t = 2 ^ j := by omega
    refine Ev.succ ?_
    simp only [steepleref03_Fall.l1]
    refine Ev.neg (by omega) ?_
    refine Ev.bind (Ev.now _) ?_
    refine Ev.pos (by show out.length + 2 < _; omega) ?_
    rw [firstB_el, firstB_el, wrap_succ i (by omega)]
    exact hr
  | d + 1, t, h => by
    have h64 : 2 ^ j ≤ 2 ^ 6 := Nat.pow_le_pow_right (by decide) (by omega)
    have hp : 2 ^ (j + 1) = 2 * 2 ^ j := by rw [Nat.pow_succ, Nat.mul_comm]
    have h0 : i < (els (j + 1) b n).length := by rw [els_length]; omega
    have e0 : i * 2 ^ (j + 1) + t = 2 * i * 2 ^ j + t := by rw [hp, ← Nat.mul_assoc, Nat.mul_comm i 2]
    have e1 : i * 2 ^ (j + 1) + (2 ^ j + t) = (2 * i + 1) * 2 ^ j + t := by rw [Nat.add_mul, Nat.one_mul, hp, ← Nat.mul_assoc, Nat.mul_comm i 2]; omega
    have ih := refFall_l1 hj hn hi b hr ho d (t + 1) (by omega)
    rw [firstB_step _ _ (by omega), firstB_step _ _ (by omega)] at ih
    refine Ev.succ ?_
    simp only [steepleref03_Fall.l1]
    refine Ev.pos (by omega) (Ev.pos (by omega) (Ev.pos (by rw [List.length_map]; omega) ?_))
    rw [rd_elR h0, elR_f0, elR_f1, els_get h0]
    refine Ev.bind (refHas_ev _ _) ?_
    rw [has_at (by omega) (by omega), e0]
    have second : ∀ lo : T 7, lo = (if b (2 * i * 2 ^ j + t) = true then firstB b (2 * i * 2 ^ j) t + bitE (t : Int) else firstB b (2 * i * 2 ^ j) t) →
        Ev (fun k => steepleref03_Fall.j3 k out ((2 ^ j : Nat) : Int) (i : Int) (t : Int) ((j + 1 : Nat) : Int) ((els (j + 1) b n).map elR) (hiW lo) (loW lo) (hiW (firstB b ((2 * i + 1) * 2 ^ j) t)) (loW (firstB b ((2 * i + 1) * 2 ^ j) t))) r := by
      intro lo hlo
      rw [← hlo] at ih
      refine Ev.succ ?_
      simp only [steepleref03_Fall.j3]
      refine Ev.pos (by omega) (Ev.pos (by rw [List.length_map]; omega) ?_)
      rw [rd_elR h0, elR_f0, elR_f1, els_get h0, wrap_succ t (by omega), show wrap64 (((2 ^ j : Nat) : Int) + (t : Int)) = ((2 ^ j + t : Nat) : Int) by unfold wrap64; omega]
      refine Ev.bind (refHas_ev _ _) ?_
      rw [has_at (by omega) (by omega), e1]
      refine Ev.cond (fun hb => ?_) (fun hb => ?_)
      · rw [if_pos hb] at ih
        refine Ev.bind (refBit_ev _) ?_
        exact Ev.bind (Ev.const (refAdd_f _ _)) ih
      · rw [if_neg (by rw [hb]; decide)] at ih
        exact ih
    refine Ev.cond (fun hb => ?_) (fun hb => ?_)
    · refine Ev.bind (refBit_ev _) ?_
      refine Ev.bind (Ev.const (refAdd_f _ _)) ?_
      exact second _ (by rw [if_pos hb])
    · exact second _ (by rw [if_neg (by rw [hb]; decide)])
theorem els_two (j : Nat) (b : Nat → Bool) (i : Nat) : (els j b (2 * (i + 1))).map elR = (els j b (2 * i)).map elR ++ [elR (el j b (2 * i)), elR (el j b (2 * i + 1))] := by
  rw [show 2 * (i + 1) = 2 * i + 1 + 1 by omega, els_succ, els_succ, List.map_append, List.map_append, List.append_assoc]
  rfl
theorem refFall_l0 {j n : Nat} (hj : j < 6) (hn : n ≤ 32768) (b : Nat → Bool) : ∀ d i : Nat, i + d = n →
    Ev (fun k => steepleref03_Fall.l0 k ((els j b (2 * i)).map elR) ((2 ^ j : Nat) : Int) (i : Int) ((j + 1 : Nat) : Int) ((els (j + 1) b n).map elR)) ((j : Int), (els j b (2 * n)).map elR, (0 : Int))
  | 0, i, h => by
    obtain rfl : i = n := by omega
    refine Ev.succ ?_
    simp only [steepleref03_Fall.l0]
    rw [wrap_pred j (by omega)]
    exact Ev.neg (by rw [List.length_map, els_length]; omega) (Ev.now _)
  | d + 1, i, h => by
    refine Ev.succ ?_
    simp only [steepleref03_Fall.l0]
    refine Ev.pos (by rw [List.length_map, els_length]; omega) ?_
    have := refFall_l1 hj hn (show i < n by omega) b (out := (els j b (2 * i)).map elR) (r := ((j : Int), (els j b (2 * n)).map elR, (0 : Int))) (by
      rw [← els_two]
      exact refFall_l0 hj hn b d (i + 1) (by omega)) (by rw [List.length_map, els_length]; omega) (2 ^ j) 0 (by omega)
    rw [firstB_zero, firstB_zero, hi_zero, lo_zero] at this
    exact this
theorem refFall_ev {j n : Nat} (hj : j < 6) (hn : n ≤ 32768) (b : Nat → Bool) :
    Ev (fun k => steepleref03_Fall.f k ((j + 1 : Nat) : Int) ((els (j + 1) b n).map elR)) ((j : Int), (els j b (2 * n)).map elR, (0 : Int)) := by
  unfold steepleref03_Fall.f
  refine Ev.neg (by omega) (Ev.succ ?_)
  rw [List.length_map, els_length, decide_eq_false (show ¬ ((n : Int) > 32768) by omega)]
  simp only [steepleref03_Fall.j0]
  rw [wrap_pred j (by omega)]
  refine Ev.neg (by decide) ?_
  refine Ev.bind (Ev.const (width_f (by omega))) ?_
  exact refFall_l0 hj hn b n 0 (by omega)
theorem refFall_err (l : List S44) : Ev (fun k => steepleref03_Fall.f k 0 l) ((0 : Int), ([] : List S44), (6 : Int)) := by
  unfold steepleref03_Fall.f
  refine Ev.pos rfl (Ev.succ ?_)
  simp only [steepleref03_Fall.j0]
  exact Ev.pos trivial (Ev.now _)
end Go.Proofs.Ytceneggampgboaa.Br
