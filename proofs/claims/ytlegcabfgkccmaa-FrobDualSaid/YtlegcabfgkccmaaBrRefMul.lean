/- The document's product is the tower's. Conditions: none but the elements' kinds. -/
import Derived.Test.YtlegcabfgkccmaaBrRefBit
import Derived.Test.YtlegcabfgkccmaaPx6
import Derived.Test.YtlegcabfgkccmaaPx7
set_option linter.unusedVariables false
namespace Go.Proofs.Ytlegcabfgkccmaa.Br
open Go.RowKit Go.Proofs.YtlegcabfgkccmaaT Go.Proofs.Ytlegcabfgkccmaa.P Go.Proofs.YtlegcabfgkccmaaW.PrintWords Go.Proofs.YtlegcabfgkccmaaW.PrintLast Go.Proofs.YtlegcabfgkccmaaW.PrintMore
theorem refAdd_f (x y : T 7) : steepleref02_Add.f (hiW x) (loW x) (hiW y) (loW y) = some (hiW (x + y), loW (x + y)) := by
  unfold steepleref02_Add.f hiW loW
  rw [xor6, xor6]
  rfl
/-! The document's product. -/
def maskN : Nat → Nat
  | 0 => 0x5555555555555555
  | 1 => 0x3333333333333333
  | 2 => 0x0f0f0f0f0f0f0f0f
  | 3 => 0x00ff00ff00ff00ff
  | 4 => 0x0000ffff0000ffff
  | _ => 0x00000000ffffffff
theorem mask_bits : ∀ n : Nat, n < 6 → ∀ i : Nat, i < 64 → (maskN n).testBit i = !i.testBit n := by decide +kernel
theorem mask_lt : ∀ n : Nat, n < 6 → maskN n < 2 ^ 64 := by decide
theorem mask_f {n : Nat} (h : n < 6) : steepleref02_mask.f (n : Int) = some (maskN n : Int) := by
  have : ∀ n : Nat, n < 6 → steepleref02_mask.f (n : Int) = some (maskN n : Int) := by decide
  exact this n h
theorem tb_big {a i : Nat} (ha : a < 2 ^ 64) (hi : 64 ≤ i) : a.testBit i = false := Nat.testBit_lt_two_pow (Nat.lt_of_lt_of_le ha (Nat.pow_le_pow_right (by decide) hi))
theorem times_f : ∀ (n fuel : Nat), n ≤ 6 → n + 1 ≤ fuel → ∀ v : Nat, v < 2 ^ 64 → ∃ w : Nat, steepleref02_timesWord.f fuel ((n : Int) - 1) (v : Int) = some (w : Int) ∧ w < 2 ^ 64 ∧ ∀ i, i < 64 → w.testBit i = TB n v.testBit i
  | 0, f + 1, _, _, v, hv => ⟨v, by rw [steepleref02_timesWord.f, if_pos (by omega)], hv, fun _ _ => rfl⟩
  | n + 1, f + 1, h, hf, v, hv => by
    have hn : n < 6 := by omega
    have hm := mask_lt n hn
    have e0 : ((n + 1 : Nat) : Int) - 1 = (n : Int) := by omega
    have hp : 2 ^ n ≤ 32 := Nat.pow_le_pow_right (n := 2) (by decide) (show n ≤ 5 by omega)
    have hpp : 0 < 2 ^ n := Nat.two_pow_pos n
    have hhi : v / 2 ^ 2 ^ n &&& maskN n < 2 ^ 64 := Nat.and_lt_two_pow _ hm
    have hlo : v &&& maskN n < 2 ^ 64 := Nat.and_lt_two_pow _ hm
    obtain ⟨w, hw, hwl, hwb⟩ := times_f n f (by omega) (by omega) (v / 2 ^ 2 ^ n &&& maskN n) hhi
    have hx : (v &&& maskN n) ^^^ w < 2 ^ 64 := Nat.xor_lt_two_pow hlo hwl
    have bhi : ∀ i, (v / 2 ^ 2 ^ n &&& maskN n).testBit i = hiB n v.testBit i := fun i => by
      rw [Nat.testBit_and, ← Nat.shiftRight_eq_div_pow, Nat.testBit_shiftRight]
      unfold hiB
      by_cases hi : i < 64
      · rw [mask_bits n hn i hi, Nat.add_comm]
      · rw [tb_big hv (by omega), tb_big hv (show 64 ≤ i + 2 ^ n by omega), Bool.false_and, Bool.false_and]
    have blo : ∀ i, (v &&& maskN n).testBit i = (v.testBit i && !i.testBit n) := fun i => by
      rw [Nat.testBit_and]
      by_cases hi : i < 64
      · rw [mask_bits n hn i hi]
      · rw [tb_big hv (by omega), Bool.false_and, Bool.false_and]
    refine ⟨(((v &&& maskN n) ^^^ w) * 2 ^ 2 ^ n) % 2 ^ 64 ||| (v / 2 ^ 2 ^ n &&& maskN n), ?_, Nat.or_lt_two_pow (Nat.mod_lt _ (Nat.two_pow_pos _)) hhi, ?_⟩
    · rw [steepleref02_timesWord.f, e0, if_neg (by omega), u64_cast (by omega), if_pos (by omega), mask_f hn, Option.bind_some, Option.bind_some, shl1_u64 n (by omega), shr_u64 _ _ (by omega), bits_and _ _ (Nat.lt_of_le_of_lt (Nat.div_le_self _ _) hv) hm,
        show wrap64 ((n : Int) - 1) = (n : Int) - 1 by unfold wrap64; omega, hw, Option.bind_some, bits_and _ _ hv hm, bits_xor _ _ hlo hwl]
      have e1 : shl .u64 (((v &&& maskN n) ^^^ w : Nat) : Int) ((2 ^ n : Nat) : Int) = (((((v &&& maskN n) ^^^ w) * 2 ^ 2 ^ n) % 2 ^ 64 : Nat) : Int) := by
        unfold shl
        rw [Int.toNat_natCast, show IntKind.u64.bits = 64 from rfl, Nat.min_eq_left (by omega)]
        have : ((((v &&& maskN n) ^^^ w : Nat) : Int) * 2 ^ 2 ^ n) = ((((v &&& maskN n) ^^^ w) * 2 ^ 2 ^ n : Nat) : Int) := by rw [Int.natCast_mul, Int.natCast_pow]; rfl
        rw [this]
        simp [IntKind.wrap, IntKind.bits, IntKind.signed]
      rw [e1, bits_or _ _ (Nat.mod_lt _ (Nat.two_pow_pos _)) hhi]
    · intro i hi
      have hz : ∀ m, m.testBit n = true → hiB n v.testBit m = false := fun m hm => by unfold hiB; rw [hm]; simp
      rw [Nat.testBit_or, Nat.testBit_mod_two_pow, decide_eq_true hi, Bool.true_and, bhi]
      have esh : ∀ a : Nat, (a * 2 ^ 2 ^ n).testBit i = (decide (2 ^ n ≤ i) && a.testBit (i - 2 ^ n)) := fun a => by
        rw [← Nat.shiftLeft_eq, Nat.testBit_shiftLeft]
      rw [esh, Nat.testBit_xor, blo]
      show _ = if i.testBit n = true then Bool.xor (v.testBit (i - 2 ^ n)) (TB n (hiB n v.testBit) (i - 2 ^ n)) else v.testBit (i + 2 ^ n)
      have ew : ∀ m, m < 64 → w.testBit m = TB n (hiB n v.testBit) m := fun m hm => by
        rw [hwb m hm]
        congr 1
        exact funext bhi
      cases hb : i.testBit n with
      | true =>
        rw [if_pos rfl, hz i hb, Bool.or_false, decide_eq_true (Nat.ge_two_pow_of_testBit hb), Bool.true_and, bit_sub_self hb, ew _ (by omega)]
        simp
      | false =>
        rw [if_neg (by decide)]
        have : (decide (2 ^ n ≤ i) && Bool.xor (v.testBit (i - 2 ^ n) && !(i - 2 ^ n).testBit n) (w.testBit (i - 2 ^ n))) = false := by
          by_cases hle : 2 ^ n ≤ i
          · have hc := bit_sub_clear hb hle
            rw [hc, ew _ (by omega), TB_zero (Nat.le_refl n) hz _ hc]
            simp
          · rw [decide_eq_false hle, Bool.false_and]
        rw [this, Bool.false_or]
        unfold hiB
        rw [hb]
        simp
theorem dec_enc_bits {k : Nat} (x : T k) {w : Nat} (hw : w < 2 ^ 2 ^ k) (y : T k) (h : decB k 0 w.testBit = y) : w = enc k y := by
  rw [← h]
  exact (enc_dec_of_lt hw).symm
theorem timesWord_f {n fuel : Nat} (h : n ≤ 6) (hf : n + 1 ≤ fuel) (x : T 6) : steepleref02_timesWord.f fuel ((n : Int) - 1) (enc 6 x : Int) = some (enc 6 (x * emb 6 n (gen n)) : Int) := by
  obtain ⟨w, hw, hwl, hwb⟩ := times_f n fuel h hf (enc 6 x) (lt64 (by omega) x)
  rw [hw]
  have e : w = enc 6 (x * emb 6 n (gen n)) := by
    refine dec_enc_bits x hwl _ ?_
    have e1 : decB 6 0 w.testBit = decB 6 0 (TB n (enc 6 x).testBit) := decB_congr fun i hi => hwb _ (by rw [Nat.zero_add]; exact hi)
    have e2 := TB_mul n 6 0 (enc 6 x).testBit h
    rw [Nat.mul_zero] at e2
    rw [e1, e2]
    have e3 : decB 6 0 (enc 6 x).testBit = x := dec_enc x
    rw [e3]
  rw [e]
theorem mul_embhalf (x : T 7) {n : Nat} (h : n ≤ 6) (c : T n) : x * emb 7 n c = ((x.1 * emb 6 n c, x.2 * emb 6 n c) : T 6 × T 6) := by
  rw [emb_succ h, mul_lift]
theorem Times_ev {j : Nat} (h : j ≤ 6) (x : T 7) : Ev (fun k => steepleref02_Times.f k (j : Int) (hiW x) (loW x)) (hiW (x * emb 7 (j + 1) (gen (j + 1))), loW (x * emb 7 (j + 1) (gen (j + 1)))) := by
  refine Ev.from 20 fun k hk => ?_
  unfold steepleref02_Times.f hiW loW
  have t : ∀ (n : Nat) (y : T 6), n ≤ 5 → steepleref02_timesWord.f k (n : Int) (enc 6 y : Int) = some (enc 6 (y * emb 6 (n + 1) (gen (n + 1))) : Int) := fun n y hn => by
    have := timesWord_f (n := n + 1) (fuel := k) (by omega) (by omega) y
    rw [show ((n + 1 : Nat) : Int) - 1 = (n : Int) by omega] at this
    exact this
  by_cases h6 : j < 6
  · rw [if_pos (by omega), t j _ (by omega), Option.bind_some, t j _ (by omega), Option.bind_some, mul_embhalf x (by omega)]
  · obtain rfl : j = 6 := by omega
    have t5 : steepleref02_timesWord.f k 5 (enc 6 x.1 : Int) = some (enc 6 (x.1 * emb 6 6 (gen 6)) : Int) := t 5 _ (by omega)
    rw [if_neg (by omega), t5, Option.bind_some, xor6, emb_self, emb_self, mulgen x]
theorem and1_i64 (b : Nat) (h : b < 128) : Go.bits .and .i64 (b : Int) 1 = ((b % 2 : Nat) : Int) := by
  have : ∀ b : Nat, b < 128 → Go.bits .and .i64 (b : Int) 1 = ((b % 2 : Nat) : Int) := by decide +kernel
  exact this b h
theorem shr_i64 (m c : Nat) (hc : c ≤ 64) : shr .i64 (m : Int) (c : Int) = ((m / 2 ^ c : Nat) : Int) := by
  unfold shr
  rw [Int.toNat_natCast, show IntKind.i64.bits = 64 from rfl, Nat.min_eq_left hc, Int.natCast_ediv, Int.natCast_pow]
  rfl
theorem bit_one (b : Bool) : ((b.toNat : Int) = 1) ↔ b = true := by cases b <;> simp
theorem pg7_succ (n j : Nat) : (pg n (j + 1) : T 7) = if n.testBit j = true then pg n j * emb 7 (j + 1) (gen (j + 1)) else pg n j := (rfl)
theorem Prod_l (a b : T 7) : ∀ d n : Nat, n + d = 128 → ∀ out : T 7, Ev (fun k => steepleref02_Product.l0 k (n : Int) (hiW a) (loW a) (hiW b) (loW b) (hiW out) (loW out)) (hiW (out + a * (dec 7 (enc 7 b % 2 ^ n) + b)), loW (out + a * (dec 7 (enc 7 b % 2 ^ n) + b)))
  | 0, n, h, out => by
    refine Ev.succ ?_
    simp only [steepleref02_Product.l0]
    refine Ev.neg (by omega) ?_
    obtain rfl : n = 128 := by omega
    rw [Nat.mod_eq_of_lt (show enc 7 b < 2 ^ 128 from enc_lt 7 b), dec_enc, add_self, mul_zero, add_zero]
    exact Ev.now _
  | d + 1, n, h, out => by
    have nx := Prod_l a b d (n + 1) (by omega)
    refine Ev.succ ?_
    simp only [steepleref02_Product.l0]
    refine Ev.pos (by omega) ?_
    refine Ev.bind (refHas_ev b n) ?_
    rw [hasE_nat b (by omega)]
    have hd := dec_mod_succ 7 (enc 7 b) n
    cases hb : (enc 7 b).testBit n with
    | false =>
      rw [hb, if_neg (by decide), add_zero] at hd
      refine Ev.neg (by decide) ?_
      rw [wrap_succ n (by omega), ← hd]
      exact nx out
    | true =>
      rw [hb, if_pos rfl] at hd
      refine Ev.pos rfl ?_
      have inner : ∀ d' j : Nat, j + d' = 7 → Ev (fun k => steepleref02_Product.l1 k (n : Int) (j : Int) (hiW a) (loW a) (hiW b) (loW b) (hiW out) (loW out) (hiW (a * pg n j)) (loW (a * pg n j)))
          (hiW (out + a * (dec 7 (enc 7 b % 2 ^ n) + b)), loW (out + a * (dec 7 (enc 7 b % 2 ^ n) + b))) := by
        intro d'
        induction d' with
        | zero =>
          intro j hj
          refine Ev.succ ?_
          simp only [steepleref02_Product.l1]
          refine Ev.neg (by omega) ?_
          refine Ev.bind (Ev.const (refAdd_f _ _)) ?_
          rw [wrap_succ n (by omega)]
          obtain rfl : j = 7 := by omega
          have e : out + a * (dec 7 (enc 7 b % 2 ^ n) + b) = out + a * pg n 7 + a * (dec 7 (enc 7 b % 2 ^ (n + 1)) + b) := by
            rw [hd, ← dec_pow 7 n (show n < 128 by omega), add_assoc out, ← mul_add, ← add_assoc (dec 7 (2 ^ n)), ← add_assoc (dec 7 (2 ^ n)), add_comm (dec 7 (2 ^ n)), add_assoc (dec 7 (enc 7 b % 2 ^ n)), add_self, add_zero]
          rw [e]
          exact nx _
        | succ d' ih =>
          intro j hj
          refine Ev.succ ?_
          simp only [steepleref02_Product.l1]
          refine Ev.pos (by omega) ?_
          rw [u64_cast (by omega)]
          refine Ev.pos (by omega) ?_
          rw [shr_i64 _ _ (by omega), and1_i64 _ (Nat.lt_of_le_of_lt (Nat.div_le_self _ _) (by omega)), testBit_toNat, wrap_succ j (by omega)]
          have ihj := ih (j + 1) (by omega)
          rw [pg7_succ] at ihj
          cases hj2 : n.testBit j with
          | true =>
            rw [hj2, if_pos rfl, ← mul_assoc] at ihj
            refine Ev.pos rfl ?_
            refine Ev.bind (Times_ev (by omega) _) ?_
            exact ihj
          | false =>
            rw [hj2, if_neg (by decide)] at ihj
            refine Ev.neg (by decide) ?_
            exact ihj
      have := inner 7 0 (by omega)
      have e : a * pg n 0 = a := mul_one a
      rw [e] at this
      exact this
theorem Product_ev (a b : T 7) : Ev (fun k => steepleref02_Product.f k (hiW a) (loW a) (hiW b) (loW b)) (hiW (a * b), loW (a * b)) := by
  unfold steepleref02_Product.f
  have := Prod_l a b 128 0 (by omega) 0
  rw [Nat.pow_zero, Nat.mod_one, dec_zero, zero_add, zero_add, hi_zero, lo_zero] at this
  exact this
end Go.Proofs.Ytlegcabfgkccmaa.Br
