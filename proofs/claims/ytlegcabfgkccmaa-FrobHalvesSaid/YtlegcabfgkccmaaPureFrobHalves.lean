/- The pure statement of the law FrobHalves: its printed function answers true. Conditions: none. -/
import Derived.Test.YtlegcabfgkccmaaBrSp
import Derived.Test.YtlegcabfgkccmaaBrTr
import Derived.Test.YtlegcabfgkccmaaBrFrA
import Derived.Test.YtlegcabfgkccmaaBrRefOf
import Derived.Test.YtlegcabfgkccmaaPx11
import Derived.Test.YtlegcabfgkccmaaPx12
set_option linter.unusedVariables false
set_option linter.unusedSimpArgs false
namespace Go.Proofs.Ytlegcabfgkccmaa.Pure
open Go.RowKit Go.Proofs.YtlegcabfgkccmaaT Go.Proofs.Ytlegcabfgkccmaa.P Go.Proofs.Ytlegcabfgkccmaa.Br Go.Proofs.YtlegcabfgkccmaaW.PrintWords Go.Proofs.YtlegcabfgkccmaaW.PrintLast Go.Proofs.YtlegcabfgkccmaaW.PrintMore
def imE (i : Nat) : T 7 := bitE ((i + 1 : Nat) : Int) * bitE ((i + 1 : Nat) : Int) + bitE ((i + 1 : Nat) : Int)
def imF : Nat → Nat → List (T 7)
  | _, 0 => []
  | i, n + 1 => imE i :: imF (i + 1) n
def bitsum : Nat → List Bool → T 7
  | _, [] => 0
  | i, b :: of => (if b = true then bitE ((i + 1 : Nat) : Int) else 0) + bitsum (i + 1) of
theorem imF_len : ∀ (n i : Nat), (imF i n).length = n
  | 0, _ => rfl
  | n + 1, i => by
    show (imF (i + 1) n).length + 1 = n + 1
    rw [imF_len n]
theorem imF_snoc : ∀ (n i : Nat), imF i (n + 1) = imF i n ++ [imE (i + n)]
  | 0, i => rfl
  | n + 1, i => by
    show imE i :: imF (i + 1) (n + 1) = imE i :: (imF (i + 1) n ++ [imE (i + (n + 1))])
    rw [imF_snoc n (i + 1), show i + 1 + n = i + (n + 1) by omega]
theorem add4 {k : Nat} (a b c d : T k) : a + b + (c + d) = a + c + (b + d) := by ac_rfl
theorem comb_im : ∀ (of : List Bool) (i : Nat), comb (imF i of.length) of = bitsum i of * bitsum i of + bitsum i of
  | [], i => by
    show (0 : T 7) = 0 * 0 + 0
    rw [add_zero, mul_zero]
  | b :: of, i => by
    have ih := comb_im of (i + 1)
    show (if b = true then imE i else 0) + comb (imF (i + 1) of.length) of = ((if b = true then bitE ((i + 1 : Nat) : Int) else 0) + bitsum (i + 1) of) * ((if b = true then bitE ((i + 1 : Nat) : Int) else 0) + bitsum (i + 1) of) + ((if b = true then bitE ((i + 1 : Nat) : Int) else 0) + bitsum (i + 1) of)
    rw [ih, sq_add]
    cases b with
    | true =>
      rw [if_pos rfl, if_pos rfl]
      exact add4 _ _ _ _
    | false =>
      rw [if_neg (by decide), if_neg (by decide), mul_zero, zero_add, zero_add, zero_add]
theorem bitsum_snoc : ∀ (of : List Bool) (b : Bool) (i : Nat), bitsum i (of ++ [b]) = bitsum i of + (if b = true then bitE ((i + of.length + 1 : Nat) : Int) else 0)
  | [], b, i => by
    show (if b = true then bitE ((i + 1 : Nat) : Int) else 0) + 0 = 0 + (if b = true then bitE ((i + 0 + 1 : Nat) : Int) else 0)
    rw [add_zero, zero_add, Nat.add_zero]
  | c :: of, b, i => by
    have ih := bitsum_snoc of b (i + 1)
    show (if c = true then bitE ((i + 1 : Nat) : Int) else 0) + bitsum (i + 1) (of ++ [b]) = (if c = true then bitE ((i + 1 : Nat) : Int) else 0) + bitsum (i + 1) of + (if b = true then bitE ((i + (of.length + 1) + 1 : Nat) : Int) else 0)
    rw [ih, show i + 1 + of.length + 1 = i + (of.length + 1) + 1 by omega, add_assoc]
theorem bitE_dec {n : Nat} (h : n < 128) : bitE (n : Int) = dec 7 (2 ^ n) := by
  unfold bitE
  rw [if_pos (by omega), Int.toNat_natCast]
theorem bitE_in {k n : Nat} (hk : k ≤ 7) (h : n < 2 ^ k) : InL k (bitE (n : Int)) := by
  have h7 := pow_le7 hk
  unfold InL
  rw [bitE_dec (by omega), enc_dec_of_lt (Nat.pow_lt_pow_right (by decide) (by omega))]
  exact Nat.pow_lt_pow_right (by decide) h
/-- The bits of a number but the first. -/
def offs (y m : Nat) : List Bool := (List.range m).map (fun i => y.testBit (i + 1))
theorem offs_len (y m : Nat) : (offs y m).length = m := by
  unfold offs
  rw [List.length_map, List.length_range]
theorem offs_succ (y m : Nat) : offs y (m + 1) = offs y m ++ [y.testBit (m + 1)] := by
  unfold offs
  rw [List.range_succ, List.map_append]
  rfl
theorem offs_sum (y : Nat) (h0 : y.testBit 0 = false) : ∀ m : Nat, m < 128 → bitsum 0 (offs y m) = dec 7 (y % 2 ^ (m + 1))
  | 0, _ => by
    have h1 : y % 2 ^ (0 + 1) = 0 := by
      rw [Nat.testBit_zero] at h0
      have := of_decide_eq_false h0
      show y % 2 = 0
      omega
    rw [h1, dec_zero]
    rfl
  | m + 1, hm => by
    have ih := offs_sum y h0 m (by omega)
    rw [offs_succ, bitsum_snoc, ih, dec_mod_succ 7 y (m + 1), offs_len, show 0 + m + 1 = m + 1 by omega, bitE_dec (by omega)]
theorem bitsum_in {k : Nat} (hk : k ≤ 7) : ∀ (of : List Bool) (i : Nat), i + of.length < 2 ^ k → InL k (bitsum i of)
  | [], i, _ => inL_zero
  | b :: of, i, h => by
    rw [List.length_cons] at h
    show InL k ((if b = true then bitE ((i + 1 : Nat) : Int) else 0) + bitsum (i + 1) of)
    refine inL_add ?_ (bitsum_in hk of (i + 1) (by omega))
    split
    · exact bitE_in hk (by omega)
    · exact inL_zero
theorem bitsum_odd : ∀ (of : List Bool) (i : Nat), i + of.length < 128 → (enc 7 (bitsum i of)).testBit 0 = false
  | [], i, _ => by
    show (enc 7 0).testBit 0 = false
    rw [enc_zero]
    rfl
  | b :: of, i, h => by
    rw [List.length_cons] at h
    show (enc 7 ((if b = true then bitE ((i + 1 : Nat) : Int) else 0) + bitsum (i + 1) of)).testBit 0 = false
    rw [enc_add, Nat.testBit_xor, bitsum_odd of (i + 1) (by omega)]
    split
    · rw [bitE_dec (by omega), enc_dec_of_lt (Nat.pow_lt_pow_right (by decide) (by omega)), Nat.testBit_two_pow_of_ne (by omega)]
      rfl
    · rw [enc_zero]
      rfl
/-- A half by its bits. -/
theorem half_bits {k : Nat} (hk : k ≤ 7) {a h : T 7} (hh : InL k h) (e : h * h + h = a) : ∃ of : List Bool, comb (imF 0 (2 ^ k - 1)) of = a := by
  have h7 := pow_le7 hk
  have hp : 0 < 2 ^ k := Nat.two_pow_pos k
  have main : ∀ g : T 7, InL k g → g * g + g = a → (enc 7 g).testBit 0 = false → ∃ of : List Bool, comb (imF 0 (2 ^ k - 1)) of = a := fun g hg eg h0 => by
    refine ⟨offs (enc 7 g) (2 ^ k - 1), ?_⟩
    have h1 := comb_im (offs (enc 7 g) (2 ^ k - 1)) 0
    rw [offs_len] at h1
    have hlt : enc 7 g < 2 ^ 2 ^ k := hg
    rw [h1, offs_sum _ h0 _ (by omega), Nat.sub_add_cancel hp, Nat.mod_eq_of_lt hlt, dec_enc, eg]
  cases hb : (enc 7 h).testBit 0 with
  | false => exact main h hh e hb
  | true =>
    refine main (h + 1) (inL_add hh inL_one) ?_ ?_
    · rw [sq_add, mul_one]
      have e3 : h * h + 1 + (h + 1) = (h * h + h) + (1 + 1) := by ac_rfl
      rw [e3, add_self, add_zero, e]
    · rw [enc_add, Nat.testBit_xor, hb, enc_one]
      rfl
theorem half_iff {k : Nat} (hk : k ≤ 7) (b : T k) : (tr k b = false → ∃ of, solveT (imF 0 (2 ^ k - 1)) (emb 7 k b) = some of) ∧ (tr k b = true → solveT (imF 0 (2 ^ k - 1)) (emb 7 k b) = none) := by
  constructor
  · intro ht
    obtain ⟨h, hh⟩ := half_ex b ht
    obtain ⟨of, ho⟩ := half_bits hk (a := emb 7 k b) (inL_emb hk h) (by rw [← emb_mul hk, ← emb_add, hh])
    exact solve_all ho
  · intro ht
    cases hs : solveT (imF 0 (2 ^ k - 1)) (emb 7 k b) with
    | none => rfl
    | some of =>
      exfalso
      have hp : 0 < 2 ^ k := Nat.two_pow_pos k
      obtain ⟨h1, h2⟩ := solve_comb hs
      rw [imF_len] at h1
      rw [← h1, comb_im] at h2
      obtain ⟨c, hc⟩ := (bitsum_in hk of 0 (by omega)).ex
      rw [hc, ← emb_mul hk, ← emb_add] at h2
      have h3 := emb_inj hk h2
      rw [← h3, half_tr] at ht
      exact absurd ht (by decide)
theorem half_l1 (of : List Bool) (hl : of.length < 128) : ∀ d i : Nat, i + d = of.length → ∀ p : T 7, Ev (fun k => frob_Half.l1 k of (of.length : Int) (i : Int) (hiW p) (loW p)) (hiW (p + bitsum i (of.drop i)), loW (p + bitsum i (of.drop i)), true)
  | 0, i, h, p => by
    refine Ev.succ ?_
    simp only [frob_Half.l1]
    refine Ev.neg (by omega) ?_
    rw [List.drop_of_length_le (by omega)]
    have e : bitsum i [] = 0 := rfl
    rw [e, add_zero]
    exact Ev.now _
  | d + 1, i, h, p => by
    have hi : i < of.length := by omega
    refine Ev.succ ?_
    simp only [frob_Half.l1]
    refine Ev.pos (by omega) (Ev.pos (by omega) (Ev.pos (by omega) ?_))
    have r2 : rdOf false of (i : Int) = of[i] := by
      unfold rdOf
      rw [Int.toNat_natCast, List.getD_eq_getElem?_getD, List.getElem?_eq_getElem hi, Option.getD_some]
    rw [r2, wrap_succ i (by omega), List.drop_eq_getElem_cons hi]
    have e : bitsum i (of[i] :: of.drop (i + 1)) = (if of[i] = true then bitE ((i + 1 : Nat) : Int) else 0) + bitsum (i + 1) (of.drop (i + 1)) := rfl
    rw [e]
    by_cases hq : of[i] = true
    · rw [if_pos hq, ← add_assoc]
      exact Ev.pos hq (Ev.bind (Bit_ev _) (Ev.bind (Ev.const (Add_f _ _)) (half_l1 of hl d (i + 1) (by omega) _)))
    · rw [if_neg hq, zero_add]
      exact Ev.neg hq (half_l1 of hl d (i + 1) (by omega) p)
theorem half_l0 {k : Nat} (hk : k ≤ 7) (a : T 7) : ∀ d i : Nat, i + d = 2 ^ k - 1 → Ev (fun n => frob_Half.l0 n (k : Int) ((imF 0 i).map elS) ((i + 1 : Nat) : Int) (hiW a) (loW a)) (match solveT (imF 0 (2 ^ k - 1)) a with | some of => (hiW (bitsum 0 of), loW (bitsum 0 of), true) | none => ((0 : Int), (0 : Int), false))
  | 0, i, h => by
    have h7 := pow_le7 hk
    have hp : 0 < 2 ^ k := Nat.two_pow_pos k
    obtain rfl : i = 2 ^ k - 1 := by omega
    refine Ev.succ ?_
    simp only [frob_Half.l0]
    refine Ev.pos (by omega) ?_
    rw [shl1_8 k (by omega)]
    refine Ev.neg (by omega) (Ev.bind (Solve_ev (imF 0 (2 ^ k - 1)) (by rw [imF_len]; omega) a) ?_)
    cases hs : solveT (imF 0 (2 ^ k - 1)) a with
    | none => exact Ev.neg (by decide) (Ev.now _)
    | some of =>
      have hl := (solve_comb hs).1
      rw [imF_len] at hl
      refine Ev.pos rfl ?_
      have h1 := half_l1 of (by omega) of.length 0 (Nat.zero_add _) 0
      rw [zero_add, hi_zero, lo_zero] at h1
      exact h1
  | d + 1, i, h => by
    have h7 := pow_le7 hk
    have hb : InL k (bitE ((i + 1 : Nat) : Int)) := bitE_in hk (by omega)
    refine Ev.succ ?_
    simp only [frob_Half.l0]
    refine Ev.pos (by omega) ?_
    rw [shl1_8 k (by omega)]
    refine Ev.pos (by omega) (Ev.bind (Bit_ev _) (Ev.bind (Square_ev _ _) ?_))
    rw [sqE_in hk hb]
    refine Ev.bind (Ev.const (Add_f _ _)) (Ev.pos (by rw [List.length_map, imF_len]; omega) ?_)
    rw [wrap_succ (i + 1) (by omega)]
    have ih := half_l0 hk a d (i + 1) (by omega)
    rw [imF_snoc, Nat.zero_add, List.map_append] at ih
    exact ih
theorem Half_ok {k : Nat} (hk : k ≤ 7) {a : T 7} (ha : InL k a) : Ev (fun n => frob_Half.f n (k : Int) (hiW a) (loW a)) (match solveT (imF 0 (2 ^ k - 1)) a with | some of => (hiW (bitsum 0 of), loW (bitsum 0 of), true) | none => ((0 : Int), (0 : Int), false)) := by
  have hp : 0 < 2 ^ k := Nat.two_pow_pos k
  unfold frob_Half.f
  refine Ev.bind (Of_ev _ a) ?_
  rw [ofB_nat hk ha]
  exact Ev.pos rfl (half_l0 hk a (2 ^ k - 1) 0 (by omega))
theorem Half_bad {l : Int} {a : T 7} (h : ofB l a = false) : Ev (fun n => frob_Half.f n l (hiW a) (loW a)) ((0 : Int), (0 : Int), false) := by
  unfold frob_Half.f
  refine Ev.bind (Of_ev _ a) ?_
  rw [h]
  exact Ev.neg (by decide) (Ev.now _)
set_option maxRecDepth 100000 in
theorem FrobHalves : steeplelaw33_FrobHalves.Pure := by
  intro l s hl hs
  obtain ⟨s0, s1⟩ := s
  obtain ⟨x, rfl, rfl⟩ := el_of hs.1 hs.2
  dsimp only
  refine Ev.rounds ?_
  unfold steeplelaw33_FrobHalves.f
  cases ho : ofB l x with
  | false =>
    refine Ev.bind (Half_bad ho) (Ev.bind (refOf_ev l x) (Ev.neg (by rw [ho]; decide) (Ev.bind awake_ev (Ev.pos rfl (Ev.neg (by decide) ?_)))))
    exact Ev.const (by decide)
  | true =>
    obtain ⟨k, rfl, hk, hx⟩ := ofB_iff.1 ho
    obtain ⟨b, rfl⟩ := hx.ex
    have hH := half_iff hk b
    have hHalf := Half_ok hk hx
    cases ht : tr k b with
    | true =>
      rw [hH.2 ht] at hHalf
      refine Ev.bind hHalf (Ev.bind (refOf_ev _ _) (Ev.pos ho (Ev.bind (refTrace_ev (Nat.zero_le k) hk _) ?_)))
      rw [conj_tr hk b, ht]
      have e1 : (elP (bit true : T 7)).1 = 0 := hi_one
      have e2 : (elP (bit true : T 7)).2 = 1 := lo_one
      rw [e1, e2]
      exact Ev.neg (by decide) (Ev.neg (by decide) (Ev.bind awake_ev (Ev.pos rfl (Ev.const (by decide)))))
    | false =>
      obtain ⟨of, hof⟩ := hH.1 ht
      rw [hof] at hHalf
      have hp : 0 < 2 ^ k := Nat.two_pow_pos k
      have h7 := pow_le7 hk
      obtain ⟨g1, g2⟩ := solve_comb hof
      rw [imF_len] at g1
      rw [← g1, comb_im] at g2
      have hin := bitsum_in hk of 0 (by omega)
      have hod := bitsum_odd of 0 (by omega)
      have hHalf2 : Ev (fun n => frob_Half.f n (k : Int) (hiW (emb 7 k b)) (loW (emb 7 k b))) (hiW (bitsum 0 of), loW (bitsum 0 of), true) := hHalf
      clear hHalf hof
      generalize bitsum 0 of = y at g2 hin hod hHalf2
      have hm : Int.tmod (loW y) 2 = 0 := by
        have h1 : (enc 6 y.2).testBit 0 = false := (bits7_lo y (by decide)).symm.trans hod
        rw [Nat.testBit_zero] at h1
        have h2 := of_decide_eq_false h1
        unfold loW
        generalize enc 6 y.2 = m at h2 ⊢
        rw [Int.tmod_eq_emod_of_nonneg (by omega)]
        omega
      refine Ev.bind hHalf2 (Ev.bind (refOf_ev _ _) (Ev.pos ho (Ev.bind (refTrace_ev (Nat.zero_le k) hk _) ?_)))
      rw [conj_tr hk b, ht]
      have e1 : (elP (bit false : T 7)).1 = 0 := hi_zero
      have e2 : (elP (bit false : T 7)).2 = 0 := lo_zero
      rw [e1, e2]
      refine Ev.neg (show ¬ ((true != ((0 : Int) == 0 && ((0 : Int) == 0))) = true) by decide) (Ev.pos rfl (Ev.bind awake_ev (Ev.pos rfl (Ev.bind (Of_ev _ y) ?_))))
      rw [ofB_nat hk hin]
      refine Ev.pos rfl (Ev.pos hm (Ev.bind (Product_ev y y) (Ev.bind (Ev.const (refAdd_f _ _)) ?_)))
      have h3 : (hiW (y * y + y) == hiW (emb 7 k b) && (loW (y * y + y) == loW (emb 7 k b))) = true := eq_pair g2
      exact Ev.const (congrArg some h3)
end Go.Proofs.Ytlegcabfgkccmaa.Pure
