/- Products of vectors, all lanes of a word at once, are each by itself; the document's sums and products. Conditions: a level from 0 to 6, as many elements as there may be. -/
import Derived.Test.YtceneggampgboaaPkReck
import Derived.Test.YtceneggampgboaaBrSum
import Derived.Test.YtceneggampgboaaPx20
import Derived.Test.YtceneggampgboaaPx21
set_option linter.unusedVariables false
set_option linter.unusedSimpArgs false
namespace Go.Proofs.Ytceneggampgboaa.Br
open Go.RowKit Go.Proofs.YtceneggampgboaaT Go.Proofs.Ytceneggampgboaa.P Go.Proofs.YtceneggampgboaaW.PrintWords Go.Proofs.YtceneggampgboaaW.PrintLast Go.Proofs.YtceneggampgboaaW.PrintMore
/-- The bits of all products. -/
def prodB (j : Nat) (b c : Nat → Bool) (t : Nat) : Bool := (enc 7 (el j b (t / 2 ^ j) * el j c (t / 2 ^ j))).testBit (t % 2 ^ j)
theorem el_prod {j : Nat} (hj : j ≤ 7) (b c : Nat → Bool) (i : Nat) : el j (prodB j b c) i = el j b i * el j c i := by
  apply enc_inj
  rw [enc_el hj]
  have hx : enc 7 (el j b i * el j c i) < 2 ^ 2 ^ j := inL_mul hj (el_in hj b i) (el_in hj c i)
  refine (eq_num hx fun t ht => ?_).symm
  have e1 : (i * 2 ^ j + t) / 2 ^ j = i := by rw [Nat.mul_comm, Nat.mul_add_div (Nat.two_pow_pos j), Nat.div_eq_of_lt ht, Nat.add_zero]
  have e2 : (i * 2 ^ j + t) % 2 ^ j = t := by rw [Nat.mul_comm, Nat.mul_add_mod, Nat.mod_eq_of_lt ht]
  unfold prodB
  rw [e1, e2]
theorem el_none {j n i : Nat} {b : Nat → Bool} (hz : Zb j n b) (hi : n ≤ i) : el j b i = 0 := by
  unfold el
  rw [decB_false fun t _ => hz _ ?_, emb_zero]
  have := Nat.mul_le_mul_right (2 ^ j) hi
  omega
theorem Zb_prod {j n : Nat} {b : Nat → Bool} (hz : Zb j n b) (c : Nat → Bool) : Zb j n (prodB j b c) := fun t ht => by
  unfold prodB
  have : n ≤ t / 2 ^ j := (Nat.le_div_iff_mul_le (Nat.two_pow_pos j)).2 ht
  rw [el_none hz this, zero_mul, enc_zero, Nat.zero_testBit]
/-- A word of lanes. -/
theorem word_prod {j : Nat} (hj : j ≤ 6) (b c d : Nat → Bool) (w : Nat) (hd : ∀ i, i < nl_ j → ln j d i = ln j (fun t => b (64 * w + t)) i * ln j (fun t => c (64 * w + t)) i) :
    num d 64 = num (fun t => prodB j b c (64 * w + t)) 64 := by
  refine num_congr fun t ht => ?_
  have hp := pw hj
  have h0 := Nat.two_pow_pos j
  have hq : t / 2 ^ j < nl_ j := by
    unfold nl_
    rw [Nat.div_lt_iff_lt_mul h0, hp]
    exact ht
  have hr := Nat.mod_lt t h0
  have ht2 : t / 2 ^ j * 2 ^ j + t % 2 ^ j = t := by rw [Nat.mul_comm]; exact Nat.div_add_mod t (2 ^ j)
  have ew : 64 * w = w * nl_ j * 2 ^ j := by
    unfold nl_
    rw [Nat.mul_assoc, hp, Nat.mul_comm]
  have ed : (64 * w + t) / 2 ^ j = w * nl_ j + t / 2 ^ j := by
    rw [ew, Nat.mul_comm (w * nl_ j), Nat.mul_add_div h0]
  have em : (64 * w + t) % 2 ^ j = t % 2 ^ j := by
    rw [ew, Nat.mul_comm (w * nl_ j), Nat.mul_add_mod]
  have lane : ∀ b : Nat → Bool, el j b (w * nl_ j + t / 2 ^ j) = emb 7 j (ln j (fun t => b (64 * w + t)) (t / 2 ^ j)) := fun b => by
    unfold el ln
    congr 1
    refine decB_congr fun s hs => ?_
    rw [Nat.add_mul, ← ew, Nat.add_assoc]
  unfold prodB
  rw [ed, em, lane b, lane c, ← emb_mul (by omega), ← hd _ hq, enc_emb (by omega)]
  have hb : (enc j (ln j d (t / 2 ^ j))).testBit (t % 2 ^ j) = d (t / 2 ^ j * 2 ^ j + t % 2 ^ j) := by
    unfold ln
    rw [enc_decB, num_bit, decide_eq_true hr, Bool.true_and]
  rw [hb, ht2]
theorem Mul_l0 {j n m : Nat} (hj : j ≤ 6) (hm : m < 2 ^ 40) (b c : Nat → Bool) (l : List Int) : ∀ d i : Nat, i + d = m →
    Ev (fun k => pack_Mul.l0 k (wordsB (mixB i (prodB j b c) b) m) (wordsB c m) (m : Int) (i : Int) (j : Int) (n : Int) l) ((j : Int), (n : Int), wordsB (prodB j b c) m, (0 : Int))
  | 0, i, h => by
    refine Ev.succ ?_
    simp only [pack_Mul.l0]
    refine Ev.neg (by omega) ?_
    refine Ev.bind (Ev.const (vec_f _ _ _)) ?_
    rw [mix_all (by omega)]
    exact Ev.now _
  | d + 1, i, h => by
    have hi : i < m := by omega
    refine Ev.succ ?_
    simp only [pack_Mul.l0]
    refine Ev.pos (by omega) (Ev.pos (by omega) (Ev.pos (by rw [wordsB_length]; omega) (Ev.pos (by rw [wordsB_length]; omega) ?_)))
    rw [mix_rd hi, rd_wordsB hi]
    have ht : Ev (fun k => pack_times.f k (j : Int) ((num (fun t => b (64 * i + t)) 64 : Nat) : Int) ((num (fun t => c (64 * i + t)) 64 : Nat) : Int)) ((num (fun t => prodB j b c (64 * i + t)) 64 : Nat) : Int) := by
      refine Ev.from (2 * j + 2) fun k hk => ?_
      obtain ⟨e, he, hl⟩ := ptimes_f j k hj hk (fun t => b (64 * i + t)) (fun t => c (64 * i + t))
      rw [he, word_prod hj b c e i hl]
    refine Ev.bind ht ?_
    rw [Int.toNat_natCast, wrap_succ i (by omega), mix_set hi]
    exact Mul_l0 hj hm b c l d (i + 1) (by omega)
theorem pMul_ev {j n : Nat} (hj : j ≤ 6) (hn : n < 2 ^ 20) (b c : Nat → Bool) :
    Ev (fun k => pack_Mul.f k (j : Int) (n : Int) (wordsB b (sz j n)) (j : Int) (n : Int) (wordsB c (sz j n))) ((j : Int), (n : Int), wordsB (prodB j b c) (sz j n), (0 : Int)) := by
  have hs := sz_le j n
  unfold pack_Mul.f
  refine Ev.bind (Ev.const alike_same) (Ev.pos rfl ?_)
  refine Ev.bind (Ev.const (clone_f (by rw [wordsB_length]; omega))) ?_
  have := Mul_l0 (j := j) (n := n) (m := sz j n) hj (by omega) b c (wordsB b (sz j n)) (sz j n) 0 (by omega)
  rw [mix_zero] at this
  rw [wordsB_length]
  exact this
theorem pMul_err {j n j' n' : Nat} {l l' : List Int} (h : ¬ (j = j' ∧ n = n')) : Ev (fun k => pack_Mul.f k (j : Int) (n : Int) l (j' : Int) (n' : Int) l') ((0 : Int), (0 : Int), ([] : List Int), (6 : Int)) := by
  unfold pack_Mul.f
  refine Ev.bind (Ev.const (alike_not h)) (Ev.neg (by decide) (Ev.now _))
theorem pDot_ev {j n : Nat} (hj : j ≤ 6) (hn : n < 2 ^ 20) (b c : Nat → Bool) :
    Ev (fun k => pack_Dot.f k (j : Int) (n : Int) (wordsB b (sz j n)) (j : Int) (n : Int) (wordsB c (sz j n))) (hiW (sumE (els j (prodB j b c) n)), loW (sumE (els j (prodB j b c) n)), (0 : Int)) := by
  unfold pack_Dot.f
  refine Ev.bind (pMul_ev hj hn b c) (Ev.pos rfl ?_)
  refine Ev.bind (Elems_ev hj hn _) ?_
  refine Ev.bind (Sum_ev _ (by rw [els_length]; omega)) (Ev.now _)
theorem pDot_err {j n j' n' : Nat} {l l' : List Int} (h : ¬ (j = j' ∧ n = n')) : Ev (fun k => pack_Dot.f k (j : Int) (n : Int) l (j' : Int) (n' : Int) l') ((0 : Int), (0 : Int), (6 : Int)) := by
  unfold pack_Dot.f
  refine Ev.bind (pMul_err h) (Ev.neg (by decide) (Ev.now _))
theorem Both_l0 {j j' n : Nat} (hj : j ≤ 6) (hn : n < 2 ^ 20) (b c : Nat → Bool) (how : Int) (d' : Nat → Bool) (hd : ∀ i, el j d' i = if how = 0 then el j b i + el j' c i else el j b i * el j' c i) : ∀ d i : Nat, i + d = n →
    Ev (fun k => steepleref03_Both.l0 k how ((els j d' i).map elR) (i : Int) (j : Int) ((els j b n).map elR) (j' : Int) ((els j' c n).map elR)) ((j : Int), (els j d' n).map elR, (0 : Int))
  | 0, i, h => by
    obtain rfl : i = n := by omega
    refine Ev.succ ?_
    simp only [steepleref03_Both.l0]
    exact Ev.neg (by rw [List.length_map, els_length]; omega) (Ev.now _)
  | d + 1, i, h => by
    have nx := Both_l0 hj hn b c how d' hd d (i + 1) (by omega)
    have h1 : i < (els j b n).length := by rw [els_length]; omega
    have h2 : i < (els j' c n).length := by rw [els_length]; omega
    have e : (els j d' (i + 1)).map elR = (els j d' i).map elR ++ [elR (el j d' i)] := by
      rw [els_succ, List.map_append]
      rfl
    rw [e, hd] at nx
    refine Ev.succ ?_
    simp only [steepleref03_Both.l0]
    refine Ev.pos (by rw [List.length_map, els_length]; omega) ?_
    rw [rd_elR h1, rd_elR h2, els_get h1, els_get h2, elR_f0, elR_f1, elR_f0, elR_f1, wrap_succ i (by omega)]
    by_cases hw : how = 0
    · rw [if_pos hw] at nx
      refine Ev.pos hw (Ev.pos (by omega) (Ev.pos (by rw [List.length_map, els_length]; omega) ?_))
      refine Ev.bind (Ev.const (refAdd_f _ _)) ?_
      exact Ev.pos (by rw [List.length_map, els_length]; omega) nx
    · rw [if_neg hw] at nx
      refine Ev.neg hw (Ev.pos (by omega) (Ev.pos (by rw [List.length_map, els_length]; omega) ?_))
      refine Ev.bind (Product_ev _ _) ?_
      exact Ev.pos (by rw [List.length_map, els_length]; omega) nx
theorem Both_ev {j n : Nat} (hj : j ≤ 6) (hn : n < 2 ^ 20) (b c : Nat → Bool) (how : Int) (d' : Nat → Bool) (hd : ∀ i, el j d' i = if how = 0 then el j b i + el j c i else el j b i * el j c i) :
    Ev (fun k => steepleref03_Both.f k (j : Int) ((els j b n).map elR) (j : Int) ((els j c n).map elR) how) ((j : Int), (els j d' n).map elR, (0 : Int)) := by
  unfold steepleref03_Both.f
  refine Ev.pos rfl (Ev.succ ?_)
  simp only [steepleref03_Both.j0]
  refine Ev.neg ?_ (Both_l0 hj hn b c how d' hd n 0 (by omega))
  rw [List.length_map, els_length, List.length_map, els_length]
  simp
theorem Both_err {j n j' n' : Nat} (h : ¬ (j = j' ∧ n = n')) (b c : Nat → Bool) (how : Int) :
    Ev (fun k => steepleref03_Both.f k (j : Int) ((els j b n).map elR) (j' : Int) ((els j' c n').map elR) how) ((0 : Int), ([] : List S44), (6 : Int)) := by
  unfold steepleref03_Both.f
  by_cases e : j = j'
  · refine Ev.pos (by omega) (Ev.succ ?_)
    simp only [steepleref03_Both.j0]
    refine Ev.pos ?_ (Ev.now _)
    rw [List.length_map, els_length, List.length_map, els_length, bne_iff_ne]
    omega
  · refine Ev.neg (by omega) (Ev.succ ?_)
    simp only [steepleref03_Both.j0]
    exact Ev.pos trivial (Ev.now _)
end Go.Proofs.Ytceneggampgboaa.Br
