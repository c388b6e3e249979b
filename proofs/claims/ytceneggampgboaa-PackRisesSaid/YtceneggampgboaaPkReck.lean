/- Sums and products of vectors, all of a word at once, are each by itself. Conditions: a level from 0 to 6, as many elements as there may be. -/
import Derived.Test.YtceneggampgboaaPkRef
import Derived.Test.YtceneggampgboaaPkTimes
import Derived.Test.YtceneggampgboaaBrRefMul
import Derived.Test.YtceneggampgboaaPx12
import Derived.Test.YtceneggampgboaaPx15
import Derived.Test.YtceneggampgboaaPx16
set_option linter.unusedVariables false
set_option linter.unusedSimpArgs false
namespace Go.Proofs.Ytceneggampgboaa.Br
open Go.RowKit Go.Proofs.YtceneggampgboaaT Go.Proofs.Ytceneggampgboaa.P Go.Proofs.YtceneggampgboaaW.PrintWords Go.Proofs.YtceneggampgboaaW.PrintLast Go.Proofs.YtceneggampgboaaW.PrintMore
/-- The first words of one, the others of another. -/
def mixB (i : Nat) (d b : Nat → Bool) (t : Nat) : Bool := if t / 64 < i then d t else b t
theorem mix_zero (d b : Nat → Bool) : mixB 0 d b = b := funext fun t => if_neg (Nat.not_lt_zero _)
theorem mix_rd {i m : Nat} (hi : i < m) (d b : Nat → Bool) : rd (wordsB (mixB i d b) m) (i : Int) = ((num (fun t => b (64 * i + t)) 64 : Nat) : Int) := by
  rw [rd_wordsB hi]
  congr 1
  refine num_congr fun t ht => ?_
  unfold mixB
  rw [if_neg (by omega)]
theorem mix_set {i m : Nat} (hi : i < m) (d b : Nat → Bool) : (wordsB (mixB i d b) m).set i ((num (fun t => d (64 * i + t)) 64 : Nat) : Int) = wordsB (mixB (i + 1) d b) m := by
  refine wordsB_set hi (num64 _) ?_ ?_
  · intro t ht
    rw [num_bit, decide_eq_true ht, Bool.true_and]
    unfold mixB
    rw [if_pos (by omega)]
  · intro v t hv ht
    unfold mixB
    by_cases h : (64 * v + t) / 64 < i
    · rw [if_pos h, if_pos (by omega)]
    · rw [if_neg h, if_neg (by omega)]
theorem mix_all {m i : Nat} (h : m ≤ i) (d b : Nat → Bool) : wordsB (mixB i d b) m = wordsB d m := by
  refine wordsB_congr fun t ht => ?_
  unfold mixB
  rw [if_pos (by omega)]
def xorB (b c : Nat → Bool) (t : Nat) : Bool := Bool.xor (b t) (c t)
theorem Add_l0 {j n m : Nat} (hm : m < 2 ^ 40) (b c : Nat → Bool) (l : List Int) : ∀ d i : Nat, i + d = m →
    Ev (fun k => pack_Add.l0 k (wordsB (mixB i (xorB b c) b) m) (wordsB c m) (m : Int) (i : Int) (j : Int) (n : Int) l) ((j : Int), (n : Int), wordsB (xorB b c) m, (0 : Int))
  | 0, i, h => by
    refine Ev.succ ?_
    simp only [pack_Add.l0]
    refine Ev.neg (by omega) ?_
    refine Ev.bind (Ev.const (vec_f _ _ _)) ?_
    rw [mix_all (by omega)]
    exact Ev.now _
  | d + 1, i, h => by
    have hi : i < m := by omega
    refine Ev.succ ?_
    simp only [pack_Add.l0]
    refine Ev.pos (by omega) (Ev.pos (by omega) (Ev.pos (by rw [wordsB_length]; omega) (Ev.pos (by rw [wordsB_length]; omega) ?_)))
    rw [mix_rd hi, rd_wordsB hi, bxor, Int.toNat_natCast, wrap_succ i (by omega)]
    have e : (fun t => Bool.xor (b (64 * i + t)) (c (64 * i + t))) = fun t => xorB b c (64 * i + t) := rfl
    rw [e, mix_set hi]
    exact Add_l0 hm b c l d (i + 1) (by omega)
theorem alike_same {j n : Int} {l l' : List Int} : pack_alike.f j n l j n l' = some true := by
  unfold pack_alike.f
  rw [if_pos rfl, beq_self_eq_true]
theorem alike_not {j n j' n' : Nat} {l l' : List Int} (h : ¬ (j = j' ∧ n = n')) : pack_alike.f (j : Int) (n : Int) l (j' : Int) (n' : Int) l' = some false := by
  unfold pack_alike.f
  by_cases e : j = j'
  · rw [if_pos (by omega)]
    congr 1
    rw [beq_eq_false_iff_ne]
    omega
  · rw [if_neg (by omega)]
theorem Add_ev {j n : Nat} (hn : n < 2 ^ 20) (b c : Nat → Bool) :
    Ev (fun k => pack_Add.f k (j : Int) (n : Int) (wordsB b (sz j n)) (j : Int) (n : Int) (wordsB c (sz j n))) ((j : Int), (n : Int), wordsB (xorB b c) (sz j n), (0 : Int)) := by
  have hs := sz_le j n
  unfold pack_Add.f
  refine Ev.bind (Ev.const alike_same) (Ev.pos rfl ?_)
  refine Ev.bind (Ev.const (clone_f (by rw [wordsB_length]; omega))) ?_
  have := Add_l0 (j := j) (n := n) (m := sz j n) (by omega) b c (wordsB b (sz j n)) (sz j n) 0 (by omega)
  rw [mix_zero] at this
  rw [wordsB_length]
  exact this
theorem Add_err {j n j' n' : Nat} {l l' : List Int} (h : ¬ (j = j' ∧ n = n')) : Ev (fun k => pack_Add.f k (j : Int) (n : Int) l (j' : Int) (n' : Int) l') ((0 : Int), (0 : Int), ([] : List Int), (6 : Int)) := by
  unfold pack_Add.f
  refine Ev.bind (Ev.const (alike_not h)) (Ev.neg (by decide) (Ev.now _))
theorem els_xor (j : Nat) (b c : Nat → Bool) (n : Nat) : els j (xorB b c) n = (List.range n).map fun i => el j b i + el j c i := by
  unfold els
  exact List.map_congr_left fun i _ => el_add b c i
theorem Zb_xor {j n : Nat} {b c : Nat → Bool} (hb : Zb j n b) (hc : Zb j n c) : Zb j n (xorB b c) := fun t ht => by
  unfold xorB
  rw [hb t ht, hc t ht]
  rfl
/-- Both vectors that a pair is made of, or that they can't be made, or are too long. -/
theorem made_ev (a a' : Int) (L L' : List (T 7)) :
    (∃ (v w : Int × Int × List Int), Ev (fun k => steeplelaw03_Pair_made.f k a a' (L.map elS) (L'.map elS)) (v.1, v.2.1, v.2.2, w.1, w.2.1, w.2.2, false)) ∨
    (∃ (j j' : Nat), a = (j : Int) ∧ a' = (j' : Int) ∧ j ≤ 6 ∧ j' ≤ 6 ∧ L.length ≤ 200 ∧ L'.length ≤ 200 ∧ (∀ x ∈ L, InL j x) ∧ (∀ x ∈ L', InL j' x) ∧
      Ev (fun k => steeplelaw03_Pair_made.f k a a' (L.map elS) (L'.map elS)) ((j : Int), ((L.length : Nat) : Int), wordsB (lb j L) (sz j L.length), (j' : Int), ((L'.length : Nat) : Int), wordsB (lb j' L') (sz j' L'.length), true)) := by
  have bad : ∀ x : Bool, x = true → Ev (fun k => steeplelaw03_Pair_made.j0 k x a a' (L.map elS) (L'.map elS)) ((0 : Int), (0 : Int), ([] : List Int), (0 : Int), (0 : Int), ([] : List Int), false) := fun x hx => by
    refine Ev.succ ?_
    simp only [steeplelaw03_Pair_made.j0]
    exact Ev.pos hx (Ev.now _)
  by_cases h1 : L.length > 200
  · refine .inl ⟨(0, 0, []), (0, 0, []), ?_⟩
    unfold steeplelaw03_Pair_made.f
    exact Ev.pos (by rw [List.length_map]; omega) (bad _ rfl)
  · by_cases h2 : L'.length > 200
    · refine .inl ⟨(0, 0, []), (0, 0, []), ?_⟩
      unfold steeplelaw03_Pair_made.f
      exact Ev.neg (by rw [List.length_map]; omega) (bad _ (by rw [decide_eq_true_eq, List.length_map]; omega))
    · obtain ⟨j, n, b, e, hj, hn, hn2, hz, ok, er, hm, _⟩ := both_make a L
      obtain ⟨j', n', b', e', hj', hn', hn2', hz', ok', er', hm', _⟩ := both_make a' L'
      have go : Ev (fun k => steeplelaw03_Pair_made.f k a a' (L.map elS) (L'.map elS)) ((j : Int), (n : Int), wordsB b (sz j n), (j' : Int), (n' : Int), wordsB b' (sz j' n'), if e = 0 then e' == 0 else false) := by
        unfold steeplelaw03_Pair_made.f
        refine Ev.neg (by rw [List.length_map]; omega) (Ev.succ ?_)
        simp only [steeplelaw03_Pair_made.j0]
        refine Ev.neg (by rw [decide_eq_true_eq, List.length_map]; omega) ?_
        refine Ev.bind hm (Ev.bind hm' ?_)
        by_cases he : e = 0
        · refine Ev.pos he ?_
          rw [if_pos he]
          exact Ev.now _
        · refine Ev.neg he ?_
          rw [if_neg he]
          exact Ev.now _
      by_cases he : e = 0
      · by_cases he' : e' = 0
        · obtain ⟨rfl, rfl, hin, rfl⟩ := ok he
          obtain ⟨rfl, rfl, hin', rfl⟩ := ok' he'
          rw [if_pos he, he'] at go
          exact .inr ⟨j, j', rfl, rfl, hj, hj', by omega, by omega, hin, hin', go⟩
        · rw [if_pos he, beq_eq_false_iff_ne.2 he'] at go
          exact .inl ⟨(_, _, _), (_, _, _), go⟩
      · rw [if_neg he] at go
        exact .inl ⟨(_, _, _), (_, _, _), go⟩
end Go.Proofs.Ytceneggampgboaa.Br
