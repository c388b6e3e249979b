/- Two polynomials that differ agree at no more elements than their degree may be. Conditions: none but the arguments' kinds. -/
import Derived.Test.YthnaalocgoeddaaBrAwake
import Derived.Test.YthnaalocgoeddaaLnP
import Derived.Test.YthnaalocgoeddaaPx13
set_option linter.unusedVariables false
set_option linter.unusedSimpArgs false
namespace Go.Proofs.Ythnaalocgoeddaa.Pure
open Go.RowKit Go.Proofs.YthnaalocgoeddaaT Go.Proofs.Ythnaalocgoeddaa.P Go.Proofs.Ythnaalocgoeddaa.Br Go.Proofs.YthnaalocgoeddaaW.PrintWords Go.Proofs.YthnaalocgoeddaaW.PrintLast Go.Proofs.YthnaalocgoeddaaW.PrintMore
/-- The value is a polynomial of a degree less than there are values. -/
theorem isP_dotW {n : Nat} : ∀ (l : List (T 7)) (s : Nat), s + l.length ≤ n + 1 → isP n (fun x => dotW (wE (n + 1) x) s l)
  | [], _, _ => isP_zero n
  | y :: l, s, h => by
    have hs : s < n + 1 := by rw [List.length_cons] at h; omega
    have ih := isP_dotW (n := n) l (s + 1) (by rw [List.length_cons] at h; omega)
    have h1 := isP_scale (y * inv 7 (upP (pl s) s (n + 1))) (isP_upP s n hs)
    have e : (fun x => dotW (wE (n + 1) x) s (y :: l)) = fun x => y * inv 7 (upP (pl s) s (n + 1)) * upP x s (n + 1) + dotW (wE (n + 1) x) (s + 1) l := funext fun x => by
      show y * (upP x s (n + 1) * inv 7 (upP (pl s) s (n + 1))) + _ = _
      rw [mul_comm (upP x s (n + 1)), mul_assoc]
    rw [e]
    exact isP_add h1 ih
theorem isP_atE {L : List (T 7)} (h : 0 < L.length) : isP (L.length - 1) (fun x => atE L x) := by
  have := isP_dotW (n := L.length - 1) L 0 (by omega)
  have e : (fun x => atE L x) = fun x => dotW (wE (L.length - 1 + 1) x) 0 L := funext fun x => by
    unfold atE
    rw [show L.length - 1 + 1 = L.length by omega]
  rw [e]
  exact this
/-- The places at which both agree. -/
def agree (A B : List (T 7)) (N : Nat) : List Nat := (List.range N).filter fun q => decide (atE A (pl q) = atE B (pl q))
theorem agree_succ (A B : List (T 7)) (N : Nat) : (agree A B (N + 1)).length = (agree A B N).length + (if atE A (pl N) = atE B (pl N) then 1 else 0) := by
  unfold agree
  rw [List.range_succ, List.filter_append, List.length_append]
  congr 1
  by_cases h : atE A (pl N) = atE B (pl N)
  · rw [if_pos h, List.filter_cons_of_pos (by rw [decide_eq_true_eq]; exact h)]
    rfl
  · rw [if_neg h, List.filter_cons_of_neg (by rw [decide_eq_true_eq]; exact h)]
    rfl
theorem agree_le (A B : List (T 7)) (N : Nat) : (agree A B N).length ≤ N := by
  have := List.length_filter_le (fun q => decide (atE A (pl q) = atE B (pl q))) (List.range N)
  rw [List.length_range] at this
  exact this
theorem agree_all (A : List (T 7)) : ∀ N, (agree A A N).length = N
  | 0 => rfl
  | N + 1 => by rw [agree_succ, agree_all A N, if_pos rfl]
theorem pl_inj {a b : Nat} (ha : a < 2 ^ 2 ^ 7) (hb : b < 2 ^ 2 ^ 7) (h : pl a = pl b) : a = b := by
  have := congrArg (enc 7) h
  rw [enc_pl ha, enc_pl hb] at this
  exact this
theorem nodup_pl : ∀ l : List Nat, l.Nodup → (∀ q ∈ l, q < 2 ^ 2 ^ 7) → (l.map pl).Nodup
  | [], _, _ => List.nodup_nil
  | a :: l, h, hl => by
    rw [List.nodup_cons] at h
    rw [List.map_cons, List.nodup_cons]
    refine ⟨fun hm => ?_, nodup_pl l h.2 fun q hq => hl q (List.mem_cons_of_mem _ hq)⟩
    obtain ⟨b, hb, e⟩ := List.mem_map.1 hm
    obtain rfl := pl_inj (hl b (List.mem_cons_of_mem _ hb)) (hl a List.mem_cons_self) e
    exact h.1 hb
theorem agree_few {A B : List (T 7)} (hl : A.length = B.length) (h0 : 0 < A.length) (h9 : A.length ≤ 9) (hne : A ≠ B) {N : Nat} (hN : N ≤ 256) : (agree A B N).length ≤ A.length - 1 := by
  have big : 256 ≤ 2 ^ 2 ^ 7 := by decide
  refine Nat.le_of_not_lt fun hlt => hne ?_
  have hf : isP (A.length - 1) (fun x => atE A x + atE B x) := by
    refine isP_add (isP_atE h0) ?_
    have := isP_atE (L := B) (by omega)
    rw [← hl] at this
    exact this
  have hz := isP_roots (A.length - 1) ((agree A B N).map pl) hf
    (nodup_pl _ (List.Pairwise.filter _ List.nodup_range) (fun q hq => by
      have := List.mem_range.1 (List.mem_filter.1 hq).1
      omega))
    (fun r hr => by
      obtain ⟨q, hq, rfl⟩ := List.mem_map.1 hr
      have := (List.mem_filter.1 hq).2
      rw [decide_eq_true_eq] at this
      show atE A (pl q) + atE B (pl q) = 0
      rw [this, add_self])
    (by rw [List.length_map]; exact hlt)
  refine List.ext_getElem hl fun i h1 h2 => ?_
  have := hz (pl i)
  rw [atE_place h9 h1, atE_place (by omega) h2] at this
  exact add_eq_zero.1 this
theorem rdN {j : Nat} (h : j ≤ 3) : rd [2, 4, 16, 256] (j : Int) = ((2 ^ 2 ^ j : Nat) : Int) := by
  have : ∀ j : Nat, j ≤ 3 → rd [2, 4, 16, 256] (j : Int) = ((2 ^ 2 ^ j : Nat) : Int) := by decide
  exact this j h
theorem N_le {j : Nat} (h : j ≤ 3) : 2 ^ 2 ^ j ≤ 256 := by
  have : ∀ j : Nat, j ≤ 3 → 2 ^ 2 ^ j ≤ 256 := by decide
  exact this j h
theorem el_eq (x y : T 7) : (hiW x == hiW y && loW x == loW y) = decide (x = y) := by
  rw [Bool.eq_iff_iff, Bool.and_eq_true, beq_iff_eq, beq_iff_eq, decide_eq_true_eq]
  constructor
  · rintro ⟨h1, h2⟩
    exact el_inj h1 h2
  · rintro rfl
    exact ⟨rfl, rfl⟩
theorem Apart_l1 {j : Nat} (hj : j ≤ 3) {A B : List (T 7)} (hl : A.length = B.length) (h0 : 0 < A.length) (h9 : A.length ≤ 9) : ∀ d i : Nat, i + d = A.length →
    Ev (fun k => steeplelaw17_LineApart.l1 k (j : Int) (A.map elS) (B.map elS) (((agree A B (2 ^ 2 ^ j)).length : Nat) : Int) (decide (A.take i = B.take i)) (i : Int)) true
  | 0, i, h => by
    have hN := N_le hj
    refine Ev.succ ?_
    simp only [steeplelaw17_LineApart.l1]
    refine Ev.neg (by rw [List.length_map]; omega) ?_
    rw [List.take_of_length_le (by omega), List.take_of_length_le (by omega)]
    by_cases e : A = B
    · subst e
      refine Ev.pos (decide_eq_true rfl) (Ev.bind awake_ev (Ev.pos rfl (Ev.bind (Ev.now _) (Ev.pos (by omega) (Ev.pos (by show (j : Int) < 4; omega) ?_)))))
      rw [rdN hj, agree_all, beq_self_eq_true]
      exact Ev.now _
    · refine Ev.neg (by rw [decide_eq_true_eq]; exact e) (Ev.bind awake_ev (Ev.pos rfl ?_))
      have := agree_few hl h0 h9 e hN
      exact Ev.const (by rw [List.length_map, decide_eq_true (by unfold wrap64; omega)])
  | d + 1, i, h => by
    have h1 : i < A.length := by omega
    have h2 : i < B.length := by omega
    have ih := Apart_l1 hj hl h0 h9 d (i + 1) (by omega)
    refine Ev.succ ?_
    simp only [steeplelaw17_LineApart.l1]
    refine Ev.pos (by rw [List.length_map]; omega) ?_
    rw [rd_elS h1, rd_elS h2, elS_f0, elS_f0, elS_f1, elS_f1, el_eq, wrap_succ i (by omega)]
    rw [List.take_succ_eq_append_getElem h1, List.take_succ_eq_append_getElem h2] at ih
    have hlen : (A.take i).length = (B.take i).length := by rw [List.length_take, List.length_take]; omega
    by_cases e : A.take i = B.take i
    · refine Ev.pos (decide_eq_true e) (Ev.pos (by omega) (Ev.pos (by rw [List.length_map]; omega) ?_))
      have e2 : (A.take i ++ [A[i]] = B.take i ++ [B[i]]) ↔ A[i] = B[i] := by
        rw [e]
        constructor
        · intro q
          have := List.append_cancel_left q
          injection this
        · intro q
          rw [q]
      simp only [e2] at ih
      exact ih
    · refine Ev.neg (by rw [decide_eq_true_eq]; exact e) ?_
      have e2 : ¬ (A.take i ++ [A[i]] = B.take i ++ [B[i]]) := fun q => e (List.append_inj_left q hlen)
      rw [decide_eq_false e2] at ih
      exact ih
theorem Apart_l0 {j : Nat} (hj : j ≤ 3) {A B : List (T 7)} (hA : mayE (j : Int) A = 0) (hB : mayE (j : Int) B = 0) (hl : A.length = B.length) (h0 : 0 < A.length) (h9 : A.length ≤ 9) : ∀ d i : Nat, i + d = 2 ^ 2 ^ j →
    Ev (fun k => steeplelaw17_LineApart.l0 k (j : Int) (A.map elS) (B.map elS) (((agree A B i).length : Nat) : Int) (i : Int)) true
  | d, i, h => by
    have hN := N_le hj
    have hle := agree_le A B i
    refine Ev.succ ?_
    simp only [steeplelaw17_LineApart.l0]
    refine Ev.bind (Ev.now _) (Ev.pos (by omega) (Ev.pos (by show (j : Int) < 4; omega) ?_))
    rw [rdN hj]
    match d with
    | 0 =>
      obtain rfl : i = 2 ^ 2 ^ j := by omega
      refine Ev.neg (by omega) ?_
      have := Apart_l1 hj hl h0 h9 A.length 0 (by omega)
      rw [List.take_zero, List.take_zero, decide_eq_true rfl] at this
      exact this
    | d + 1 =>
      refine Ev.pos (by omega) ?_
      rw [wrap_u64 i (by omega), wrap_succ i (by omega), wrap_succ _ (by omega)]
      have hw := pl_w (show i < 2 ^ 64 by omega)
      have hin : ofB (j : Int) (pl i) = true := ofB_nat (by omega) (by
        show enc 7 (pl i) < _
        rw [enc_pl (Nat.lt_of_lt_of_le (show i < 256 by omega) (by decide))]
        omega)
      have a1 := At_ok hA hin
      have a2 := At_ok hB hin
      rw [hw.1, hw.2] at a1 a2
      refine Ev.bind a1 (Ev.bind a2 (Ev.pos rfl (Ev.pos rfl ?_)))
      have ih := Apart_l0 hj hA hB hl h0 h9 d (i + 1) (by omega)
      rw [agree_succ] at ih
      by_cases e : atE A (pl i) = atE B (pl i)
      · refine Ev.pos (eq_pair e) ?_
        rw [if_pos e] at ih
        exact ih
      · refine Ev.neg (by rw [el_eq, decide_eq_true_eq]; exact e) ?_
        rw [if_neg e, Nat.add_zero] at ih
        exact ih
theorem LineApart : steeplelaw17_LineApart.Pure := by
  intro a l m ha ⟨_, _, hl1⟩ ⟨_, _, hl2⟩
  obtain ⟨A, rfl⟩ := elS_of hl1
  obtain ⟨B, rfl⟩ := elS_of hl2
  refine Ev.rounds ?_
  unfold steeplelaw17_LineApart.f
  have jt : Ev (fun k => steeplelaw17_LineApart.j0 k a (A.map elS) (B.map elS) true) true := by
    refine Ev.succ ?_
    simp only [steeplelaw17_LineApart.j0]
    exact Ev.pos trivial (Ev.bind awake_ev (Ev.now _))
  rw [List.length_map, List.length_map]
  by_cases h3 : a > 3
  · exact Ev.pos h3 jt
  · refine Ev.neg h3 ?_
    by_cases h9 : (A.length : Int) > 9
    · exact Ev.pos h9 jt
    · refine Ev.neg h9 ?_
      by_cases hl : A.length = B.length
      · refine Ev.pos (by omega) (Ev.bind (may_ev a A (by omega)) ?_)
        by_cases hA : mayE a A = 0
        · refine Ev.pos hA (Ev.bind (may_ev a B (by omega)) ?_)
          by_cases hB : mayE a B = 0
          · obtain ⟨j, rfl, hj, h0, h9', hp, hin⟩ := may_ok hA
            rw [hB, show ((0 : Int) != 0) = false from rfl]
            refine Ev.succ ?_
            simp only [steeplelaw17_LineApart.j0]
            refine Ev.neg (by decide) ?_
            exact Apart_l0 (by omega) hA hB hl h0 h9' (2 ^ 2 ^ j) 0 (by omega)
          · rw [show (mayE a B != 0) = true from bne_iff_ne.2 hB]
            exact jt
        · exact Ev.neg hA jt
      · exact Ev.neg (by omega) jt
end Go.Proofs.Ythnaalocgoeddaa.Pure
