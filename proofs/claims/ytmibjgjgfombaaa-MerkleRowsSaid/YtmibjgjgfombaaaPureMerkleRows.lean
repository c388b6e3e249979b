/- The pure statement of the law MerkleRows: its printed function answers true. Conditions: none. -/
import Derived.Test.YtmibjgjgfombaaaPx21
import Derived.Test.YtmibjgjgfombaaaMkA
import Derived.Test.YtmibjgjgfombaaaMkB
set_option linter.unusedVariables false
namespace Go.Proofs.Ytmibjgjgfombaaa.Pure
open Go.RowKit Go.Proofs.Ytmibjgjgfombaaa.P Go.Proofs.Ytmibjgjgfombaaa.Br Go.Proofs.YtmibjgjgfombaaaW.PrintWords Go.Proofs.YtmibjgjgfombaaaW.PrintLast
/-- Does row k fit, of N rows of which the lowest has m texts? -/
def goodB (len n k N : Nat) : Bool := decide (len = n ∧ (k + 1 < N ∨ n = 1) ∧ (n % 2 = 0 ∨ (n = 1 ∧ k + 1 = N)))
theorem pow_half (m k : Nat) : m / 2 ^ k / 2 = m / 2 ^ (k + 1) := by rw [Nat.div_div_eq_div_mul, Nat.pow_succ]
theorem shape_iff (rows : List (List ByteArray)) (h0 : 0 < rows.length) : (∀ k, (h : k < rows.length) → goodB rows[k].length (rows[0].length / 2 ^ k) k rows.length = true) ↔ Shape rows := by
  constructor
  · intro hg
    have key : ∀ d k : Nat, k + d + 1 = rows.length → rows[0].length / 2 ^ k = 2 ^ d := by
      intro d
      induction d with
      | zero =>
        intro k hk
        obtain ⟨_, h2, _⟩ := of_decide_eq_true (hg k (by omega))
        exact h2.resolve_left (by omega)
      | succ d ih =>
        intro k hk
        obtain ⟨_, _, h3⟩ := of_decide_eq_true (hg k (by omega))
        have h4 := h3.resolve_right (by omega)
        have h5 := ih (k + 1) (by omega)
        rw [← pow_half] at h5
        have e : 2 ^ (d + 1) = 2 * 2 ^ d := Nat.pow_succ'
        omega
    intro k hk
    obtain ⟨h1, _, _⟩ := of_decide_eq_true (hg k hk)
    rw [h1, key (rows.length - 1 - k) k (by omega)]
  · intro hs k hk
    have e0 : rows[0].length = 2 ^ (rows.length - 1) := hs 0 h0
    obtain ⟨d, hd⟩ : ∃ d, d = rows.length - 1 - k := ⟨_, rfl⟩
    have e1 : rows[0].length / 2 ^ k = 2 ^ d := by
      rw [e0, show rows.length - 1 = d + k by omega, Nat.pow_add, Nat.mul_div_cancel _ (Nat.two_pow_pos k)]
    refine decide_eq_true ⟨by rw [hs k hk, e1, hd], ?_, ?_⟩
    · by_cases c : k + 1 < rows.length
      · exact Or.inl c
      · right
        rw [e1, show d = 0 by omega, Nat.pow_zero]
    · by_cases c : k + 1 < rows.length
      · left
        obtain ⟨q, rfl⟩ : ∃ q, d = q + 1 := ⟨d - 1, by omega⟩
        rw [e1, Nat.pow_succ']
        omega
      · right
        rw [e1, show d = 0 by omega]
        exact ⟨rfl, by omega⟩
theorem rows_l1 (rows : List (List ByteArray)) (hn : rows.length ≤ 8) (h0 : 0 < rows.length) (hs : Shape rows) (P : List ByteArray) (hP : P.length = rows.length - 1) :
    ∀ d j x : Nat, j + d = rows.length - 1 → x < 2 ^ d → P.drop j = pathD ((rows.take (rows.length - 1)).drop j) x → Ev (fun k => steeplelaw12_MerkleRows.l1 k rows (x : Int) P (j : Int)) true
  | 0, j, x, hj, hx, hp => by
    refine Ev.succ ?_
    simp only [steeplelaw12_MerkleRows.l1]
    exact Ev.neg (by omega) (Ev.now _)
  | d + 1, j, x, hj, hx, hp => by
    have hjl : j < rows.length := by omega
    have hjP : j < P.length := by omega
    have hf := flip_lt hx
    have h2 : 2 ^ (d + 1) ≤ 2 ^ 8 := Nat.pow_le_pow_right (by decide) (by omega)
    have e2 : 2 ^ (d + 1) = 2 * 2 ^ d := Nat.pow_succ'
    have hr := hs j hjl
    rw [show rows.length - 1 - j = d + 1 by omega] at hr
    have hjt : j < (rows.take (rows.length - 1)).length := by rw [List.length_take]; omega
    rw [List.drop_eq_getElem_cons hjP, List.drop_eq_getElem_cons hjt, pathD, List.getElem_take] at hp
    obtain ⟨hp1, hp2⟩ := List.cons.inj hp
    have ih := rows_l1 rows hn h0 hs P hP d (j + 1) (x / 2) (by omega) (by omega) hp2
    refine Ev.succ ?_
    simp only [steeplelaw12_MerkleRows.l1]
    rw [rd_at hjl, flip_xor x (by omega), rdOf_at hjP, rdOf_getD, half_wrap x (by omega), wrap_succ j (by omega)]
    exact Ev.pos (by omega) (Ev.pos (by omega) (Ev.pos (by omega) (Ev.pos (by omega) (Ev.pos (by omega) (Ev.pos (by rw [hp1]) ih)))))
theorem rows_end (rows : List (List ByteArray)) (hn : rows.length ≤ 8) (a : Int) (b : Bool) (hb : 0 < rows.length → (b = true ↔ Shape rows)) :
    Ev (fun k => (merkle_Path.f k rows a).bind fun bt565 => (if (rows.length : Int) = 0 then (steeplelaw12_MerkleRows.j2 k rows a b bt565.1 bt565.2 true) else (if a < 0 then (steeplelaw12_MerkleRows.j2 k rows a b bt565.1 bt565.2 true) else (if 0 < (rows.length : Int) then (steeplelaw12_MerkleRows.j2 k rows a b bt565.1 bt565.2 (decide (a ≥ ((rd_L1 rows 0).length : Int)))) else (none))))) true := by
  have far : Ev (fun k => steeplelaw12_MerkleRows.j2 k rows a b (([], 4) : List ByteArray × Int).1 (([], 4) : List ByteArray × Int).2 true) true := by
    refine Ev.succ ?_
    simp only [steeplelaw12_MerkleRows.j2]
    exact Ev.pos (by trivial) (Ev.pos (by trivial) (Ev.now _))
  by_cases c : rows.length = 0 ∨ a < 0 ∨ a ≥ ((rd_L1 rows 0).length : Int)
  · refine Ev.bind (Path_none rows a c) ?_
    by_cases c1 : rows.length = 0
    · exact Ev.pos (by omega) far
    refine Ev.neg (by omega) ?_
    by_cases c2 : a < 0
    · exact Ev.pos c2 far
    refine Ev.neg c2 (Ev.pos (by omega) ?_)
    rw [decide_eq_true (show a ≥ ((rd_L1 rows 0).length : Int) by omega)]
    exact far
  · obtain ⟨i, rfl⟩ : ∃ i : Nat, a = i := ⟨a.toNat, by omega⟩
    have h0 : 0 < rows.length := by omega
    have hi : i < (rd_L1 rows 0).length := by omega
    have hd : decide ((i : Int) ≥ ((rd_L1 rows 0).length : Int)) = false := decide_eq_false (by omega)
    have e1 : wrap64 ((rows.length : Int) - 1) = ((rows.length - 1 : Nat) : Int) := by unfold wrap64; omega
    have hl : (rows.take (rows.length - 1)).length = rows.length - 1 := by rw [List.length_take]; omega
    by_cases hs : Shape rows
    · rw [(hb h0).2 hs]
      have hi2 : i < 2 ^ (rows.length - 1) := by
        have e := rd_at h0
        rw [show ((0 : Nat) : Int) = 0 from rfl] at e
        rw [e, hs 0 h0] at hi
        exact hi
      have hP : (pathD (rows.take (rows.length - 1)) i).length = rows.length - 1 := by rw [pathD_len, hl]
      refine Ev.bind (Path_ok rows i h0 (by omega) hs hi2) (Ev.neg (by omega) (Ev.neg (by omega) (Ev.pos (by omega) ?_)))
      rw [hd]
      refine Ev.succ ?_
      simp only [steeplelaw12_MerkleRows.j2]
      rw [e1]
      exact Ev.neg (by decide) (Ev.pos (by trivial) (Ev.pos (by trivial) (Ev.pos (by rw [hP]) (rows_l1 rows hn h0 hs _ hP (rows.length - 1) 0 i (by omega) hi2 rfl))))
    · have hbf : b = false := by
        cases hbb : b with
        | false => rfl
        | true => exact absurd ((hb h0).1 hbb) hs
      obtain ⟨m, hm, hm2⟩ : ∃ m, ∃ h : m < rows.length, rows[m].length ≠ 2 ^ (rows.length - 1 - m) := Classical.byContradiction fun q => hs fun k hk => Classical.byContradiction fun q2 => q ⟨k, hk, q2⟩
      refine Ev.bind (Path_bad rows i h0 (by omega) hi m hm hm2) (Ev.neg (by omega) (Ev.neg (by omega) (Ev.pos (by omega) ?_)))
      rw [hd, hbf]
      refine Ev.succ ?_
      simp only [steeplelaw12_MerkleRows.j2]
      exact Ev.neg (by decide) (Ev.neg (by decide) (Ev.pos (by trivial) (Ev.now _)))
theorem len_pred {n : Nat} (h0 : 0 < n) (h : n < 1000) : wrap64 ((n : Int) - 1) = ((n - 1 : Nat) : Int) := by unfold wrap64; omega
theorem half_w {n m : Nat} (h : n = m) (hn : n < 2 ^ 60) : wrap64 ((n : Int) / 2) = ((m / 2 : Nat) : Int) := by subst h; unfold wrap64; omega
theorem tmod_w (m : Nat) : Int.tmod (m : Int) 2 = ((m % 2 : Nat) : Int) := by
  rw [Int.tmod_eq_emod_of_nonneg (by omega)]
  omega
theorem last_eq {j N : Nat} (h0 : 0 < N) : ((j : Int) == ((N - 1 : Nat) : Int)) = decide (j + 1 = N) := by
  by_cases c : j + 1 = N
  · rw [decide_eq_true c, beq_iff_eq]
    omega
  · rw [decide_eq_false c, beq_eq_false_iff_ne]
    omega
/-- One round's tests, in the two forms that the law has. -/
theorem round_ev {G : Bool → Nat → Option Bool} {b : Bool} {ln m j N : Nat} (h0 : 0 < N) (hg : ∀ b' : Bool, b' = (b && goodB ln m j N) → Ev (G b') true) :
    Ev (fun k => if b = true then (if (ln : Int) = (m : Int) then (if (j : Int) < ((N - 1 : Nat) : Int) then (if ((m % 2 : Nat) : Int) = 0 then G true k else (if (m : Int) = 1 then G (decide (j + 1 = N)) k else G false k)) else (if (m : Int) = 1 then (if ((m % 2 : Nat) : Int) = 0 then G true k else G (decide (j + 1 = N)) k) else G false k)) else G false k) else G false k) true := by
  have hfalse : b = false → Ev (G false) true := fun q => hg false (by rw [q]; rfl)
  have hno : ¬ (ln = m ∧ (j + 1 < N ∨ m = 1) ∧ (m % 2 = 0 ∨ (m = 1 ∧ j + 1 = N))) → Ev (G false) true := fun q => hg false (by rw [goodB, decide_eq_false q, Bool.and_false])
  have hyes : b = true → (ln = m ∧ (j + 1 < N ∨ m = 1) ∧ (m % 2 = 0 ∨ (m = 1 ∧ j + 1 = N))) → Ev (G true) true := fun q0 q => hg true (by rw [q0, goodB, decide_eq_true q]; rfl)
  have hlast : b = true → ln = m → m = 1 → Ev (G (decide (j + 1 = N))) true := fun q0 q1 q2 => hg _ (by
    rw [q0, Bool.true_and]
    unfold goodB
    exact decide_eq_decide.2 ⟨fun q => ⟨q1, Or.inr q2, Or.inr ⟨q2, q⟩⟩, fun q => by omega⟩)
  cases b with
  | false => exact Ev.neg (by decide) (hfalse rfl)
  | true =>
    refine Ev.pos rfl ?_
    by_cases cl : (ln : Int) = (m : Int)
    rotate_left
    · exact Ev.neg cl (hno (by omega))
    have hlm : ln = m := by omega
    refine Ev.pos cl ?_
    by_cases c1 : (j : Int) < ((N - 1 : Nat) : Int)
    · refine Ev.pos c1 ?_
      by_cases c2 : ((m % 2 : Nat) : Int) = 0
      · exact Ev.pos c2 (hyes rfl ⟨hlm, by omega, by omega⟩)
      · refine Ev.neg c2 ?_
        by_cases c3 : (m : Int) = 1
        · exact Ev.pos c3 (hlast rfl hlm (by omega))
        · exact Ev.neg c3 (hno (by omega))
    · refine Ev.neg c1 ?_
      by_cases c3 : (m : Int) = 1
      · exact Ev.pos c3 (Ev.neg (by omega) (hlast rfl hlm (by omega)))
      · exact Ev.neg c3 (hno (by omega))
set_option maxHeartbeats 4000000 in
theorem rows_l0 (rows : List (List ByteArray)) (hn : rows.length ≤ 8) (a : Int) (hbig : ∀ r ∈ rows, r.length < 2 ^ 60) :
    ∀ d j : Nat, ∀ (b : Bool) (n : Nat), j + d = rows.length → (b = true ↔ 0 < rows.length ∧ ∀ k, (h : k < rows.length) → k < j → goodB rows[k].length (rows[0].length / 2 ^ k) k rows.length = true) →
      ((h : 0 < j) → (h2 : 0 < rows.length) → n = rows[0].length / 2 ^ j) → n < 2 ^ 60 → Ev (fun k => steeplelaw12_MerkleRows.l0 k rows a b (n : Int) (j : Int)) true
  | 0, j, b, n, hj, hb, hnn, hlt => by
    refine Ev.succ ?_
    simp only [steeplelaw12_MerkleRows.l0]
    refine Ev.neg (by omega) (rows_end rows hn a b (fun h0 => ?_))
    rw [hb, ← shape_iff rows h0]
    exact ⟨fun q k hk => q.2 k hk (by omega), fun q => ⟨h0, fun k hk _ => q k hk⟩⟩
  | d + 1, j, b, n, hj, hb, hnn, hlt => by
    have hjl : j < rows.length := by omega
    have h0 : 0 < rows.length := by omega
    have hr0 : rd_L1 rows 0 = rows[0] := rd_at h0
    obtain ⟨m, hm⟩ : ∃ m, m = rows[0].length / 2 ^ j := ⟨_, rfl⟩
    have hm60 : m < 2 ^ 60 := by
      have h1 := hbig _ (List.getElem_mem h0)
      have h2 := Nat.div_le_self rows[0].length (2 ^ j)
      omega
    obtain ⟨ln, hln⟩ : ∃ ln, ln = rows[j].length := ⟨_, rfl⟩
    have ih : ∀ b' : Bool, b' = (b && goodB ln m j rows.length) → Ev (fun k => steeplelaw12_MerkleRows.l0 k rows a b' ((m / 2 : Nat) : Int) ((j + 1 : Nat) : Int)) true := by
      intro b' hb'
      refine rows_l0 rows hn a hbig d (j + 1) b' (m / 2) (by omega) ?_ (fun _ _ => by rw [hm, pow_half]) (by omega)
      rw [hb', Bool.and_eq_true, hb]
      constructor
      · rintro ⟨⟨q0, q1⟩, q2⟩
        refine ⟨q0, fun k hk hkj => ?_⟩
        by_cases c : k < j
        · exact q1 k hk c
        · obtain rfl : k = j := by omega
          rw [← hm, ← hln]
          exact q2
      · rintro ⟨q0, q1⟩
        refine ⟨⟨q0, fun k hk hkj => q1 k hk (by omega)⟩, ?_⟩
        rw [hln, hm]
        exact q1 j hjl (by omega)
    refine Ev.succ ?_
    simp only [steeplelaw12_MerkleRows.l0]
    rw [rd_at hjl, hr0, len_pred h0 (by omega), wrap_succ j (by omega), ← hln, last_eq h0]
    refine Ev.pos (by omega) (Ev.pos (by omega) (Ev.bind (Few_ev rows[j] (hbig _ (List.getElem_mem hjl)) 20 40) ?_))
    by_cases cf : fewB rows[j] 20 40 = true
    rotate_left
    · exact Ev.neg cf (Ev.now _)
    refine Ev.pos cf ?_
    by_cases cj : j = 0
    · have hm0 : rows[0].length = m := by rw [hm, cj, Nat.pow_zero, Nat.div_one]
      rw [half_w hm0 (by omega), hm0, show ((m : Int) % 2) = ((m % 2 : Nat) : Int) from rfl]
      refine Ev.pos (by omega) (Ev.pos (by omega) ?_)
      exact round_ev h0 (G := fun b' k => steeplelaw12_MerkleRows.l0 k rows a b' ((m / 2 : Nat) : Int) ((j + 1 : Nat) : Int)) ih
    · have hnm : n = m := by rw [hm]; exact hnn (by omega) h0
      rw [hnm, half_wrap m (by omega), tmod_w]
      refine Ev.neg (by omega) ?_
      exact round_ev h0 (G := fun b' k => steeplelaw12_MerkleRows.l0 k rows a b' ((m / 2 : Nat) : Int) ((j + 1 : Nat) : Int)) ih
theorem MerkleRows : steeplelaw12_MerkleRows.Pure := by
  intro rows a hr ha
  refine Ev.rounds (g := fun k => steeplelaw12_MerkleRows.f k rows a) ?_
  have far : Ev (fun k => steeplelaw12_MerkleRows.j0 k rows a true) true := by
    refine Ev.succ ?_
    simp only [steeplelaw12_MerkleRows.j0]
    exact Ev.pos (by trivial) (Ev.bind awake_ev (Ev.now _))
  unfold steeplelaw12_MerkleRows.f
  by_cases c : (rows.length : Int) > 8
  · exact Ev.pos c far
  refine Ev.neg c (Ev.bind awake_ev (Ev.succ ?_))
  simp only [steeplelaw12_MerkleRows.j0]
  refine Ev.neg (by decide) (rows_l0 rows (by omega) a (fun r m => by have := (hr.2.2 r m).2.1; omega) rows.length 0 _ 0 (by omega) ?_ (fun q => absurd q (by decide)) (by decide))
  rw [decide_eq_true_eq]
  exact ⟨fun q => ⟨by omega, fun k _ hk => absurd hk (Nat.not_lt_zero k)⟩, fun q => by omega⟩
end Go.Proofs.Ytmibjgjgfombaaa.Pure
