/- Which systems may be: the code's answer (circuit.Check) and the document's (steepleref25.Check) are one. Conditions: those that each theorem names. -/
import Derived.Test.YthgiifakcgjlaaaBrBits
import Derived.Test.YthgiifakcgjlaaaPx10
import Derived.Test.YthgiifakcgjlaaaPx11
import Derived.Test.YthgiifakcgjlaaaPx5
import Derived.Test.YthgiifakcgjlaaaPx6
import Derived.Test.YthgiifakcgjlaaaPx7
import Derived.Test.YthgiifakcgjlaaaPx8
import Derived.Test.YthgiifakcgjlaaaPx9
set_option linter.unusedVariables false
set_option linter.unusedSimpArgs false
namespace Go.Proofs.Ythgiifakcgjlaaa.Br
open Go.RowKit Go.Proofs.YthgiifakcgjlaaaT Go.Proofs.Ythgiifakcgjlaaa.P Go.Proofs.YthgiifakcgjlaaaW.PrintWords Go.Proofs.YthgiifakcgjlaaaW.PrintLast
def pw (c : Int) : Int := if c = 0 then 1 else if c = 1 then 2 else if c = 2 then 4 else if c = 3 then 8 else if c = 4 then 16 else if c = 5 then 32 else 64
theorem six {c : Int} (h0 : 0 ≤ c) (h6 : c ≤ 6) : c = 0 ∨ c = 1 ∨ c = 2 ∨ c = 3 ∨ c = 4 ∨ c = 5 ∨ c = 6 := by omega
theorem shl_pw {c : Int} (h0 : 0 ≤ c) (h6 : c ≤ 6) : shl .i64 1 c = pw c := by
  rcases six h0 h6 with rfl | rfl | rfl | rfl | rfl | rfl | rfl <;> rfl
theorem pw_le (c : Int) : 1 ≤ pw c ∧ pw c ≤ 64 := by
  unfold pw
  repeat' split
  all_goals omega
theorem Two_pw {c : Int} (h0 : 0 ≤ c) (h6 : c ≤ 6) (k : Nat) : steepleref15_Two.f (k + 10) c = some (pw c) := by
  rcases six h0 h6 with rfl | rfl | rfl | rfl | rfl | rfl | rfl <;> simp [steepleref15_Two.f, steepleref15_Two.l0, wrap64, pw]
theorem Ev.shift {α : Type} {g : Nat → Option α} {r : α} (N : Nat) (h : ∀ k, g (k + N) = some r) : Ev g r :=
  ⟨N, fun k hk => by obtain ⟨j, rfl⟩ := Nat.exists_eq_add_of_le hk; rw [Nat.add_comm]; exact h j⟩
def shB (kind : Int) : Prop := kind = 4 ∨ kind = 5 ∨ kind = 6
instance (kind : Int) : Decidable (shB kind) := by unfold shB; infer_instance
def twoK (kind : Int) : Prop := kind = 1 ∨ kind = 2 ∨ kind = 7 ∨ kind = 8
instance (kind : Int) : Decidable (twoK kind) := by unfold twoK; infer_instance
def mk (kind : Int) : Int := if kind = 8 then 0 else if kind = 7 then 2 else 1
/-- What is wrong with a gate behind n columns, and how many there are behind it. -/
def gateS (w c kind dst a b s n : Int) : Int × Int :=
  if kind < 1 ∨ kind > 8 ∨ (¬ twoK kind ∧ b ≠ 0) ∨ (kind = 8 ∧ dst ≠ 0) ∨ (¬ shB kind ∧ kind ≠ 7 ∧ s ≠ 0) then (0, 3)
  else if a < 0 ∨ a ≥ n ∨ (twoK kind ∧ (b < 0 ∨ b ≥ n)) then (0, 4)
  else if shB kind ∧ (s < 0 ∨ s ≥ pw w) then (0, 1)
  else if (kind ≠ 8 ∧ dst ≠ n) ∨ (kind = 7 ∧ s ≠ n + 1) then (0, 3)
  else if n + mk kind > pw c then (0, 2) else (n + mk kind, 0)
theorem wr {n : Int} (h0 : 0 ≤ n) (h1 : n ≤ 10000) : wrap64 n = n := by unfold wrap64; omega
theorem needs_lit (k : Nat) : circuit_needs.f (k + 3) 1 = some (true, true, false) ∧ circuit_needs.f (k + 3) 2 = some (true, true, false) ∧ circuit_needs.f (k + 3) 3 = some (false, true, false) ∧ circuit_needs.f (k + 3) 4 = some (false, true, true) ∧ circuit_needs.f (k + 3) 5 = some (false, true, true) ∧ circuit_needs.f (k + 3) 6 = some (false, true, true) ∧ circuit_needs.f (k + 3) 7 = some (true, true, true) ∧ circuit_needs.f (k + 3) 8 = some (true, false, false) := ⟨rfl, rfl, rfl, rfl, rfl, rfl, rfl, rfl⟩
theorem needs_out (k : Nat) {kind : Int} (h : kind < 1 ∨ kind > 8) : ∃ x, circuit_needs.f (k + 3) kind = some x := by
  unfold circuit_needs.f
  rw [if_neg (by omega), if_neg (by omega)]
  simp only [circuit_needs.j0, circuit_needs.j1]
  refine ⟨(false, false, false), ?_⟩
  rw [if_neg (by simp; omega), if_neg (by omega), if_neg (by omega), if_neg (by omega), if_neg (by simp; omega), if_neg (by omega)]
theorem turned_lit : circuit_turned.f 1 = some 0 ∧ circuit_turned.f 2 = some 0 ∧ circuit_turned.f 3 = some 0 ∧ circuit_turned.f 4 = some 1 ∧ circuit_turned.f 5 = some 2 ∧ circuit_turned.f 6 = some 3 ∧ circuit_turned.f 7 = some 0 ∧ circuit_turned.f 8 = some 0 := ⟨rfl, rfl, rfl, rfl, rfl, rfl, rfl, rfl⟩
theorem fits_f {t w s : Int} (ht : 1 ≤ t) (h3 : t ≤ 3) (h0 : 0 ≤ w) (h5 : w ≤ 5) : turn_Fits.f t w s = some (decide (0 ≤ s ∧ s < pw w)) := by
  unfold turn_Fits.f
  rw [if_pos (by omega), if_pos h3, if_pos (by omega), if_pos (by omega), shl_pw h0 (by omega)]
  by_cases c : 0 ≤ s
  · rw [if_pos (by omega), if_pos h0]
    by_cases c2 : s < pw w
    · rw [if_pos c2, if_neg (by omega), decide_eq_true ⟨c, c2⟩]
    · rw [if_neg c2, decide_eq_false (fun h => c2 h.2)]
  · rw [if_neg (by omega), decide_eq_false (fun h => c h.1)]
set_option maxHeartbeats 8000000 in
theorem gate_f {w c n : Int} (rows pub priv kind dst a b s : Int) (l : List S107) (h0 : 0 ≤ w) (h5 : w ≤ 5) (c0 : 0 ≤ c) (c6 : c ≤ 6) (n0 : 0 ≤ n) (n1 : n ≤ 64) (k : Nat) :
    circuit_gate.f (k + 10) w rows c pub priv l kind dst a b s n = some (gateS w c kind dst a b s n) := by
  have hw := wr (n := n + 1) (by omega) (by omega)
  have hw2 := wr (n := n + 1 + 1) (by omega) (by omega)
  have hs := shl_pw c0 c6
  by_cases hk : kind < 1 ∨ kind > 8
  · obtain ⟨x, hx⟩ := needs_out (k + 7) hk
    obtain ⟨y, hy⟩ : ∃ y, circuit_turned.f kind = some y := by
      unfold circuit_turned.f
      repeat' split
      all_goals exact ⟨_, rfl⟩
    have hg : gateS w c kind dst a b s n = (0, 3) := by
      unfold gateS
      rw [if_pos]
      rcases hk with h | h
      · exact Or.inl h
      · exact Or.inr (Or.inl h)
    rw [hg]
    unfold circuit_gate.f
    rw [hx, Option.bind_some, hy, Option.bind_some]
    simp only [circuit_gate.j0, if_true]
    by_cases h1 : kind < 1
    · rw [if_pos h1]
    · rw [if_neg h1, if_pos (by omega)]
  · obtain ⟨q1, q2, q3, q4, q5, q6, q7, q8⟩ := needs_lit (k + 7)
    obtain ⟨r1, r2, r3, r4, r5, r6, r7, r8⟩ := turned_lit
    have f1 := fits_f (t := 1) (s := s) (by decide) (by decide) h0 h5
    have f2 := fits_f (t := 2) (s := s) (by decide) (by decide) h0 h5
    have f3 := fits_f (t := 3) (s := s) (by decide) (by decide) h0 h5
    have hcs : kind = 1 ∨ kind = 2 ∨ kind = 3 ∨ kind = 4 ∨ kind = 5 ∨ kind = 6 ∨ kind = 7 ∨ kind = 8 := by omega
    have e0 : (0 : Int) ≤ c := c0
    unfold circuit_gate.f
    rcases hcs with rfl | rfl | rfl | rfl | rfl | rfl | rfl | rfl
    all_goals simp only [q1, q2, q3, q4, q5, q6, q7, q8, r1, r2, r3, r4, r5, r6, r7, r8, Option.bind_some, circuit_gate.j0, circuit_gate.j1, circuit_gate.j2, circuit_gate.j3, circuit_gate.j4, f1, f2, f3, hw, hw2, hs, if_pos e0, gateS, twoK, shB, mk]
    all_goals simp [hw, hw2]
    all_goals (repeat' split)
    all_goals first
      | rfl
      | (exfalso; omega)
      | (simp_all; done)
      | (simp_all; omega)
theorem rfits_f {t w s : Int} (ht : 1 ≤ t) (h3 : t ≤ 3) (h0 : 0 ≤ w) (h5 : w ≤ 5) (k : Nat) : steepleref18_Fits.f (k + 10) t w s = some (decide (0 ≤ s ∧ s < pw w)) := by
  unfold steepleref18_Fits.f
  rw [if_neg (by omega), if_neg (by omega), if_neg (by omega), if_neg (by omega), Two_pw h0 (by omega) k, Option.bind_some]
  by_cases c : 0 ≤ s
  · rw [if_neg (by omega)]
    by_cases c2 : s < pw w
    · rw [if_neg (by omega), if_neg (by omega), decide_eq_true ⟨c, c2⟩]
    · rw [if_pos (by omega), decide_eq_false (fun h => c2 h.2)]
  · rw [if_pos (by omega), decide_eq_false (fun h => c h.1)]
set_option maxHeartbeats 8000000 in
theorem rgate_f {w c n : Int} (rows pub priv kind dst a b s : Int) (l : List S106) (h0 : 0 ≤ w) (h5 : w ≤ 5) (c0 : 0 ≤ c) (c6 : c ≤ 6) (n0 : 0 ≤ n) (n1 : n ≤ 64) (k : Nat) :
    steepleref25_System_Gate.f (k + 20) w rows c pub priv l kind dst a b s n = some (gateS w c kind dst a b s n).2 := by
  have hw := wr (n := n + 1) (by omega) (by omega)
  have hw2 := wr (n := n + 2) (by omega) (by omega)
  have hw0 := wr (n := n) (by omega) (by omega)
  by_cases hk : kind < 1 ∨ kind > 8
  · have hg : gateS w c kind dst a b s n = (0, 3) := by
      unfold gateS
      rw [if_pos]
      rcases hk with h | h
      · exact Or.inl h
      · exact Or.inr (Or.inl h)
    rw [hg]
    unfold steepleref25_System_Gate.f
    by_cases h1 : kind < 1
    · rw [if_pos h1]
      simp only [steepleref25_System_Gate.j0, if_true]
    · rw [if_neg h1, decide_eq_true (by omega)]
      simp only [steepleref25_System_Gate.j0, if_true]
  · have f1 := rfits_f (t := 1) (s := s) (by decide) (by decide) h0 h5
    have f2 := rfits_f (t := 2) (s := s) (by decide) (by decide) h0 h5
    have f3 := rfits_f (t := 3) (s := s) (by decide) (by decide) h0 h5
    have t1 := Two_pw c0 c6
    have hcs : kind = 1 ∨ kind = 2 ∨ kind = 3 ∨ kind = 4 ∨ kind = 5 ∨ kind = 6 ∨ kind = 7 ∨ kind = 8 := by omega
    have v4 : wrap64 ((4 : Int) - 3) = 1 := by unfold wrap64; omega
    have v5 : wrap64 ((5 : Int) - 3) = 2 := by unfold wrap64; omega
    have v6 : wrap64 ((6 : Int) - 3) = 3 := by unfold wrap64; omega
    unfold steepleref25_System_Gate.f
    rcases hcs with rfl | rfl | rfl | rfl | rfl | rfl | rfl | rfl
    all_goals simp only [steepleref25_two.f, steepleref25_shifts.f, steepleref25_Makes.f, Option.bind_some, steepleref25_System_Gate.j0, steepleref25_System_Gate.j1, steepleref25_System_Gate.j2, steepleref25_System_Gate.j3, steepleref25_System_Gate.j4, f1, f2, f3, t1, v4, v5, v6, hw, hw2, gateS, twoK, shB, mk]
    all_goals simp [hw, hw2, hw0, f1, f2, f3, t1, v4, v5, v6]
    all_goals (repeat' split)
    all_goals first
      | rfl
      | (exfalso; omega)
      | (simp_all; done)
      | (simp_all; omega)
theorem gateS_le {w c kind dst a b s n : Int} (n0 : 0 ≤ n) (n1 : n ≤ 64) : 0 ≤ (gateS w c kind dst a b s n).1 ∧ (gateS w c kind dst a b s n).1 ≤ 64 := by
  have h := pw_le c
  have hm : 0 ≤ mk kind := by unfold mk; repeat' split <;> omega
  unfold gateS
  repeat' split
  all_goals (refine ⟨?_, ?_⟩ <;> simp <;> omega)
theorem gateS_ok {w c kind dst a b s n : Int} (n0 : 0 ≤ n) (n1 : n ≤ 64) (h : (gateS w c kind dst a b s n).2 = 0) : (gateS w c kind dst a b s n).1 = n + mk kind ∧ (0 ≤ kind ∧ kind ≤ 100) ∧ (0 ≤ dst ∧ dst ≤ 100) ∧ (0 ≤ a ∧ a ≤ 100) ∧ (0 ≤ b ∧ b ≤ 100) ∧ (0 ≤ s ∧ s ≤ 100) := by
  have hp := pw_le w
  unfold gateS at h ⊢
  by_cases h1 : kind < 1 ∨ kind > 8 ∨ (¬ twoK kind ∧ b ≠ 0) ∨ (kind = 8 ∧ dst ≠ 0) ∨ (¬ shB kind ∧ kind ≠ 7 ∧ s ≠ 0)
  · rw [if_pos h1] at h
    exact absurd h (by decide)
  rw [if_neg h1] at h ⊢
  by_cases h2 : a < 0 ∨ a ≥ n ∨ (twoK kind ∧ (b < 0 ∨ b ≥ n))
  · rw [if_pos h2] at h
    exact absurd h (by decide)
  rw [if_neg h2] at h ⊢
  by_cases h3 : shB kind ∧ (s < 0 ∨ s ≥ pw w)
  · rw [if_pos h3] at h
    exact absurd h (by decide)
  rw [if_neg h3] at h ⊢
  by_cases h4 : (kind ≠ 8 ∧ dst ≠ n) ∨ (kind = 7 ∧ s ≠ n + 1)
  · rw [if_pos h4] at h
    exact absurd h (by decide)
  rw [if_neg h4] at h ⊢
  by_cases h5 : n + mk kind > pw c
  · rw [if_pos h5] at h
    exact absurd h (by decide)
  rw [if_neg h5]
  refine ⟨rfl, by omega, by omega, by omega, ?_, ?_⟩
  · by_cases q : twoK kind
    · simp only [q, true_and, not_true_eq_false, false_and] at h1 h2
      omega
    · simp only [q, not_false_eq_true, true_and] at h1
      omega
  · by_cases q : shB kind
    · simp only [q, true_and] at h3
      omega
    · simp only [q, not_false_eq_true, true_and] at h1
      omega
/-- What is wrong with gates behind n columns, one by one. -/
def goS (w c : Int) : List S107 → Int → Int × Int
  | [], n => (n, 0)
  | g :: L, n => if (gateS w c g.f0 g.f1 g.f2 g.f3 g.f4 n).2 = 0 then goS w c L (gateS w c g.f0 g.f1 g.f2 g.f3 g.f4 n).1 else (0, (gateS w c g.f0 g.f1 g.f2 g.f3 g.f4 n).2)
/-- What is wrong with a system. -/
def chkS (w r c p q : Int) (L : List S107) : Int :=
  if w < 0 ∨ w > 5 ∨ r < 0 ∨ r > 4 ∨ c < 0 ∨ c > 6 then 1
  else if p < 0 ∨ q < 0 ∨ p + q > pw c then 1
  else if (L.length : Int) > 30 then 2 else (goS w c L (p + q)).2
def toR (g : S107) : S106 := ⟨g.f0, g.f1, g.f2, g.f3, g.f4⟩
theorem rdG {L : List S107} {i : Nat} (h : i < L.length) : rd_T107 L (i : Int) = L[i] := by
  unfold rd_T107
  rw [Int.toNat_natCast, List.getD_eq_getElem?_getD, List.getElem?_eq_getElem h, Option.getD_some]
theorem rdR {L : List S107} {i : Nat} (h : i < L.length) : rd_T106 (L.map toR) (i : Int) = toR L[i] := by
  unfold rd_T106
  rw [Int.toNat_natCast, List.getD_eq_getElem?_getD, List.getElem?_eq_getElem (by rw [List.length_map]; exact h), Option.getD_some, List.getElem_map]
theorem wrS (i : Nat) (h : i < 1000000) : wrap64 ((i : Int) + 1) = ((i + 1 : Nat) : Int) := by unfold wrap64; omega
theorem look_l0 {w c : Int} (rows pub priv : Int) (l L : List S107) (h0 : 0 ≤ w) (h5 : w ≤ 5) (c0 : 0 ≤ c) (c6 : c ≤ 6) (hL : L.length ≤ 30) :
    ∀ (d i : Nat) (n : Int), i + d = L.length → 0 ≤ n → n ≤ 64 → Ev (fun k => circuit_look.l0 k n L (L.length : Int) (i : Int) w rows c pub priv l) (goS w c (L.drop i) n)
  | 0, i, n, h, _, _ => by
    refine Ev.succ ?_
    simp only [circuit_look.l0]
    rw [List.drop_of_length_le (by omega)]
    exact Ev.neg (by omega) (Ev.now _)
  | d + 1, i, n, h, n0, n1 => by
    have hi : i < L.length := by omega
    have hb := gateS_le (w := w) (c := c) (kind := L[i].f0) (dst := L[i].f1) (a := L[i].f2) (b := L[i].f3) (s := L[i].f4) n0 n1
    refine Ev.succ ?_
    simp only [circuit_look.l0]
    rw [rdG hi, List.drop_eq_getElem_cons hi]
    refine Ev.pos (by omega) (Ev.pos (by omega) (Ev.pos (by omega) (Ev.bind (Ev.shift 10 fun k => gate_f rows pub priv _ _ _ _ _ l h0 h5 c0 c6 n0 n1 k) ?_)))
    show Ev _ (if _ then _ else _)
    by_cases q : (gateS w c L[i].f0 L[i].f1 L[i].f2 L[i].f3 L[i].f4 n).2 = 0
    · rw [if_pos q]
      refine Ev.pos q ?_
      rw [wrS i (by omega)]
      exact look_l0 rows pub priv l L h0 h5 c0 c6 hL d (i + 1) _ (by omega) hb.1 hb.2
    · rw [if_neg q]
      exact Ev.neg q (Ev.now _)
theorem chk_l0 {w c : Int} (rows pub priv : Int) (L : List S107) (h0 : 0 ≤ w) (h5 : w ≤ 5) (c0 : 0 ≤ c) (c6 : c ≤ 6) (hL : L.length ≤ 30) :
    ∀ (d i : Nat) (n : Int), i + d = L.length → 0 ≤ n → n ≤ 64 → Ev (fun k => steepleref25_Check.l0 k n (i : Int) w rows c pub priv (L.map toR)) (goS w c (L.drop i) n).2
  | 0, i, n, h, _, _ => by
    refine Ev.succ ?_
    simp only [steepleref25_Check.l0]
    rw [List.drop_of_length_le (by omega), List.length_map]
    exact Ev.neg (by omega) (Ev.now _)
  | d + 1, i, n, h, n0, n1 => by
    have hi : i < L.length := by omega
    have hb := gateS_le (w := w) (c := c) (kind := L[i].f0) (dst := L[i].f1) (a := L[i].f2) (b := L[i].f3) (s := L[i].f4) n0 n1
    refine Ev.succ ?_
    simp only [steepleref25_Check.l0]
    rw [rdR hi, List.drop_eq_getElem_cons hi, List.length_map]
    refine Ev.pos (by omega) (Ev.pos (by omega) (Ev.bind (Ev.shift 20 fun k => rgate_f rows pub priv _ _ _ _ _ _ h0 h5 c0 c6 n0 n1 k) ?_))
    show Ev _ (if _ then _ else _ : Int × Int).2
    by_cases q : (gateS w c L[i].f0 L[i].f1 L[i].f2 L[i].f3 L[i].f4 n).2 = 0
    · rw [if_pos q]
      have hk := gateS_ok n0 n1 q
      have hm : steepleref25_Makes.f (toR L[i]).f0 (toR L[i]).f1 (toR L[i]).f2 (toR L[i]).f3 (toR L[i]).f4 = some (mk L[i].f0) := by
        unfold steepleref25_Makes.f mk toR
        simp only
        repeat' split
        all_goals rfl
      have hr := chk_l0 rows pub priv L h0 h5 c0 c6 hL d (i + 1) _ (by omega) hb.1 hb.2
      refine Ev.pos q (Ev.bind (Ev.const hm) ?_)
      rw [wrS i (by omega), ← hk.1, wr hb.1 (by omega)]
      exact hr
    · rw [if_neg q]
      exact Ev.neg q (Ev.now _)
theorem look_j0t (w r c p q : Int) (L : List S107) : Ev (fun k => circuit_look.j0 k true w r c p q L) (0, 1) := by
  refine Ev.succ ?_
  simp only [circuit_look.j0]
  exact Ev.pos trivial (Ev.now _)
theorem look_j1t (w r c p q : Int) (L : List S107) : Ev (fun k => circuit_look.j1 k true w r c p q L) (0, 1) := by
  refine Ev.succ ?_
  simp only [circuit_look.j1]
  exact Ev.pos trivial (Ev.now _)
theorem look_ev (w r c p q : Int) (L : List S107) : ∃ n, Ev (fun k => circuit_look.f k w r c p q L) (n, chkS w r c p q L) := by
  have e1 := look_j0t w r c p q L
  have e2 := look_j1t w r c p q L
  unfold circuit_look.f chkS
  by_cases h : w < 0 ∨ w > 5 ∨ r < 0 ∨ r > 4 ∨ c < 0 ∨ c > 6
  · rw [if_pos h]
    refine ⟨0, ?_⟩
    by_cases h1 : w < 0
    · exact Ev.pos h1 e1
    refine Ev.neg h1 ?_
    by_cases h1 : w > 5
    · exact Ev.pos h1 e1
    refine Ev.neg h1 ?_
    by_cases h1 : r < 0
    · exact Ev.pos h1 e1
    refine Ev.neg h1 ?_
    by_cases h1 : r > 4
    · exact Ev.pos h1 e1
    refine Ev.neg h1 ?_
    by_cases h1 : c < 0
    · exact Ev.pos h1 e1
    refine Ev.neg h1 ?_
    rw [decide_eq_true (by omega)]
    exact e1
  rw [if_neg h]
  have hc := pw_le c
  have hs := shl_pw (c := c) (by omega) (by omega)
  by_cases h2 : p < 0 ∨ q < 0 ∨ p + q > pw c
  · rw [if_pos h2]
    refine ⟨0, Ev.neg (by omega) (Ev.neg (by omega) (Ev.neg (by omega) (Ev.neg (by omega) (Ev.neg (by omega) ?_))))⟩
    rw [decide_eq_false (by omega)]
    refine Ev.succ ?_
    simp only [circuit_look.j0]
    refine Ev.neg (by decide) ?_
    by_cases h3 : p < 0
    · exact Ev.pos h3 e2
    refine Ev.neg h3 ?_
    by_cases h4 : q < 0
    · exact Ev.pos h4 e2
    refine Ev.neg h4 (Ev.pos (by omega) ?_)
    rw [hs]
    by_cases h5 : p > pw c
    · exact Ev.pos h5 e2
    refine Ev.neg h5 ?_
    rw [wr (n := pw c - p) (by omega) (by omega), decide_eq_true (by omega)]
    exact e2
  rw [if_neg h2]
  have go : ∀ v, Ev (fun k => circuit_look.j1 k false w r c p q L) v → Ev (fun k => if w < 0 then circuit_look.j0 k true w r c p q L else if w > 5 then circuit_look.j0 k true w r c p q L else if r < 0 then circuit_look.j0 k true w r c p q L else if r > 4 then circuit_look.j0 k true w r c p q L else if c < 0 then circuit_look.j0 k true w r c p q L else circuit_look.j0 k (decide (c > 6)) w r c p q L) v := by
    intro v hv
    refine Ev.neg (by omega) (Ev.neg (by omega) (Ev.neg (by omega) (Ev.neg (by omega) (Ev.neg (by omega) ?_))))
    rw [decide_eq_false (by omega)]
    refine Ev.succ ?_
    simp only [circuit_look.j0]
    refine Ev.neg (by decide) (Ev.neg (by omega) (Ev.neg (by omega) (Ev.pos (by omega) ?_)))
    rw [hs]
    refine Ev.neg (by omega) ?_
    rw [wr (n := pw c - p) (by omega) (by omega), decide_eq_false (by omega)]
    exact hv
  by_cases h3 : (L.length : Int) > 30
  · rw [if_pos h3]
    refine ⟨0, go _ ?_⟩
    refine Ev.succ ?_
    simp only [circuit_look.j1]
    exact Ev.neg (by decide) (Ev.pos h3 (Ev.now _))
  · rw [if_neg h3]
    refine ⟨(goS w c L (p + q)).1, go _ ?_⟩
    refine Ev.succ ?_
    simp only [circuit_look.j1]
    refine Ev.neg (by decide) (Ev.neg h3 ?_)
    rw [wr (n := p + q) (by omega) (by omega)]
    exact look_l0 r p q L L (by omega) (by omega) (by omega) (by omega) (by omega) L.length 0 (p + q) (by omega) (by omega) (by omega)
theorem Check_ev (w r c p q : Int) (L : List S107) : Ev (fun k => circuit_Check.f k w r c p q L) (chkS w r c p q L) := by
  obtain ⟨n, h⟩ := look_ev w r c p q L
  unfold circuit_Check.f
  exact Ev.bind h (Ev.now _)
theorem rchk_j0t (w r c p q : Int) (L : List S106) : Ev (fun k => steepleref25_Check.j0 k true w r c p q L) 1 := by
  refine Ev.succ ?_
  simp only [steepleref25_Check.j0]
  exact Ev.pos trivial (Ev.now _)
theorem rchk_j1t (w r c p q : Int) (L : List S106) : Ev (fun k => steepleref25_Check.j1 k true w r c p q L) 1 := by
  refine Ev.succ ?_
  simp only [steepleref25_Check.j1]
  exact Ev.pos trivial (Ev.now _)
theorem refCheck_ev (w r c p q : Int) (L : List S107) : Ev (fun k => steepleref25_Check.f k w r c p q (L.map toR)) (chkS w r c p q L) := by
  have e1 := rchk_j0t w r c p q (L.map toR)
  have e2 := rchk_j1t w r c p q (L.map toR)
  unfold steepleref25_Check.f chkS
  by_cases h1 : w < 0
  · rw [if_pos (by omega)]
    exact Ev.pos h1 e1
  refine Ev.neg h1 ?_
  by_cases h2 : w > 5
  · rw [if_pos (by omega)]
    exact Ev.pos h2 e1
  refine Ev.neg h2 ?_
  by_cases h3 : r < 0
  · rw [if_pos (by omega)]
    exact Ev.pos h3 e1
  refine Ev.neg h3 ?_
  by_cases h4 : r > 4
  · rw [if_pos (by omega)]
    exact Ev.pos h4 e1
  refine Ev.neg h4 ?_
  by_cases h5 : c < 0
  · rw [if_pos (by omega)]
    exact Ev.pos h5 e1
  refine Ev.neg h5 ?_
  by_cases h6 : c > 6
  · rw [if_pos (by omega)]
    exact Ev.pos h6 e1
  refine Ev.neg h6 ?_
  rw [if_neg (by omega)]
  by_cases h7 : p < 0
  · rw [if_pos (by omega)]
    exact Ev.pos h7 e1
  refine Ev.neg h7 ?_
  by_cases h8 : q < 0
  · rw [if_pos (by omega), decide_eq_true h8]
    exact e1
  rw [decide_eq_false h8]
  have hc := pw_le c
  refine Ev.succ ?_
  simp only [steepleref25_Check.j0]
  refine Ev.neg (by decide) ?_
  by_cases h9 : p > 64
  · rw [if_pos (by omega)]
    exact Ev.pos h9 e2
  refine Ev.neg h9 ?_
  by_cases h10 : q > 64
  · rw [if_pos (by omega)]
    exact Ev.pos h10 e2
  refine Ev.neg h10 (Ev.bind (Ev.shift 10 fun k => Two_pw (by omega) (by omega) k) ?_)
  rw [wr (n := p + q) (by omega) (by omega)]
  by_cases h11 : p + q > pw c
  · rw [if_pos (by omega), decide_eq_true h11]
    exact e2
  rw [if_neg (by omega), decide_eq_false h11]
  refine Ev.succ ?_
  simp only [steepleref25_Check.j1]
  rw [List.length_map]
  refine Ev.neg (by decide) ?_
  by_cases h12 : (L.length : Int) > 30
  · rw [if_pos h12]
    exact Ev.pos h12 (Ev.now _)
  rw [if_neg h12]
  refine Ev.neg h12 ?_
  rw [wr (n := p + q) (by omega) (by omega)]
  exact chk_l0 r p q L (by omega) (by omega) (by omega) (by omega) (by omega) L.length 0 (p + q) (by omega) (by omega) (by omega)
end Go.Proofs.Ythgiifakcgjlaaa.Br
