/- The document's climbs are the code's (layer 12). Conditions: those that each theorem names. -/
import Derived.Test.YtmibjgjgfombaaaMkC
import Derived.Test.YtmibjgjgfombaaaMkRL
import Derived.Test.YtmibjgjgfombaaaPx17
set_option linter.unusedVariables false
set_option linter.unusedSimpArgs false
namespace Go.Proofs.Ytmibjgjgfombaaa.Br
open Go.RowKit Go.Proofs.YtmibjgjgfombaaaT Go.Proofs.YtmibjgjgfombaaaX Go.Proofs.Ytmibjgjgfombaaa.P Go.Proofs.YtmibjgjgfombaaaW.PrintWords Go.Proofs.YtmibjgjgfombaaaW.PrintLast
/-! Climbs. -/
theorem refClimb_l2 (path : List ByteArray) (hp : path.length ≤ 12) (hz : ∀ s ∈ path, s.size = 32) :
    ∀ d j x : Nat, ∀ (acc : List ByteArray) (v : ByteArray), j + d = path.length → x < 2 ^ 60 → acc.length ≤ j → v.size = 32 → Ev (fun k => steepleref12_Climb.l2 k path (x : Int) (j : Int) bl tl v acc 0) ((climbS x v acc (path.drop j)).1, (climbS x v acc (path.drop j)).2, 0)
  | 0, j, x, acc, v, hj, hx, ha, hv => by
    refine Ev.succ ?_
    simp only [steepleref12_Climb.l2]
    refine Ev.neg (by omega) ?_
    rw [List.drop_of_length_le (by omega)]
    exact Ev.now _
  | d + 1, j, x, acc, v, hj, hx, ha, hv => by
    have hjl : j < path.length := by omega
    have hpz := hz _ (List.getElem_mem hjl)
    obtain ⟨p, hpe⟩ : ∃ p, p = path[j] := ⟨_, rfl⟩
    have ih := refClimb_l2 path hp hz d (j + 1) (x / 2) (acc ++ [stepT x v p]) (sumS (stepT x v p)) (by omega) (by omega) (by rw [List.length_append, List.length_singleton]; omega) (sumS_size _)
    rw [← hpe] at hpz
    have s1 : ((⟨#[1]⟩ : ByteArray) ++ v).size = 1 + v.size := ByteArray.size_append
    have s2 : ((⟨#[1]⟩ : ByteArray) ++ p).size = 1 + p.size := ByteArray.size_append
    refine Ev.succ ?_
    simp only [steepleref12_Climb.l2]
    rw [rdOf_at hjl, ← hpe, half_wrap x hx, wrap_succ j (by omega), mod2, List.drop_eq_getElem_cons hjl, ← hpe, climbS]
    refine Ev.pos (by omega) (Ev.pos (by omega) (Ev.pos (by omega) (Ev.pos (by omega) ?_)))
    rcases Nat.mod_two_eq_zero_or_one x with c | c
    · have e : stepT x v p = ((⟨#[1]⟩ : ByteArray) ++ v) ++ p := by unfold stepT; rw [if_neg (by omega)]
      rw [e] at ih ⊢
      exact Ev.neg (by omega) (Ev.pos (by omega) (Ev.bind (Sum_ev _ (by rw [node_size]; omega)) ih))
    · have e : stepT x v p = ((⟨#[1]⟩ : ByteArray) ++ p) ++ v := by unfold stepT; rw [if_pos c]
      rw [e] at ih ⊢
      exact Ev.pos (by omega) (Ev.pos (by omega) (Ev.pos (by omega) (Ev.pos (by omega) (Ev.bind (Sum_ev _ (by rw [node_size]; omega)) ih))))
theorem refClimb_l1 (path : List ByteArray) (hp : path.length < 2 ^ 60) (i : Int) (leaf : ByteArray) {r : ByteArray × List ByteArray × Int} (hr : (path.all fun t => decide (t.size = 32)) = true → Ev (fun k => steepleref12_Climb.l2 k path i ((0 : Nat) : Int) bl tl leaf [] 0) r) :
    ∀ d j : Nat, j + d = path.length → ((path.take j).all fun t => decide (t.size = 32)) = true → Ev (fun k => steepleref12_Climb.l1 k i leaf path (j : Int) bl tl) (if (path.all fun t => decide (t.size = 32)) = true then r else (⟨#[]⟩, [], 6))
  | 0, j, hj, ht => by
    rw [List.take_of_length_le (by omega)] at ht
    rw [if_pos ht]
    refine Ev.succ ?_
    simp only [steepleref12_Climb.l1]
    exact Ev.neg (by omega) (hr ht)
  | d + 1, j, hj, ht => by
    have hjl : j < path.length := by omega
    refine Ev.succ ?_
    simp only [steepleref12_Climb.l1]
    rw [rdOf_at hjl, wrap_succ j (by omega)]
    by_cases c : path[j].size = 32
    · refine Ev.pos (by omega) (Ev.pos (by omega) (Ev.pos (by omega) (refClimb_l1 path hp i leaf hr d (j + 1) (by omega) ?_)))
      rw [List.take_succ_eq_append_getElem hjl, List.all_append, ht, List.all_cons, decide_eq_true c]
      rfl
    · have hn : ¬ (path.all fun t => decide (t.size = 32)) = true := fun q => c (of_decide_eq_true (List.all_eq_true.1 q _ (List.getElem_mem hjl)))
      rw [if_neg hn]
      exact Ev.pos (by omega) (Ev.pos (by omega) (Ev.neg (by omega) (Ev.now _)))
theorem refClimb_l0 (n : Nat) (hn : n ≤ 12) (i : Int) (leaf : ByteArray) (path : List ByteArray) {r : ByteArray × List ByteArray × Int}
    (hr : Ev (fun k => steepleref12_Climb.j2 k (n : Int) i leaf path (decide (i < 0 ∨ ((2 ^ n : Nat) : Int) ≤ i)) bl tl) r) : ∀ d j : Nat, j + d = n → Ev (fun k => steepleref12_Climb.l0 k (n : Int) i leaf path ((2 ^ j : Nat) : Int) (j : Int) bl tl) r
  | 0, j, hj => by
    obtain rfl : j = n := by omega
    refine Ev.succ ?_
    simp only [steepleref12_Climb.l0]
    refine Ev.neg (by omega) ?_
    by_cases c : i < 0
    · rw [decide_eq_true (Or.inl c)] at hr
      exact Ev.pos c hr
    · have e : decide (i ≥ ((2 ^ j : Nat) : Int)) = decide (i < 0 ∨ ((2 ^ j : Nat) : Int) ≤ i) := decide_eq_decide.2 ⟨fun q => Or.inr q, fun q => q.resolve_left c⟩
      rw [e]
      exact Ev.neg c hr
  | d + 1, j, hj => by
    have h12 := pow_le12 (n := j) (by omega)
    have e : 2 ^ (j + 1) = 2 * 2 ^ j := Nat.pow_succ'
    have e1 : wrap64 (2 * ((2 ^ j : Nat) : Int)) = ((2 ^ (j + 1) : Nat) : Int) := by unfold wrap64; omega
    refine Ev.succ ?_
    simp only [steepleref12_Climb.l0]
    rw [e1, wrap_succ j (by omega)]
    exact Ev.pos (by omega) (refClimb_l0 n hn i leaf path hr d (j + 1) (by omega))
theorem refClimb_ev (h i : Int) (leaf : ByteArray) (path : List ByteArray) (hp : path.length < 2 ^ 60) : Ev (fun k => steepleref12_Climb.f k bl tl h i leaf path) (climbF h i leaf path) := by
  have hj : Ev (fun k => steepleref12_Climb.j0 k h i leaf path 1 true bl tl) (⟨#[]⟩, [], 1) := by
    refine Ev.succ ?_
    simp only [steepleref12_Climb.j0]
    exact Ev.pos (by trivial) (Ev.now _)
  unfold steepleref12_Climb.f climbF
  by_cases c1 : h < 0
  · rw [if_neg (by omega)]
    exact Ev.pos c1 hj
  refine Ev.neg c1 ?_
  by_cases c2 : h > 12
  · rw [if_neg (by omega), decide_eq_true c2]
    exact hj
  rw [decide_eq_false c2]
  obtain ⟨n, rfl⟩ : ∃ n : Nat, h = n := ⟨h.toNat, by omega⟩
  have h12 := pow_le12 (n := n) (by omega)
  rw [Int.toNat_natCast]
  refine Ev.succ ?_
  simp only [steepleref12_Climb.j0]
  refine Ev.neg (by decide) (refClimb_l0 n (by omega) i leaf path ?_ n 0 (by omega))
  refine Ev.succ ?_
  simp only [steepleref12_Climb.j2]
  by_cases c3 : i < 0 ∨ ((2 ^ n : Nat) : Int) ≤ i
  · rw [if_neg (by omega), decide_eq_true c3]
    exact Ev.pos (by trivial) (Ev.now _)
  rw [if_pos (by omega), decide_eq_false c3]
  refine Ev.neg (by decide) ?_
  obtain ⟨x, rfl⟩ : ∃ x : Nat, i = x := ⟨i.toNat, by omega⟩
  rw [Int.toNat_natCast]
  have hbad : Ev (fun k => steepleref12_Climb.j3 k (x : Int) leaf path true bl tl) (⟨#[]⟩, [], 6) := by
    refine Ev.succ ?_
    simp only [steepleref12_Climb.j3]
    exact Ev.pos (by trivial) (Ev.now _)
  by_cases c5 : leaf.size = 32
  · refine Ev.pos (by omega) ?_
    by_cases c7 : (path.length : Int) = (n : Int)
    · have e : ((path.length : Int) != (n : Int)) = false := by rw [bne_eq_false_iff_eq]; exact c7
      rw [e]
      refine Ev.succ ?_
      simp only [steepleref12_Climb.j3]
      refine Ev.neg (by decide) ?_
      have hl := refClimb_l1 path hp (x : Int) leaf (r := ((climbS x leaf [] path).1, (climbS x leaf [] path).2, 0)) (fun q => refClimb_l2 path (by omega) (fun s hs => of_decide_eq_true (List.all_eq_true.1 q s hs)) path.length 0 x [] leaf (by omega) (by omega) (Nat.le_refl _) c5) path.length 0 (by omega) rfl
      by_cases c6 : (path.all fun t => decide (t.size = 32)) = true
      · rw [if_pos ⟨c5, c7, c6⟩]
        rw [if_pos c6] at hl
        exact hl
      · rw [if_neg (fun q => c6 q.2.2)]
        rw [if_neg c6] at hl
        exact hl
    · have e : ((path.length : Int) != (n : Int)) = true := by rw [bne_iff_ne]; exact c7
      rw [e, if_neg (fun q => c7 q.2.1)]
      exact hbad
  · rw [if_neg (fun q => c5 q.1)]
    exact Ev.neg (by omega) hbad
end Go.Proofs.Ytmibjgjgfombaaa.Br
