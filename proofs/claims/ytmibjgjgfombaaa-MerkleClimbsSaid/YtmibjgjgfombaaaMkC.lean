/- Climbs along paths among rows of digests (layer 12). Conditions: those that each theorem names. -/
import Derived.Test.YtmibjgjgfombaaaMkB
import Derived.Test.YtmibjgjgfombaaaPx16
import Derived.Test.YtmibjgjgfombaaaPx17
set_option linter.unusedVariables false
set_option linter.unusedSimpArgs false
namespace Go.Proofs.Ytmibjgjgfombaaa.Br
open Go.RowKit Go.Proofs.YtmibjgjgfombaaaX Go.Proofs.Ytmibjgjgfombaaa.P Go.Proofs.YtmibjgjgfombaaaW.PrintWords Go.Proofs.YtmibjgjgfombaaaW.PrintLast
/-! Climbs. -/
def stepT (i : Nat) (d p : ByteArray) : ByteArray := if i % 2 = 1 then ((⟨#[1]⟩ : ByteArray) ++ p) ++ d else ((⟨#[1]⟩ : ByteArray) ++ d) ++ p
def climbS : Nat → ByteArray → List ByteArray → List ByteArray → ByteArray × List ByteArray
  | i, d, acc, [] => (d, acc)
  | i, d, acc, p :: ps => climbS (i / 2) (sumS (stepT i d p)) (acc ++ [stepT i d p]) ps
def climbF (h i : Int) (leaf : ByteArray) (path : List ByteArray) : ByteArray × List ByteArray × Int :=
  if 0 ≤ h ∧ h ≤ 12 ∧ 0 ≤ i ∧ i < ((2 ^ h.toNat : Nat) : Int) then
    if leaf.size = 32 ∧ (path.length : Int) = h ∧ (path.all fun t => decide (t.size = 32)) = true then ((climbS i.toNat leaf [] path).1, (climbS i.toNat leaf [] path).2, 0) else (⟨#[]⟩, [], 6)
  else (⟨#[]⟩, [], 1)
theorem sum_f (k : Int) {s : ByteArray} (h : s.size ≤ 1048576) : sponge_Sum.f k s = some (sumS s) := by
  unfold sponge_Sum.f
  rw [if_pos h]
theorem nodeT_f {a b : ByteArray} (ha : a.size ≤ 1000000) (hb : b.size ≤ 1000000) : merkle_nodeText.f a b = some (((⟨#[1]⟩ : ByteArray) ++ a) ++ b) := by
  have e1 : ((⟨#[1]⟩ : ByteArray) ++ a).size = 1 + a.size := ByteArray.size_append
  unfold merkle_nodeText.f
  rw [if_pos (by omega), if_pos (by omega)]
theorem node_size (a b : ByteArray) : (((⟨#[1]⟩ : ByteArray) ++ a) ++ b).size = 1 + a.size + b.size := by
  rw [ByteArray.size_append, ByteArray.size_append]
  rfl
theorem mod2 (x : Nat) : Int.tmod (x : Int) 2 = ((x % 2 : Nat) : Int) := by
  rw [Int.tmod_eq_emod_of_nonneg (by omega)]
  omega
theorem Climb_l0 (t : Int) (path : List ByteArray) (hp : path.length ≤ 12) (hz : ∀ s ∈ path, s.size = 32) :
    ∀ d j x : Nat, ∀ (acc : List ByteArray) (v : ByteArray), j + d = path.length → x < 2 ^ 60 → acc.length ≤ j → v.size = 32 → Ev (fun k => merkle_Climb.l0 k t (x : Int) acc v path (path.length : Int) (j : Int)) ((climbS x v acc (path.drop j)).1, (climbS x v acc (path.drop j)).2, 0)
  | 0, j, x, acc, v, hj, hx, ha, hv => by
    refine Ev.succ ?_
    simp only [merkle_Climb.l0]
    refine Ev.neg (by omega) ?_
    rw [List.drop_of_length_le (by omega)]
    exact Ev.now _
  | d + 1, j, x, acc, v, hj, hx, ha, hv => by
    have hjl : j < path.length := by omega
    have hpz := hz _ (List.getElem_mem hjl)
    obtain ⟨p, hpe⟩ : ∃ p, p = path[j] := ⟨_, rfl⟩
    have ih := Climb_l0 t path hp hz d (j + 1) (x / 2) (acc ++ [stepT x v p]) (sumS (stepT x v p)) (by omega) (by omega) (by rw [List.length_append, List.length_singleton]; omega) (sumS_size _)
    rw [← hpe] at hpz
    refine Ev.succ ?_
    simp only [merkle_Climb.l0]
    rw [rdOf_at hjl, ← hpe, half_wrap x hx, wrap_succ j (by omega), mod2, List.drop_eq_getElem_cons hjl, ← hpe, climbS]
    refine Ev.pos (by omega) (Ev.pos (by omega) (Ev.pos (by omega) (Ev.bind (Ev.const (nodeT_f (by omega) (by omega))) ?_)))
    rcases Nat.mod_two_eq_zero_or_one x with c | c
    · have e : stepT x v p = ((⟨#[1]⟩ : ByteArray) ++ v) ++ p := by unfold stepT; rw [if_neg (by omega)]
      rw [e] at ih ⊢
      exact Ev.neg (by omega) (Ev.pos (by omega) (Ev.bind (Ev.const (sum_f t (by rw [node_size]; omega))) ih))
    · have e : stepT x v p = ((⟨#[1]⟩ : ByteArray) ++ p) ++ v := by unfold stepT; rw [if_pos c]
      rw [e] at ih ⊢
      exact Ev.pos (by omega) (Ev.bind (Ev.const (nodeT_f (by omega) (by omega))) (Ev.pos (by omega) (Ev.bind (Ev.const (sum_f t (by rw [node_size]; omega))) ih)))
theorem Climb_j0 (t h i : Int) (leaf : ByteArray) (path : List ByteArray) : Ev (fun k => merkle_Climb.j0 k t h i leaf path true) (⟨#[]⟩, [], 1) := by
  refine Ev.succ ?_
  simp only [merkle_Climb.j0]
  exact Ev.pos trivial (Ev.now _)
theorem Climb_ev (t h i : Int) (leaf : ByteArray) (path : List ByteArray) (hp : path.length < 1000000000) : Ev (fun k => merkle_Climb.f k t h i leaf path) (climbF h i leaf path) := by
  have hj := Climb_j0 t h i leaf path
  unfold merkle_Climb.f climbF
  by_cases c1 : h < 0
  · rw [if_neg (by omega)]
    exact Ev.pos c1 hj
  refine Ev.neg c1 ?_
  by_cases c2 : h > 12
  · rw [if_neg (by omega)]
    exact Ev.pos c2 hj
  refine Ev.neg c2 ?_
  by_cases c3 : i < 0
  · rw [if_neg (by omega)]
    exact Ev.pos c3 hj
  refine Ev.neg c3 (Ev.pos (by omega) ?_)
  obtain ⟨n, rfl⟩ : ∃ n : Nat, h = n := ⟨h.toNat, by omega⟩
  obtain ⟨x, rfl⟩ : ∃ x : Nat, i = x := ⟨i.toNat, by omega⟩
  rw [shl1 n (by omega), Int.toNat_natCast, Int.toNat_natCast]
  by_cases c4 : (x : Int) ≥ ((2 ^ n : Nat) : Int)
  · rw [if_neg (by omega), decide_eq_true c4]
    exact hj
  rw [if_pos (by omega), decide_eq_false c4]
  have h12 := pow_le12 (n := n) (by omega)
  refine Ev.succ ?_
  simp only [merkle_Climb.j0]
  refine Ev.neg (by decide) ?_
  have hd : merkle_digests.f path = some (path.all fun t => decide (t.size = 32)) := by unfold merkle_digests.f; rw [if_pos hp]
  by_cases c5 : leaf.size = 32
  · refine Ev.pos (by omega) ?_
    by_cases c6 : (path.all fun t => decide (t.size = 32)) = true
    · refine Ev.bind (Ev.const hd) (Ev.pos c6 ?_)
      by_cases c7 : (path.length : Int) = (n : Int)
      · rw [if_pos ⟨c5, c7, c6⟩]
        exact Ev.pos c7 (Climb_l0 t path (by omega) (fun s hs => of_decide_eq_true (List.all_eq_true.1 c6 s hs)) path.length 0 x [] leaf (by omega) (by omega) (Nat.le_refl _) c5)
      · rw [if_neg (fun q => c7 q.2.1)]
        exact Ev.neg c7 (Ev.now _)
    · rw [if_neg (fun q => c6 q.2.2)]
      exact Ev.bind (Ev.const hd) (Ev.neg c6 (Ev.now _))
  · rw [if_neg (fun q => c5 q.1)]
    exact Ev.neg (by omega) (Ev.now _)
def checkF (root : ByteArray) (h i : Int) (s : ByteArray) (path : List ByteArray) : Bool := decide ((climbF h i (leafS s) path).2.2 = 0) && ((climbF h i (leafS s) path).1.toList == root.toList)
theorem Check_ev (t : Int) (root : ByteArray) (h i : Int) (s : ByteArray) (path : List ByteArray) (hs : s.size ≤ 1000000) (hp : path.length < 1000000000) : Ev (fun k => merkle_Check.f k t root h i s path) (checkF root h i s path) := by
  unfold merkle_Check.f checkF
  refine Ev.bind (Ev.const (leaf_f t hs)) (Ev.bind (Climb_ev t h i (leafS s) path hp) ?_)
  by_cases c : (climbF h i (leafS s) path).2.2 = 0
  · rw [decide_eq_true c, Bool.true_and]
    exact Ev.pos c (Ev.now _)
  · rw [decide_eq_false c, Bool.false_and]
    exact Ev.neg c (Ev.now _)
theorem checkF_zero {root : ByteArray} {h i : Int} {s : ByteArray} {path : List ByteArray} (hz : (climbF h i (leafS s) path).2.2 = 0) : checkF root h i s path = ((climbF h i (leafS s) path).1.toList == root.toList) := by
  unfold checkF
  rw [decide_eq_true hz, Bool.true_and]
theorem checkF_bad {root : ByteArray} {h i : Int} {s : ByteArray} {path : List ByteArray} (hz : ¬ (climbF h i (leafS s) path).2.2 = 0) : checkF root h i s path = false := by
  unfold checkF
  rw [decide_eq_false hz, Bool.false_and]
end Go.Proofs.Ytmibjgjgfombaaa.Br
