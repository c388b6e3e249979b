/- The pure statement of the law MerkleClimbs: its printed function answers true. Conditions: none. -/
import Derived.Test.YtmibjgjgfombaaaPx18
import Derived.Test.YtmibjgjgfombaaaMkA
import Derived.Test.YtmibjgjgfombaaaMkRC
namespace Go.Proofs.Ytmibjgjgfombaaa.Pure
open Go.RowKit Go.Proofs.Ytmibjgjgfombaaa.P Go.Proofs.Ytmibjgjgfombaaa.Br Go.Proofs.YtmibjgjgfombaaaW.PrintWords Go.Proofs.YtmibjgjgfombaaaW.PrintLast
theorem few_ev (h i : Int) (l : List ByteArray) (hl : l.length < 2 ^ 60) : Ev (fun k => steeplelaw12_few.f k h i l) (fewB l 6 100 && decide (h ≤ 6 ∨ h > 12)) := by
  unfold steeplelaw12_few.f
  refine Ev.bind (Few_ev l hl 6 100) ?_
  cases fewB l 6 100 with
  | false => exact Ev.neg (by decide) (Ev.now _)
  | true =>
    refine Ev.pos rfl ?_
    rw [Bool.true_and]
    by_cases c : h ≤ 6
    · rw [decide_eq_true (Or.inl c)]
      exact Ev.pos c (Ev.now _)
    · have e : decide (h > 12) = decide (h ≤ 6 ∨ h > 12) := decide_eq_decide.2 ⟨fun q => Or.inr q, fun q => q.resolve_left c⟩
      rw [← e]
      exact Ev.neg c (Ev.now _)
theorem MerkleClimbs : steeplelaw12_MerkleClimbs.Pure := by
  intro x leaf s hx h1 h2
  obtain ⟨h, i, l⟩ := x
  obtain ⟨_, _, hl, hl2, _⟩ := hx
  refine Ev.rounds (g := fun k => steeplelaw12_MerkleClimbs.f k h i l leaf s) ?_
  have far : Ev (fun k => steeplelaw12_MerkleClimbs.j0 k leaf s true h i l) true := by
    refine Ev.succ ?_
    simp only [steeplelaw12_MerkleClimbs.j0]
    exact Ev.pos (by trivial) (Ev.bind awake_ev (Ev.now _))
  unfold steeplelaw12_MerkleClimbs.f
  have hl3 : l.length * 16 ≤ 140737488351232 := hl2
  refine Ev.bind (few_ev h i l (by omega)) ?_
  cases hf : fewB l 6 100 && decide (h ≤ 6 ∨ h > 12) with
  | false => exact Ev.neg (by decide) far
  | true =>
    obtain ⟨h6, h100⟩ := fewB_iff (Bool.and_eq_true_iff.1 hf).1
    refine Ev.pos rfl ?_
    by_cases c1 : (leaf.size : Int) > 100
    · exact Ev.pos c1 far
    refine Ev.neg c1 ?_
    by_cases c2 : (s.size : Int) > 100
    · exact Ev.pos c2 far
    refine Ev.neg c2 (Ev.bind awake_ev (Ev.succ ?_))
    simp only [steeplelaw12_MerkleClimbs.j0]
    have cl := Climb_ev 0 h i leaf l (by omega)
    have rc := refClimb_ev h i leaf l (by omega)
    have rd := refClimb_ev h i (leafS s) l (by omega)
    obtain ⟨A, hA⟩ : ∃ A, A = climbF h i leaf l := ⟨_, rfl⟩
    rw [← hA] at cl rc
    have hT : A.2.1.length < 2 ^ 60 := by
      have key : ∀ (p : List ByteArray) (x : Nat) (v : ByteArray) (acc : List ByteArray), (climbS x v acc p).2.length = acc.length + p.length := by
        intro p
        induction p with
        | nil => intro x v acc; rfl
        | cons a p ih => intro x v acc; rw [climbS, ih, List.length_append, List.length_singleton, List.length_cons]; omega
      rw [hA]
      unfold climbF
      split
      · split
        · show (climbS i.toNat leaf [] l).2.length < 2 ^ 60
          rw [key, List.length_nil]
          omega
        · show ([] : List ByteArray).length < 2 ^ 60
          rw [List.length_nil]
          omega
      · show ([] : List ByteArray).length < 2 ^ 60
        rw [List.length_nil]
        omega
    have hN : Ev (fun k => merkle_ClimbNil.f k h i leaf l) (⟨#[]⟩, [], 1) := Ev.now _
    have ck := Check_ev 0 leaf h i s l (by omega) (by omega)
    refine Ev.neg (by decide) (Ev.bind (Ev.const (show perm_Make.f = some 0 from rfl)) (Ev.bind Make_ev (Ev.bind cl (Ev.bind rc (Ev.bind (refLeaf_ev s (by omega)) (Ev.bind rd ?_))))))
    refine Ev.pos rfl (Ev.bind (Texts_ev _ hT) (Ev.pos (by trivial) (Ev.pos rfl (Ev.bind hN (Ev.pos (by trivial) (Ev.bind ck ?_))))))
    by_cases c3 : (climbF h i (leafS s) l).2.2 = 0
    · have ck2 := Check_ev 0 (climbF h i (leafS s) l).1 h i s l (by omega) (by omega)
      have e1 : checkF leaf h i s l = ((climbF h i (leafS s) l).1.toList == leaf.toList) := checkF_zero c3
      have e2 : checkF (climbF h i (leafS s) l).1 h i s l = true := by rw [checkF_zero c3]; simp
      rw [e2] at ck2
      rw [e1]
      exact Ev.pos c3 (Ev.pos (by simp) (Ev.bind ck2 (Ev.now _)))
    · have e1 : checkF leaf h i s l = false := checkF_bad c3
      rw [e1]
      exact Ev.neg c3 (Ev.pos (by trivial) (Ev.now _))
end Go.Proofs.Ytmibjgjgfombaaa.Pure
