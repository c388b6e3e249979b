/- The pure statement of the law ProofSystems: its printed function answers true. Conditions: none but the arguments' kinds. -/
import Derived.Test.YthgiifakcgjlaaaPsS
import Derived.Test.YthgiifakcgjlaaaPx15
set_option linter.unusedVariables false
namespace Go.Proofs.Ythgiifakcgjlaaa.Pure
open Go.RowKit Go.Proofs.YthgiifakcgjlaaaT Go.Proofs.Ythgiifakcgjlaaa.P Go.Proofs.Ythgiifakcgjlaaa.Br Go.Proofs.YthgiifakcgjlaaaW.PrintWords Go.Proofs.YthgiifakcgjlaaaW.PrintLast
theorem ProofSystems_j1 (t : ByteArray) (ht : t.size ≤ 2000) : Ev (fun k => steeplelaw29_ProofSystems.j1 k t) true := by
  obtain ⟨w, r, c, p, q, L, x, hr, hs⟩ := ReadSystem_snd t (by omega)
  refine Ev.succ ?_
  simp only [steeplelaw29_ProofSystems.j1]
  refine Ev.bind hr ?_
  rcases hs with ⟨rfl, hc, hL, rfl⟩ | ⟨rfl, rfl, rfl, rfl, rfl, rfl, rfl⟩
  · refine Ev.pos rfl (Ev.bind (Ref_ev w r c p q L (by omega)) (Ev.bind awake_ev (Ev.pos rfl (Ev.bind (refCheck_ev w r c p q L) (Ev.pos hc (Ev.bind (refSystem_ev w r c p q L (by omega)) ?_))))))
    rw [beq_self_eq_true]
    exact Ev.now _
  · exact Ev.neg (by decide) (Ev.bind awake_ev (Ev.pos rfl (Ev.pos rfl (Ev.bind (gates_ev 0 0 0 0 0 [] (by decide)) (Ev.now _)))))
theorem ProofSystems_j0 (w r c p q : Int) (L : List S107) (t : ByteArray) (hL : L.length ≤ 40) (ht : t.size ≤ 2000) : Ev (fun k => steeplelaw29_ProofSystems.j0 k t false w r c p q L) true := by
  have hy := System_ev w r c p q L (by omega)
  refine Ev.succ ?_
  simp only [steeplelaw29_ProofSystems.j0]
  refine Ev.neg (by decide) (Ev.bind (Ref_ev w r c p q L (by omega)) ?_)
  by_cases h : chkS w r c p q L = 0
  · rw [if_pos h] at hy
    exact Ev.bind hy (Ev.bind (refCheck_ev w r c p q L) (Ev.pos h.symm (Ev.pos rfl (Ev.bind (ReadSystem_cmp h) (Ev.bind (refSystem_ev w r c p q L (by omega)) (Ev.pos rfl (Ev.pos rfl (Ev.bind (gates_ev w r c p q L (by omega)) (Ev.pos rfl (ProofSystems_j1 t ht))))))))))
  · rw [if_neg h] at hy
    exact Ev.bind hy (Ev.bind (refCheck_ev w r c p q L) (Ev.pos rfl (Ev.neg h (Ev.pos (show noB.toList = [] by rw [ByteArray.toList_eq]; rfl) (ProofSystems_j1 t ht)))))
theorem ProofSystems : steeplelaw29_ProofSystems.Pure := by
  intro s t hs ht
  refine Ev.rounds (g := fun k => steeplelaw29_ProofSystems.f k s.f0 s.f1 s.f2 s.f3 s.f4 s.f5 t) ?_
  have far : Ev (fun k => steeplelaw29_ProofSystems.j0 k t true s.f0 s.f1 s.f2 s.f3 s.f4 s.f5) true := by
    refine Ev.succ ?_
    simp only [steeplelaw29_ProofSystems.j0]
    exact Ev.pos (by trivial) (Ev.bind awake_ev (Ev.now _))
  unfold steeplelaw29_ProofSystems.f
  by_cases c : (s.f5.length : Int) > 40
  · exact Ev.pos c far
  refine Ev.neg c ?_
  by_cases c2 : (t.size : Int) > 2000
  · rw [decide_eq_true c2]
    exact far
  rw [decide_eq_false c2]
  exact ProofSystems_j0 _ _ _ _ _ _ t (by omega) (by omega)
end Go.Proofs.Ythgiifakcgjlaaa.Pure
