/- The pure statement of the law ProofOne: its printed function answers true. Conditions: none. -/
import Derived.Test.YthgiifakcgjlaaaPzQ
import Derived.Test.YthgiifakcgjlaaaPx18
import Derived.Test.YthgiifakcgjlaaaPx19
set_option linter.unusedVariables false
namespace Go.Proofs.Ythgiifakcgjlaaa.Pure
open Go.RowKit Go.Proofs.YthgiifakcgjlaaaT Go.Proofs.Ythgiifakcgjlaaa.P Go.Proofs.Ythgiifakcgjlaaa.Br Go.Proofs.YthgiifakcgjlaaaW.PrintWords Go.Proofs.YthgiifakcgjlaaaW.PrintLast
theorem same_nil : Ev (fun k => steeplelaw01_Same.f k ([] : List S61) ([] : List S70)) true := by
  unfold steeplelaw01_Same.f
  refine Ev.pos rfl (Ev.succ ?_)
  simp only [steeplelaw01_Same.l0]
  exact Ev.neg (by decide) (Ev.now _)
theorem rows_nil : Ev (fun k => steeplelaw29_rows.f k ([] : List (List S61)) ([] : List (List S61))) true := by
  unfold steeplelaw29_rows.f
  refine Ev.pos rfl (Ev.succ ?_)
  simp only [steeplelaw29_rows.l0]
  exact Ev.neg (by decide) (Ev.now _)
theorem texts_nil : Ev (fun k => steeplelaw01_Texts.f k ([] : List ByteArray) ([] : List ByteArray)) true := by
  unfold steeplelaw01_Texts.f
  refine Ev.pos rfl (Ev.succ ?_)
  simp only [steeplelaw01_Texts.l0]
  exact Ev.neg (by decide) (Ev.now _)
theorem ref_nil : Ev (fun k => steeplelaw01_Ref.f k ([] : List S61)) ([] : List S70) := refE_ev (M := []) (by decide)
theorem Same_zero : Ev (fun k => steeplelaw29_Same.f k noB [] [] [] 0 0 [] [] 0 0 [] [] [] noB [] [] [] 0 0 [] [] 0 0 [] [] []) true := by
  unfold steeplelaw29_Same.f
  exact Ev.pos rfl (Ev.bind rows_nil (Ev.pos rfl (Ev.bind ref_nil (Ev.bind same_nil (Ev.pos rfl (Ev.bind rows_nil (Ev.pos rfl (Ev.pos rfl (Ev.bind ref_nil (Ev.bind same_nil (Ev.pos rfl (Ev.bind rows_nil (Ev.pos rfl (Ev.pos rfl (Ev.bind ref_nil (Ev.bind same_nil (Ev.pos rfl (Ev.bind rows_nil (Ev.pos rfl (Ev.bind texts_nil (Ev.now _)))))))))))))))))))))
theorem ProofOne : steeplelaw29_ProofOne.Pure := by
  intro t ht
  refine Ev.rounds (g := fun k => steeplelaw29_ProofOne.f k t) ?_
  unfold steeplelaw29_ProofOne.f
  by_cases h : (t.size : Int) > 5000
  · exact Ev.pos h (Ev.bind awake_ev (Ev.now _))
  · obtain ⟨x, hx, hs⟩ := ReadProof_snd t (by omega)
    refine Ev.neg h (Ev.bind hx ?_)
    rcases hs with rfl | ⟨a, root, z, wi, c, v, pa, g, p, ro, o, pr, rfl, hf, hsh, hb⟩
    · exact Ev.neg (show ¬ (3 : Int) = 0 by decide) (Ev.bind awake_ev (Ev.pos rfl (Ev.pos rfl (Ev.pos rfl (Ev.bind Same_zero (Ev.now _))))))
    · have hS := refShaped_ev a root z wi c v pa g p ro o pr (fewB_small hf)
      rw [hsh] at hS
      have hB := refBytes_ev2 hf
      rw [hb] at hB
      refine Ev.pos rfl (Ev.bind (Ref29_ev root (hiW v) (loW v) (hiW p) (loW p) (fewB_small hf)) (Ev.bind awake_ev (Ev.pos rfl (Ev.bind hS (Ev.pos rfl (Ev.bind hB ?_))))))
      rw [beq_self_eq_true]
      exact Ev.now _
end Go.Proofs.Ythgiifakcgjlaaa.Pure
