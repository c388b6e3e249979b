/- The bytes of any number, and of any texts. Conditions: none but the arguments' kinds. -/
import Derived.Test.YtflddolfmaoalaaOcAw
import Derived.Test.YtflddolfmaoalaaPx5
set_option linter.unusedVariables false
set_option linter.unusedSimpArgs false
namespace Go.Proofs.Ytflddolfmaoalaa.Pure
open Go.RowKit Go.Proofs.YtflddolfmaoalaaT Go.Proofs.Ytflddolfmaoalaa.P Go.Proofs.Ytflddolfmaoalaa.Br Go.Proofs.YtflddolfmaoalaaW.PrintWords Go.Proofs.YtflddolfmaoalaaW.PrintLast
theorem OctetNums_l0 (a : Int) {L : List ByteArray} (hf : fewB L 20 300 = true) : ∀ d i : Nat, i + d = L.length → Ev (fun k => steeplelaw01_OctetNums.l0 k a L (i : Int)) true
  | 0, i, h => by
    have hl := (fewB_iff hf).1
    refine Ev.succ ?_
    simp only [steeplelaw01_OctetNums.l0]
    refine Ev.neg (by omega) (Ev.bind awake_ev (Ev.pos rfl (Ev.bind (Ev.const (Num_f a)) (Ev.bind (Ev.const (refNum_f a)) (Ev.pos rfl (Ev.bind (List_ev (by omega) (few_size hf)) (Ev.bind (refList_ev (by omega) (few_size hf)) ?_)))))))
    rw [beq_self_eq_true]
    exact Ev.now _
  | d + 1, i, h => by
    obtain ⟨hl, hs⟩ := fewB_iff hf
    have hi : i < L.length := by omega
    have hz := hs L[i] (List.getElem_mem hi)
    refine Ev.succ ?_
    simp only [steeplelaw01_OctetNums.l0]
    refine Ev.pos (by omega) (Ev.pos (by omega) ?_)
    rw [rdOf_at hi, wrap_succ i (by omega)]
    exact Ev.bind (Ev.const (Text_f (by omega))) (Ev.bind (Ev.const (refText_f (by omega))) (Ev.pos rfl (OctetNums_l0 a hf d (i + 1) (by omega))))
theorem OctetNums : steeplelaw01_OctetNums.Pure := by
  intro a L ha hL
  refine Ev.rounds ?_
  unfold steeplelaw01_OctetNums.f
  have hl : L.length < 2 ^ 60 := by have := hL.2.1; omega
  have hfew := Few_ev L hl 20 300
  cases hf : fewB L 20 300 with
  | false =>
    rw [hf] at hfew
    exact Ev.bind hfew (Ev.neg (by decide) (Ev.bind awake_ev (Ev.now _)))
  | true =>
    rw [hf] at hfew
    exact Ev.bind hfew (Ev.pos rfl (OctetNums_l0 a hf L.length 0 (by omega)))
end Go.Proofs.Ytflddolfmaoalaa.Pure
