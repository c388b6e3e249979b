/- The code's sum of products. Conditions: lists are short. -/
import Derived.Test.YthnaalocgoeddaaBrDotE
import Derived.Test.YthnaalocgoeddaaBrMul
import Derived.Test.YthnaalocgoeddaaBrList
import Derived.Test.YthnaalocgoeddaaPx6
set_option linter.unusedVariables false
namespace Go.Proofs.Ythnaalocgoeddaa.Br
open Go.RowKit Go.Proofs.YthnaalocgoeddaaT Go.Proofs.Ythnaalocgoeddaa.P Go.Proofs.YthnaalocgoeddaaW.PrintWords Go.Proofs.YthnaalocgoeddaaW.PrintLast Go.Proofs.YthnaalocgoeddaaW.PrintMore
theorem Dot_l0 {l : Int} {a b : List (T 7)} (hab : a.length = b.length) (hm : a.length < 1000) : ∀ d i : Nat, i + d = a.length → ∀ out : T 7,
    Ev (fun k => tower_Dot.l0 k l (a.map elS) (b.map elS) (a.length : Int) (i : Int) (hiW out) (loW out)) (hiW ((dotE l (a.drop i) (b.drop i) out).getD 0), loW ((dotE l (a.drop i) (b.drop i) out).getD 0))
  | 0, i, h, out => by
    refine Ev.succ ?_
    simp only [tower_Dot.l0]
    refine Ev.neg (by omega) ?_
    rw [List.drop_of_length_le (by omega), List.drop_of_length_le (by omega)]
    exact Ev.now _
  | d + 1, i, h, out => by
    have hi : i < a.length := by omega
    have hi' : i < b.length := by omega
    have bad : (¬ (ofB l a[i] = true ∧ ofB l b[i] = true)) → Ev (fun k => tower_Dot.j1 k l (a.map elS) (b.map elS) (i : Int) (a.length : Int) (i : Int) true (hiW out) (loW out)) (hiW ((dotE l (a.drop i) (b.drop i) out).getD 0), loW ((dotE l (a.drop i) (b.drop i) out).getD 0)) := fun hn => by
      refine Ev.succ ?_
      simp only [tower_Dot.j1]
      rw [dotE_step hab hi, if_neg hn]
      show Ev _ (hiW 0, loW 0)
      rw [hi_zero, lo_zero]
      exact Ev.pos trivial (Ev.now _)
    refine Ev.succ ?_
    simp only [tower_Dot.l0]
    refine Ev.pos (by omega) (Ev.pos (by omega) (Ev.pos (by rw [List.length_map]; omega) ?_))
    rw [rd_elS hi, rd_elS hi', elS_f0, elS_f1, elS_f0, elS_f1]
    refine Ev.bind (Of_ev _ _) ?_
    by_cases h1 : ofB l a[i] = true
    · refine Ev.pos h1 (Ev.pos (by rw [List.length_map]; omega) ?_)
      refine Ev.bind (Of_ev _ _) ?_
      by_cases h2 : ofB l b[i] = true
      · rw [h2]
        refine Ev.succ ?_
        simp only [tower_Dot.j1]
        refine Ev.neg (by decide) (Ev.pos (by omega) (Ev.pos (by rw [List.length_map]; omega) (Ev.pos (by rw [List.length_map]; omega) ?_)))
        rw [rd_elS hi, rd_elS hi', elS_f0, elS_f1, elS_f0, elS_f1]
        refine Ev.bind (Mul_ev _ _ _) ?_
        have e : mulE l a[i] b[i] = a[i] * b[i] := if_pos ⟨h1, h2⟩
        rw [e]
        refine Ev.bind (Ev.const (Add_f _ _)) ?_
        rw [dotE_step hab hi, if_pos ⟨h1, h2⟩, wrap_succ i (by omega)]
        exact Dot_l0 hab hm d (i + 1) (by omega) _
      · have e : (!ofB l b[i]) = true := by simpa using h2
        rw [e]
        exact bad fun h => h2 h.2
    · refine Ev.neg h1 ?_
      exact bad fun h => h1 h.1
theorem Dot_ev (l : Int) (a b : List (T 7)) (ha : a.length < 1000) : Ev (fun k => tower_Dot.f k l (a.map elS) (b.map elS)) (hiW (dotF l a b), loW (dotF l a b)) := by
  unfold tower_Dot.f dotF
  rw [List.length_map, List.length_map]
  by_cases h : a.length = b.length
  · rw [if_pos h]
    refine Ev.pos (by omega) ?_
    have := Dot_l0 (l := l) h ha a.length 0 (by omega) 0
    rw [List.drop_zero, List.drop_zero, hi_zero, lo_zero] at this
    exact this
  · rw [if_neg h, hi_zero, lo_zero]
    exact Ev.neg (by omega) (Ev.now _)
end Go.Proofs.Ythnaalocgoeddaa.Br
