/- At each place the value is the one that was given. Conditions: none but the arguments' kinds. -/
import Derived.Test.YthnaalocgoeddaaBrAwake
import Derived.Test.YthnaalocgoeddaaPx7
set_option linter.unusedVariables false
namespace Go.Proofs.Ythnaalocgoeddaa.Pure
open Go.RowKit Go.Proofs.YthnaalocgoeddaaT Go.Proofs.Ythnaalocgoeddaa.P Go.Proofs.Ythnaalocgoeddaa.Br Go.Proofs.YthnaalocgoeddaaW.PrintWords Go.Proofs.YthnaalocgoeddaaW.PrintLast Go.Proofs.YthnaalocgoeddaaW.PrintMore
theorem modNat (a : Int) (ha : (Lit.int .i64 a).wf = true) {n : Nat} (h0 : 0 < n) (hn : n ≤ 9) : ∃ m : Nat, m < n ∧ Int.tmod (wrap64 (Int.tmod a (n : Int) + (n : Int))) (n : Int) = (m : Int) := by
  have hp : (0 : Int) < (n : Int) := by omega
  have h1 := Int.tmod_lt_of_pos a hp
  have h2 := Int.lt_tmod_of_pos a hp
  have e : wrap64 (Int.tmod a (n : Int) + (n : Int)) = Int.tmod a (n : Int) + (n : Int) := by
    unfold wrap64
    omega
  rw [e]
  have hb : 0 ≤ Int.tmod a (n : Int) + (n : Int) := by omega
  generalize Int.tmod a (n : Int) + (n : Int) = b at hb ⊢
  have h3 := Int.tmod_lt_of_pos b hp
  have h4 : 0 ≤ Int.tmod b (n : Int) := Int.tmod_nonneg _ hb
  exact ⟨(Int.tmod b (n : Int)).toNat, by omega, by omega⟩
theorem LinePlaces : steeplelaw17_LinePlaces.Pure := by
  intro a l c ha ⟨_, _, hl⟩ hc
  obtain ⟨L, rfl⟩ := elS_of hl
  refine Ev.rounds ?_
  unfold steeplelaw17_LinePlaces.f
  have jt : Ev (fun k => steeplelaw17_LinePlaces.j0 k a (L.map elS) c true) true := by
    refine Ev.succ ?_
    simp only [steeplelaw17_LinePlaces.j0]
    exact Ev.pos trivial (Ev.bind awake_ev (Ev.now _))
  rw [List.length_map]
  by_cases h9 : (L.length : Int) > 9
  · exact Ev.pos h9 jt
  · refine Ev.neg h9 (Ev.bind (may_ev a L (by omega)) ?_)
    by_cases h : mayE a L = 0
    · rw [h, show ((0 : Int) != 0) = false from rfl]
      obtain ⟨j, rfl, hj, h0, _, hp, hin⟩ := may_ok h
      obtain ⟨m, hm, e⟩ := modNat c hc h0 (by omega)
      refine Ev.succ ?_
      simp only [steeplelaw17_LinePlaces.j0]
      refine Ev.neg (by decide) ?_
      rw [List.length_map]
      refine Ev.neg (by omega) ?_
      rw [e, wrap_u64 m (by omega)]
      have hw := pl_w (show m < 2 ^ 64 by omega)
      have hat := At_ok h (x := pl m) (ofB_nat hj (hp m hm))
      rw [hw.1, hw.2] at hat
      refine Ev.bind hat (Ev.bind awake_ev (Ev.pos rfl (Ev.pos rfl (Ev.pos (by omega) (Ev.pos (by omega) ?_)))))
      rw [rd_elS hm, elS_f0, elS_f1]
      exact Ev.const (by rw [atE_place (by omega) hm, eq_pair rfl])
    · rw [show (mayE a L != 0) = true from bne_iff_ne.2 h]
      exact jt
end Go.Proofs.Ythnaalocgoeddaa.Pure
