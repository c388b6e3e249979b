/- The law PackRises: for every input it returns true, and the input reads as it did. Conditions: none. -/
import Derived.Test.YtceneggampgboaaRows
import Derived.Test.YtceneggampgboaaPx17
import Derived.Test.YtceneggampgboaaPurePackRises
import Derived.Test.YtceneggampgboaaOpens
import Derived.WalkKit
import Derived.ProofKit
import Derived.OpenShut
import Derived.ShutString
import Derived.ChangeOld
import Derived.Below
import Derived.SizedLaws
import Derived.Carry
namespace Go.Proofs.Ytceneggampgboaa.packRises
open Go.ChangeShapes Go.WideShapes Go.ChangeAt Go.RowKit Go.Proofs.YtceneggampgboaaQ Go.Proofs.YtceneggampgboaaW.PrintWords Go.Proofs.Ytceneggampgboaa.P
open Go.ChangeMaps (open_string shut_string)
set_option linter.unusedVariables false
set_option linter.unusedSimpArgs false
theorem own : ownKnob Try.prog.godebug = none := by kernel_rfl
theorem laidOut : laidOutB Try.prog = true := by kernel_rfl
theorem op0 : Opens Try.prog 49 k49 (fun x => ((Lit.int .i64 x.f0).wf = true ∧ (Lit.int .i64 x.f1).wf = true ∧ (x.f2.length ≤ maxLen ∧ x.f2.length * 16 ≤ 140737488351232 ∧ ∀ y0 ∈ x.f2, ((Lit.int .u64 y0.f0).wf = true ∧ (Lit.int .u64 y0.f1).wf = true)) ∧ (x.f3.length ≤ maxLen ∧ x.f3.length * 16 ≤ 140737488351232 ∧ ∀ y0 ∈ x.f3, ((Lit.int .u64 y0.f0).wf = true ∧ (Lit.int .u64 y0.f1).wf = true)))) :=
  (Opens.iso (OpensF.struct (OpensF.cons (Opens.int Try.underlying3 (by kernel_rfl)) rfl (OpensF.cons (Opens.int Try.underlying3 (by kernel_rfl)) rfl (OpensF.cons (Opens.slice (Opens.iso (OpensF.struct (OpensF.cons (Opens.int Try.underlying23 (by kernel_rfl)) rfl (OpensF.one (Opens.int Try.underlying23 (by kernel_rfl)) rfl)) Try.underlying25 rfl (by kernel_rfl)) (fun x : S25 => (x.f0, x.f1)) (fun p => ⟨p.1, p.2⟩) (fun _ => rfl)) Try.underlying22 (by kernel_rfl) (B := 16) (by kernel_rfl)) rfl (OpensF.one (Opens.slice (Opens.iso (OpensF.struct (OpensF.cons (Opens.int Try.underlying23 (by kernel_rfl)) rfl (OpensF.one (Opens.int Try.underlying23 (by kernel_rfl)) rfl)) Try.underlying25 rfl (by kernel_rfl)) (fun x : S25 => (x.f0, x.f1)) (fun p => ⟨p.1, p.2⟩) (fun _ => rfl)) Try.underlying22 (by kernel_rfl) (B := 16) (by kernel_rfl)) rfl)))) Try.underlying49 rfl (by kernel_rfl)) (fun x : S49 => (x.f0, x.f1, x.f2, x.f3)) (fun p => ⟨p.1, p.2.1, p.2.2.1, p.2.2.2⟩) (fun _ => rfl)).imp (fun _ h => by simp only [and_assoc] at h ⊢; exact h)
set_option maxRecDepth 100000 in
theorem lifted (os : Os) (started : os.Started) (H : Type) (enc : TypeId × Value → H) :
    ReturnsInHanded {} Try.checked os 4 .any (Rows.packRisesSpec.pre6 enc Try.prog Try.f4 Rows.packRisesRow.domain false) (Rows.packRisesSpec.post enc Try.prog Try.f4 false true false false) := by
  refine returnsInHanded_of_change_sized (C := Try.checked) own started (by kernel_rfl) Try.func4
    (ChangeSpec.witness6 (enc := enc) (C := Try.checked) false ⟨#[], #[.agg #[.int .i64 0, .int .i64 0, .slice none 0 0, .slice none 0 0]], []⟩ 8 (by kernel_rfl) (by kernel_rfl) (by kernel_rfl) (by kernel_rfl)) ?_
  intro W base args ds gs before hval0 hW hcnd hsz0 _
  have hsz : (DataW.weightsEach Try.prog (Try.f4.params.toList ++ Rows.packRisesSpec.plain.varTypes Try.prog) (ds ++ gs)).all (· ≤ reachBytes) = true := hsz0
  have hval : ∀ (j : Nat) t v, Try.f4.params[j]? = some t → args[j]? = some v → Value.okWide Try.prog W .any base t v := hval0
  have hW' := hW
  obtain ⟨p, q, hA0, hV, rfl, hfz, hnd⟩ := hW
  have hA : DataW.TrodAll enc Try.prog W 0 (fun _ => true) true Try.f4.params.toList args.toList ds p := hA0
  rw [Try.params4] at hA hval hsz
  obtain ⟨v0, vs0, d0, ds0, p0, q0, hargs, rfl, rfl, h0, r0⟩ := trodAll_cons hA
  obtain ⟨rfl, rfl, rfl⟩ := trodAll_nil r0
  obtain rfl : args = #[v0] := by cases args; simp_all
  obtain ⟨rfl, rfl⟩ := trodVars_none hV
  have k0 := h0
  have lt0 : ∀ x ∈ p0, x.block < W.heap.size := by obtain ⟨m, hm⟩ := k0; exact DataW.trod_lt m _ _ _ hm
  obtain ⟨x0, K0, w0⟩ := op0.arg hsz 0 rfl rfl h0
  obtain ⟨cc0, rfl, _⟩ := okWide_struct Try.underlying49 (hval 0 49 v0 rfl rfl)
  obtain ⟨A0_2, c0_2, A0_3, c0_3, e0, hc0_2, hr0_2, hc0_3, hr0_3⟩ := k49_open K0
  obtain rfl : cc0 = #[.int .i64 x0.f0, .int .i64 x0.f1, .slice A0_2 (x0.f2).length c0_2, .slice A0_3 (x0.f3).length c0_3] := by
    apply Array.toList_inj.1
    exact e0
  clear hA0 hval0 hsz0 hsz
  obtain ⟨k_, hk_⟩ := Pure.PackRises x0 w0
  refine (steeplelaw03_PackRises.calls k_ x0.f0 x0.f1 A0_2 c0_2 x0.f2 A0_3 c0_3 x0.f3 true W hr0_2 hc0_2 hr0_3 hc0_3 hk_).mono fun e W' ⟨he, bel0⟩ => ?_
  have bel : Below W.heap.size W W' := bel0
  subst he
  exact ⟨_, rfl, _, _, _, [], _, [], hW', trodAll_mk1 (shut_bool Try.underlying4 _), (trodAll_cons_mk (Below.trod laidOut (by kernel_rfl) (of_decide_eq_true (by kernel_rfl)) k0 bel lt0) trodAll_mk0), rfl, bel.frame _, fun h => by cases h⟩
theorem over : Rows.packRisesRow.holds Try.pinned (OpenSpec.ofChange Rows.packRisesSpec) :=
  OpenClaim.holds_of_wide 4 Try.f4 rfl rfl rfl rfl rfl rfl rfl ⟨rfl, rfl, rfl, rfl, rfl⟩ rfl rfl rfl rfl rfl (by kernel_rfl) Try.func4 (by kernel_rfl)
    (of_decide_eq_true (by kernel_rfl)) (by unfold Func.isWrapper; first | (rw [if_pos (by decide +kernel)]; kernel_rfl) | (rw [if_neg (by decide +kernel)]; exact ⟨rfl, rfl⟩))
    (fun os started H enc _ => lifted os started H enc)
theorem proved : Rows.PackRisesSaid := over
#print axioms proved
end Go.Proofs.Ytceneggampgboaa.packRises
namespace Go.Proofs.Ytceneggampgboaa
/-- The row, under a short name, for the claim. -/
theorem packRises_holds : Rows.PackRisesSaid := packRises.proved
end Go.Proofs.Ytceneggampgboaa
