/- The law ProofBytes: for every input it returns true, and the input reads as it did. Conditions: none. -/
import Derived.Test.YthgiifakcgjlaaaRows
import Derived.Test.YthgiifakcgjlaaaHLawB
import Derived.Test.YthgiifakcgjlaaaPureProofBytes
import Derived.Test.YthgiifakcgjlaaaOpens
import Derived.WalkKit
import Derived.ProofKit
import Derived.OpenShut
import Derived.ShutString
import Derived.ChangeOld
import Derived.Below
import Derived.SizedLaws
import Derived.Carry
namespace Go.Proofs.Ythgiifakcgjlaaa.proofBytes
open Go.ChangeShapes Go.WideShapes Go.ChangeAt Go.RowKit Go.Proofs.YthgiifakcgjlaaaQ Go.Proofs.YthgiifakcgjlaaaW.PrintWords Go.Proofs.Ythgiifakcgjlaaa.P
open Go.ChangeMaps (open_string shut_string)
set_option linter.unusedVariables false
set_option linter.unusedSimpArgs false
theorem own : ownKnob Try.prog.godebug = none := by kernel_rfl
theorem laidOut : laidOutB Try.prog = true := by kernel_rfl
set_option maxRecDepth 100000 in
theorem op1 : Opens Try.prog 66 k66 (fun x => (x.f0.size ≤ 140737488351232 ∧ (x.f1.length ≤ maxLen ∧ x.f1.length * 24 ≤ 140737488351232 ∧ ∀ y0 ∈ x.f1, (y0.length ≤ maxLen ∧ y0.length * 16 ≤ 140737488351232 ∧ ∀ y1 ∈ y0, ((Lit.int .u64 y1.f0).wf = true ∧ (Lit.int .u64 y1.f1).wf = true))) ∧ (x.f2.length ≤ maxLen ∧ x.f2.length * 16 ≤ 140737488351232 ∧ ∀ y0 ∈ x.f2, ((Lit.int .u64 y0.f0).wf = true ∧ (Lit.int .u64 y0.f1).wf = true)) ∧ (x.f3.length ≤ maxLen ∧ x.f3.length * 24 ≤ 140737488351232 ∧ ∀ y0 ∈ x.f3, (y0.length ≤ maxLen ∧ y0.length * 16 ≤ 140737488351232 ∧ ∀ y1 ∈ y0, ((Lit.int .u64 y1.f0).wf = true ∧ (Lit.int .u64 y1.f1).wf = true))) ∧ ((Lit.int .u64 x.f4.f0).wf = true ∧ (Lit.int .u64 x.f4.f1).wf = true) ∧ (x.f5.length ≤ maxLen ∧ x.f5.length * 16 ≤ 140737488351232 ∧ ∀ y0 ∈ x.f5, ((Lit.int .u64 y0.f0).wf = true ∧ (Lit.int .u64 y0.f1).wf = true)) ∧ (x.f6.length ≤ maxLen ∧ x.f6.length * 24 ≤ 140737488351232 ∧ ∀ y0 ∈ x.f6, (y0.length ≤ maxLen ∧ y0.length * 16 ≤ 140737488351232 ∧ ∀ y1 ∈ y0, ((Lit.int .u64 y1.f0).wf = true ∧ (Lit.int .u64 y1.f1).wf = true))) ∧ ((Lit.int .u64 x.f7.f0).wf = true ∧ (Lit.int .u64 x.f7.f1).wf = true) ∧ ((x.f8.f0.length ≤ maxLen ∧ x.f8.f0.length * 16 ≤ 140737488351232 ∧ ∀ y0 ∈ x.f8.f0, ((Lit.int .u64 y0.f0).wf = true ∧ (Lit.int .u64 y0.f1).wf = true)) ∧ (x.f8.f1.length ≤ maxLen ∧ x.f8.f1.length * 24 ≤ 140737488351232 ∧ ∀ y0 ∈ x.f8.f1, (y0.length ≤ maxLen ∧ y0.length * 16 ≤ 140737488351232 ∧ ∀ y1 ∈ y0, ((Lit.int .u64 y1.f0).wf = true ∧ (Lit.int .u64 y1.f1).wf = true))) ∧ (x.f8.f2.length ≤ maxLen ∧ x.f8.f2.length * 16 ≤ 140737488351232 ∧ ∀ y0 ∈ x.f8.f2, y0.size ≤ 140737488351232)))) :=
  (Opens.iso (OpensF.struct (OpensF.cons (Opens.string Try.underlying9 (by kernel_rfl)) rfl (OpensF.cons (Opens.slice (Opens.slice (Opens.iso (OpensF.struct (OpensF.cons (Opens.int Try.underlying59 (by kernel_rfl)) rfl (OpensF.one (Opens.int Try.underlying59 (by kernel_rfl)) rfl)) Try.underlying61 rfl (by kernel_rfl)) (fun x : S61 => (x.f0, x.f1)) (fun p => ⟨p.1, p.2⟩) (fun _ => rfl)) Try.underlying58 (by kernel_rfl) (B := 16) (by kernel_rfl)) Try.underlying57 (by kernel_rfl) (B := 24) (by kernel_rfl)) rfl (OpensF.cons (Opens.slice (Opens.iso (OpensF.struct (OpensF.cons (Opens.int Try.underlying59 (by kernel_rfl)) rfl (OpensF.one (Opens.int Try.underlying59 (by kernel_rfl)) rfl)) Try.underlying61 rfl (by kernel_rfl)) (fun x : S61 => (x.f0, x.f1)) (fun p => ⟨p.1, p.2⟩) (fun _ => rfl)) Try.underlying58 (by kernel_rfl) (B := 16) (by kernel_rfl)) rfl (OpensF.cons (Opens.slice (Opens.slice (Opens.iso (OpensF.struct (OpensF.cons (Opens.int Try.underlying59 (by kernel_rfl)) rfl (OpensF.one (Opens.int Try.underlying59 (by kernel_rfl)) rfl)) Try.underlying61 rfl (by kernel_rfl)) (fun x : S61 => (x.f0, x.f1)) (fun p => ⟨p.1, p.2⟩) (fun _ => rfl)) Try.underlying58 (by kernel_rfl) (B := 16) (by kernel_rfl)) Try.underlying57 (by kernel_rfl) (B := 24) (by kernel_rfl)) rfl (OpensF.cons (Opens.iso (OpensF.struct (OpensF.cons (Opens.int Try.underlying59 (by kernel_rfl)) rfl (OpensF.one (Opens.int Try.underlying59 (by kernel_rfl)) rfl)) Try.underlying61 rfl (by kernel_rfl)) (fun x : S61 => (x.f0, x.f1)) (fun p => ⟨p.1, p.2⟩) (fun _ => rfl)) rfl (OpensF.cons (Opens.slice (Opens.iso (OpensF.struct (OpensF.cons (Opens.int Try.underlying59 (by kernel_rfl)) rfl (OpensF.one (Opens.int Try.underlying59 (by kernel_rfl)) rfl)) Try.underlying61 rfl (by kernel_rfl)) (fun x : S61 => (x.f0, x.f1)) (fun p => ⟨p.1, p.2⟩) (fun _ => rfl)) Try.underlying58 (by kernel_rfl) (B := 16) (by kernel_rfl)) rfl (OpensF.cons (Opens.slice (Opens.slice (Opens.iso (OpensF.struct (OpensF.cons (Opens.int Try.underlying59 (by kernel_rfl)) rfl (OpensF.one (Opens.int Try.underlying59 (by kernel_rfl)) rfl)) Try.underlying61 rfl (by kernel_rfl)) (fun x : S61 => (x.f0, x.f1)) (fun p => ⟨p.1, p.2⟩) (fun _ => rfl)) Try.underlying58 (by kernel_rfl) (B := 16) (by kernel_rfl)) Try.underlying57 (by kernel_rfl) (B := 24) (by kernel_rfl)) rfl (OpensF.cons (Opens.iso (OpensF.struct (OpensF.cons (Opens.int Try.underlying59 (by kernel_rfl)) rfl (OpensF.one (Opens.int Try.underlying59 (by kernel_rfl)) rfl)) Try.underlying61 rfl (by kernel_rfl)) (fun x : S61 => (x.f0, x.f1)) (fun p => ⟨p.1, p.2⟩) (fun _ => rfl)) rfl (OpensF.one (Opens.iso (OpensF.struct (OpensF.cons (Opens.slice (Opens.iso (OpensF.struct (OpensF.cons (Opens.int Try.underlying59 (by kernel_rfl)) rfl (OpensF.one (Opens.int Try.underlying59 (by kernel_rfl)) rfl)) Try.underlying61 rfl (by kernel_rfl)) (fun x : S61 => (x.f0, x.f1)) (fun p => ⟨p.1, p.2⟩) (fun _ => rfl)) Try.underlying58 (by kernel_rfl) (B := 16) (by kernel_rfl)) rfl (OpensF.cons (Opens.slice (Opens.slice (Opens.iso (OpensF.struct (OpensF.cons (Opens.int Try.underlying59 (by kernel_rfl)) rfl (OpensF.one (Opens.int Try.underlying59 (by kernel_rfl)) rfl)) Try.underlying61 rfl (by kernel_rfl)) (fun x : S61 => (x.f0, x.f1)) (fun p => ⟨p.1, p.2⟩) (fun _ => rfl)) Try.underlying58 (by kernel_rfl) (B := 16) (by kernel_rfl)) Try.underlying57 (by kernel_rfl) (B := 24) (by kernel_rfl)) rfl (OpensF.one (Opens.slice (Opens.string Try.underlying9 (by kernel_rfl)) Try.underlying62 (by kernel_rfl) (B := 16) (by kernel_rfl)) rfl))) Try.underlying64 rfl (by kernel_rfl)) (fun x : S64 => (x.f0, x.f1, x.f2)) (fun p => ⟨p.1, p.2.1, p.2.2⟩) (fun _ => rfl)) rfl))))))))) Try.underlying66 rfl (by kernel_rfl)) (fun x : S66 => (x.f0, x.f1, x.f2, x.f3, x.f4, x.f5, x.f6, x.f7, x.f8)) (fun p => ⟨p.1, p.2.1, p.2.2.1, p.2.2.2.1, p.2.2.2.2.1, p.2.2.2.2.2.1, p.2.2.2.2.2.2.1, p.2.2.2.2.2.2.2.1, p.2.2.2.2.2.2.2.2⟩) (fun _ => rfl)).imp (fun _ h => by first | exact h | (simp only [and_assoc] at h ⊢; exact h))
set_option maxRecDepth 100000 in
theorem lifted (os : Os) (started : os.Started) (H : Type) (enc : TypeId × Value → H) :
    ReturnsInHanded {} Try.checked os 6 .any (Rows.proofBytesSpec.pre6 enc Try.prog Try.f6 Rows.proofBytesRow.domain false) (Rows.proofBytesSpec.post enc Try.prog Try.f6 false true false false) := by
  refine returnsInHanded_of_change_sized (C := Try.checked) own started (by kernel_rfl) Try.func6
    (ChangeSpec.witness6 (enc := enc) (C := Try.checked) false ⟨#[], #[.int .i64 0, .agg #[.string ByteArray.empty, .slice none 0 0, .slice none 0 0, .slice none 0 0, .int .u64 0, .int .u64 0, .slice none 0 0, .slice none 0 0, .int .u64 0, .int .u64 0, .slice none 0 0, .slice none 0 0, .slice none 0 0]], []⟩ 8 (by kernel_rfl) (by kernel_rfl) (by kernel_rfl) (by kernel_rfl)) ?_
  intro W base args ds gs before hval0 hW hcnd hsz0 _
  have hsz : (DataW.weightsEach Try.prog (Try.f6.params.toList ++ Rows.proofBytesSpec.plain.varTypes Try.prog) (ds ++ gs)).all (· ≤ reachBytes) = true := hsz0
  have hval : ∀ (j : Nat) t v, Try.f6.params[j]? = some t → args[j]? = some v → Value.okWide Try.prog W .any base t v := hval0
  have hW' := hW
  obtain ⟨p, q, hA0, hV, rfl, hfz, hnd⟩ := hW
  have hA : DataW.TrodAll enc Try.prog W 0 (fun _ => true) true Try.f6.params.toList args.toList ds p := hA0
  rw [Try.params6] at hA hval hsz
  obtain ⟨v0, vs0, d0, ds0, p0, q0, hargs, rfl, rfl, h0, r0⟩ := trodAll_cons hA
  obtain ⟨v1, vs1, d1, ds1, p1, q1, rfl, rfl, rfl, h1, r1⟩ := trodAll_cons r0
  obtain ⟨rfl, rfl, rfl⟩ := trodAll_nil r1
  obtain rfl : args = #[v0, v1] := by cases args; simp_all
  obtain ⟨rfl, rfl⟩ := trodVars_none hV
  obtain ⟨a0, rfl, rfl, rfl, w0⟩ := open_int Try.underlying3 (hval 0 3 v0 rfl rfl) h0
  have k1 := h1
  have lt1 : ∀ x ∈ p1, x.block < W.heap.size := by obtain ⟨m, hm⟩ := k1; exact DataW.trod_lt m _ _ _ hm
  obtain ⟨x1, K1, w1⟩ := op1.arg hsz 1 rfl rfl h1
  obtain ⟨cc1, rfl, _⟩ := okWide_struct Try.underlying66 (hval 1 66 v1 rfl rfl)
  obtain ⟨A1_1, c1_1, A1_2, c1_2, A1_3, c1_3, A1_6, c1_6, A1_7, c1_7, A1_10, c1_10, A1_11, c1_11, A1_12, c1_12, e1, hc1_1, hr1_1, hc1_2, hr1_2, hc1_3, hr1_3, hc1_6, hr1_6, hc1_7, hr1_7, hc1_10, hr1_10, hc1_11, hr1_11, hc1_12, hr1_12⟩ := k66_open K1
  obtain rfl : cc1 = #[.string x1.f0, .slice A1_1 (x1.f1).length c1_1, .slice A1_2 (x1.f2).length c1_2, .slice A1_3 (x1.f3).length c1_3, .int .u64 x1.f4.f0, .int .u64 x1.f4.f1, .slice A1_6 (x1.f5).length c1_6, .slice A1_7 (x1.f6).length c1_7, .int .u64 x1.f7.f0, .int .u64 x1.f7.f1, .slice A1_10 (x1.f8.f0).length c1_10, .slice A1_11 (x1.f8.f1).length c1_11, .slice A1_12 (x1.f8.f2).length c1_12] := by
    apply Array.toList_inj.1
    exact e1
  clear hA0 hval0 hsz0 hsz
  obtain ⟨k_, hk_⟩ := Pure.ProofBytes a0 x1 w0 w1
  refine (steeplelaw29_ProofBytes.calls k_ a0 x1.f0 A1_1 c1_1 x1.f1 A1_2 c1_2 x1.f2 A1_3 c1_3 x1.f3 x1.f4.f0 x1.f4.f1 A1_6 c1_6 x1.f5 A1_7 c1_7 x1.f6 x1.f7.f0 x1.f7.f1 A1_10 c1_10 x1.f8.f0 A1_11 c1_11 x1.f8.f1 A1_12 c1_12 x1.f8.f2 true W hr1_1 hc1_1 hr1_2 hc1_2 hr1_3 hc1_3 hr1_6 hc1_6 hr1_7 hc1_7 hr1_10 hc1_10 hr1_11 hc1_11 hr1_12 hc1_12 hk_).mono fun e W' ⟨he, bel0⟩ => ?_
  have bel : Below W.heap.size W W' := bel0
  subst he
  exact ⟨_, rfl, _, _, _, [], _, [], hW', trodAll_mk1 (shut_bool Try.underlying4 _), (trodAll_cons_mk (shut_int Try.underlying3 w0) (trodAll_cons_mk (Below.trod laidOut (by kernel_rfl) (of_decide_eq_true (by kernel_rfl)) k1 bel lt1) trodAll_mk0)), rfl, bel.frame _, fun h => by cases h⟩
theorem over : Rows.proofBytesRow.holds Try.pinned (OpenSpec.ofChange Rows.proofBytesSpec) :=
  OpenClaim.holds_of_wide 6 Try.f6 rfl rfl rfl rfl rfl rfl rfl ⟨rfl, rfl, rfl, rfl, rfl⟩ rfl rfl rfl rfl rfl (by kernel_rfl) Try.func6 (by kernel_rfl)
    (of_decide_eq_true (by kernel_rfl)) (by unfold Func.isWrapper; first | (rw [if_pos (by decide +kernel)]; kernel_rfl) | (rw [if_neg (by decide +kernel)]; exact ⟨rfl, rfl⟩))
    (fun os started H enc _ => lifted os started H enc)
theorem proved : Rows.ProofBytesSaid := over
#print axioms proved
end Go.Proofs.Ythgiifakcgjlaaa.proofBytes
namespace Go.Proofs.Ythgiifakcgjlaaa
/-- The row, under a short name, for the claim. -/
theorem proofBytes_holds : Rows.ProofBytesSaid := proofBytes.proved
end Go.Proofs.Ythgiifakcgjlaaa
