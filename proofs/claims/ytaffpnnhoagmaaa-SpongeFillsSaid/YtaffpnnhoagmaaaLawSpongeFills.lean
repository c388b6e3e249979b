/- The law SpongeFills: for every input it returns true, and the input reads as it did. Conditions: none. -/
import Derived.Test.YtaffpnnhoagmaaaRows
import Derived.Test.YtaffpnnhoagmaaaHLfill
import Derived.Test.YtaffpnnhoagmaaaOpens
import Derived.WalkKit
import Derived.ProofKit
import Derived.OpenShut
import Derived.ShutString
import Derived.ChangeOld
import Derived.Below
import Derived.SizedLaws
import Derived.Carry
namespace Go.Proofs.Ytaffpnnhoagmaaa.spongeFills
open Go.ChangeShapes Go.WideShapes Go.ChangeAt Go.ChangeMaps Go.RowKit Go.Proofs.YtaffpnnhoagmaaaQ Go.Proofs.YtaffpnnhoagmaaaW.PrintWords Go.Proofs.Ytaffpnnhoagmaaa.P Go.Proofs.Ytaffpnnhoagmaaa.Br
set_option linter.unusedVariables false
set_option linter.unusedSimpArgs false
theorem own : ownKnob Try.prog.godebug = none := by kernel_rfl
theorem laidOut : laidOutB Try.prog = true := by kernel_rfl
theorem u8_wf {a : Int} (h : (Lit.int .u8 a).wf = true) : 0 ≤ a ∧ a < 256 := by
  simp [Lit.wf, IntKind.min, IntKind.max, IntKind.bits, IntKind.signed] at h
  omega
theorem walked (a b : ByteArray) (wa : a.size ≤ maxLen) (wb : b.size ≤ maxLen) (w : World) : Calls Try.prog 4 #[.string a, .string b] w fun e w' => e = .returned (.bool true) ∧ Below w.heap.size w w' := by
  by_cases c1 : 2000 < a.size
  · exact lfill_far1 a b c1 w
  by_cases c2 : 2000 < b.size
  · exact lfill_far2 a b (by omega) c2 w
  have na := nB_le a.size
  have nb := nB_le b.size
  have ma := nB_lt a.size
  have mb := nB_lt b.size
  have za := fillS_size a
  have zb := fillS_size b
  by_cases c3 : a = b
  · subst c3
    exact lfill_same a _ (nB a.size) (by omega) rfl za (by omega) (fill_prefix a) w
  have c4 : fillS a ≠ fillS b := fun e => c3 (fillS_inj e)
  by_cases c5 : (fillS b).size ≤ (fillS a).size
  · exact lfill_ge a b _ _ (nB a.size) (nB b.size) (by omega) (by omega) rfl rfl za zb (by omega) (fill_prefix a) c3 c4 c5 w
  · have h := fill_suffix (a := a) (b := b) (by omega) (by omega) (by omega)
    exact lfill_lt a b _ _ (nB a.size) (nB b.size) (by omega) (by omega) rfl rfl za zb (by omega) (fill_prefix a) c3 c4 ((fillS b).size - (fillS a).size) (by omega) (by omega) (by omega) h w
set_option maxRecDepth 100000 in
theorem lifted (os : Os) (started : os.Started) (H : Type) (enc : TypeId × Value → H) :
    ReturnsInHanded {} Try.checked os 4 .any (Rows.spongeFillsSpec.pre6 enc Try.prog Try.f4 Rows.spongeFillsRow.domain false) (Rows.spongeFillsSpec.post enc Try.prog Try.f4 false true false false) := by
  refine returnsInHanded_of_change_sized (C := Try.checked) own started (by kernel_rfl) Try.func4
    (ChangeSpec.witness6 (enc := enc) (C := Try.checked) false ⟨#[], #[.string ⟨#[]⟩, .string ⟨#[]⟩], []⟩ 8 (by kernel_rfl) (by kernel_rfl) (by kernel_rfl) (by kernel_rfl)) ?_
  intro W base args ds gs before hval0 hW hcnd hsz0 _
  have hval : ∀ (j : Nat) t v, Try.f4.params[j]? = some t → args[j]? = some v → Value.okWide Try.prog W .any base t v := hval0
  have hW' := hW
  obtain ⟨p, q, hA0, hV, rfl, hfz, hnd⟩ := hW
  have hA : DataW.TrodAll enc Try.prog W 0 (fun _ => true) true Try.f4.params.toList args.toList ds p := hA0
  rw [Try.params4] at hA hval
  obtain ⟨v0, vs0, d0, ds0, p0, q0, hargs, rfl, rfl, h0, r0⟩ := trodAll_cons hA
  obtain ⟨v1, vs1, d1, ds1, p1, q1, rfl, rfl, rfl, h1, r1⟩ := trodAll_cons r0
  obtain ⟨rfl, rfl, rfl⟩ := trodAll_nil r1
  obtain rfl : args = #[v0, v1] := by cases args; simp_all
  obtain ⟨rfl, rfl⟩ := trodVars_none hV
  obtain ⟨a0, rfl, rfl, rfl, w0⟩ := open_string Try.underlying9 (hval 0 9 v0 rfl rfl) h0
  obtain ⟨a1, rfl, rfl, rfl, w1⟩ := open_string Try.underlying9 (hval 1 9 v1 rfl rfl) h1
  clear hA0 hval0 hsz0
  refine (walked a0 a1 w0 w1 W).mono fun e W' ⟨he, bel0⟩ => ?_
  have bel : Below W.heap.size W W' := bel0
  subst he
  exact ⟨_, rfl, _, _, _, [], _, [], hW', trodAll_mk1 (shut_bool Try.underlying4 _), (trodAll_cons_mk (shut_string Try.underlying9 w0) (trodAll_cons_mk (shut_string Try.underlying9 w1) trodAll_mk0)), rfl, bel.frame _, fun h => by cases h⟩
theorem over : Rows.spongeFillsRow.holds Try.pinned (OpenSpec.ofChange Rows.spongeFillsSpec) :=
  OpenClaim.holds_of_wide 4 Try.f4 rfl rfl rfl rfl rfl rfl rfl ⟨rfl, rfl, rfl, rfl, rfl⟩ rfl rfl rfl rfl rfl (by kernel_rfl) Try.func4 (by kernel_rfl)
    (of_decide_eq_true (by kernel_rfl)) (by unfold Func.isWrapper; first | (rw [if_pos (by decide +kernel)]; kernel_rfl) | (rw [if_neg (by decide +kernel)]; exact ⟨rfl, rfl⟩))
    (fun os started H enc _ => lifted os started H enc)
theorem proved : Rows.SpongeFillsSaid := over
#print axioms proved
end Go.Proofs.Ytaffpnnhoagmaaa.spongeFills
namespace Go.Proofs.Ytaffpnnhoagmaaa
/-- The row, under a short name, for the claim. -/
theorem spongeFills_holds : Rows.SpongeFillsSaid := spongeFills.proved
end Go.Proofs.Ytaffpnnhoagmaaa
