/- The law SpongePresses: for every input it returns true, and the input reads as it did. Conditions: none. -/
import Derived.Test.YtaffpnnhoagmaaaRows
import Derived.Test.YtaffpnnhoagmaaaHLpress
import Derived.Test.YtaffpnnhoagmaaaOpens
import Derived.WalkKit
import Derived.ProofKit
import Derived.OpenShut
import Derived.ShutString
import Derived.ChangeOld
import Derived.Below
import Derived.SizedLaws
import Derived.Carry
namespace Go.Proofs.Ytaffpnnhoagmaaa.spongePresses
open Go.ChangeShapes Go.WideShapes Go.ChangeAt Go.ChangeMaps Go.RowKit Go.Proofs.YtaffpnnhoagmaaaQ Go.Proofs.YtaffpnnhoagmaaaW.PrintWords Go.Proofs.Ytaffpnnhoagmaaa.P Go.Proofs.Ytaffpnnhoagmaaa.Br
set_option linter.unusedVariables false
set_option linter.unusedSimpArgs false
theorem own : ownKnob Try.prog.godebug = none := by kernel_rfl
theorem laidOut : laidOutB Try.prog = true := by kernel_rfl
theorem u8_wf {a : Int} (h : (Lit.int .u8 a).wf = true) : 0 ≤ a ∧ a < 256 := by
  simp [Lit.wf, IntKind.min, IntKind.max, IntKind.bits, IntKind.signed] at h
  omega
theorem walked (h m : ByteArray) (wh : h.size ≤ maxLen) (wm : m.size ≤ maxLen) (w : World) : Calls Try.prog 3 #[.string h, .string m] w fun e w' => e = .returned (.bool true) ∧ Below w.heap.size w w' := by
  by_cases c1 : 100 < h.size
  · exact lpress_far1 h m c1 w
  by_cases c2 : 100 < m.size
  · exact lpress_far2 h m (by omega) c2 w
  obtain ⟨A, hA⟩ := Make_ev
  by_cases c3 : h.size = 64
  · obtain ⟨B, hB⟩ := Close_ev h c3
    by_cases c4 : m.size = 64
    · obtain ⟨C, hC⟩ := Press_ev h m c3 c4
      exact lpress_yes (hA (A + B + C) (by omega)) h m c3 c4 (hB _ (by omega)) (hC _ (by omega)) w
    · exact lpress_m (hA (A + B) (by omega)) h m c3 (by omega) c4 (hB _ (by omega)) w
  · exact lpress_h (hA A (Nat.le_refl _)) h m (by omega) (by omega) c3 w
set_option maxRecDepth 100000 in
theorem lifted (os : Os) (started : os.Started) (H : Type) (enc : TypeId × Value → H) :
    ReturnsInHanded {} Try.checked os 3 .any (Rows.spongePressesSpec.pre6 enc Try.prog Try.f3 Rows.spongePressesRow.domain false) (Rows.spongePressesSpec.post enc Try.prog Try.f3 false true false false) := by
  refine returnsInHanded_of_change_sized (C := Try.checked) own started (by kernel_rfl) Try.func3
    (ChangeSpec.witness6 (enc := enc) (C := Try.checked) false ⟨#[], #[.string ⟨#[]⟩, .string ⟨#[]⟩], []⟩ 8 (by kernel_rfl) (by kernel_rfl) (by kernel_rfl) (by kernel_rfl)) ?_
  intro W base args ds gs before hval0 hW hcnd hsz0 _
  have hval : ∀ (j : Nat) t v, Try.f3.params[j]? = some t → args[j]? = some v → Value.okWide Try.prog W .any base t v := hval0
  have hW' := hW
  obtain ⟨p, q, hA0, hV, rfl, hfz, hnd⟩ := hW
  have hA : DataW.TrodAll enc Try.prog W 0 (fun _ => true) true Try.f3.params.toList args.toList ds p := hA0
  rw [Try.params3] at hA hval
  obtain ⟨v0, vs0, d0, ds0, p0, q0, hargs, rfl, rfl, h0, r0⟩ := trodAll_cons hA
  obtain ⟨v1, vs1, d1, ds1, p1, q1, rfl, rfl, rfl, h1, r1⟩ := trodAll_cons r0
  obtain ⟨rfl, rfl, rfl⟩ := trodAll_nil r1
  obtain rfl : args = #[v0, v1] := by cases args; simp_all
  obtain ⟨rfl, rfl⟩ := trodVars_none hV
  obtain ⟨a0, rfl, rfl, rfl, w0⟩ := open_string Try.underlying9 (hval 0 9 v0 rfl rfl) h0
  obtain ⟨a1, rfl, rfl, rfl, w1⟩ := open_string Try.underlying9 (hval 1 9 v1 rfl rfl) h1
  clear hA0 hval0 hsz0
  refine (walked a0 a1 w0 w1 W).mono fun e W' ⟨he, bel0⟩ => ?_
  have bel : Below W.heap.size W W' := bel0
  subst he
  exact ⟨_, rfl, _, _, _, [], _, [], hW', trodAll_mk1 (shut_bool Try.underlying4 _), (trodAll_cons_mk (shut_string Try.underlying9 w0) (trodAll_cons_mk (shut_string Try.underlying9 w1) trodAll_mk0)), rfl, bel.frame _, fun h => by cases h⟩
theorem over : Rows.spongePressesRow.holds Try.pinned (OpenSpec.ofChange Rows.spongePressesSpec) :=
  OpenClaim.holds_of_wide 3 Try.f3 rfl rfl rfl rfl rfl rfl rfl ⟨rfl, rfl, rfl, rfl, rfl⟩ rfl rfl rfl rfl rfl (by kernel_rfl) Try.func3 (by kernel_rfl)
    (of_decide_eq_true (by kernel_rfl)) (by unfold Func.isWrapper; first | (rw [if_pos (by decide +kernel)]; kernel_rfl) | (rw [if_neg (by decide +kernel)]; exact ⟨rfl, rfl⟩))
    (fun os started H enc _ => lifted os started H enc)
theorem proved : Rows.SpongePressesSaid := over
#print axioms proved
end Go.Proofs.Ytaffpnnhoagmaaa.spongePresses
namespace Go.Proofs.Ytaffpnnhoagmaaa
/-- The row, under a short name, for the claim. -/
theorem spongePresses_holds : Rows.SpongePressesSaid := spongePresses.proved
end Go.Proofs.Ytaffpnnhoagmaaa
