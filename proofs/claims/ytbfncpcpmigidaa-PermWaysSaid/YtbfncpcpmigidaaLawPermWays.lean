/- The law PermWays: for every input it returns true, and the input reads as it did. Conditions: none. -/
import Derived.Test.YtbfncpcpmigidaaRows
import Derived.Test.YtbfncpcpmigidaaHPways
import Derived.Test.YtbfncpcpmigidaaPmRefW
import Derived.Test.YtbfncpcpmigidaaOpens
import Derived.WalkKit
import Derived.ProofKit
import Derived.OpenShut
import Derived.ShutString
import Derived.ChangeOld
import Derived.Below
import Derived.SizedLaws
import Derived.Carry
namespace Go.Proofs.Ytbfncpcpmigidaa.permWays
open Go.ChangeShapes Go.WideShapes Go.ChangeAt Go.ChangeMaps Go.RowKit Go.Proofs.YtbfncpcpmigidaaQ Go.Proofs.YtbfncpcpmigidaaW.PrintWords Go.Proofs.Ytbfncpcpmigidaa.P Go.Proofs.Ytbfncpcpmigidaa.Br
set_option linter.unusedVariables false
set_option linter.unusedSimpArgs false
theorem own : ownKnob Try.prog.godebug = none := by kernel_rfl
theorem laidOut : laidOutB Try.prog = true := by kernel_rfl
theorem u8_wf {a : Int} (h : (Lit.int .u8 a).wf = true) : 0 ≤ a ∧ a < 256 := by
  simp [Lit.wf, IntKind.min, IntKind.max, IntKind.bits, IntKind.signed] at h
  omega
theorem walked (s : ByteArray) (hs : s.size ≤ maxLen) (w : World) : Calls Try.prog 5 #[.string s] w fun e w' => e = .returned (.bool true) ∧ Below w.heap.size w w' := by
  have hm := fun (b q : Nat) (hb : b < 256) (hq : q ∈ mixL) => (mulPair_f b q hb hq).2.2
  by_cases h2 : 200 < s.size
  · exact pways_far 30 bxN mlN box_f hm bxN_lt bxN_inj bx0 bx1 ml21 s h2 w
  by_cases h : s.size = 64
  · obtain ⟨A, hA⟩ := Make_ev
    obtain ⟨B, hB⟩ := Way_ev s h false
    obtain ⟨C, hC⟩ := Way_ev s h true
    exact pways_yes 30 bxN mlN box_f hm bxN_lt bxN_inj bx0 bx1 ml21 mlN_lt s _ _ h rfl rfl (hA (A + B + C) (by omega)) (hB (A + B + C) (by omega)) (hC (A + B + C) (by omega)) w
  · exact pways_size 30 bxN mlN box_f hm bxN_lt bxN_inj bx0 bx1 ml21 s (by omega) h w
set_option maxRecDepth 100000 in
theorem lifted (os : Os) (started : os.Started) (H : Type) (enc : TypeId × Value → H) :
    ReturnsInHanded {} Try.checked os 5 .any (Rows.permWaysSpec.pre6 enc Try.prog Try.f5 Rows.permWaysRow.domain false) (Rows.permWaysSpec.post enc Try.prog Try.f5 false true false false) := by
  refine returnsInHanded_of_change_sized (C := Try.checked) own started (by kernel_rfl) Try.func5
    (ChangeSpec.witness6 (enc := enc) (C := Try.checked) false ⟨#[], #[.string ⟨#[]⟩], []⟩ 8 (by kernel_rfl) (by kernel_rfl) (by kernel_rfl) (by kernel_rfl)) ?_
  intro W base args ds gs before hval0 hW hcnd hsz0 _
  have hval : ∀ (j : Nat) t v, Try.f5.params[j]? = some t → args[j]? = some v → Value.okWide Try.prog W .any base t v := hval0
  have hW' := hW
  obtain ⟨p, q, hA0, hV, rfl, hfz, hnd⟩ := hW
  have hA : DataW.TrodAll enc Try.prog W 0 (fun _ => true) true Try.f5.params.toList args.toList ds p := hA0
  rw [Try.params5] at hA hval
  obtain ⟨v0, vs0, d0, ds0, p0, q0, hargs, rfl, rfl, h0, r0⟩ := trodAll_cons hA
  obtain ⟨rfl, rfl, rfl⟩ := trodAll_nil r0
  obtain rfl : args = #[v0] := by cases args; simp_all
  obtain ⟨rfl, rfl⟩ := trodVars_none hV
  obtain ⟨a0, rfl, rfl, rfl, w0⟩ := open_string Try.underlying9 (hval 0 9 v0 rfl rfl) h0
  clear hA0 hval0 hsz0
  refine (walked a0 w0 W).mono fun e W' ⟨he, bel0⟩ => ?_
  have bel : Below W.heap.size W W' := bel0
  subst he
  exact ⟨_, rfl, _, _, _, [], _, [], hW', trodAll_mk1 (shut_bool Try.underlying4 _), (trodAll_cons_mk (shut_string Try.underlying9 w0) trodAll_mk0), rfl, bel.frame _, fun h => by cases h⟩
theorem over : Rows.permWaysRow.holds Try.pinned (OpenSpec.ofChange Rows.permWaysSpec) :=
  OpenClaim.holds_of_wide 5 Try.f5 rfl rfl rfl rfl rfl rfl rfl ⟨rfl, rfl, rfl, rfl, rfl⟩ rfl rfl rfl rfl rfl (by kernel_rfl) Try.func5 (by kernel_rfl)
    (of_decide_eq_true (by kernel_rfl)) (by unfold Func.isWrapper; first | (rw [if_pos (by decide +kernel)]; kernel_rfl) | (rw [if_neg (by decide +kernel)]; exact ⟨rfl, rfl⟩))
    (fun os started H enc _ => lifted os started H enc)
theorem proved : Rows.PermWaysSaid := over
#print axioms proved
end Go.Proofs.Ytbfncpcpmigidaa.permWays
namespace Go.Proofs.Ytbfncpcpmigidaa
/-- The row, under a short name, for the claim. -/
theorem permWays_holds : Rows.PermWaysSaid := permWays.proved
end Go.Proofs.Ytbfncpcpmigidaa
