/- The law PermTables: for every input it returns true, and the input reads as it did. Conditions: none. -/
import Derived.Test.YtbfncpcpmigidaaRows
import Derived.Test.YtbfncpcpmigidaaHPtab
import Derived.Test.YtbfncpcpmigidaaPmRef
import Derived.Test.YtbfncpcpmigidaaOpens
import Derived.WalkKit
import Derived.ProofKit
import Derived.OpenShut
import Derived.ShutString
import Derived.ChangeOld
import Derived.Below
import Derived.SizedLaws
import Derived.Carry
namespace Go.Proofs.Ytbfncpcpmigidaa.permTables
open Go.ChangeShapes Go.WideShapes Go.ChangeAt Go.RowKit Go.Proofs.YtbfncpcpmigidaaQ Go.Proofs.YtbfncpcpmigidaaW.PrintWords Go.Proofs.Ytbfncpcpmigidaa.P Go.Proofs.Ytbfncpcpmigidaa.Br
set_option linter.unusedVariables false
set_option linter.unusedSimpArgs false
theorem own : ownKnob Try.prog.godebug = none := by kernel_rfl
theorem laidOut : laidOutB Try.prog = true := by kernel_rfl
theorem u8_wf {a : Int} (h : (Lit.int .u8 a).wf = true) : 0 ≤ a ∧ a < 256 := by
  simp [Lit.wf, IntKind.min, IntKind.max, IntKind.bits, IntKind.signed] at h
  omega
theorem walked (a q : Int) (ha : 0 ≤ a ∧ a < 256) (w : World) : Calls Try.prog 3 #[.int .u8 a, .int .i64 q] w fun e w' => e = .returned (.bool true) ∧ Below w.heap.size w w' := by
  obtain ⟨b, rfl⟩ := Int.eq_ofNat_of_zero_le ha.1
  have hb : b < 256 := by omega
  have hm := fun (b q : Nat) (hb : b < 256) (hq : q ∈ mixL) => (mulPair_f b q hb hq).2.2
  have hl := fun (b q : Nat) (hb : b < 256) (hq : q ∈ mixL) => (mulPair_f b q hb hq).2.1
  obtain ⟨K, hrb, hrt⟩ := refs_at
  by_cases c : q < 0 ∨ q > 7
  · exact ptab_none 30 K bxN mlN box_f hm bxN_lt bxN_inj bx0 bx1 ml21 hrb hrt hl b hb q c w
  · have d : q = 0 ∨ q = 1 ∨ q = 2 ∨ q = 3 ∨ q = 4 ∨ q = 5 ∨ q = 6 ∨ q = 7 := by omega
    rcases d with rfl | rfl | rfl | rfl | rfl | rfl | rfl | rfl
    · exact ptab_0 30 K bxN mlN box_f hm bxN_lt bxN_inj bx0 bx1 ml21 hrb hrt hl b hb w
    · exact ptab_1 30 K bxN mlN box_f hm bxN_lt bxN_inj bx0 bx1 ml21 hrb hrt hl b hb w
    · exact ptab_2 30 K bxN mlN box_f hm bxN_lt bxN_inj bx0 bx1 ml21 hrb hrt hl b hb w
    · exact ptab_3 30 K bxN mlN box_f hm bxN_lt bxN_inj bx0 bx1 ml21 hrb hrt hl b hb w
    · exact ptab_4 30 K bxN mlN box_f hm bxN_lt bxN_inj bx0 bx1 ml21 hrb hrt hl b hb w
    · exact ptab_5 30 K bxN mlN box_f hm bxN_lt bxN_inj bx0 bx1 ml21 hrb hrt hl b hb w
    · exact ptab_6 30 K bxN mlN box_f hm bxN_lt bxN_inj bx0 bx1 ml21 hrb hrt hl b hb w
    · exact ptab_7 30 K bxN mlN box_f hm bxN_lt bxN_inj bx0 bx1 ml21 hrb hrt hl b hb w
set_option maxRecDepth 100000 in
theorem lifted (os : Os) (started : os.Started) (H : Type) (enc : TypeId × Value → H) :
    ReturnsInHanded {} Try.checked os 3 .any (Rows.permTablesSpec.pre6 enc Try.prog Try.f3 Rows.permTablesRow.domain false) (Rows.permTablesSpec.post enc Try.prog Try.f3 false true false false) := by
  refine returnsInHanded_of_change_sized (C := Try.checked) own started (by kernel_rfl) Try.func3
    (ChangeSpec.witness6 (enc := enc) (C := Try.checked) false ⟨#[], #[.int .u8 0, .int .i64 0], []⟩ 8 (by kernel_rfl) (by kernel_rfl) (by kernel_rfl) (by kernel_rfl)) ?_
  intro W base args ds gs before hval0 hW hcnd hsz0 _
  have hval : ∀ (j : Nat) t v, Try.f3.params[j]? = some t → args[j]? = some v → Value.okWide Try.prog W .any base t v := hval0
  have hW' := hW
  obtain ⟨p, q, hA0, hV, rfl, hfz, hnd⟩ := hW
  have hA : DataW.TrodAll enc Try.prog W 0 (fun _ => true) true Try.f3.params.toList args.toList ds p := hA0
  rw [Try.params3] at hA hval
  obtain ⟨v0, vs0, d0, ds0, p0, q0, hargs, rfl, rfl, h0, r0⟩ := trodAll_cons hA
  obtain ⟨v1, vs1, d1, ds1, p1, q1, rfl, rfl, rfl, h1, r1⟩ := trodAll_cons r0
  obtain ⟨rfl, rfl, rfl⟩ := trodAll_nil r1
  obtain rfl : args = #[v0, v1] := by cases args; simp_all
  obtain ⟨rfl, rfl⟩ := trodVars_none hV
  obtain ⟨a0, rfl, rfl, rfl, w0⟩ := open_int Try.underlying5 (hval 0 5 v0 rfl rfl) h0
  obtain ⟨a1, rfl, rfl, rfl, w1⟩ := open_int Try.underlying3 (hval 1 3 v1 rfl rfl) h1
  clear hA0 hval0 hsz0
  refine (walked a0 a1 (u8_wf w0) W).mono fun e W' ⟨he, bel0⟩ => ?_
  have bel : Below W.heap.size W W' := bel0
  subst he
  exact ⟨_, rfl, _, _, _, [], _, [], hW', trodAll_mk1 (shut_bool Try.underlying4 _), (trodAll_cons_mk (shut_int Try.underlying5 w0) (trodAll_cons_mk (shut_int Try.underlying3 w1) trodAll_mk0)), rfl, bel.frame _, fun h => by cases h⟩
theorem over : Rows.permTablesRow.holds Try.pinned (OpenSpec.ofChange Rows.permTablesSpec) :=
  OpenClaim.holds_of_wide 3 Try.f3 rfl rfl rfl rfl rfl rfl rfl ⟨rfl, rfl, rfl, rfl, rfl⟩ rfl rfl rfl rfl rfl (by kernel_rfl) Try.func3 (by kernel_rfl)
    (of_decide_eq_true (by kernel_rfl)) (by unfold Func.isWrapper; first | (rw [if_pos (by decide +kernel)]; kernel_rfl) | (rw [if_neg (by decide +kernel)]; exact ⟨rfl, rfl⟩))
    (fun os started H enc _ => lifted os started H enc)
theorem proved : Rows.PermTablesSaid := over
#print axioms proved
end Go.Proofs.Ytbfncpcpmigidaa.permTables
namespace Go.Proofs.Ytbfncpcpmigidaa
/-- The row, under a short name, for the claim. -/
theorem permTables_holds : Rows.PermTablesSaid := permTables.proved
end Go.Proofs.Ytbfncpcpmigidaa
