/- The list of the conjugates (frob.Conjugates). Conditions: none. -/
import Derived.Test.YtlegcabfgkccmaaHFco
import Derived.Test.YtlegcabfgkccmaaPx11
import Derived.Test.YtlegcabfgkccmaaPx3
set_option linter.unusedVariables false
namespace Go.Proofs.Ytlegcabfgkccmaa.P
open Go.RowKit Go.Proofs.YtlegcabfgkccmaaX Go.Proofs.YtlegcabfgkccmaaW.PrintWords Go.Proofs.YtlegcabfgkccmaaW.PrintLast Go.Proofs.YtlegcabfgkccmaaW.PrintMore
def frob_Conjugates.f (k : Nat) (a0 a1 a2_0 a2_1 : Int) : Option (List S24) := frob_co (tower_Square.f k) k a0 a1 a2_0 a2_1
theorem frob_Conjugates.mono : ∀ a0 a1 a2 a3 k, LeO (frob_Conjugates.f k a0 a1 a2 a3) (frob_Conjugates.f (k + 1) a0 a1 a2 a3) := fun a0 a1 a2 a3 k => by
  unfold frob_Conjugates.f frob_co
  exact LeO.bind (frob_fits.mono _ _ _ _ _) (fun t => LeO.ite (LeO.ite (LeO.bind (cj_mono (fun _ _ _ => tower_Square.mono _ _ _ _) _ _ _ _) (fun _ => LeO.refl _)) (LeO.refl _)) (LeO.refl _))
theorem frob_Conjugates.calls (k : Nat) (a0 : Int) (a1 : Int) (a2_0 : Int) (a2_1 : Int) (r : List S24) (w : World) (h : frob_Conjugates.f k a0 a1 a2_0 a2_1 = some r) :
    Calls Try.prog 27 #[.int .i64 a0, .int .i64 a1, .agg #[.int .u64 a2_0, .int .u64 a2_1]] w fun e w' => ∃ v0_ : Value, e = .returned (v0_) ∧ Kd.R k24 24 w' w.heap.size (fun _ => True) v0_ r ∧ Below w.heap.size w w' :=
  frob_co.calls (fun l b0 b1 s0 s1 v h => tower_Square.calls k l b0 b1 s0 s1 v h) k a0 a1 a2_0 a2_1 r w h
end Go.Proofs.Ytlegcabfgkccmaa.P
