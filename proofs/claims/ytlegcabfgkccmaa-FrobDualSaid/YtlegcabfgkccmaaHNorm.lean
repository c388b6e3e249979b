/- The product of the conjugates (frob.Norm). Conditions: none. -/
import Derived.Test.YtlegcabfgkccmaaHFnm
import Derived.Test.YtlegcabfgkccmaaPx3
import Derived.Test.YtlegcabfgkccmaaPx4
set_option linter.unusedVariables false
namespace Go.Proofs.Ytlegcabfgkccmaa.P
open Go.RowKit Go.Proofs.YtlegcabfgkccmaaX Go.Proofs.YtlegcabfgkccmaaW.PrintWords Go.Proofs.YtlegcabfgkccmaaW.PrintLast Go.Proofs.YtlegcabfgkccmaaW.PrintMore
def frob_Norm.f (k : Nat) (a0 a1 a2_0 a2_1 : Int) : Option (Int × Int) := frob_nm (tower_Square.f k) k a0 a1 a2_0 a2_1
theorem frob_Norm.mono : ∀ a0 a1 a2 a3 k, LeO (frob_Norm.f k a0 a1 a2 a3) (frob_Norm.f (k + 1) a0 a1 a2 a3) := fun a0 a1 a2 a3 k => by
  unfold frob_Norm.f frob_nm
  exact LeO.bind (frob_fits.mono _ _ _ _ _) (fun t => LeO.ite (LeO.ite (LeO.bind (cj_mono (fun _ _ _ => tower_Square.mono _ _ _ _) _ _ _ _) (fun l => LeO.bind (LeO.refl _) (fun o => mull_mono k a0 l o))) (LeO.refl _)) (LeO.refl _))
theorem frob_Norm.calls (k : Nat) (a0 : Int) (a1 : Int) (a2_0 : Int) (a2_1 : Int) (r1 : Int) (r2 : Int) (w : World) (h : frob_Norm.f k a0 a1 a2_0 a2_1 = some (r1, r2)) :
    Calls Try.prog 15 #[.int .i64 a0, .int .i64 a1, .agg #[.int .u64 a2_0, .int .u64 a2_1]] w fun e w' => e = .returned (.agg #[.int .u64 r1, .int .u64 r2]) ∧ Below w.heap.size w w' :=
  frob_nm.calls (fun l b0 b1 s0 s1 v h => tower_Square.calls k l b0 b1 s0 s1 v h) k a0 a1 a2_0 a2_1 r1 r2 w h
end Go.Proofs.Ytlegcabfgkccmaa.P
