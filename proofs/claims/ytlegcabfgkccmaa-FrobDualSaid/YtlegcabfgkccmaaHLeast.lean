/- The least polynomial of an element (frob.Least). Conditions: none. -/
import Derived.Test.YtlegcabfgkccmaaHFls
import Derived.Test.YtlegcabfgkccmaaPx3
import Derived.Test.YtlegcabfgkccmaaPx4
import Derived.Test.YtlegcabfgkccmaaPx5
set_option linter.unusedVariables false
namespace Go.Proofs.Ytlegcabfgkccmaa.P
open Go.RowKit Go.Proofs.YtlegcabfgkccmaaX Go.Proofs.YtlegcabfgkccmaaW.PrintWords Go.Proofs.YtlegcabfgkccmaaW.PrintLast Go.Proofs.YtlegcabfgkccmaaW.PrintMore
theorem ls_in_mono : ∀ k, ∀ y0 y1 y2 y3 y4 y5 y6, LeO (ls_in k y0 y1 y2 y3 y4 y5 y6) (ls_in (k + 1) y0 y1 y2 y3 y4 y5 y6)
  | 0 => fun _ _ _ _ _ _ _ r h => by simp [ls_in] at h
  | k + 1 => by
    have ih := ls_in_mono k
    intro y0 y1 y2 y3 y4 y5 y6
    unfold ls_in
    repeat' first
      | (with_reducible exact ih _ _ _ _ _ _ _)
      | (with_reducible exact tower_Mul.mono _ _ _ _ _ _)
      | (with_reducible exact LeO.refl _)
      | (with_reducible exact LeO.none _)
      | (with_reducible refine LeO.ite ?_ ?_)
      | (with_reducible refine LeO.bind ?_ (fun _ => ?_))
theorem ls_out_mono : ∀ k, ∀ y0 y1 y2 y3, LeO (ls_out k y0 y1 y2 y3) (ls_out (k + 1) y0 y1 y2 y3)
  | 0 => fun _ _ _ _ r h => by simp [ls_out] at h
  | k + 1 => by
    have ih := ls_out_mono k
    intro y0 y1 y2 y3
    unfold ls_out
    repeat' first
      | (with_reducible exact ih _ _ _ _)
      | (with_reducible exact LeO.refl _)
      | (with_reducible exact LeO.none _)
      | (with_reducible refine LeO.ite ?_ ?_)
      | (with_reducible refine LeO.bind ?_ (fun _ => ?_))
theorem ls_all_mono (k : Nat) (a0 : Int) : ∀ (l : List (Int × Int)) (p : List S24), LeO (ls_all k a0 p l) (ls_all (k + 1) a0 p l)
  | [], _ => LeO.refl _
  | c :: l, p => LeO.bind (ls_in_mono k _ _ _ _ _ _ _) (fun q => ls_all_mono k a0 l q)
def frob_Least.f (k : Nat) (a0 a1_0 a1_1 : Int) : Option (List Bool) := frob_ls (tower_Square.f k) k a0 a1_0 a1_1
theorem frob_Least.mono : ∀ a0 a1 a2 k, LeO (frob_Least.f k a0 a1 a2) (frob_Least.f (k + 1) a0 a1 a2) := fun a0 a1 a2 k => by
  unfold frob_Least.f frob_ls
  exact LeO.bind (octet_Of.mono _ _ _ _) (fun t => LeO.ite (LeO.bind (LeO.refl _) (fun o => LeO.bind (tower_Level.mono _ _ _) (fun lv => LeO.ite (LeO.bind (cj_mono (fun _ _ _ => tower_Square.mono _ _ _ _) _ _ _ _) (fun l => LeO.bind (ls_all_mono k _ _ _) (fun p => ls_out_mono k _ _ _ _))) (LeO.refl _)))) (LeO.refl _))
theorem frob_Least.calls (k : Nat) (a0 : Int) (a1_0 : Int) (a1_1 : Int) (r : List Bool) (w : World) (h : frob_Least.f k a0 a1_0 a1_1 = some r) :
    Calls Try.prog 16 #[.int .i64 a0, .agg #[.int .u64 a1_0, .int .u64 a1_1]] w fun e w' => ∃ v0_ : Value, e = .returned (v0_) ∧ Kd.R Kd.bool 4 w' w.heap.size (fun _ => True) v0_ r ∧ Below w.heap.size w w' :=
  frob_ls.calls (fun l b0 b1 s0 s1 v h => tower_Square.calls k l b0 b1 s0 s1 v h) k a0 a1_0 a1_1 r w h
end Go.Proofs.Ytlegcabfgkccmaa.P
