/- Lists of elements as the code has them. Conditions: those that each theorem names. -/
import Derived.Test.YtlegcabfgkccmaaBrBits
import Derived.Test.YtlegcabfgkccmaaPx0
set_option linter.unusedVariables false
namespace Go.Proofs.Ytlegcabfgkccmaa.Br
open Go.RowKit Go.Proofs.YtlegcabfgkccmaaT Go.Proofs.Ytlegcabfgkccmaa.P Go.Proofs.YtlegcabfgkccmaaW.PrintWords Go.Proofs.YtlegcabfgkccmaaW.PrintLast Go.Proofs.YtlegcabfgkccmaaW.PrintMore
/-! Lists of elements. -/
def elS (x : T 7) : S24 := ⟨hiW x, loW x⟩
theorem elS_of {l : List S24} (h : ∀ y ∈ l, (Lit.int .u64 y.f0).wf = true ∧ (Lit.int .u64 y.f1).wf = true) : ∃ m : List (T 7), l = m.map elS := by
  induction l with
  | nil => exact ⟨[], rfl⟩
  | cons a l ih =>
    obtain ⟨m, rfl⟩ := ih (fun y hy => h y (List.mem_cons_of_mem _ hy))
    obtain ⟨x, h1, h2⟩ := el_of (h a List.mem_cons_self).1 (h a List.mem_cons_self).2
    refine ⟨x :: m, ?_⟩
    obtain ⟨a0, a1⟩ := a
    simp only at h1 h2
    subst h1 h2
    rfl
theorem rd_elS {m : List (T 7)} {i : Nat} (h : i < m.length) : rd_T24 (m.map elS) (i : Int) = elS m[i] := by
  unfold rd_T24
  rw [Int.toNat_natCast, List.getD_eq_getElem?_getD, List.getElem?_map, List.getElem?_eq_getElem h]
  rfl
theorem elS_f0 (x : T 7) : (elS x).f0 = hiW x := (rfl)
theorem elS_f1 (x : T 7) : (elS x).f1 = loW x := (rfl)
theorem rd_e0 (x : T 7) (l : List S24) : rd_T24 (elS x :: l) 0 = elS x := (rfl)
theorem rd_e1 (y : S24) (x : T 7) (l : List S24) : rd_T24 (y :: elS x :: l) 1 = elS x := (rfl)
theorem rd_e2 (z y : S24) (x : T 7) (l : List S24) : rd_T24 (z :: y :: elS x :: l) 2 = elS x := (rfl)
end Go.Proofs.Ytlegcabfgkccmaa.Br
