/- Texts of this session, merged: BrList BrRefList. Conditions: those that each theorem names. -/
import Derived.Test.YthgiifakcgjlaaaBrBits
import Derived.Test.YthgiifakcgjlaaaPx0
import Derived.Test.YthgiifakcgjlaaaPx5
section
/- Lists of elements as the code has them. Conditions: those that each theorem names. -/
set_option linter.unusedVariables false
namespace Go.Proofs.Ythgiifakcgjlaaa.Br
open Go.RowKit Go.Proofs.YthgiifakcgjlaaaT Go.Proofs.Ythgiifakcgjlaaa.P Go.Proofs.YthgiifakcgjlaaaW.PrintWords Go.Proofs.YthgiifakcgjlaaaW.PrintLast Go.Proofs.YthgiifakcgjlaaaW.PrintMore
/-! Lists of elements. -/
def elS (x : T 7) : S61 := ⟨hiW x, loW x⟩
theorem elS_of {l : List S61} (h : ∀ y ∈ l, (Lit.int .u64 y.f0).wf = true ∧ (Lit.int .u64 y.f1).wf = true) : ∃ m : List (T 7), l = m.map elS := by
  induction l with
  | nil => exact ⟨[], rfl⟩
  | cons a l ih =>
    obtain ⟨m, rfl⟩ := ih (fun y hy => h y (List.mem_cons_of_mem _ hy))
    obtain ⟨x, h1, h2⟩ := el_of (h a List.mem_cons_self).1 (h a List.mem_cons_self).2
    refine ⟨x :: m, ?_⟩
    obtain ⟨a0, a1⟩ := a
    simp only at h1 h2
    subst h1 h2
    rfl
theorem rd_elS {m : List (T 7)} {i : Nat} (h : i < m.length) : rd_T61 (m.map elS) (i : Int) = elS m[i] := by
  unfold rd_T61
  rw [Int.toNat_natCast, List.getD_eq_getElem?_getD, List.getElem?_map, List.getElem?_eq_getElem h]
  rfl
theorem elS_f0 (x : T 7) : (elS x).f0 = hiW x := (rfl)
theorem elS_f1 (x : T 7) : (elS x).f1 = loW x := (rfl)
end Go.Proofs.Ythgiifakcgjlaaa.Br
end

section
/- Lists of elements in the document's type. Conditions: lists are short. -/
set_option linter.unusedVariables false
namespace Go.Proofs.Ythgiifakcgjlaaa.Br
open Go.RowKit Go.Proofs.YthgiifakcgjlaaaT Go.Proofs.Ythgiifakcgjlaaa.P Go.Proofs.YthgiifakcgjlaaaW.PrintWords Go.Proofs.YthgiifakcgjlaaaW.PrintLast Go.Proofs.YthgiifakcgjlaaaW.PrintMore
/-! Elements in the document's own type. -/
def elR (x : T 7) : S70 := ⟨hiW x, loW x⟩
theorem elR_f0 (x : T 7) : (elR x).f0 = hiW x := (rfl)
theorem elR_f1 (x : T 7) : (elR x).f1 = loW x := (rfl)
theorem rd_elR {m : List (T 7)} {i : Nat} (h : i < m.length) : rd_T70 (m.map elR) (i : Int) = elR m[i] := by
  unfold rd_T70
  rw [Int.toNat_natCast, List.getD_eq_getElem?_getD, List.getElem?_map, List.getElem?_eq_getElem h]
  rfl
end Go.Proofs.Ythgiifakcgjlaaa.Br
end
