/- The pure statement of the law MerkleNil: its printed function answers true. Conditions: none. -/
import Derived.Test.YtmibjgjgfombaaaPx22
import Derived.Test.YtmibjgjgfombaaaMkA
import Derived.Test.YtmibjgjgfombaaaMkFew
namespace Go.Proofs.Ytmibjgjgfombaaa.Pure
open Go.RowKit Go.Proofs.Ytmibjgjgfombaaa.P Go.Proofs.Ytmibjgjgfombaaa.Br Go.Proofs.YtmibjgjgfombaaaW.PrintWords Go.Proofs.YtmibjgjgfombaaaW.PrintLast
theorem MerkleNil : steeplelaw12_MerkleNil.Pure := by
  intro l s hl hs
  obtain ⟨F, hF⟩ := Few_ev l (by omega) 16 100
  obtain ⟨A, hA⟩ := awake_ev
  have hF1 : steeplelaw01_Few.f (F + A + 1) l 16 100 = some (fewB l 16 100) := hF _ (by omega)
  have hA1 : steeplelaw12_awake.f (F + A) = some true := hA _ (by omega)
  refine ⟨F + A + 1, ?_⟩
  unfold steeplelaw12_MerkleNil.f
  rw [hF1, Option.bind_some]
  have far : steeplelaw12_MerkleNil.j0 (F + A + 1) l s true = some true := by
    simp only [steeplelaw12_MerkleNil.j0]
    rw [if_pos trivial, hA1, Option.bind_some]
  cases fewB l 16 100 with
  | false =>
    rw [if_neg (by decide)]
    exact far
  | true =>
    rw [if_pos rfl]
    by_cases c : (s.size : Int) > 100
    · rw [decide_eq_true c]
      exact far
    · rw [decide_eq_false c]
      have e1 : (s ++ (⟨#[120]⟩ : ByteArray)).size = s.size + 1 := ByteArray.size_append
      have l1 : merkle_LeafNil.f s = some ⟨#[]⟩ := by unfold merkle_LeafNil.f; rw [if_pos (by omega)]
      have l2 : merkle_NodeNil.f s s = some ⟨#[]⟩ := by unfold merkle_NodeNil.f; rw [if_pos (by omega)]
      have l3 : merkle_TwinNil.f 0 0 s (s ++ (⟨#[120]⟩ : ByteArray)) [] [] = some (⟨#[]⟩, ⟨#[]⟩, false) := by unfold merkle_TwinNil.f; rw [if_pos (by omega)]
      have l4 : merkle_CheckNil.f (F + A) (⟨#[]⟩ : ByteArray) 0 0 s [] = some false := by unfold merkle_CheckNil.f; rw [if_pos (by omega)]
      have l5 : ((⟨#[]⟩ : ByteArray) ++ ⟨#[]⟩) = ⟨#[]⟩ := by first | rfl | decide
      have l6 : (⟨#[]⟩ : ByteArray).toList = [] := by rw [ByteArray.toList_eq]
      have l7 : (⟨#[]⟩ : ByteArray).size = 0 := rfl
      simp only [steeplelaw12_MerkleNil.j0, merkle_RowsNil.f, merkle_RootNil.f, sponge_SumNil.f]
      rw [if_neg (by decide), Option.bind_some, Option.bind_some, if_pos (by omega), l3, Option.bind_some, hA1, Option.bind_some, if_pos rfl, if_pos rfl, if_pos rfl, if_neg (by decide), l1, Option.bind_some, l2, Option.bind_some, if_pos (by decide), Option.bind_some, l5, if_pos (by decide), l5, if_pos l6, l4, Option.bind_some]
      rfl
end Go.Proofs.Ytmibjgjgfombaaa.Pure
