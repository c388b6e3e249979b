/- The pure statement of the law MerkleRoots: its printed function answers true. Conditions: none. -/
import Derived.Test.YtmibjgjgfombaaaPx15
import Derived.Test.YtmibjgjgfombaaaMkA
import Derived.Test.YtmibjgjgfombaaaMkR
namespace Go.Proofs.Ytmibjgjgfombaaa.Pure
open Go.RowKit Go.Proofs.Ytmibjgjgfombaaa.P Go.Proofs.Ytmibjgjgfombaaa.Br Go.Proofs.YtmibjgjgfombaaaW.PrintWords Go.Proofs.YtmibjgjgfombaaaW.PrintLast
theorem MerkleRoots : steeplelaw12_MerkleRoots.Pure := by
  intro l a hl ha
  refine Ev.rounds (g := fun k => steeplelaw12_MerkleRoots.f k l a) ?_
  have far : Ev (fun k => steeplelaw12_MerkleRoots.j0 k l a true) true := by
    refine Ev.succ ?_
    simp only [steeplelaw12_MerkleRoots.j0]
    exact Ev.pos (by trivial) (Ev.bind awake_ev (Ev.now _))
  unfold steeplelaw12_MerkleRoots.f
  refine Ev.bind (Few_ev l (by omega) 16 100) ?_
  cases hf : fewB l 16 100 with
  | false => exact Ev.neg (by decide) far
  | true =>
    obtain ⟨h16, h100⟩ := fewB_iff hf
    have hz : ∀ s ∈ l, s.size ≤ 1000000 := fun s hs => by have := h100 s hs; omega
    refine Ev.pos rfl (Ev.bind awake_ev (Ev.succ ?_))
    simp only [steeplelaw12_MerkleRoots.j0]
    refine Ev.neg (by decide) (Ev.bind (Ev.const (show perm_Make.f = some 0 from rfl)) ?_)
    have hH := Height_ev l.length
    unfold heightI at hH
    cases hn : heightN l.length with
    | none =>
      rw [hn] at hH
      have hr : merkle_Rows.f 0 l = some ([], 6) := by unfold merkle_Rows.f; rw [hn]
      have ht : merkle_Root.f 0 l = some (⟨#[]⟩, 6) := by
        unfold merkle_Root.f
        rw [hr, Option.bind_some]
        exact if_neg (by decide)
      have e0 : (⟨#[]⟩ : ByteArray).toList = [] := by rw [ByteArray.toList_eq]
      refine Ev.bind (Ev.const hr) (Ev.bind (Ev.const ht) (Ev.bind (Path_none [] a (Or.inl rfl)) (Ev.bind hH ?_)))
      exact Ev.pos (by decide) (Ev.pos rfl (Ev.pos rfl (Ev.pos rfl (Ev.pos e0 (Ev.now _)))))
    | some h =>
      rw [hn] at hH
      have hH2 : Ev (fun k => steepleref12_Height.f k (l.length : Int)) (h : Int) := hH
      obtain ⟨hh, he⟩ := heightN_some hn
      have hp := Nat.two_pow_pos h
      have hm : (l.map leafS).length = 2 ^ h := by rw [List.length_map, he]
      have hrl := rowsL_len h (l.map leafS)
      have e1 : wrap64 ((h : Int) + 1) = ((h + 1 : Nat) : Int) := by unfold wrap64; omega
      have hr0 : rd_L1 (rowsL h (l.map leafS)) 0 = l.map leafS := by cases h <;> rfl
      refine Ev.bind (Ev.const (rows_f 0 l hn hz)) (Ev.bind (Ev.const (Root_ok 0 l h _ hm (by omega) (rows_f 0 l hn hz))) ?_)
      obtain ⟨p, hpe, hj⟩ : ∃ p : List ByteArray × Int, Ev (fun k => merkle_Path.f k (rowsL h (l.map leafS)) a) p ∧ Ev (fun k => steeplelaw12_MerkleRoots.j1 k l a (rowsL h (l.map leafS)) p.1 p.2 (decide (a < 0 ∨ a ≥ (l.length : Int))) bl tl) true := by
        by_cases c : a < 0 ∨ a ≥ (l.length : Int)
        · refine ⟨([], 4), Path_none _ a (Or.inr (by rw [hr0, List.length_map]; exact c)), ?_⟩
          rw [decide_eq_true c]
          refine Ev.succ ?_
          simp only [steeplelaw12_MerkleRoots.j1]
          exact Ev.pos (by trivial) (Ev.pos (by trivial) (Ev.now _))
        · obtain ⟨i, rfl⟩ : ∃ i : Nat, a = i := ⟨a.toNat, by omega⟩
          have hi : i < l.length := by omega
          have hpath := Path_ok (rowsL h (l.map leafS)) i (by omega) (by omega) (rowsL_shape h _ hm) (by rw [hrl, Nat.add_sub_cancel]; omega)
          rw [pathD_rows] at hpath
          refine ⟨_, hpath, ?_⟩
          rw [decide_eq_false c]
          refine Ev.succ ?_
          simp only [steeplelaw12_MerkleRoots.j1]
          rw [hr0, rdOf_at hi, rdOf_getD, leafs_get l hi]
          refine Ev.neg (by decide) (Ev.pos (by trivial) (Ev.bind (refPath_ev h l i he (by omega) (by omega) hz) (Ev.bind (Texts_ev _ (by rw [pathL_len]; omega)) ?_)))
          refine Ev.pos (by trivial) (Ev.pos (by omega) (Ev.pos (by omega) (Ev.pos (by rw [List.length_map]; omega) (Ev.pos (by omega) (Ev.bind (refLeaf_ev _ (hz _ (List.getElem_mem hi))) ?_)))))
          have e : ((leafS l[i]).toList == (leafS l[i]).toList) = true := by simp
          rw [e]
          exact Ev.now _
      refine Ev.bind hpe (Ev.bind hH2 (Ev.neg (by omega) (Ev.bind Make_ev (Ev.pos rfl (Ev.pos rfl (Ev.bind (refRoot_ev h l he (by omega) hz) (Ev.pos rfl (Ev.bind hH2 (Ev.pos (by rw [e1, hrl]) ?_)))))))))
      by_cases c : a < 0
      · rw [decide_eq_true (Or.inl c)] at hj
        exact Ev.pos c hj
      · have e : decide (a ≥ (l.length : Int)) = decide (a < 0 ∨ a ≥ (l.length : Int)) := decide_eq_decide.2 ⟨fun q => Or.inr q, fun q => q.resolve_left c⟩
        refine Ev.neg c ?_
        rw [e]
        exact hj
end Go.Proofs.Ytmibjgjgfombaaa.Pure
