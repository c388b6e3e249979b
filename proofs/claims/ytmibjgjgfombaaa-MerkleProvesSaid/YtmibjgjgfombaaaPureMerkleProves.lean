/- The pure statement of the law MerkleProves: its printed function answers true. Conditions: none. -/
import Derived.Test.YtmibjgjgfombaaaPx19
import Derived.Test.YtmibjgjgfombaaaMkA
import Derived.Test.YtmibjgjgfombaaaMkB
namespace Go.Proofs.Ytmibjgjgfombaaa.Pure
open Go.RowKit Go.Proofs.Ytmibjgjgfombaaa.P Go.Proofs.Ytmibjgjgfombaaa.Br Go.Proofs.YtmibjgjgfombaaaW.PrintWords Go.Proofs.YtmibjgjgfombaaaW.PrintLast
theorem MerkleProves : steeplelaw12_MerkleProves.Pure := by
  intro l a hl ha
  refine Ev.rounds (g := fun k => steeplelaw12_MerkleProves.f k l a) ?_
  have far : Ev (fun k => steeplelaw12_MerkleProves.j0 k l a true) true := by
    refine Ev.succ ?_
    simp only [steeplelaw12_MerkleProves.j0]
    exact Ev.pos (by trivial) (Ev.bind awake_ev (Ev.now _))
  unfold steeplelaw12_MerkleProves.f
  refine Ev.bind (Few_ev l (by omega) 16 100) ?_
  cases hf : fewB l 16 100 with
  | false => exact Ev.neg (by decide) far
  | true =>
    obtain ⟨h16, h100⟩ := fewB_iff hf
    have hz : ∀ s ∈ l, s.size ≤ 1000000 := fun s hs => by have := h100 s hs; omega
    have hH := Height_ev l.length
    unfold heightI at hH
    refine Ev.pos rfl ?_
    cases hn : heightN l.length with
    | none =>
      rw [hn] at hH
      exact Ev.bind hH (Ev.pos (by decide) far)
    | some h =>
      rw [hn] at hH
      have hH2 : Ev (fun k => steepleref12_Height.f k (l.length : Int)) (h : Int) := hH
      obtain ⟨hh, he⟩ := heightN_some hn
      have hp := Nat.two_pow_pos h
      obtain ⟨i, hi, ei⟩ := place_eq (n := l.length) (by omega) (by omega) ha
      have hm : (l.map leafS).length = 2 ^ h := by rw [List.length_map, he]
      have hrl := rowsL_len h (l.map leafS)
      have hpath := Path_ok (rowsL h (l.map leafS)) i (by omega) (by omega) (rowsL_shape h _ hm) (by rw [hrl, Nat.add_sub_cancel]; omega)
      rw [pathD_rows] at hpath
      have hck := Check_ev 0 (topL h (l.map leafS)) ((pathL h (l.map leafS) i).length : Int) (i : Int) l[i] (pathL h (l.map leafS) i) (hz _ (List.getElem_mem hi)) (by rw [pathL_len]; omega)
      rw [checkF_path l he (by omega) hi] at hck
      refine Ev.bind hH2 (Ev.neg (by omega) (Ev.bind awake_ev (Ev.succ ?_)))
      simp only [steeplelaw12_MerkleProves.j0]
      rw [ei, rdOf_at hi]
      refine Ev.neg (by decide) (Ev.bind (Ev.const (show perm_Make.f = some 0 from rfl)) (Ev.neg (by omega) (Ev.bind (Ev.const (rows_f 0 l hn hz)) (Ev.bind (Ev.const (Root_ok 0 l h _ hm (by omega) (rows_f 0 l hn hz))) (Ev.bind hpath ?_)))))
      exact Ev.pos rfl (Ev.pos rfl (Ev.pos rfl (Ev.pos (by omega) (Ev.pos (by omega) (Ev.bind hck (Ev.now _))))))
end Go.Proofs.Ytmibjgjgfombaaa.Pure
