/- What strings.Builder's contracts say, behind calls that keep what was. Conditions: those that each theorem names. -/
import Derived.Test.YthgiifakcgjlaaaShelf
import Derived.Test.YthgiifakcgjlaaaPx0
set_option linter.unusedVariables false
namespace Go.Proofs.Ythgiifakcgjlaaa.P
open Go.RowKit Go.Proofs.YthgiifakcgjlaaaX Go.Proofs.YthgiifakcgjlaaaW.PrintWords
theorem own_bel {W W' : World} {B e size n : Nat} {v : Value} {xs : List Value} (h : W.ownsRow B e size v n xs) (hb : Below W.heap.size W W') : W'.ownsRow B e size v n xs := by
  obtain ⟨h1, h2⟩ := h
  refine ⟨h1, ?_⟩
  rcases h2 with h2 | ⟨g, cap, cur, e1, h3, h4, h5⟩
  · exact .inl h2
  · exact .inr ⟨g, cap, cur, e1, h3, (hb.block g (Array.getElem?_eq_some_iff.1 h4).1).trans h4, h5⟩
theorem at_bel {T e B b : Nat} {p : Value} {bs : List Value} {W W' : World} (h : Lib.BuilderAt T e B b p bs W) (hb : Below W.heap.size W W') : Lib.BuilderAt T e B b p bs W' := by
  obtain ⟨h1, v, h2, h3, h4⟩ := h
  exact ⟨h1, v, (hb.block b (Array.getElem?_eq_some_iff.1 h2).1).trans h2, own_bel h3 hb, h4⟩
theorem bld_bel {T e B b : Nat} {bs : List Value} {W W' : World} (h : Lib.IsBuilder T e B b bs W) (hb : Below W.heap.size W W') : Lib.IsBuilder T e B b bs W' :=
  h.imp (fun h => at_bel h hb) (fun h => at_bel h hb)
theorem at_lt {T e B b : Nat} {p : Value} {bs : List Value} {W : World} (h : Lib.BuilderAt T e B b p bs W) : b < W.heap.size := by
  obtain ⟨h1, v, h2, h3, h4⟩ := h
  exact (Array.getElem?_eq_some_iff.1 h2).1
theorem bld_ne {T e B b g : Nat} {bs : List Value} {W : World} (h : Lib.IsBuilder T e B b bs W) (hg : g = W.heap.size) : b ≠ g := by
  rcases h with h | h
  · have := at_lt h
    omega
  · have := at_lt h
    omega
theorem at_far {T e B b g t : Nat} {p : Value} {bs : List Value} {cs : Array Value} {W : World} (h : Lib.BuilderAt T e B b p bs W) (hn : b ≠ g) (hb : W.heap[g]? = some (.cells cs t (0, 0))) (ht : e ≠ t) (j : Nat) (u : Value) : Lib.BuilderAt T e B b p bs (W.setCell ⟨g, j, none⟩ u) := by
  obtain ⟨h1, v, h2, h3, h4⟩ := h
  refine ⟨h1, v, (Below.heap_setCell W ⟨g, j, none⟩ u b hn).trans h2, ?_, h4⟩
  obtain ⟨h5, h6⟩ := h3
  refine ⟨h5, ?_⟩
  rcases h6 with h6 | ⟨q, cap, cur, e1, h7, h8, h9⟩
  · exact .inl h6
  · refine .inr ⟨q, cap, cur, e1, h7, (Below.heap_setCell W ⟨g, j, none⟩ u q ?_).trans h8, h9⟩
    rintro rfl
    rw [hb] at h8
    cases h8
    exact ht rfl
theorem bld_far {T e B b g t : Nat} {bs : List Value} {cs : Array Value} {W : World} (h : Lib.IsBuilder T e B b bs W) (hn : b ≠ g) (hb : W.heap[g]? = some (.cells cs t (0, 0))) (j : Nat) (u : Value) (ht : e ≠ t := by decide) : Lib.IsBuilder T e B b bs (W.setCell ⟨g, j, none⟩ u) :=
  h.imp (fun h => at_far h hn hb ht j u) (fun h => at_far h hn hb ht j u)
theorem bld_new {T e B b : Nat} {W : World} (hB : B ≤ b) (h : W.heap[b]? = some (.cells #[.pointer none, .slice none 0 0] T (0, 0))) : Lib.IsBuilder T e B b (Lib.strCells ⟨#[]⟩) W :=
  .inl ⟨hB, _, h, ⟨rfl, .inl ⟨rfl, rfl⟩⟩, by simp [Value.ownBlock]⟩
theorem strCells_app (s t : ByteArray) : Lib.strCells s ++ Lib.strCells t = Lib.strCells (s ++ t) := by
  unfold Lib.strCells
  rw [← List.map_append, ← Array.toList_append, ByteArray.data_append]
theorem str_eta (s : ByteArray) : (⟨s.data.toList.toArray⟩ : ByteArray) = s := rfl
theorem nil_app (s : ByteArray) : (⟨#[]⟩ : ByteArray) ++ s = s := by
  apply ByteArray.ext
  rw [ByteArray.data_append]
  exact Array.empty_append
end Go.Proofs.Ythgiifakcgjlaaa.P
