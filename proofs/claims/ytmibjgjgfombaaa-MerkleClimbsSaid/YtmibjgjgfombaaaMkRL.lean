/- The document's leaf, and lists that are the same (layer 12). Conditions: those that each theorem names. -/
import Derived.Test.YtmibjgjgfombaaaHRows
import Derived.Test.YtmibjgjgfombaaaMkFew
import Derived.Test.YtmibjgjgfombaaaPmSpS
import Derived.Test.YtmibjgjgfombaaaPx12
import Derived.Test.YtmibjgjgfombaaaPx13
set_option linter.unusedVariables false
set_option linter.unusedSimpArgs false
namespace Go.Proofs.Ytmibjgjgfombaaa.Br
open Go.RowKit Go.Proofs.YtmibjgjgfombaaaT Go.Proofs.YtmibjgjgfombaaaX Go.Proofs.Ytmibjgjgfombaaa.P Go.Proofs.YtmibjgjgfombaaaW.PrintWords Go.Proofs.YtmibjgjgfombaaaW.PrintLast
theorem refLeaf_ev (s : ByteArray) (h : s.size ≤ 1000000) : Ev (fun k => steepleref12_Leaf.f k bl tl s) (leafS s) := by
  have e1 : ((⟨#[0]⟩ : ByteArray) ++ s).size = 1 + s.size := ByteArray.size_append
  unfold steepleref12_Leaf.f
  exact Ev.pos (by omega) (Ev.bind (Sum_ev _ (by omega)) (Ev.now _))
theorem Texts_l0 (L : List ByteArray) (hL : L.length < 2 ^ 60) : ∀ d i : Nat, i + d = L.length → Ev (fun k => steeplelaw01_Texts.l0 k L L (i : Int)) true
  | 0, i, h => by
    refine Ev.succ ?_
    simp only [steeplelaw01_Texts.l0]
    exact Ev.neg (by omega) (Ev.now _)
  | d + 1, i, h => by
    refine Ev.succ ?_
    simp only [steeplelaw01_Texts.l0]
    rw [wrap_succ i (by omega)]
    exact Ev.pos (by omega) (Ev.pos (by omega) (Ev.pos (by omega) (Ev.pos (by trivial) (Texts_l0 L hL d (i + 1) (by omega)))))
theorem Texts_ev (L : List ByteArray) (hL : L.length < 2 ^ 60) : Ev (fun k => steeplelaw01_Texts.f k L L) true := by
  unfold steeplelaw01_Texts.f
  exact Ev.pos rfl (Texts_l0 L hL L.length 0 (by omega))
end Go.Proofs.Ytmibjgjgfombaaa.Br
