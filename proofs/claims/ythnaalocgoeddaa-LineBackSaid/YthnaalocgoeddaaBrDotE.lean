/- The sum of products. Conditions: those that each theorem names. -/
import Derived.Test.YthnaalocgoeddaaBrBits
set_option linter.unusedVariables false
namespace Go.Proofs.Ythnaalocgoeddaa.Br
open Go.RowKit Go.Proofs.YthnaalocgoeddaaT Go.Proofs.YthnaalocgoeddaaW.PrintWords Go.Proofs.YthnaalocgoeddaaW.PrintLast Go.Proofs.YthnaalocgoeddaaW.PrintMore
def dotE (l : Int) : List (T 7) → List (T 7) → T 7 → Option (T 7)
  | x :: a, y :: b, out => if ofB l x = true ∧ ofB l y = true then dotE l a b (out + x * y) else none
  | _, _, out => some out
theorem dotE_step {l : Int} {a b : List (T 7)} (hab : a.length = b.length) {i : Nat} (hi : i < a.length) (out : T 7) :
    dotE l (a.drop i) (b.drop i) out = if ofB l a[i] = true ∧ ofB l (b[i]'(by omega)) = true then dotE l (a.drop (i + 1)) (b.drop (i + 1)) (out + a[i] * (b[i]'(by omega))) else none := by
  rw [List.drop_eq_getElem_cons hi, List.drop_eq_getElem_cons (show i < b.length by omega)]
  rfl
def dotF (l : Int) (a b : List (T 7)) : T 7 := if a.length = b.length then (dotE l a b 0).getD 0 else 0
end Go.Proofs.Ythnaalocgoeddaa.Br
