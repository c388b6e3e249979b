/- Bytes, rounds and texts of both ways (layer 10), in plain Lean. Conditions: those that each theorem names. -/
import Derived.Test.YtmibjgjgfombaaaPmMul
import Derived.Test.YtmibjgjgfombaaaHSt
set_option linter.unusedVariables false
namespace Go.Proofs.Ytmibjgjgfombaaa.Br
open Go.RowKit Go.Proofs.YtmibjgjgfombaaaT Go.Proofs.Ytmibjgjgfombaaa.P Go.Proofs.YtmibjgjgfombaaaW.PrintWords Go.Proofs.YtmibjgjgfombaaaW.PrintLast Go.Proofs.YtmibjgjgfombaaaW.PrintMore
/-- Bytes. -/
def Byt (f : Nat → Nat) : Prop := ∀ n, n < 64 → f n < 256
def Eq64 (f g : Nat → Nat) : Prop := ∀ n, n < 64 → f n = g n
theorem Eq64.refl (f : Nat → Nat) : Eq64 f f := fun _ _ => rfl
theorem Eq64.trans {f g h : Nat → Nat} (a : Eq64 f g) (b : Eq64 g h) : Eq64 f h := fun n hn => (a n hn).trans (b n hn)
theorem Eq64.symm {f g : Nat → Nat} (a : Eq64 f g) : Eq64 g f := fun n hn => (a n hn).symm
theorem mixF_byt {f : Nat → Nat} (hf : Byt f) : Byt (mixF mlN f) := fun n hn => mixP_lt mlN_lt hf hn (Nat.le_refl _)
theorem turnF_byt {f : Nat → Nat} (q back : Bool) (hf : Byt f) : Byt (turnF q back f) := fun n hn => by
  have := tOf_lt q (n % 8)
  cases back
  · exact hf _ (by simp only [Bool.false_eq_true, if_false]; omega)
  · exact hf _ (by simp only [if_true]; omega)
theorem addF_byt {f : Nat → Nat} (q : Bool) (r : Nat) (hf : Byt f) : Byt (addF q r f) := fun n hn => by
  have h1 := hf n hn
  have h2 : (if q then f n ^^^ 255 else f n) < 256 := by
    cases q
    · exact h1
    · exact xor_lt h1 (by decide)
  unfold addF
  by_cases c : n % 8 = rowF q
  · rw [if_pos c]
    exact xor_lt h2 (Nat.mod_lt _ (by decide))
  · rw [if_neg c]
    exact h2
theorem bx_byt {f : Nat → Nat} (hf : Byt f) : Byt (fun n => bxN (f n)) := fun n hn => bxN_lt _ (hf n hn)
def rF (q : Bool) (r : Nat) (f : Nat → Nat) : Nat → Nat := roundF bxN mlN q r f
theorem rF_byt {f : Nat → Nat} (q : Bool) (r : Nat) (hf : Byt f) : Byt (rF q r f) := mixF_byt (turnF_byt q false (bx_byt (addF_byt q r hf)))
theorem strF_size (f : Nat → Nat) : (strF f).size = 64 := by
  unfold strF
  rw [strOfNums_size, List.length_map, List.length_range]
end Go.Proofs.Ytmibjgjgfombaaa.Br
