/- A box that holds the closure over the level (proof.Proof's one). Conditions: those that each theorem names. -/
import Derived.Test.YthgiifakcgjlaaaHBox
set_option linter.unusedVariables false
namespace Go.Proofs.Ythgiifakcgjlaaa.P
open Go.RowKit Go.Proofs.YthgiifakcgjlaaaX Go.Proofs.YthgiifakcgjlaaaW.PrintWords Go.Proofs.YthgiifakcgjlaaaW.PrintLast Go.Proofs.YthgiifakcgjlaaaW.PrintMore
/-- Block go is a box of the closure over the level's box gl. -/
structure OneB (w : World) (go gl : Nat) : Prop where
  lt : go < w.heap.size
  is : w.heap[go]? = some (.cells #[.func (.func 63) #[] #[.pointer (some ⟨gl, 0, none⟩)]] 120 (0, 0))
theorem OneB.cell {w : World} {go gl : Nat} (h : OneB w go gl) : w.cell? ⟨go, 0, none⟩ = some (.func (.func 63) #[] #[.pointer (some ⟨gl, 0, none⟩)]) := (blk_cell h.is 0).trans rfl
theorem OneB.below {w W : World} {go gl : Nat} (h : OneB w go gl) (hb : Below w.heap.size w W) : OneB W go gl := ⟨Nat.lt_of_lt_of_le h.lt (below_size hb), blk_below h.is hb⟩
theorem one_of_ {w : World} {go gl : Nat} (h : w.heap[go]? = some (.cells #[.func (.func 63) #[] #[.pointer (some ⟨gl, 0, none⟩)]] 120 (0, 0))) : OneB w go gl := ⟨blk_lt h, h⟩
theorem one_cell {w : World} {go gl : Nat} (h : Aside0 (w.heap[go]? = some (.cells #[.func (.func 63) #[] #[.pointer (some ⟨gl, 0, none⟩)]] 120 (0, 0)))) : w.cell? ⟨go, 0, none⟩ = some (.func (.func 63) #[] #[.pointer (some ⟨gl, 0, none⟩)]) := (blk_cell h.out 0).trans rfl
end Go.Proofs.Ythgiifakcgjlaaa.P
