/- A byte's tables as a whole, and both ways over texts (layer 10). Conditions: those that each theorem names. Printed by gen_st.py. -/
import Derived.Test.YtmibjgjgfombaaaPmSp
set_option linter.unusedVariables false
set_option linter.unusedSimpArgs false
set_option maxRecDepth 100000
namespace Go.Proofs.Ytmibjgjgfombaaa.P
open Go.RowKit Go.Proofs.YtmibjgjgfombaaaX Go.Proofs.YtmibjgjgfombaaaW.PrintWords Go.Proofs.YtmibjgjgfombaaaW.PrintLast Go.Proofs.YtmibjgjgfombaaaW.PrintMore
open Go.Proofs.Ytmibjgjgfombaaa.Br
/-- The tables of the program stand at block g. -/
def TabAt (w : World) (g : Nat) : Prop := ∃ cs, w.heap[g]? = some (.cells cs 67 (0, 0)) ∧ Tab bxN mlN 256 256 256 0 cs
theorem TabAt.of {w : World} {g : Nat} {cs : Array Value} (h1 : w.heap[g]? = some (.cells cs 67 (0, 0))) (h2 : Tab bxN mlN 256 256 256 0 cs) : TabAt w g := ⟨cs, h1, h2⟩
theorem TabAt.below {w w1 : World} {g : Nat} (h : TabAt w g) (hb : Below w.heap.size w w1) : TabAt w1 g := by
  obtain ⟨cs, h1, h2⟩ := h
  exact ⟨cs, blk_below h1 hb, h2⟩
theorem TabAt.lt {w : World} {g : Nat} (h : TabAt w g) : g < w.heap.size := by
  obtain ⟨cs, h1, h2⟩ := h
  exact blk_lt h1
theorem P_tab {w : World} {g : Nat} (h : TabAt w g) (s : ByteArray) (hs : s.size = 64) : Calls Try.prog 68 #[.pointer (some ⟨g, 0, none⟩), .string s] w fun e w' => e = .returned (.tuple #[.string (wS false s), .int .i64 0]) ∧ Below w.heap.size w w' := by
  obtain ⟨cs, h1, h2⟩ := h
  exact P_calls mlN_lt bxN_lt h1 h2 s hs
theorem Q_tab {w : World} {g : Nat} (h : TabAt w g) (s : ByteArray) (hs : s.size = 64) : Calls Try.prog 70 #[.pointer (some ⟨g, 0, none⟩), .string s] w fun e w' => e = .returned (.tuple #[.string (wS true s), .int .i64 0]) ∧ Below w.heap.size w w' := by
  obtain ⟨cs, h1, h2⟩ := h
  exact Q_calls mlN_lt bxN_lt h1 h2 s hs
theorem make_tab (w : World) : Calls Try.prog 11 #[] w fun e w' => ∃ g, e = .returned (.pointer (some ⟨g, 0, none⟩)) ∧ TabAt w' g ∧ Below w.heap.size w w' := by
  refine (make_calls 30 bxN mlN box_f (fun b q hb hq => (mulPair_f b q hb hq).2.2) bxN_lt bxN_inj w).mono ?_
  rintro e w' ⟨g, cs, he, _, hc, ht, hb⟩
  exact ⟨g, he, ⟨cs, hc, ht⟩, hb⟩
end Go.Proofs.Ytmibjgjgfombaaa.P
