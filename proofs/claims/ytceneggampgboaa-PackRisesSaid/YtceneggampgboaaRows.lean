/-
  No cell of these rows narrows 'for every input' (looked for: loops, veiled, ifaces, maps, wideKeys, modest, calm, conditions, laid).
  DERIVED. THE GIVEN ROWS OF THIS SEAT. 5 by the template 'for every input the law returns true; each argument reads behind the call as it read before'; 0 by the template 'total and deterministic' (their statements: YtceneggampgboaaTotals.lean).
  GIVEN WITH THE SEED: the statements are not yours to turn. If you find one false, say at which input.
  Laid BY PROGRAM, IN A SANDBOX (cutbox-rows.mjs): the forced cells as the released guide's own fill.sh prints them over the translation 4209b23afad214c4… (all of the seat's roots in one cut). By AI agents, Wed Nov 11 2026. No macro, syntax, notation, axiom, sorry.
-/
import Derived.Test.YtceneggampgboaaChecked
import GoSem.Claim
import GoSem.ClaimJoined
import GoSem.ClaimMapViews
import Derived.JoinedTies
import Derived.KernelRfl
namespace Go.Proofs.Ytceneggampgboaa
/- THE CELL 'sum', in the pinned program and in every row, IS THE sha256 OF THE DUMP (.gsa) THAT YtceneggampgboaaProg.lean LOADS. Nothing in Lean hashes anything: it is a label: what it is worth is what the hold of that sum in a sandbox is worth. -/
noncomputable def Try.pinned : Pinned := { name := "ytceneggampgboaa", sum := "4209b23afad214c4c6828abacf22cdc5cc02ee9a7b71425eb4fbe11244a4fecf", checked := Try.checked }
namespace Rows
def none {H : Type} : Left H := { results := [], args := [] }

/-- 'steeplelaw03.PackMakes': WHATEVER THE INPUT: true; the input reads as it did. -/
def packMakesSpec : ChangeSpec := { name := "packMakes", fn := fun _ => fun
  | [d1, d2, d3] => { results := [.lit (.bool true)], args := [d1, d2, d3] }
  | _ => none }
def packMakesRow : OpenClaim := { program := "ytceneggampgboaa", sum := "4209b23afad214c4c6828abacf22cdc5cc02ee9a7b71425eb4fbe11244a4fecf", func := "steeple/steeplelaw03.PackMakes", spec := "packMakes", apart := false }
def PackMakesSaid : Prop := packMakesRow.holds Try.pinned (OpenSpec.ofChange packMakesSpec)

/-- ITS FALSE NEIGHBOUR: 'it returns false'. Refute it at one input. -/
def packMakesWrong : ChangeSpec := { name := "packMakes", fn := fun _ => fun
  | [d1, d2, d3] => { results := [.lit (.bool false)], args := [d1, d2, d3] }
  | _ => none }
def PackMakesWrongFalsely : Prop := packMakesRow.holds Try.pinned (OpenSpec.ofChange packMakesWrong)

/-- 'steeplelaw03.PackRises': WHATEVER THE INPUT: true; the input reads as it did. -/
def packRisesSpec : ChangeSpec := { name := "packRises", fn := fun _ => fun
  | [d] => { results := [.lit (.bool true)], args := [d] }
  | _ => none }
def packRisesRow : OpenClaim := { program := "ytceneggampgboaa", sum := "4209b23afad214c4c6828abacf22cdc5cc02ee9a7b71425eb4fbe11244a4fecf", func := "steeple/steeplelaw03.PackRises", spec := "packRises", recurses := true, apart := false }
def PackRisesSaid : Prop := packRisesRow.holds Try.pinned (OpenSpec.ofChange packRisesSpec)

/-- ITS FALSE NEIGHBOUR: 'it returns false'. Refute it at one input. -/
def packRisesWrong : ChangeSpec := { name := "packRises", fn := fun _ => fun
  | [d] => { results := [.lit (.bool false)], args := [d] }
  | _ => none }
def PackRisesWrongFalsely : Prop := packRisesRow.holds Try.pinned (OpenSpec.ofChange packRisesWrong)

/-- 'steeplelaw03.PackFills': WHATEVER THE INPUT: true; the input reads as it did. -/
def packFillsSpec : ChangeSpec := { name := "packFills", fn := fun _ => fun
  | [d1, d2, d3] => { results := [.lit (.bool true)], args := [d1, d2, d3] }
  | _ => none }
def packFillsRow : OpenClaim := { program := "ytceneggampgboaa", sum := "4209b23afad214c4c6828abacf22cdc5cc02ee9a7b71425eb4fbe11244a4fecf", func := "steeple/steeplelaw03.PackFills", spec := "packFills", apart := false }
def PackFillsSaid : Prop := packFillsRow.holds Try.pinned (OpenSpec.ofChange packFillsSpec)

/-- ITS FALSE NEIGHBOUR: 'it returns false'. Refute it at one input. -/
def packFillsWrong : ChangeSpec := { name := "packFills", fn := fun _ => fun
  | [d1, d2, d3] => { results := [.lit (.bool false)], args := [d1, d2, d3] }
  | _ => none }
def PackFillsWrongFalsely : Prop := packFillsRow.holds Try.pinned (OpenSpec.ofChange packFillsWrong)

/-- 'steeplelaw03.PackReckons': WHATEVER THE INPUT: true; the input reads as it did. -/
def packReckonsSpec : ChangeSpec := { name := "packReckons", fn := fun _ => fun
  | [d] => { results := [.lit (.bool true)], args := [d] }
  | _ => none }
def packReckonsRow : OpenClaim := { program := "ytceneggampgboaa", sum := "4209b23afad214c4c6828abacf22cdc5cc02ee9a7b71425eb4fbe11244a4fecf", func := "steeple/steeplelaw03.PackReckons", spec := "packReckons", recurses := true, apart := false }
def PackReckonsSaid : Prop := packReckonsRow.holds Try.pinned (OpenSpec.ofChange packReckonsSpec)

/-- ITS FALSE NEIGHBOUR: 'it returns false'. Refute it at one input. -/
def packReckonsWrong : ChangeSpec := { name := "packReckons", fn := fun _ => fun
  | [d] => { results := [.lit (.bool false)], args := [d] }
  | _ => none }
def PackReckonsWrongFalsely : Prop := packReckonsRow.holds Try.pinned (OpenSpec.ofChange packReckonsWrong)

/-- 'steeplelaw03.PackScales': WHATEVER THE INPUT: true; the input reads as it did. -/
def packScalesSpec : ChangeSpec := { name := "packScales", fn := fun _ => fun
  | [d1, d2] => { results := [.lit (.bool true)], args := [d1, d2] }
  | _ => none }
def packScalesRow : OpenClaim := { program := "ytceneggampgboaa", sum := "4209b23afad214c4c6828abacf22cdc5cc02ee9a7b71425eb4fbe11244a4fecf", func := "steeple/steeplelaw03.PackScales", spec := "packScales", recurses := true, apart := false }
def PackScalesSaid : Prop := packScalesRow.holds Try.pinned (OpenSpec.ofChange packScalesSpec)

/-- ITS FALSE NEIGHBOUR: 'it returns false'. Refute it at one input. -/
def packScalesWrong : ChangeSpec := { name := "packScales", fn := fun _ => fun
  | [d1, d2] => { results := [.lit (.bool false)], args := [d1, d2] }
  | _ => none }
def PackScalesWrongFalsely : Prop := packScalesRow.holds Try.pinned (OpenSpec.ofChange packScalesWrong)

/- THE SECOND FORM. 'bulk': how many values and letters a reading holds, each counted each time it is reached (what is shared counts as often as it is met; a slice's spare places count too). A statement '..UptoSaid' is the law's where the arguments, and the package variables that the reading takes, are together of bulk at most 1048576: NARROWER than '..Said'. Prove '..Said' where nothing that the law and all that it calls make is longer than what came in: it says more and counts as full. Else prove '..UptoSaid'. A law counts once. -/
mutual
def uptoBulk {H : Type} : DataW H → Nat
  | .lit (.string bytes) => bytes.length + 1
  | .lit _ => 1
  | .nil => 1
  | .ptr d => uptoBulk d + 1
  | .slice elems spare => uptoBulkAll elems + uptoBulkAll spare + 1
  | .agg parts => uptoBulkAll parts + 1
  | .iface _ d => uptoBulk d + 1
  | .map entries => uptoBulkEntries entries + 1
  | .held _ => 1
def uptoBulkAll {H : Type} : List (DataW H) → Nat
  | [] => 0
  | d :: r => uptoBulk d + uptoBulkAll r
def uptoBulkEntries {H : Type} : List (Lit × DataW H) → Nat
  | [] => 0
  | x :: r => uptoBulkEntry x + uptoBulkEntries r
def uptoBulkEntry {H : Type} : Lit × DataW H → Nat
  | (.string bytes, d) => bytes.length + uptoBulk d + 1
  | (_, d) => uptoBulk d + 1
 end
def uptoSmall : (H : Type) → List (DataW H) → Bool := fun _ ds => decide (uptoBulkAll ds ≤ 1048576)
def OpenSpec.upto (s : _root_.Go.ChangeSpec) : _root_.Go.OpenSpec := { _root_.Go.OpenSpec.ofChange s with cond := some uptoSmall }

/-- 'steeplelaw03.PackMakes', WHERE WHAT IT READS IS OF BULK AT MOST 1048576: true; the input reads as it did. -/
def packMakesUptoRow : OpenClaim := { program := "ytceneggampgboaa", sum := "4209b23afad214c4c6828abacf22cdc5cc02ee9a7b71425eb4fbe11244a4fecf", func := "steeple/steeplelaw03.PackMakes", spec := "packMakes", apart := false, narrowed := true }
def PackMakesUptoSaid : Prop := packMakesUptoRow.holds Try.pinned (OpenSpec.upto packMakesSpec)

/-- 'steeplelaw03.PackRises', WHERE WHAT IT READS IS OF BULK AT MOST 1048576: true; the input reads as it did. -/
def packRisesUptoRow : OpenClaim := { program := "ytceneggampgboaa", sum := "4209b23afad214c4c6828abacf22cdc5cc02ee9a7b71425eb4fbe11244a4fecf", func := "steeple/steeplelaw03.PackRises", spec := "packRises", recurses := true, apart := false, narrowed := true }
def PackRisesUptoSaid : Prop := packRisesUptoRow.holds Try.pinned (OpenSpec.upto packRisesSpec)

/-- 'steeplelaw03.PackFills', WHERE WHAT IT READS IS OF BULK AT MOST 1048576: true; the input reads as it did. -/
def packFillsUptoRow : OpenClaim := { program := "ytceneggampgboaa", sum := "4209b23afad214c4c6828abacf22cdc5cc02ee9a7b71425eb4fbe11244a4fecf", func := "steeple/steeplelaw03.PackFills", spec := "packFills", apart := false, narrowed := true }
def PackFillsUptoSaid : Prop := packFillsUptoRow.holds Try.pinned (OpenSpec.upto packFillsSpec)

/-- 'steeplelaw03.PackReckons', WHERE WHAT IT READS IS OF BULK AT MOST 1048576: true; the input reads as it did. -/
def packReckonsUptoRow : OpenClaim := { program := "ytceneggampgboaa", sum := "4209b23afad214c4c6828abacf22cdc5cc02ee9a7b71425eb4fbe11244a4fecf", func := "steeple/steeplelaw03.PackReckons", spec := "packReckons", recurses := true, apart := false, narrowed := true }
def PackReckonsUptoSaid : Prop := packReckonsUptoRow.holds Try.pinned (OpenSpec.upto packReckonsSpec)

/-- 'steeplelaw03.PackScales', WHERE WHAT IT READS IS OF BULK AT MOST 1048576: true; the input reads as it did. -/
def packScalesUptoRow : OpenClaim := { program := "ytceneggampgboaa", sum := "4209b23afad214c4c6828abacf22cdc5cc02ee9a7b71425eb4fbe11244a4fecf", func := "steeple/steeplelaw03.PackScales", spec := "packScales", recurses := true, apart := false, narrowed := true }
def PackScalesUptoSaid : Prop := packScalesUptoRow.holds Try.pinned (OpenSpec.upto packScalesSpec)

end Rows
end Go.Proofs.Ytceneggampgboaa
