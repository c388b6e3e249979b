/-
  No cell of these rows narrows 'for every input' (looked for: loops, veiled, ifaces, maps, wideKeys, modest, calm, conditions, laid).
  DERIVED. THE GIVEN ROWS OF THIS SEAT. 9 by the template 'for every input the law returns true; each argument reads behind the call as it read before'; 0 by the template 'total and deterministic' (their statements: YtbjjjdallodbgaaTotals.lean).
  GIVEN WITH THE SEED: the statements are not yours to turn. If you find one false, say at which input.
  Laid BY PROGRAM, IN A SANDBOX (cutbox-rows.mjs): the forced cells as the released guide's own fill.sh prints them over the translation 70bfe46d1144f0fa… (all of the seat's roots in one cut). By AI agents, Wed Nov 11 2026. No macro, syntax, notation, axiom, sorry.
-/
import Derived.Test.YtbjjjdallodbgaaChecked
import GoSem.Claim
import GoSem.ClaimJoined
import GoSem.ClaimMapViews
import Derived.JoinedTies
import Derived.KernelRfl
namespace Go.Proofs.Ytbjjjdallodbgaa
/- THE CELL 'sum', in the pinned program and in every row, IS THE sha256 OF THE DUMP (.gsa) THAT YtbjjjdallodbgaaProg.lean LOADS. Nothing in Lean hashes anything: it is a label: what it is worth is what the hold of that sum in a sandbox is worth. -/
noncomputable def Try.pinned : Pinned := { name := "ytbjjjdallodbgaa", sum := "70bfe46d1144f0fa84fe714bd3cc0ea04a2c59d4e197c9aa1b166822ad3c0b30", checked := Try.checked }
namespace Rows
def none {H : Type} : Left H := { results := [], args := [] }

/-- 'steeplelaw02.TowerRing': WHATEVER THE INPUT: true; the input reads as it did. -/
def towerRingSpec : ChangeSpec := { name := "towerRing", fn := fun _ => fun
  | [d1, d2] => { results := [.lit (.bool true)], args := [d1, d2] }
  | _ => none }
def towerRingRow : OpenClaim := { program := "ytbjjjdallodbgaa", sum := "70bfe46d1144f0fa84fe714bd3cc0ea04a2c59d4e197c9aa1b166822ad3c0b30", func := "steeple/steeplelaw02.TowerRing", spec := "towerRing", recurses := true, apart := false }
def TowerRingSaid : Prop := towerRingRow.holds Try.pinned (OpenSpec.ofChange towerRingSpec)

/-- ITS FALSE NEIGHBOUR: 'it returns false'. Refute it at one input. -/
def towerRingWrong : ChangeSpec := { name := "towerRing", fn := fun _ => fun
  | [d1, d2] => { results := [.lit (.bool false)], args := [d1, d2] }
  | _ => none }
def TowerRingWrongFalsely : Prop := towerRingRow.holds Try.pinned (OpenSpec.ofChange towerRingWrong)

/-- 'steeplelaw02.TowerSquares': WHATEVER THE INPUT: true; the input reads as it did. -/
def towerSquaresSpec : ChangeSpec := { name := "towerSquares", fn := fun _ => fun
  | [d1, d2, d3] => { results := [.lit (.bool true)], args := [d1, d2, d3] }
  | _ => none }
def towerSquaresRow : OpenClaim := { program := "ytbjjjdallodbgaa", sum := "70bfe46d1144f0fa84fe714bd3cc0ea04a2c59d4e197c9aa1b166822ad3c0b30", func := "steeple/steeplelaw02.TowerSquares", spec := "towerSquares", recurses := true, apart := false }
def TowerSquaresSaid : Prop := towerSquaresRow.holds Try.pinned (OpenSpec.ofChange towerSquaresSpec)

/-- ITS FALSE NEIGHBOUR: 'it returns false'. Refute it at one input. -/
def towerSquaresWrong : ChangeSpec := { name := "towerSquares", fn := fun _ => fun
  | [d1, d2, d3] => { results := [.lit (.bool false)], args := [d1, d2, d3] }
  | _ => none }
def TowerSquaresWrongFalsely : Prop := towerSquaresRow.holds Try.pinned (OpenSpec.ofChange towerSquaresWrong)

/-- 'steeplelaw02.TowerSums': WHATEVER THE INPUT: true; the input reads as it did. -/
def towerSumsSpec : ChangeSpec := { name := "towerSums", fn := fun _ => fun
  | [d1, d2, d3] => { results := [.lit (.bool true)], args := [d1, d2, d3] }
  | _ => none }
def towerSumsRow : OpenClaim := { program := "ytbjjjdallodbgaa", sum := "70bfe46d1144f0fa84fe714bd3cc0ea04a2c59d4e197c9aa1b166822ad3c0b30", func := "steeple/steeplelaw02.TowerSums", spec := "towerSums", recurses := true, apart := false }
def TowerSumsSaid : Prop := towerSumsRow.holds Try.pinned (OpenSpec.ofChange towerSumsSpec)

/-- ITS FALSE NEIGHBOUR: 'it returns false'. Refute it at one input. -/
def towerSumsWrong : ChangeSpec := { name := "towerSums", fn := fun _ => fun
  | [d1, d2, d3] => { results := [.lit (.bool false)], args := [d1, d2, d3] }
  | _ => none }
def TowerSumsWrongFalsely : Prop := towerSumsRow.holds Try.pinned (OpenSpec.ofChange towerSumsWrong)

/-- 'steeplelaw02.TowerMuls': WHATEVER THE INPUT: true; the input reads as it did. -/
def towerMulsSpec : ChangeSpec := { name := "towerMuls", fn := fun _ => fun
  | [d1, d2, d3] => { results := [.lit (.bool true)], args := [d1, d2, d3] }
  | _ => none }
def towerMulsRow : OpenClaim := { program := "ytbjjjdallodbgaa", sum := "70bfe46d1144f0fa84fe714bd3cc0ea04a2c59d4e197c9aa1b166822ad3c0b30", func := "steeple/steeplelaw02.TowerMuls", spec := "towerMuls", recurses := true, apart := false }
def TowerMulsSaid : Prop := towerMulsRow.holds Try.pinned (OpenSpec.ofChange towerMulsSpec)

/-- ITS FALSE NEIGHBOUR: 'it returns false'. Refute it at one input. -/
def towerMulsWrong : ChangeSpec := { name := "towerMuls", fn := fun _ => fun
  | [d1, d2, d3] => { results := [.lit (.bool false)], args := [d1, d2, d3] }
  | _ => none }
def TowerMulsWrongFalsely : Prop := towerMulsRow.holds Try.pinned (OpenSpec.ofChange towerMulsWrong)

/-- 'steeplelaw02.TowerField': WHATEVER THE INPUT: true; the input reads as it did. -/
def towerFieldSpec : ChangeSpec := { name := "towerField", fn := fun _ => fun
  | [d1, d2, d3] => { results := [.lit (.bool true)], args := [d1, d2, d3] }
  | _ => none }
def towerFieldRow : OpenClaim := { program := "ytbjjjdallodbgaa", sum := "70bfe46d1144f0fa84fe714bd3cc0ea04a2c59d4e197c9aa1b166822ad3c0b30", func := "steeple/steeplelaw02.TowerField", spec := "towerField", recurses := true, apart := false }
def TowerFieldSaid : Prop := towerFieldRow.holds Try.pinned (OpenSpec.ofChange towerFieldSpec)

/-- ITS FALSE NEIGHBOUR: 'it returns false'. Refute it at one input. -/
def towerFieldWrong : ChangeSpec := { name := "towerField", fn := fun _ => fun
  | [d1, d2, d3] => { results := [.lit (.bool false)], args := [d1, d2, d3] }
  | _ => none }
def TowerFieldWrongFalsely : Prop := towerFieldRow.holds Try.pinned (OpenSpec.ofChange towerFieldWrong)

/-- 'steeplelaw02.TowerPowers': WHATEVER THE INPUT: true; the input reads as it did. -/
def towerPowersSpec : ChangeSpec := { name := "towerPowers", fn := fun _ => fun
  | [d1, d2, d3] => { results := [.lit (.bool true)], args := [d1, d2, d3] }
  | _ => none }
def towerPowersRow : OpenClaim := { program := "ytbjjjdallodbgaa", sum := "70bfe46d1144f0fa84fe714bd3cc0ea04a2c59d4e197c9aa1b166822ad3c0b30", func := "steeple/steeplelaw02.TowerPowers", spec := "towerPowers", recurses := true, apart := false }
def TowerPowersSaid : Prop := towerPowersRow.holds Try.pinned (OpenSpec.ofChange towerPowersSpec)

/-- ITS FALSE NEIGHBOUR: 'it returns false'. Refute it at one input. -/
def towerPowersWrong : ChangeSpec := { name := "towerPowers", fn := fun _ => fun
  | [d1, d2, d3] => { results := [.lit (.bool false)], args := [d1, d2, d3] }
  | _ => none }
def TowerPowersWrongFalsely : Prop := towerPowersRow.holds Try.pinned (OpenSpec.ofChange towerPowersWrong)

/-- 'steeplelaw02.TowerBits': WHATEVER THE INPUT: true; the input reads as it did. -/
def towerBitsSpec : ChangeSpec := { name := "towerBits", fn := fun _ => fun
  | [d1, d2, d3] => { results := [.lit (.bool true)], args := [d1, d2, d3] }
  | _ => none }
def towerBitsRow : OpenClaim := { program := "ytbjjjdallodbgaa", sum := "70bfe46d1144f0fa84fe714bd3cc0ea04a2c59d4e197c9aa1b166822ad3c0b30", func := "steeple/steeplelaw02.TowerBits", spec := "towerBits", recurses := true, apart := false }
def TowerBitsSaid : Prop := towerBitsRow.holds Try.pinned (OpenSpec.ofChange towerBitsSpec)

/-- ITS FALSE NEIGHBOUR: 'it returns false'. Refute it at one input. -/
def towerBitsWrong : ChangeSpec := { name := "towerBits", fn := fun _ => fun
  | [d1, d2, d3] => { results := [.lit (.bool false)], args := [d1, d2, d3] }
  | _ => none }
def TowerBitsWrongFalsely : Prop := towerBitsRow.holds Try.pinned (OpenSpec.ofChange towerBitsWrong)

/-- 'steeplelaw02.TowerLevels': WHATEVER THE INPUT: true; the input reads as it did. -/
def towerLevelsSpec : ChangeSpec := { name := "towerLevels", fn := fun _ => fun
  | [d1, d2, d3] => { results := [.lit (.bool true)], args := [d1, d2, d3] }
  | _ => none }
def towerLevelsRow : OpenClaim := { program := "ytbjjjdallodbgaa", sum := "70bfe46d1144f0fa84fe714bd3cc0ea04a2c59d4e197c9aa1b166822ad3c0b30", func := "steeple/steeplelaw02.TowerLevels", spec := "towerLevels", recurses := true, apart := false }
def TowerLevelsSaid : Prop := towerLevelsRow.holds Try.pinned (OpenSpec.ofChange towerLevelsSpec)

/-- ITS FALSE NEIGHBOUR: 'it returns false'. Refute it at one input. -/
def towerLevelsWrong : ChangeSpec := { name := "towerLevels", fn := fun _ => fun
  | [d1, d2, d3] => { results := [.lit (.bool false)], args := [d1, d2, d3] }
  | _ => none }
def TowerLevelsWrongFalsely : Prop := towerLevelsRow.holds Try.pinned (OpenSpec.ofChange towerLevelsWrong)

/-- 'steeplelaw02.TowerInvs': WHATEVER THE INPUT: true; the input reads as it did. -/
def towerInvsSpec : ChangeSpec := { name := "towerInvs", fn := fun _ => fun
  | [d1, d2, d3] => { results := [.lit (.bool true)], args := [d1, d2, d3] }
  | _ => none }
def towerInvsRow : OpenClaim := { program := "ytbjjjdallodbgaa", sum := "70bfe46d1144f0fa84fe714bd3cc0ea04a2c59d4e197c9aa1b166822ad3c0b30", func := "steeple/steeplelaw02.TowerInvs", spec := "towerInvs", recurses := true, apart := false }
def TowerInvsSaid : Prop := towerInvsRow.holds Try.pinned (OpenSpec.ofChange towerInvsSpec)

/-- ITS FALSE NEIGHBOUR: 'it returns false'. Refute it at one input. -/
def towerInvsWrong : ChangeSpec := { name := "towerInvs", fn := fun _ => fun
  | [d1, d2, d3] => { results := [.lit (.bool false)], args := [d1, d2, d3] }
  | _ => none }
def TowerInvsWrongFalsely : Prop := towerInvsRow.holds Try.pinned (OpenSpec.ofChange towerInvsWrong)

/- THE SECOND FORM. 'bulk': how many values and letters a reading holds, each counted each time it is reached (what is shared counts as often as it is met; a slice's spare places count too). A statement '..UptoSaid' is the law's where the arguments, and the package variables that the reading takes, are together of bulk at most 1048576: NARROWER than '..Said'. Prove '..Said' where nothing that the law and all that it calls make is longer than what came in: it says more and counts as full. Else prove '..UptoSaid'. A law counts once. -/
mutual
def uptoBulk {H : Type} : DataW H → Nat
  | .lit (.string bytes) => bytes.length + 1
  | .lit _ => 1
  | .nil => 1
  | .ptr d => uptoBulk d + 1
  | .slice elems spare => uptoBulkAll elems + uptoBulkAll spare + 1
  | .agg parts => uptoBulkAll parts + 1
  | .iface _ d => uptoBulk d + 1
  | .map entries => uptoBulkEntries entries + 1
  | .held _ => 1
def uptoBulkAll {H : Type} : List (DataW H) → Nat
  | [] => 0
  | d :: r => uptoBulk d + uptoBulkAll r
def uptoBulkEntries {H : Type} : List (Lit × DataW H) → Nat
  | [] => 0
  | x :: r => uptoBulkEntry x + uptoBulkEntries r
def uptoBulkEntry {H : Type} : Lit × DataW H → Nat
  | (.string bytes, d) => bytes.length + uptoBulk d + 1
  | (_, d) => uptoBulk d + 1
 end
def uptoSmall : (H : Type) → List (DataW H) → Bool := fun _ ds => decide (uptoBulkAll ds ≤ 1048576)
def OpenSpec.upto (s : _root_.Go.ChangeSpec) : _root_.Go.OpenSpec := { _root_.Go.OpenSpec.ofChange s with cond := some uptoSmall }

/-- 'steeplelaw02.TowerRing', WHERE WHAT IT READS IS OF BULK AT MOST 1048576: true; the input reads as it did. -/
def towerRingUptoRow : OpenClaim := { program := "ytbjjjdallodbgaa", sum := "70bfe46d1144f0fa84fe714bd3cc0ea04a2c59d4e197c9aa1b166822ad3c0b30", func := "steeple/steeplelaw02.TowerRing", spec := "towerRing", recurses := true, apart := false, narrowed := true }
def TowerRingUptoSaid : Prop := towerRingUptoRow.holds Try.pinned (OpenSpec.upto towerRingSpec)

/-- 'steeplelaw02.TowerSquares', WHERE WHAT IT READS IS OF BULK AT MOST 1048576: true; the input reads as it did. -/
def towerSquaresUptoRow : OpenClaim := { program := "ytbjjjdallodbgaa", sum := "70bfe46d1144f0fa84fe714bd3cc0ea04a2c59d4e197c9aa1b166822ad3c0b30", func := "steeple/steeplelaw02.TowerSquares", spec := "towerSquares", recurses := true, apart := false, narrowed := true }
def TowerSquaresUptoSaid : Prop := towerSquaresUptoRow.holds Try.pinned (OpenSpec.upto towerSquaresSpec)

/-- 'steeplelaw02.TowerSums', WHERE WHAT IT READS IS OF BULK AT MOST 1048576: true; the input reads as it did. -/
def towerSumsUptoRow : OpenClaim := { program := "ytbjjjdallodbgaa", sum := "70bfe46d1144f0fa84fe714bd3cc0ea04a2c59d4e197c9aa1b166822ad3c0b30", func := "steeple/steeplelaw02.TowerSums", spec := "towerSums", recurses := true, apart := false, narrowed := true }
def TowerSumsUptoSaid : Prop := towerSumsUptoRow.holds Try.pinned (OpenSpec.upto towerSumsSpec)

/-- 'steeplelaw02.TowerMuls', WHERE WHAT IT READS IS OF BULK AT MOST 1048576: true; the input reads as it did. -/
def towerMulsUptoRow : OpenClaim := { program := "ytbjjjdallodbgaa", sum := "70bfe46d1144f0fa84fe714bd3cc0ea04a2c59d4e197c9aa1b166822ad3c0b30", func := "steeple/steeplelaw02.TowerMuls", spec := "towerMuls", recurses := true, apart := false, narrowed := true }
def TowerMulsUptoSaid : Prop := towerMulsUptoRow.holds Try.pinned (OpenSpec.upto towerMulsSpec)

/-- 'steeplelaw02.TowerField', WHERE WHAT IT READS IS OF BULK AT MOST 1048576: true; the input reads as it did. -/
def towerFieldUptoRow : OpenClaim := { program := "ytbjjjdallodbgaa", sum := "70bfe46d1144f0fa84fe714bd3cc0ea04a2c59d4e197c9aa1b166822ad3c0b30", func := "steeple/steeplelaw02.TowerField", spec := "towerField", recurses := true, apart := false, narrowed := true }
def TowerFieldUptoSaid : Prop := towerFieldUptoRow.holds Try.pinned (OpenSpec.upto towerFieldSpec)

/-- 'steeplelaw02.TowerPowers', WHERE WHAT IT READS IS OF BULK AT MOST 1048576: true; the input reads as it did. -/
def towerPowersUptoRow : OpenClaim := { program := "ytbjjjdallodbgaa", sum := "70bfe46d1144f0fa84fe714bd3cc0ea04a2c59d4e197c9aa1b166822ad3c0b30", func := "steeple/steeplelaw02.TowerPowers", spec := "towerPowers", recurses := true, apart := false, narrowed := true }
def TowerPowersUptoSaid : Prop := towerPowersUptoRow.holds Try.pinned (OpenSpec.upto towerPowersSpec)

/-- 'steeplelaw02.TowerBits', WHERE WHAT IT READS IS OF BULK AT MOST 1048576: true; the input reads as it did. -/
def towerBitsUptoRow : OpenClaim := { program := "ytbjjjdallodbgaa", sum := "70bfe46d1144f0fa84fe714bd3cc0ea04a2c59d4e197c9aa1b166822ad3c0b30", func := "steeple/steeplelaw02.TowerBits", spec := "towerBits", recurses := true, apart := false, narrowed := true }
def TowerBitsUptoSaid : Prop := towerBitsUptoRow.holds Try.pinned (OpenSpec.upto towerBitsSpec)

/-- 'steeplelaw02.TowerLevels', WHERE WHAT IT READS IS OF BULK AT MOST 1048576: true; the input reads as it did. -/
def towerLevelsUptoRow : OpenClaim := { program := "ytbjjjdallodbgaa", sum := "70bfe46d1144f0fa84fe714bd3cc0ea04a2c59d4e197c9aa1b166822ad3c0b30", func := "steeple/steeplelaw02.TowerLevels", spec := "towerLevels", recurses := true, apart := false, narrowed := true }
def TowerLevelsUptoSaid : Prop := towerLevelsUptoRow.holds Try.pinned (OpenSpec.upto towerLevelsSpec)

/-- 'steeplelaw02.TowerInvs', WHERE WHAT IT READS IS OF BULK AT MOST 1048576: true; the input reads as it did. -/
def towerInvsUptoRow : OpenClaim := { program := "ytbjjjdallodbgaa", sum := "70bfe46d1144f0fa84fe714bd3cc0ea04a2c59d4e197c9aa1b166822ad3c0b30", func := "steeple/steeplelaw02.TowerInvs", spec := "towerInvs", recurses := true, apart := false, narrowed := true }
def TowerInvsUptoSaid : Prop := towerInvsUptoRow.holds Try.pinned (OpenSpec.upto towerInvsSpec)

end Rows
end Go.Proofs.Ytbjjjdallodbgaa
