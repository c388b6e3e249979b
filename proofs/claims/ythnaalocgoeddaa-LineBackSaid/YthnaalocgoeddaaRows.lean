/-
  No cell of these rows narrows 'for every input' (looked for: loops, veiled, ifaces, maps, wideKeys, modest, calm, conditions, laid).
  DERIVED. THE GIVEN ROWS OF THIS SEAT. 5 by the template 'for every input the law returns true; each argument reads behind the call as it read before'; 0 by the template 'total and deterministic' (their statements: YthnaalocgoeddaaTotals.lean).
  GIVEN WITH THE SEED: the statements are not yours to turn. If you find one false, say at which input.
  Laid BY PROGRAM, IN A SANDBOX (cutbox-rows.mjs): the forced cells as the released guide's own fill.sh prints them over the translation 42720aae52ab5104… (all of the seat's roots in one cut). By AI agents, Wed Nov 11 2026. No macro, syntax, notation, axiom, sorry.
-/
import Derived.Test.YthnaalocgoeddaaChecked
import GoSem.Claim
import GoSem.ClaimJoined
import GoSem.ClaimMapViews
import Derived.JoinedTies
import Derived.KernelRfl
namespace Go.Proofs.Ythnaalocgoeddaa
/- THE CELL 'sum', in the pinned program and in every row, IS THE sha256 OF THE DUMP (.gsa) THAT YthnaalocgoeddaaProg.lean LOADS. Nothing in Lean hashes anything: it is a label: what it is worth is what the hold of that sum in a sandbox is worth. -/
noncomputable def Try.pinned : Pinned := { name := "ythnaalocgoeddaa", sum := "42720aae52ab51044a663f0d6470ca09771901eb4b9b784aaa5089194f244d6c", checked := Try.checked }
namespace Rows
def none {H : Type} : Left H := { results := [], args := [] }

/-- 'steeplelaw17.LinePlaces': WHATEVER THE INPUT: true; the input reads as it did. -/
def linePlacesSpec : ChangeSpec := { name := "linePlaces", fn := fun _ => fun
  | [d1, d2, d3] => { results := [.lit (.bool true)], args := [d1, d2, d3] }
  | _ => none }
def linePlacesRow : OpenClaim := { program := "ythnaalocgoeddaa", sum := "42720aae52ab51044a663f0d6470ca09771901eb4b9b784aaa5089194f244d6c", func := "steeple/steeplelaw17.LinePlaces", spec := "linePlaces", unfollowed := true, recurses := true, apart := false }
def LinePlacesSaid : Prop := linePlacesRow.holds Try.pinned (OpenSpec.ofChange linePlacesSpec)

/-- ITS FALSE NEIGHBOUR: 'it returns false'. Refute it at one input. -/
def linePlacesWrong : ChangeSpec := { name := "linePlaces", fn := fun _ => fun
  | [d1, d2, d3] => { results := [.lit (.bool false)], args := [d1, d2, d3] }
  | _ => none }
def LinePlacesWrongFalsely : Prop := linePlacesRow.holds Try.pinned (OpenSpec.ofChange linePlacesWrong)

/-- 'steeplelaw17.LineApart': WHATEVER THE INPUT: true; the input reads as it did. -/
def lineApartSpec : ChangeSpec := { name := "lineApart", fn := fun _ => fun
  | [d1, d2, d3] => { results := [.lit (.bool true)], args := [d1, d2, d3] }
  | _ => none }
def lineApartRow : OpenClaim := { program := "ythnaalocgoeddaa", sum := "42720aae52ab51044a663f0d6470ca09771901eb4b9b784aaa5089194f244d6c", func := "steeple/steeplelaw17.LineApart", spec := "lineApart", unfollowed := true, recurses := true, apart := false }
def LineApartSaid : Prop := lineApartRow.holds Try.pinned (OpenSpec.ofChange lineApartSpec)

/-- ITS FALSE NEIGHBOUR: 'it returns false'. Refute it at one input. -/
def lineApartWrong : ChangeSpec := { name := "lineApart", fn := fun _ => fun
  | [d1, d2, d3] => { results := [.lit (.bool false)], args := [d1, d2, d3] }
  | _ => none }
def LineApartWrongFalsely : Prop := lineApartRow.holds Try.pinned (OpenSpec.ofChange lineApartWrong)

/-- 'steeplelaw17.LineSums': WHATEVER THE INPUT: true; the input reads as it did. -/
def lineSumsSpec : ChangeSpec := { name := "lineSums", fn := fun _ => fun
  | [d1, d2, d3] => { results := [.lit (.bool true)], args := [d1, d2, d3] }
  | _ => none }
def lineSumsRow : OpenClaim := { program := "ythnaalocgoeddaa", sum := "42720aae52ab51044a663f0d6470ca09771901eb4b9b784aaa5089194f244d6c", func := "steeple/steeplelaw17.LineSums", spec := "lineSums", unfollowed := true, recurses := true, apart := false }
def LineSumsSaid : Prop := lineSumsRow.holds Try.pinned (OpenSpec.ofChange lineSumsSpec)

/-- ITS FALSE NEIGHBOUR: 'it returns false'. Refute it at one input. -/
def lineSumsWrong : ChangeSpec := { name := "lineSums", fn := fun _ => fun
  | [d1, d2, d3] => { results := [.lit (.bool false)], args := [d1, d2, d3] }
  | _ => none }
def LineSumsWrongFalsely : Prop := lineSumsRow.holds Try.pinned (OpenSpec.ofChange lineSumsWrong)

/-- 'steeplelaw17.LineValues': WHATEVER THE INPUT: true; the input reads as it did. -/
def lineValuesSpec : ChangeSpec := { name := "lineValues", fn := fun _ => fun
  | [d1, d2, d3] => { results := [.lit (.bool true)], args := [d1, d2, d3] }
  | _ => none }
def lineValuesRow : OpenClaim := { program := "ythnaalocgoeddaa", sum := "42720aae52ab51044a663f0d6470ca09771901eb4b9b784aaa5089194f244d6c", func := "steeple/steeplelaw17.LineValues", spec := "lineValues", unfollowed := true, recurses := true, apart := false }
def LineValuesSaid : Prop := lineValuesRow.holds Try.pinned (OpenSpec.ofChange lineValuesSpec)

/-- ITS FALSE NEIGHBOUR: 'it returns false'. Refute it at one input. -/
def lineValuesWrong : ChangeSpec := { name := "lineValues", fn := fun _ => fun
  | [d1, d2, d3] => { results := [.lit (.bool false)], args := [d1, d2, d3] }
  | _ => none }
def LineValuesWrongFalsely : Prop := lineValuesRow.holds Try.pinned (OpenSpec.ofChange lineValuesWrong)

/-- 'steeplelaw17.LineBack': WHATEVER THE INPUT: true; the input reads as it did. -/
def lineBackSpec : ChangeSpec := { name := "lineBack", fn := fun _ => fun
  | [d1, d2, d3] => { results := [.lit (.bool true)], args := [d1, d2, d3] }
  | _ => none }
def lineBackRow : OpenClaim := { program := "ythnaalocgoeddaa", sum := "42720aae52ab51044a663f0d6470ca09771901eb4b9b784aaa5089194f244d6c", func := "steeple/steeplelaw17.LineBack", spec := "lineBack", unfollowed := true, recurses := true, apart := false }
def LineBackSaid : Prop := lineBackRow.holds Try.pinned (OpenSpec.ofChange lineBackSpec)

/-- ITS FALSE NEIGHBOUR: 'it returns false'. Refute it at one input. -/
def lineBackWrong : ChangeSpec := { name := "lineBack", fn := fun _ => fun
  | [d1, d2, d3] => { results := [.lit (.bool false)], args := [d1, d2, d3] }
  | _ => none }
def LineBackWrongFalsely : Prop := lineBackRow.holds Try.pinned (OpenSpec.ofChange lineBackWrong)

/- THE SECOND FORM. 'bulk': how many values and letters a reading holds, each counted each time it is reached (what is shared counts as often as it is met; a slice's spare places count too). A statement '..UptoSaid' is the law's where the arguments, and the package variables that the reading takes, are together of bulk at most 1048576: NARROWER than '..Said'. Prove '..Said' where nothing that the law and all that it calls make is longer than what came in: it says more and counts as full. Else prove '..UptoSaid'. A law counts once. -/
mutual
def uptoBulk {H : Type} : DataW H → Nat
  | .lit (.string bytes) => bytes.length + 1
  | .lit _ => 1
  | .nil => 1
  | .ptr d => uptoBulk d + 1
  | .slice elems spare => uptoBulkAll elems + uptoBulkAll spare + 1
  | .agg parts => uptoBulkAll parts + 1
  | .iface _ d => uptoBulk d + 1
  | .map entries => uptoBulkEntries entries + 1
  | .held _ => 1
def uptoBulkAll {H : Type} : List (DataW H) → Nat
  | [] => 0
  | d :: r => uptoBulk d + uptoBulkAll r
def uptoBulkEntries {H : Type} : List (Lit × DataW H) → Nat
  | [] => 0
  | x :: r => uptoBulkEntry x + uptoBulkEntries r
def uptoBulkEntry {H : Type} : Lit × DataW H → Nat
  | (.string bytes, d) => bytes.length + uptoBulk d + 1
  | (_, d) => uptoBulk d + 1
 end
def uptoSmall : (H : Type) → List (DataW H) → Bool := fun _ ds => decide (uptoBulkAll ds ≤ 1048576)
def OpenSpec.upto (s : _root_.Go.ChangeSpec) : _root_.Go.OpenSpec := { _root_.Go.OpenSpec.ofChange s with cond := some uptoSmall }

/-- 'steeplelaw17.LinePlaces', WHERE WHAT IT READS IS OF BULK AT MOST 1048576: true; the input reads as it did. -/
def linePlacesUptoRow : OpenClaim := { program := "ythnaalocgoeddaa", sum := "42720aae52ab51044a663f0d6470ca09771901eb4b9b784aaa5089194f244d6c", func := "steeple/steeplelaw17.LinePlaces", spec := "linePlaces", unfollowed := true, recurses := true, apart := false, narrowed := true }
def LinePlacesUptoSaid : Prop := linePlacesUptoRow.holds Try.pinned (OpenSpec.upto linePlacesSpec)

/-- 'steeplelaw17.LineApart', WHERE WHAT IT READS IS OF BULK AT MOST 1048576: true; the input reads as it did. -/
def lineApartUptoRow : OpenClaim := { program := "ythnaalocgoeddaa", sum := "42720aae52ab51044a663f0d6470ca09771901eb4b9b784aaa5089194f244d6c", func := "steeple/steeplelaw17.LineApart", spec := "lineApart", unfollowed := true, recurses := true, apart := false, narrowed := true }
def LineApartUptoSaid : Prop := lineApartUptoRow.holds Try.pinned (OpenSpec.upto lineApartSpec)

/-- 'steeplelaw17.LineSums', WHERE WHAT IT READS IS OF BULK AT MOST 1048576: true; the input reads as it did. -/
def lineSumsUptoRow : OpenClaim := { program := "ythnaalocgoeddaa", sum := "42720aae52ab51044a663f0d6470ca09771901eb4b9b784aaa5089194f244d6c", func := "steeple/steeplelaw17.LineSums", spec := "lineSums", unfollowed := true, recurses := true, apart := false, narrowed := true }
def LineSumsUptoSaid : Prop := lineSumsUptoRow.holds Try.pinned (OpenSpec.upto lineSumsSpec)

/-- 'steeplelaw17.LineValues', WHERE WHAT IT READS IS OF BULK AT MOST 1048576: true; the input reads as it did. -/
def lineValuesUptoRow : OpenClaim := { program := "ythnaalocgoeddaa", sum := "42720aae52ab51044a663f0d6470ca09771901eb4b9b784aaa5089194f244d6c", func := "steeple/steeplelaw17.LineValues", spec := "lineValues", unfollowed := true, recurses := true, apart := false, narrowed := true }
def LineValuesUptoSaid : Prop := lineValuesUptoRow.holds Try.pinned (OpenSpec.upto lineValuesSpec)

/-- 'steeplelaw17.LineBack', WHERE WHAT IT READS IS OF BULK AT MOST 1048576: true; the input reads as it did. -/
def lineBackUptoRow : OpenClaim := { program := "ythnaalocgoeddaa", sum := "42720aae52ab51044a663f0d6470ca09771901eb4b9b784aaa5089194f244d6c", func := "steeple/steeplelaw17.LineBack", spec := "lineBack", unfollowed := true, recurses := true, apart := false, narrowed := true }
def LineBackUptoSaid : Prop := lineBackUptoRow.holds Try.pinned (OpenSpec.upto lineBackSpec)

end Rows
end Go.Proofs.Ythnaalocgoeddaa
