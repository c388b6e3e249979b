/-
  No cell of these rows narrows 'for every input' (looked for: loops, veiled, ifaces, maps, wideKeys, modest, calm, conditions, laid).
  DERIVED. THE GIVEN ROWS OF THIS SEAT. 7 by the template 'for every input the law returns true; each argument reads behind the call as it read before'; 0 by the template 'total and deterministic' (their statements: YtlegcabfgkccmaaTotals.lean).
  GIVEN WITH THE SEED: the statements are not yours to turn. If you find one false, say at which input.
  Laid BY PROGRAM, IN A SANDBOX (cutbox-rows.mjs): the forced cells as the released guide's own fill.sh prints them over the translation d974ee710db3dde5… (all of the seat's roots in one cut). By AI agents, Wed Nov 11 2026. No macro, syntax, notation, axiom, sorry.
-/
import Derived.Test.YtlegcabfgkccmaaChecked
import GoSem.Claim
import GoSem.ClaimJoined
import GoSem.ClaimMapViews
import Derived.JoinedTies
import Derived.KernelRfl
namespace Go.Proofs.Ytlegcabfgkccmaa
/- THE CELL 'sum', in the pinned program and in every row, IS THE sha256 OF THE DUMP (.gsa) THAT YtlegcabfgkccmaaProg.lean LOADS. Nothing in Lean hashes anything: it is a label: what it is worth is what the hold of that sum in a sandbox is worth. -/
noncomputable def Try.pinned : Pinned := { name := "ytlegcabfgkccmaa", sum := "d974ee710db3dde5b3a06af9ffb62dfa9d8a8820d59a79b83ae688595c81d3dd", checked := Try.checked }
namespace Rows
def none {H : Type} : Left H := { results := [], args := [] }

/-- 'steeplelaw33.FrobLinear': WHATEVER THE INPUT: true; the input reads as it did. -/
def frobLinearSpec : ChangeSpec := { name := "frobLinear", fn := fun _ => fun
  | [d1, d2, d3] => { results := [.lit (.bool true)], args := [d1, d2, d3] }
  | _ => none }
def frobLinearRow : OpenClaim := { program := "ytlegcabfgkccmaa", sum := "d974ee710db3dde5b3a06af9ffb62dfa9d8a8820d59a79b83ae688595c81d3dd", func := "steeple/steeplelaw33.FrobLinear", spec := "frobLinear", unfollowed := true, recurses := true, apart := false }
def FrobLinearSaid : Prop := frobLinearRow.holds Try.pinned (OpenSpec.ofChange frobLinearSpec)

/-- ITS FALSE NEIGHBOUR: 'it returns false'. Refute it at one input. -/
def frobLinearWrong : ChangeSpec := { name := "frobLinear", fn := fun _ => fun
  | [d1, d2, d3] => { results := [.lit (.bool false)], args := [d1, d2, d3] }
  | _ => none }
def FrobLinearWrongFalsely : Prop := frobLinearRow.holds Try.pinned (OpenSpec.ofChange frobLinearWrong)

/-- 'steeplelaw33.FrobThrough': WHATEVER THE INPUT: true; the input reads as it did. -/
def frobThroughSpec : ChangeSpec := { name := "frobThrough", fn := fun _ => fun
  | [d1, d2, d3] => { results := [.lit (.bool true)], args := [d1, d2, d3] }
  | _ => none }
def frobThroughRow : OpenClaim := { program := "ytlegcabfgkccmaa", sum := "d974ee710db3dde5b3a06af9ffb62dfa9d8a8820d59a79b83ae688595c81d3dd", func := "steeple/steeplelaw33.FrobThrough", spec := "frobThrough", unfollowed := true, recurses := true, apart := false }
def FrobThroughSaid : Prop := frobThroughRow.holds Try.pinned (OpenSpec.ofChange frobThroughSpec)

/-- ITS FALSE NEIGHBOUR: 'it returns false'. Refute it at one input. -/
def frobThroughWrong : ChangeSpec := { name := "frobThrough", fn := fun _ => fun
  | [d1, d2, d3] => { results := [.lit (.bool false)], args := [d1, d2, d3] }
  | _ => none }
def FrobThroughWrongFalsely : Prop := frobThroughRow.holds Try.pinned (OpenSpec.ofChange frobThroughWrong)

/-- 'steeplelaw33.FrobLeast': WHATEVER THE INPUT: true; the input reads as it did. -/
def frobLeastSpec : ChangeSpec := { name := "frobLeast", fn := fun _ => fun
  | [d1, d2] => { results := [.lit (.bool true)], args := [d1, d2] }
  | _ => none }
def frobLeastRow : OpenClaim := { program := "ytlegcabfgkccmaa", sum := "d974ee710db3dde5b3a06af9ffb62dfa9d8a8820d59a79b83ae688595c81d3dd", func := "steeple/steeplelaw33.FrobLeast", spec := "frobLeast", unfollowed := true, recurses := true, apart := false }
def FrobLeastSaid : Prop := frobLeastRow.holds Try.pinned (OpenSpec.ofChange frobLeastSpec)

/-- ITS FALSE NEIGHBOUR: 'it returns false'. Refute it at one input. -/
def frobLeastWrong : ChangeSpec := { name := "frobLeast", fn := fun _ => fun
  | [d1, d2] => { results := [.lit (.bool false)], args := [d1, d2] }
  | _ => none }
def FrobLeastWrongFalsely : Prop := frobLeastRow.holds Try.pinned (OpenSpec.ofChange frobLeastWrong)

/-- 'steeplelaw33.FrobPowers': WHATEVER THE INPUT: true; the input reads as it did. -/
def frobPowersSpec : ChangeSpec := { name := "frobPowers", fn := fun _ => fun
  | [d1, d2, d3] => { results := [.lit (.bool true)], args := [d1, d2, d3] }
  | _ => none }
def frobPowersRow : OpenClaim := { program := "ytlegcabfgkccmaa", sum := "d974ee710db3dde5b3a06af9ffb62dfa9d8a8820d59a79b83ae688595c81d3dd", func := "steeple/steeplelaw33.FrobPowers", spec := "frobPowers", unfollowed := true, recurses := true, apart := false }
def FrobPowersSaid : Prop := frobPowersRow.holds Try.pinned (OpenSpec.ofChange frobPowersSpec)

/-- ITS FALSE NEIGHBOUR: 'it returns false'. Refute it at one input. -/
def frobPowersWrong : ChangeSpec := { name := "frobPowers", fn := fun _ => fun
  | [d1, d2, d3] => { results := [.lit (.bool false)], args := [d1, d2, d3] }
  | _ => none }
def FrobPowersWrongFalsely : Prop := frobPowersRow.holds Try.pinned (OpenSpec.ofChange frobPowersWrong)

/-- 'steeplelaw33.FrobTraces': WHATEVER THE INPUT: true; the input reads as it did. -/
def frobTracesSpec : ChangeSpec := { name := "frobTraces", fn := fun _ => fun
  | [d1, d2, d3] => { results := [.lit (.bool true)], args := [d1, d2, d3] }
  | _ => none }
def frobTracesRow : OpenClaim := { program := "ytlegcabfgkccmaa", sum := "d974ee710db3dde5b3a06af9ffb62dfa9d8a8820d59a79b83ae688595c81d3dd", func := "steeple/steeplelaw33.FrobTraces", spec := "frobTraces", unfollowed := true, recurses := true, apart := false }
def FrobTracesSaid : Prop := frobTracesRow.holds Try.pinned (OpenSpec.ofChange frobTracesSpec)

/-- ITS FALSE NEIGHBOUR: 'it returns false'. Refute it at one input. -/
def frobTracesWrong : ChangeSpec := { name := "frobTraces", fn := fun _ => fun
  | [d1, d2, d3] => { results := [.lit (.bool false)], args := [d1, d2, d3] }
  | _ => none }
def FrobTracesWrongFalsely : Prop := frobTracesRow.holds Try.pinned (OpenSpec.ofChange frobTracesWrong)

/-- 'steeplelaw33.FrobHalves': WHATEVER THE INPUT: true; the input reads as it did. -/
def frobHalvesSpec : ChangeSpec := { name := "frobHalves", fn := fun _ => fun
  | [d1, d2] => { results := [.lit (.bool true)], args := [d1, d2] }
  | _ => none }
def frobHalvesRow : OpenClaim := { program := "ytlegcabfgkccmaa", sum := "d974ee710db3dde5b3a06af9ffb62dfa9d8a8820d59a79b83ae688595c81d3dd", func := "steeple/steeplelaw33.FrobHalves", spec := "frobHalves", unfollowed := true, recurses := true, apart := false }
def FrobHalvesSaid : Prop := frobHalvesRow.holds Try.pinned (OpenSpec.ofChange frobHalvesSpec)

/-- ITS FALSE NEIGHBOUR: 'it returns false'. Refute it at one input. -/
def frobHalvesWrong : ChangeSpec := { name := "frobHalves", fn := fun _ => fun
  | [d1, d2] => { results := [.lit (.bool false)], args := [d1, d2] }
  | _ => none }
def FrobHalvesWrongFalsely : Prop := frobHalvesRow.holds Try.pinned (OpenSpec.ofChange frobHalvesWrong)

/-- 'steeplelaw33.FrobDual': WHATEVER THE INPUT: true; the input reads as it did. -/
def frobDualSpec : ChangeSpec := { name := "frobDual", fn := fun _ => fun
  | [d1, d2] => { results := [.lit (.bool true)], args := [d1, d2] }
  | _ => none }
def frobDualRow : OpenClaim := { program := "ytlegcabfgkccmaa", sum := "d974ee710db3dde5b3a06af9ffb62dfa9d8a8820d59a79b83ae688595c81d3dd", func := "steeple/steeplelaw33.FrobDual", spec := "frobDual", unfollowed := true, recurses := true, apart := false }
def FrobDualSaid : Prop := frobDualRow.holds Try.pinned (OpenSpec.ofChange frobDualSpec)

/-- ITS FALSE NEIGHBOUR: 'it returns false'. Refute it at one input. -/
def frobDualWrong : ChangeSpec := { name := "frobDual", fn := fun _ => fun
  | [d1, d2] => { results := [.lit (.bool false)], args := [d1, d2] }
  | _ => none }
def FrobDualWrongFalsely : Prop := frobDualRow.holds Try.pinned (OpenSpec.ofChange frobDualWrong)

/- THE SECOND FORM. 'bulk': how many values and letters a reading holds, each counted each time it is reached (what is shared counts as often as it is met; a slice's spare places count too). A statement '..UptoSaid' is the law's where the arguments, and the package variables that the reading takes, are together of bulk at most 1048576: NARROWER than '..Said'. Prove '..Said' where nothing that the law and all that it calls make is longer than what came in: it says more and counts as full. Else prove '..UptoSaid'. A law counts once. -/
mutual
def uptoBulk {H : Type} : DataW H → Nat
  | .lit (.string bytes) => bytes.length + 1
  | .lit _ => 1
  | .nil => 1
  | .ptr d => uptoBulk d + 1
  | .slice elems spare => uptoBulkAll elems + uptoBulkAll spare + 1
  | .agg parts => uptoBulkAll parts + 1
  | .iface _ d => uptoBulk d + 1
  | .map entries => uptoBulkEntries entries + 1
  | .held _ => 1
def uptoBulkAll {H : Type} : List (DataW H) → Nat
  | [] => 0
  | d :: r => uptoBulk d + uptoBulkAll r
def uptoBulkEntries {H : Type} : List (Lit × DataW H) → Nat
  | [] => 0
  | x :: r => uptoBulkEntry x + uptoBulkEntries r
def uptoBulkEntry {H : Type} : Lit × DataW H → Nat
  | (.string bytes, d) => bytes.length + uptoBulk d + 1
  | (_, d) => uptoBulk d + 1
 end
def uptoSmall : (H : Type) → List (DataW H) → Bool := fun _ ds => decide (uptoBulkAll ds ≤ 1048576)
def OpenSpec.upto (s : _root_.Go.ChangeSpec) : _root_.Go.OpenSpec := { _root_.Go.OpenSpec.ofChange s with cond := some uptoSmall }

/-- 'steeplelaw33.FrobLinear', WHERE WHAT IT READS IS OF BULK AT MOST 1048576: true; the input reads as it did. -/
def frobLinearUptoRow : OpenClaim := { program := "ytlegcabfgkccmaa", sum := "d974ee710db3dde5b3a06af9ffb62dfa9d8a8820d59a79b83ae688595c81d3dd", func := "steeple/steeplelaw33.FrobLinear", spec := "frobLinear", unfollowed := true, recurses := true, apart := false, narrowed := true }
def FrobLinearUptoSaid : Prop := frobLinearUptoRow.holds Try.pinned (OpenSpec.upto frobLinearSpec)

/-- 'steeplelaw33.FrobThrough', WHERE WHAT IT READS IS OF BULK AT MOST 1048576: true; the input reads as it did. -/
def frobThroughUptoRow : OpenClaim := { program := "ytlegcabfgkccmaa", sum := "d974ee710db3dde5b3a06af9ffb62dfa9d8a8820d59a79b83ae688595c81d3dd", func := "steeple/steeplelaw33.FrobThrough", spec := "frobThrough", unfollowed := true, recurses := true, apart := false, narrowed := true }
def FrobThroughUptoSaid : Prop := frobThroughUptoRow.holds Try.pinned (OpenSpec.upto frobThroughSpec)

/-- 'steeplelaw33.FrobLeast', WHERE WHAT IT READS IS OF BULK AT MOST 1048576: true; the input reads as it did. -/
def frobLeastUptoRow : OpenClaim := { program := "ytlegcabfgkccmaa", sum := "d974ee710db3dde5b3a06af9ffb62dfa9d8a8820d59a79b83ae688595c81d3dd", func := "steeple/steeplelaw33.FrobLeast", spec := "frobLeast", unfollowed := true, recurses := true, apart := false, narrowed := true }
def FrobLeastUptoSaid : Prop := frobLeastUptoRow.holds Try.pinned (OpenSpec.upto frobLeastSpec)

/-- 'steeplelaw33.FrobPowers', WHERE WHAT IT READS IS OF BULK AT MOST 1048576: true; the input reads as it did. -/
def frobPowersUptoRow : OpenClaim := { program := "ytlegcabfgkccmaa", sum := "d974ee710db3dde5b3a06af9ffb62dfa9d8a8820d59a79b83ae688595c81d3dd", func := "steeple/steeplelaw33.FrobPowers", spec := "frobPowers", unfollowed := true, recurses := true, apart := false, narrowed := true }
def FrobPowersUptoSaid : Prop := frobPowersUptoRow.holds Try.pinned (OpenSpec.upto frobPowersSpec)

/-- 'steeplelaw33.FrobTraces', WHERE WHAT IT READS IS OF BULK AT MOST 1048576: true; the input reads as it did. -/
def frobTracesUptoRow : OpenClaim := { program := "ytlegcabfgkccmaa", sum := "d974ee710db3dde5b3a06af9ffb62dfa9d8a8820d59a79b83ae688595c81d3dd", func := "steeple/steeplelaw33.FrobTraces", spec := "frobTraces", unfollowed := true, recurses := true, apart := false, narrowed := true }
def FrobTracesUptoSaid : Prop := frobTracesUptoRow.holds Try.pinned (OpenSpec.upto frobTracesSpec)

/-- 'steeplelaw33.FrobHalves', WHERE WHAT IT READS IS OF BULK AT MOST 1048576: true; the input reads as it did. -/
def frobHalvesUptoRow : OpenClaim := { program := "ytlegcabfgkccmaa", sum := "d974ee710db3dde5b3a06af9ffb62dfa9d8a8820d59a79b83ae688595c81d3dd", func := "steeple/steeplelaw33.FrobHalves", spec := "frobHalves", unfollowed := true, recurses := true, apart := false, narrowed := true }
def FrobHalvesUptoSaid : Prop := frobHalvesUptoRow.holds Try.pinned (OpenSpec.upto frobHalvesSpec)

/-- 'steeplelaw33.FrobDual', WHERE WHAT IT READS IS OF BULK AT MOST 1048576: true; the input reads as it did. -/
def frobDualUptoRow : OpenClaim := { program := "ytlegcabfgkccmaa", sum := "d974ee710db3dde5b3a06af9ffb62dfa9d8a8820d59a79b83ae688595c81d3dd", func := "steeple/steeplelaw33.FrobDual", spec := "frobDual", unfollowed := true, recurses := true, apart := false, narrowed := true }
def FrobDualUptoSaid : Prop := frobDualUptoRow.holds Try.pinned (OpenSpec.upto frobDualSpec)

end Rows
end Go.Proofs.Ytlegcabfgkccmaa
