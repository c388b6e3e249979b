/-
  No cell of these rows narrows 'for every input' (looked for: loops, veiled, ifaces, maps, wideKeys, modest, calm, conditions, laid).
  DERIVED. THE GIVEN ROWS OF THIS SEAT. 5 by the template 'for every input the law returns true; each argument reads behind the call as it read before'; 0 by the template 'total and deterministic' (their statements: YtaffpnnhoagmaaaTotals.lean).
  GIVEN WITH THE SEED: the statements are not yours to turn. If you find one false, say at which input.
  Laid BY PROGRAM, IN A SANDBOX (cutbox-rows.mjs): the forced cells as the released guide's own fill.sh prints them over the translation 0921d32bf6bd4660… (all of the seat's roots in one cut). By AI agents, Wed Nov 11 2026. No macro, syntax, notation, axiom, sorry.
-/
import Derived.Test.YtaffpnnhoagmaaaChecked
import GoSem.Claim
import GoSem.ClaimJoined
import GoSem.ClaimMapViews
import Derived.JoinedTies
import Derived.KernelRfl
namespace Go.Proofs.Ytaffpnnhoagmaaa
/- THE CELL 'sum', in the pinned program and in every row, IS THE sha256 OF THE DUMP (.gsa) THAT YtaffpnnhoagmaaaProg.lean LOADS. Nothing in Lean hashes anything: it is a label: what it is worth is what the hold of that sum in a sandbox is worth. -/
noncomputable def Try.pinned : Pinned := { name := "ytaffpnnhoagmaaa", sum := "0921d32bf6bd4660db40e24c908973325cb45672f3fb668476f27175d55d119e", checked := Try.checked }
namespace Rows
def none {H : Type} : Left H := { results := [], args := [] }

/-- 'steeplelaw11.SpongePresses': WHATEVER THE INPUT: true; the input reads as it did. -/
def spongePressesSpec : ChangeSpec := { name := "spongePresses", fn := fun _ => fun
  | [d1, d2] => { results := [.lit (.bool true)], args := [d1, d2] }
  | _ => none }
def spongePressesRow : OpenClaim := { program := "ytaffpnnhoagmaaa", sum := "0921d32bf6bd4660db40e24c908973325cb45672f3fb668476f27175d55d119e", func := "steeple/steeplelaw11.SpongePresses", spec := "spongePresses", inPlace := ["internal/abi.NoEscape", "internal/bytealg.MakeNoZero"], unfollowed := true, recurses := true, apart := false }
def SpongePressesSaid : Prop := spongePressesRow.holds Try.pinned (OpenSpec.ofChange spongePressesSpec)

/-- ITS FALSE NEIGHBOUR: 'it returns false'. Refute it at one input. -/
def spongePressesWrong : ChangeSpec := { name := "spongePresses", fn := fun _ => fun
  | [d1, d2] => { results := [.lit (.bool false)], args := [d1, d2] }
  | _ => none }
def SpongePressesWrongFalsely : Prop := spongePressesRow.holds Try.pinned (OpenSpec.ofChange spongePressesWrong)

/-- 'steeplelaw11.SpongeFills': WHATEVER THE INPUT: true; the input reads as it did. -/
def spongeFillsSpec : ChangeSpec := { name := "spongeFills", fn := fun _ => fun
  | [d1, d2] => { results := [.lit (.bool true)], args := [d1, d2] }
  | _ => none }
def spongeFillsRow : OpenClaim := { program := "ytaffpnnhoagmaaa", sum := "0921d32bf6bd4660db40e24c908973325cb45672f3fb668476f27175d55d119e", func := "steeple/steeplelaw11.SpongeFills", spec := "spongeFills", inPlace := ["internal/abi.NoEscape", "internal/bytealg.MakeNoZero"], unfollowed := true, recurses := true, apart := false }
def SpongeFillsSaid : Prop := spongeFillsRow.holds Try.pinned (OpenSpec.ofChange spongeFillsSpec)

/-- ITS FALSE NEIGHBOUR: 'it returns false'. Refute it at one input. -/
def spongeFillsWrong : ChangeSpec := { name := "spongeFills", fn := fun _ => fun
  | [d1, d2] => { results := [.lit (.bool false)], args := [d1, d2] }
  | _ => none }
def SpongeFillsWrongFalsely : Prop := spongeFillsRow.holds Try.pinned (OpenSpec.ofChange spongeFillsWrong)

/-- 'steeplelaw11.SpongeSums': WHATEVER THE INPUT: true; the input reads as it did. -/
def spongeSumsSpec : ChangeSpec := { name := "spongeSums", fn := fun _ => fun
  | [d1, d2] => { results := [.lit (.bool true)], args := [d1, d2] }
  | _ => none }
def spongeSumsRow : OpenClaim := { program := "ytaffpnnhoagmaaa", sum := "0921d32bf6bd4660db40e24c908973325cb45672f3fb668476f27175d55d119e", func := "steeple/steeplelaw11.SpongeSums", spec := "spongeSums", inPlace := ["internal/abi.NoEscape", "internal/bytealg.MakeNoZero"], unfollowed := true, recurses := true, apart := false }
def SpongeSumsSaid : Prop := spongeSumsRow.holds Try.pinned (OpenSpec.ofChange spongeSumsSpec)

/-- ITS FALSE NEIGHBOUR: 'it returns false'. Refute it at one input. -/
def spongeSumsWrong : ChangeSpec := { name := "spongeSums", fn := fun _ => fun
  | [d1, d2] => { results := [.lit (.bool false)], args := [d1, d2] }
  | _ => none }
def SpongeSumsWrongFalsely : Prop := spongeSumsRow.holds Try.pinned (OpenSpec.ofChange spongeSumsWrong)

/-- 'steeplelaw11.SpongeStreams': WHATEVER THE INPUT: true; the input reads as it did. -/
def spongeStreamsSpec : ChangeSpec := { name := "spongeStreams", fn := fun _ => fun
  | [d1, d2, d3] => { results := [.lit (.bool true)], args := [d1, d2, d3] }
  | _ => none }
def spongeStreamsRow : OpenClaim := { program := "ytaffpnnhoagmaaa", sum := "0921d32bf6bd4660db40e24c908973325cb45672f3fb668476f27175d55d119e", func := "steeple/steeplelaw11.SpongeStreams", spec := "spongeStreams", inPlace := ["internal/abi.NoEscape", "internal/bytealg.MakeNoZero"], unfollowed := true, recurses := true, apart := false }
def SpongeStreamsSaid : Prop := spongeStreamsRow.holds Try.pinned (OpenSpec.ofChange spongeStreamsSpec)

/-- ITS FALSE NEIGHBOUR: 'it returns false'. Refute it at one input. -/
def spongeStreamsWrong : ChangeSpec := { name := "spongeStreams", fn := fun _ => fun
  | [d1, d2, d3] => { results := [.lit (.bool false)], args := [d1, d2, d3] }
  | _ => none }
def SpongeStreamsWrongFalsely : Prop := spongeStreamsRow.holds Try.pinned (OpenSpec.ofChange spongeStreamsWrong)

/-- 'steeplelaw11.SpongeBounds': WHATEVER THE INPUT: true; the input reads as it did. -/
def spongeBoundsSpec : ChangeSpec := { name := "spongeBounds", fn := fun _ => fun
  | [d] => { results := [.lit (.bool true)], args := [d] }
  | _ => none }
def spongeBoundsRow : OpenClaim := { program := "ytaffpnnhoagmaaa", sum := "0921d32bf6bd4660db40e24c908973325cb45672f3fb668476f27175d55d119e", func := "steeple/steeplelaw11.SpongeBounds", spec := "spongeBounds", inPlace := ["internal/abi.NoEscape", "internal/bytealg.MakeNoZero"], unfollowed := true, recurses := true, apart := false }
def SpongeBoundsSaid : Prop := spongeBoundsRow.holds Try.pinned (OpenSpec.ofChange spongeBoundsSpec)

/-- ITS FALSE NEIGHBOUR: 'it returns false'. Refute it at one input. -/
def spongeBoundsWrong : ChangeSpec := { name := "spongeBounds", fn := fun _ => fun
  | [d] => { results := [.lit (.bool false)], args := [d] }
  | _ => none }
def SpongeBoundsWrongFalsely : Prop := spongeBoundsRow.holds Try.pinned (OpenSpec.ofChange spongeBoundsWrong)

/- THE SECOND FORM. 'bulk': how many values and letters a reading holds, each counted each time it is reached (what is shared counts as often as it is met; a slice's spare places count too). A statement '..UptoSaid' is the law's where the arguments, and the package variables that the reading takes, are together of bulk at most 1048576: NARROWER than '..Said'. Prove '..Said' where nothing that the law and all that it calls make is longer than what came in: it says more and counts as full. Else prove '..UptoSaid'. A law counts once. -/
mutual
def uptoBulk {H : Type} : DataW H → Nat
  | .lit (.string bytes) => bytes.length + 1
  | .lit _ => 1
  | .nil => 1
  | .ptr d => uptoBulk d + 1
  | .slice elems spare => uptoBulkAll elems + uptoBulkAll spare + 1
  | .agg parts => uptoBulkAll parts + 1
  | .iface _ d => uptoBulk d + 1
  | .map entries => uptoBulkEntries entries + 1
  | .held _ => 1
def uptoBulkAll {H : Type} : List (DataW H) → Nat
  | [] => 0
  | d :: r => uptoBulk d + uptoBulkAll r
def uptoBulkEntries {H : Type} : List (Lit × DataW H) → Nat
  | [] => 0
  | x :: r => uptoBulkEntry x + uptoBulkEntries r
def uptoBulkEntry {H : Type} : Lit × DataW H → Nat
  | (.string bytes, d) => bytes.length + uptoBulk d + 1
  | (_, d) => uptoBulk d + 1
 end
def uptoSmall : (H : Type) → List (DataW H) → Bool := fun _ ds => decide (uptoBulkAll ds ≤ 1048576)
def OpenSpec.upto (s : _root_.Go.ChangeSpec) : _root_.Go.OpenSpec := { _root_.Go.OpenSpec.ofChange s with cond := some uptoSmall }

/-- 'steeplelaw11.SpongePresses', WHERE WHAT IT READS IS OF BULK AT MOST 1048576: true; the input reads as it did. -/
def spongePressesUptoRow : OpenClaim := { program := "ytaffpnnhoagmaaa", sum := "0921d32bf6bd4660db40e24c908973325cb45672f3fb668476f27175d55d119e", func := "steeple/steeplelaw11.SpongePresses", spec := "spongePresses", inPlace := ["internal/abi.NoEscape", "internal/bytealg.MakeNoZero"], unfollowed := true, recurses := true, apart := false, narrowed := true }
def SpongePressesUptoSaid : Prop := spongePressesUptoRow.holds Try.pinned (OpenSpec.upto spongePressesSpec)

/-- 'steeplelaw11.SpongeFills', WHERE WHAT IT READS IS OF BULK AT MOST 1048576: true; the input reads as it did. -/
def spongeFillsUptoRow : OpenClaim := { program := "ytaffpnnhoagmaaa", sum := "0921d32bf6bd4660db40e24c908973325cb45672f3fb668476f27175d55d119e", func := "steeple/steeplelaw11.SpongeFills", spec := "spongeFills", inPlace := ["internal/abi.NoEscape", "internal/bytealg.MakeNoZero"], unfollowed := true, recurses := true, apart := false, narrowed := true }
def SpongeFillsUptoSaid : Prop := spongeFillsUptoRow.holds Try.pinned (OpenSpec.upto spongeFillsSpec)

/-- 'steeplelaw11.SpongeSums', WHERE WHAT IT READS IS OF BULK AT MOST 1048576: true; the input reads as it did. -/
def spongeSumsUptoRow : OpenClaim := { program := "ytaffpnnhoagmaaa", sum := "0921d32bf6bd4660db40e24c908973325cb45672f3fb668476f27175d55d119e", func := "steeple/steeplelaw11.SpongeSums", spec := "spongeSums", inPlace := ["internal/abi.NoEscape", "internal/bytealg.MakeNoZero"], unfollowed := true, recurses := true, apart := false, narrowed := true }
def SpongeSumsUptoSaid : Prop := spongeSumsUptoRow.holds Try.pinned (OpenSpec.upto spongeSumsSpec)

/-- 'steeplelaw11.SpongeStreams', WHERE WHAT IT READS IS OF BULK AT MOST 1048576: true; the input reads as it did. -/
def spongeStreamsUptoRow : OpenClaim := { program := "ytaffpnnhoagmaaa", sum := "0921d32bf6bd4660db40e24c908973325cb45672f3fb668476f27175d55d119e", func := "steeple/steeplelaw11.SpongeStreams", spec := "spongeStreams", inPlace := ["internal/abi.NoEscape", "internal/bytealg.MakeNoZero"], unfollowed := true, recurses := true, apart := false, narrowed := true }
def SpongeStreamsUptoSaid : Prop := spongeStreamsUptoRow.holds Try.pinned (OpenSpec.upto spongeStreamsSpec)

/-- 'steeplelaw11.SpongeBounds', WHERE WHAT IT READS IS OF BULK AT MOST 1048576: true; the input reads as it did. -/
def spongeBoundsUptoRow : OpenClaim := { program := "ytaffpnnhoagmaaa", sum := "0921d32bf6bd4660db40e24c908973325cb45672f3fb668476f27175d55d119e", func := "steeple/steeplelaw11.SpongeBounds", spec := "spongeBounds", inPlace := ["internal/abi.NoEscape", "internal/bytealg.MakeNoZero"], unfollowed := true, recurses := true, apart := false, narrowed := true }
def SpongeBoundsUptoSaid : Prop := spongeBoundsUptoRow.holds Try.pinned (OpenSpec.upto spongeBoundsSpec)

end Rows
end Go.Proofs.Ytaffpnnhoagmaaa
