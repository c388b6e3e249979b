/-
  No cell of these rows narrows 'for every input' (looked for: loops, veiled, ifaces, maps, wideKeys, modest, calm, conditions, laid).
  DERIVED. THE GIVEN ROWS OF THIS SEAT. 6 by the template 'for every input the law returns true; each argument reads behind the call as it read before'; 0 by the template 'total and deterministic' (their statements: YthgiifakcgjlaaaTotals.lean).
  GIVEN WITH THE SEED: the statements are not yours to turn. If you find one false, say at which input.
  Laid BY PROGRAM, IN A SANDBOX (cutbox-rows.mjs): the forced cells as the released guide's own fill.sh prints them over the translation cb15fef53c5bbe65… (all of the seat's roots in one cut). By AI agents, Wed Nov 11 2026. No macro, syntax, notation, axiom, sorry.
-/
import Derived.Test.YthgiifakcgjlaaaChecked
import GoSem.Claim
import GoSem.ClaimJoined
import GoSem.ClaimMapViews
import Derived.JoinedTies
import Derived.KernelRfl
namespace Go.Proofs.Ythgiifakcgjlaaa
/- THE CELL 'sum', in the pinned program and in every row, IS THE sha256 OF THE DUMP (.gsa) THAT YthgiifakcgjlaaaProg.lean LOADS. Nothing in Lean hashes anything: it is a label: what it is worth is what the hold of that sum in a sandbox is worth. -/
noncomputable def Try.pinned : Pinned := { name := "ythgiifakcgjlaaa", sum := "cb15fef53c5bbe65a93a0fd00bc7ca8199f83e80b36eb727117060ad6a862520", checked := Try.checked }
namespace Rows
def none {H : Type} : Left H := { results := [], args := [] }

/-- 'steeplelaw29.ProofParams': WHATEVER THE INPUT: true; the input reads as it did. -/
def proofParamsSpec : ChangeSpec := { name := "proofParams", fn := fun _ => fun
  | [d1, d2] => { results := [.lit (.bool true)], args := [d1, d2] }
  | _ => none }
def proofParamsRow : OpenClaim := { program := "ythgiifakcgjlaaa", sum := "cb15fef53c5bbe65a93a0fd00bc7ca8199f83e80b36eb727117060ad6a862520", func := "steeple/steeplelaw29.ProofParams", spec := "proofParams", inPlace := ["internal/abi.NoEscape"], apart := false }
def ProofParamsSaid : Prop := proofParamsRow.holds Try.pinned (OpenSpec.ofChange proofParamsSpec)

/-- ITS FALSE NEIGHBOUR: 'it returns false'. Refute it at one input. -/
def proofParamsWrong : ChangeSpec := { name := "proofParams", fn := fun _ => fun
  | [d1, d2] => { results := [.lit (.bool false)], args := [d1, d2] }
  | _ => none }
def ProofParamsWrongFalsely : Prop := proofParamsRow.holds Try.pinned (OpenSpec.ofChange proofParamsWrong)

/-- 'steeplelaw29.ProofWords': WHATEVER THE INPUT: true; the input reads as it did. -/
def proofWordsSpec : ChangeSpec := { name := "proofWords", fn := fun _ => fun
  | [d1, d2] => { results := [.lit (.bool true)], args := [d1, d2] }
  | _ => none }
def proofWordsRow : OpenClaim := { program := "ythgiifakcgjlaaa", sum := "cb15fef53c5bbe65a93a0fd00bc7ca8199f83e80b36eb727117060ad6a862520", func := "steeple/steeplelaw29.ProofWords", spec := "proofWords", inPlace := ["internal/abi.NoEscape"], unfollowed := true, recurses := true, apart := false }
def ProofWordsSaid : Prop := proofWordsRow.holds Try.pinned (OpenSpec.ofChange proofWordsSpec)

/-- ITS FALSE NEIGHBOUR: 'it returns false'. Refute it at one input. -/
def proofWordsWrong : ChangeSpec := { name := "proofWords", fn := fun _ => fun
  | [d1, d2] => { results := [.lit (.bool false)], args := [d1, d2] }
  | _ => none }
def ProofWordsWrongFalsely : Prop := proofWordsRow.holds Try.pinned (OpenSpec.ofChange proofWordsWrong)

/-- 'steeplelaw29.ProofSystems': WHATEVER THE INPUT: true; the input reads as it did. -/
def proofSystemsSpec : ChangeSpec := { name := "proofSystems", fn := fun _ => fun
  | [d1, d2] => { results := [.lit (.bool true)], args := [d1, d2] }
  | _ => none }
def proofSystemsRow : OpenClaim := { program := "ythgiifakcgjlaaa", sum := "cb15fef53c5bbe65a93a0fd00bc7ca8199f83e80b36eb727117060ad6a862520", func := "steeple/steeplelaw29.ProofSystems", spec := "proofSystems", inPlace := ["internal/abi.NoEscape"], unfollowed := true, recurses := true, apart := false }
def ProofSystemsSaid : Prop := proofSystemsRow.holds Try.pinned (OpenSpec.ofChange proofSystemsSpec)

/-- ITS FALSE NEIGHBOUR: 'it returns false'. Refute it at one input. -/
def proofSystemsWrong : ChangeSpec := { name := "proofSystems", fn := fun _ => fun
  | [d1, d2] => { results := [.lit (.bool false)], args := [d1, d2] }
  | _ => none }
def ProofSystemsWrongFalsely : Prop := proofSystemsRow.holds Try.pinned (OpenSpec.ofChange proofSystemsWrong)

/-- 'steeplelaw29.ProofBytes': WHATEVER THE INPUT: true; the input reads as it did. -/
def proofBytesSpec : ChangeSpec := { name := "proofBytes", fn := fun _ => fun
  | [d1, d2] => { results := [.lit (.bool true)], args := [d1, d2] }
  | _ => none }
def proofBytesRow : OpenClaim := { program := "ythgiifakcgjlaaa", sum := "cb15fef53c5bbe65a93a0fd00bc7ca8199f83e80b36eb727117060ad6a862520", func := "steeple/steeplelaw29.ProofBytes", spec := "proofBytes", inPlace := ["internal/abi.NoEscape"], unfollowed := true, recurses := true, apart := false }
def ProofBytesSaid : Prop := proofBytesRow.holds Try.pinned (OpenSpec.ofChange proofBytesSpec)

/-- ITS FALSE NEIGHBOUR: 'it returns false'. Refute it at one input. -/
def proofBytesWrong : ChangeSpec := { name := "proofBytes", fn := fun _ => fun
  | [d1, d2] => { results := [.lit (.bool false)], args := [d1, d2] }
  | _ => none }
def ProofBytesWrongFalsely : Prop := proofBytesRow.holds Try.pinned (OpenSpec.ofChange proofBytesWrong)

/-- 'steeplelaw29.ProofOne': WHATEVER THE INPUT: true; the input reads as it did. -/
def proofOneSpec : ChangeSpec := { name := "proofOne", fn := fun _ => fun
  | [d] => { results := [.lit (.bool true)], args := [d] }
  | _ => none }
def proofOneRow : OpenClaim := { program := "ythgiifakcgjlaaa", sum := "cb15fef53c5bbe65a93a0fd00bc7ca8199f83e80b36eb727117060ad6a862520", func := "steeple/steeplelaw29.ProofOne", spec := "proofOne", inPlace := ["internal/abi.NoEscape"], unfollowed := true, recurses := true, apart := false }
def ProofOneSaid : Prop := proofOneRow.holds Try.pinned (OpenSpec.ofChange proofOneSpec)

/-- ITS FALSE NEIGHBOUR: 'it returns false'. Refute it at one input. -/
def proofOneWrong : ChangeSpec := { name := "proofOne", fn := fun _ => fun
  | [d] => { results := [.lit (.bool false)], args := [d] }
  | _ => none }
def ProofOneWrongFalsely : Prop := proofOneRow.holds Try.pinned (OpenSpec.ofChange proofOneWrong)

/-- 'steeplelaw29.ProofLong': WHATEVER THE INPUT: true; the input reads as it did. -/
def proofLongSpec : ChangeSpec := { name := "proofLong", fn := fun _ => fun
  | [d] => { results := [.lit (.bool true)], args := [d] }
  | _ => none }
def proofLongRow : OpenClaim := { program := "ythgiifakcgjlaaa", sum := "cb15fef53c5bbe65a93a0fd00bc7ca8199f83e80b36eb727117060ad6a862520", func := "steeple/steeplelaw29.ProofLong", spec := "proofLong", inPlace := ["internal/abi.NoEscape"], unfollowed := true, recurses := true, apart := false }
def ProofLongSaid : Prop := proofLongRow.holds Try.pinned (OpenSpec.ofChange proofLongSpec)

/-- ITS FALSE NEIGHBOUR: 'it returns false'. Refute it at one input. -/
def proofLongWrong : ChangeSpec := { name := "proofLong", fn := fun _ => fun
  | [d] => { results := [.lit (.bool false)], args := [d] }
  | _ => none }
def ProofLongWrongFalsely : Prop := proofLongRow.holds Try.pinned (OpenSpec.ofChange proofLongWrong)

/- THE SECOND FORM. 'bulk': how many values and letters a reading holds, each counted each time it is reached (what is shared counts as often as it is met; a slice's spare places count too). A statement '..UptoSaid' is the law's where the arguments, and the package variables that the reading takes, are together of bulk at most 1048576: NARROWER than '..Said'. Prove '..Said' where nothing that the law and all that it calls make is longer than what came in: it says more and counts as full. Else prove '..UptoSaid'. A law counts once. -/
mutual
def uptoBulk {H : Type} : DataW H → Nat
  | .lit (.string bytes) => bytes.length + 1
  | .lit _ => 1
  | .nil => 1
  | .ptr d => uptoBulk d + 1
  | .slice elems spare => uptoBulkAll elems + uptoBulkAll spare + 1
  | .agg parts => uptoBulkAll parts + 1
  | .iface _ d => uptoBulk d + 1
  | .map entries => uptoBulkEntries entries + 1
  | .held _ => 1
def uptoBulkAll {H : Type} : List (DataW H) → Nat
  | [] => 0
  | d :: r => uptoBulk d + uptoBulkAll r
def uptoBulkEntries {H : Type} : List (Lit × DataW H) → Nat
  | [] => 0
  | x :: r => uptoBulkEntry x + uptoBulkEntries r
def uptoBulkEntry {H : Type} : Lit × DataW H → Nat
  | (.string bytes, d) => bytes.length + uptoBulk d + 1
  | (_, d) => uptoBulk d + 1
 end
def uptoSmall : (H : Type) → List (DataW H) → Bool := fun _ ds => decide (uptoBulkAll ds ≤ 1048576)
def OpenSpec.upto (s : _root_.Go.ChangeSpec) : _root_.Go.OpenSpec := { _root_.Go.OpenSpec.ofChange s with cond := some uptoSmall }

/-- 'steeplelaw29.ProofParams', WHERE WHAT IT READS IS OF BULK AT MOST 1048576: true; the input reads as it did. -/
def proofParamsUptoRow : OpenClaim := { program := "ythgiifakcgjlaaa", sum := "cb15fef53c5bbe65a93a0fd00bc7ca8199f83e80b36eb727117060ad6a862520", func := "steeple/steeplelaw29.ProofParams", spec := "proofParams", inPlace := ["internal/abi.NoEscape"], apart := false, narrowed := true }
def ProofParamsUptoSaid : Prop := proofParamsUptoRow.holds Try.pinned (OpenSpec.upto proofParamsSpec)

/-- 'steeplelaw29.ProofWords', WHERE WHAT IT READS IS OF BULK AT MOST 1048576: true; the input reads as it did. -/
def proofWordsUptoRow : OpenClaim := { program := "ythgiifakcgjlaaa", sum := "cb15fef53c5bbe65a93a0fd00bc7ca8199f83e80b36eb727117060ad6a862520", func := "steeple/steeplelaw29.ProofWords", spec := "proofWords", inPlace := ["internal/abi.NoEscape"], unfollowed := true, recurses := true, apart := false, narrowed := true }
def ProofWordsUptoSaid : Prop := proofWordsUptoRow.holds Try.pinned (OpenSpec.upto proofWordsSpec)

/-- 'steeplelaw29.ProofSystems', WHERE WHAT IT READS IS OF BULK AT MOST 1048576: true; the input reads as it did. -/
def proofSystemsUptoRow : OpenClaim := { program := "ythgiifakcgjlaaa", sum := "cb15fef53c5bbe65a93a0fd00bc7ca8199f83e80b36eb727117060ad6a862520", func := "steeple/steeplelaw29.ProofSystems", spec := "proofSystems", inPlace := ["internal/abi.NoEscape"], unfollowed := true, recurses := true, apart := false, narrowed := true }
def ProofSystemsUptoSaid : Prop := proofSystemsUptoRow.holds Try.pinned (OpenSpec.upto proofSystemsSpec)

/-- 'steeplelaw29.ProofBytes', WHERE WHAT IT READS IS OF BULK AT MOST 1048576: true; the input reads as it did. -/
def proofBytesUptoRow : OpenClaim := { program := "ythgiifakcgjlaaa", sum := "cb15fef53c5bbe65a93a0fd00bc7ca8199f83e80b36eb727117060ad6a862520", func := "steeple/steeplelaw29.ProofBytes", spec := "proofBytes", inPlace := ["internal/abi.NoEscape"], unfollowed := true, recurses := true, apart := false, narrowed := true }
def ProofBytesUptoSaid : Prop := proofBytesUptoRow.holds Try.pinned (OpenSpec.upto proofBytesSpec)

/-- 'steeplelaw29.ProofOne', WHERE WHAT IT READS IS OF BULK AT MOST 1048576: true; the input reads as it did. -/
def proofOneUptoRow : OpenClaim := { program := "ythgiifakcgjlaaa", sum := "cb15fef53c5bbe65a93a0fd00bc7ca8199f83e80b36eb727117060ad6a862520", func := "steeple/steeplelaw29.ProofOne", spec := "proofOne", inPlace := ["internal/abi.NoEscape"], unfollowed := true, recurses := true, apart := false, narrowed := true }
def ProofOneUptoSaid : Prop := proofOneUptoRow.holds Try.pinned (OpenSpec.upto proofOneSpec)

/-- 'steeplelaw29.ProofLong', WHERE WHAT IT READS IS OF BULK AT MOST 1048576: true; the input reads as it did. -/
def proofLongUptoRow : OpenClaim := { program := "ythgiifakcgjlaaa", sum := "cb15fef53c5bbe65a93a0fd00bc7ca8199f83e80b36eb727117060ad6a862520", func := "steeple/steeplelaw29.ProofLong", spec := "proofLong", inPlace := ["internal/abi.NoEscape"], unfollowed := true, recurses := true, apart := false, narrowed := true }
def ProofLongUptoSaid : Prop := proofLongUptoRow.holds Try.pinned (OpenSpec.upto proofLongSpec)

end Rows
end Go.Proofs.Ythgiifakcgjlaaa
