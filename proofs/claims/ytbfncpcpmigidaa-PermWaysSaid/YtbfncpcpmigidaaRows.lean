/-
  No cell of these rows narrows 'for every input' (looked for: loops, veiled, ifaces, maps, wideKeys, modest, calm, conditions, laid).
  DERIVED. THE GIVEN ROWS OF THIS SEAT. 5 by the template 'for every input the law returns true; each argument reads behind the call as it read before'; 0 by the template 'total and deterministic' (their statements: YtbfncpcpmigidaaTotals.lean).
  GIVEN WITH THE SEED: the statements are not yours to turn. If you find one false, say at which input.
  Laid BY PROGRAM, IN A SANDBOX (cutbox-rows.mjs): the forced cells as the released guide's own fill.sh prints them over the translation d1896c7a79c79baa… (all of the seat's roots in one cut). By AI agents, Wed Nov 11 2026. No macro, syntax, notation, axiom, sorry.
-/
import Derived.Test.YtbfncpcpmigidaaChecked
import GoSem.Claim
import GoSem.ClaimJoined
import GoSem.ClaimMapViews
import Derived.JoinedTies
import Derived.KernelRfl
namespace Go.Proofs.Ytbfncpcpmigidaa
/- THE CELL 'sum', in the pinned program and in every row, IS THE sha256 OF THE DUMP (.gsa) THAT YtbfncpcpmigidaaProg.lean LOADS. Nothing in Lean hashes anything: it is a label: what it is worth is what the hold of that sum in a sandbox is worth. -/
noncomputable def Try.pinned : Pinned := { name := "ytbfncpcpmigidaa", sum := "d1896c7a79c79baa122e3daf182c30a4908e0f5200b0e3eb10532604ed1f85ad", checked := Try.checked }
namespace Rows
def none {H : Type} : Left H := { results := [], args := [] }

/-- 'steeplelaw10.PermTables': WHATEVER THE INPUT: true; the input reads as it did. -/
def permTablesSpec : ChangeSpec := { name := "permTables", fn := fun _ => fun
  | [d1, d2] => { results := [.lit (.bool true)], args := [d1, d2] }
  | _ => none }
def permTablesRow : OpenClaim := { program := "ytbfncpcpmigidaa", sum := "d1896c7a79c79baa122e3daf182c30a4908e0f5200b0e3eb10532604ed1f85ad", func := "steeple/steeplelaw10.PermTables", spec := "permTables", recurses := true, apart := false }
def PermTablesSaid : Prop := permTablesRow.holds Try.pinned (OpenSpec.ofChange permTablesSpec)

/-- ITS FALSE NEIGHBOUR: 'it returns false'. Refute it at one input. -/
def permTablesWrong : ChangeSpec := { name := "permTables", fn := fun _ => fun
  | [d1, d2] => { results := [.lit (.bool false)], args := [d1, d2] }
  | _ => none }
def PermTablesWrongFalsely : Prop := permTablesRow.holds Try.pinned (OpenSpec.ofChange permTablesWrong)

/-- 'steeplelaw10.PermOne': WHATEVER THE INPUT: true; the input reads as it did. -/
def permOneSpec : ChangeSpec := { name := "permOne", fn := fun _ => fun
  | [d1, d2] => { results := [.lit (.bool true)], args := [d1, d2] }
  | _ => none }
def permOneRow : OpenClaim := { program := "ytbfncpcpmigidaa", sum := "d1896c7a79c79baa122e3daf182c30a4908e0f5200b0e3eb10532604ed1f85ad", func := "steeple/steeplelaw10.PermOne", spec := "permOne", recurses := true, apart := false }
def PermOneSaid : Prop := permOneRow.holds Try.pinned (OpenSpec.ofChange permOneSpec)

/-- ITS FALSE NEIGHBOUR: 'it returns false'. Refute it at one input. -/
def permOneWrong : ChangeSpec := { name := "permOne", fn := fun _ => fun
  | [d1, d2] => { results := [.lit (.bool false)], args := [d1, d2] }
  | _ => none }
def PermOneWrongFalsely : Prop := permOneRow.holds Try.pinned (OpenSpec.ofChange permOneWrong)

/-- 'steeplelaw10.PermWays': WHATEVER THE INPUT: true; the input reads as it did. -/
def permWaysSpec : ChangeSpec := { name := "permWays", fn := fun _ => fun
  | [d] => { results := [.lit (.bool true)], args := [d] }
  | _ => none }
def permWaysRow : OpenClaim := { program := "ytbfncpcpmigidaa", sum := "d1896c7a79c79baa122e3daf182c30a4908e0f5200b0e3eb10532604ed1f85ad", func := "steeple/steeplelaw10.PermWays", spec := "permWays", unfollowed := true, recurses := true, apart := false }
def PermWaysSaid : Prop := permWaysRow.holds Try.pinned (OpenSpec.ofChange permWaysSpec)

/-- ITS FALSE NEIGHBOUR: 'it returns false'. Refute it at one input. -/
def permWaysWrong : ChangeSpec := { name := "permWays", fn := fun _ => fun
  | [d] => { results := [.lit (.bool false)], args := [d] }
  | _ => none }
def PermWaysWrongFalsely : Prop := permWaysRow.holds Try.pinned (OpenSpec.ofChange permWaysWrong)

/-- 'steeplelaw10.PermBack': WHATEVER THE INPUT: true; the input reads as it did. -/
def permBackSpec : ChangeSpec := { name := "permBack", fn := fun _ => fun
  | [d] => { results := [.lit (.bool true)], args := [d] }
  | _ => none }
def permBackRow : OpenClaim := { program := "ytbfncpcpmigidaa", sum := "d1896c7a79c79baa122e3daf182c30a4908e0f5200b0e3eb10532604ed1f85ad", func := "steeple/steeplelaw10.PermBack", spec := "permBack", unfollowed := true, recurses := true, apart := false }
def PermBackSaid : Prop := permBackRow.holds Try.pinned (OpenSpec.ofChange permBackSpec)

/-- ITS FALSE NEIGHBOUR: 'it returns false'. Refute it at one input. -/
def permBackWrong : ChangeSpec := { name := "permBack", fn := fun _ => fun
  | [d] => { results := [.lit (.bool false)], args := [d] }
  | _ => none }
def PermBackWrongFalsely : Prop := permBackRow.holds Try.pinned (OpenSpec.ofChange permBackWrong)

/-- 'steeplelaw10.PermNil': WHATEVER THE INPUT: true; the input reads as it did. -/
def permNilSpec : ChangeSpec := { name := "permNil", fn := fun _ => fun
  | [d1, d2, d3] => { results := [.lit (.bool true)], args := [d1, d2, d3] }
  | _ => none }
def permNilRow : OpenClaim := { program := "ytbfncpcpmigidaa", sum := "d1896c7a79c79baa122e3daf182c30a4908e0f5200b0e3eb10532604ed1f85ad", func := "steeple/steeplelaw10.PermNil", spec := "permNil", unfollowed := true, recurses := true, apart := false }
def PermNilSaid : Prop := permNilRow.holds Try.pinned (OpenSpec.ofChange permNilSpec)

/-- ITS FALSE NEIGHBOUR: 'it returns false'. Refute it at one input. -/
def permNilWrong : ChangeSpec := { name := "permNil", fn := fun _ => fun
  | [d1, d2, d3] => { results := [.lit (.bool false)], args := [d1, d2, d3] }
  | _ => none }
def PermNilWrongFalsely : Prop := permNilRow.holds Try.pinned (OpenSpec.ofChange permNilWrong)

/- THE SECOND FORM. 'bulk': how many values and letters a reading holds, each counted each time it is reached (what is shared counts as often as it is met; a slice's spare places count too). A statement '..UptoSaid' is the law's where the arguments, and the package variables that the reading takes, are together of bulk at most 1048576: NARROWER than '..Said'. Prove '..Said' where nothing that the law and all that it calls make is longer than what came in: it says more and counts as full. Else prove '..UptoSaid'. A law counts once. -/
mutual
def uptoBulk {H : Type} : DataW H → Nat
  | .lit (.string bytes) => bytes.length + 1
  | .lit _ => 1
  | .nil => 1
  | .ptr d => uptoBulk d + 1
  | .slice elems spare => uptoBulkAll elems + uptoBulkAll spare + 1
  | .agg parts => uptoBulkAll parts + 1
  | .iface _ d => uptoBulk d + 1
  | .map entries => uptoBulkEntries entries + 1
  | .held _ => 1
def uptoBulkAll {H : Type} : List (DataW H) → Nat
  | [] => 0
  | d :: r => uptoBulk d + uptoBulkAll r
def uptoBulkEntries {H : Type} : List (Lit × DataW H) → Nat
  | [] => 0
  | x :: r => uptoBulkEntry x + uptoBulkEntries r
def uptoBulkEntry {H : Type} : Lit × DataW H → Nat
  | (.string bytes, d) => bytes.length + uptoBulk d + 1
  | (_, d) => uptoBulk d + 1
 end
def uptoSmall : (H : Type) → List (DataW H) → Bool := fun _ ds => decide (uptoBulkAll ds ≤ 1048576)
def OpenSpec.upto (s : _root_.Go.ChangeSpec) : _root_.Go.OpenSpec := { _root_.Go.OpenSpec.ofChange s with cond := some uptoSmall }

/-- 'steeplelaw10.PermTables', WHERE WHAT IT READS IS OF BULK AT MOST 1048576: true; the input reads as it did. -/
def permTablesUptoRow : OpenClaim := { program := "ytbfncpcpmigidaa", sum := "d1896c7a79c79baa122e3daf182c30a4908e0f5200b0e3eb10532604ed1f85ad", func := "steeple/steeplelaw10.PermTables", spec := "permTables", recurses := true, apart := false, narrowed := true }
def PermTablesUptoSaid : Prop := permTablesUptoRow.holds Try.pinned (OpenSpec.upto permTablesSpec)

/-- 'steeplelaw10.PermOne', WHERE WHAT IT READS IS OF BULK AT MOST 1048576: true; the input reads as it did. -/
def permOneUptoRow : OpenClaim := { program := "ytbfncpcpmigidaa", sum := "d1896c7a79c79baa122e3daf182c30a4908e0f5200b0e3eb10532604ed1f85ad", func := "steeple/steeplelaw10.PermOne", spec := "permOne", recurses := true, apart := false, narrowed := true }
def PermOneUptoSaid : Prop := permOneUptoRow.holds Try.pinned (OpenSpec.upto permOneSpec)

/-- 'steeplelaw10.PermWays', WHERE WHAT IT READS IS OF BULK AT MOST 1048576: true; the input reads as it did. -/
def permWaysUptoRow : OpenClaim := { program := "ytbfncpcpmigidaa", sum := "d1896c7a79c79baa122e3daf182c30a4908e0f5200b0e3eb10532604ed1f85ad", func := "steeple/steeplelaw10.PermWays", spec := "permWays", unfollowed := true, recurses := true, apart := false, narrowed := true }
def PermWaysUptoSaid : Prop := permWaysUptoRow.holds Try.pinned (OpenSpec.upto permWaysSpec)

/-- 'steeplelaw10.PermBack', WHERE WHAT IT READS IS OF BULK AT MOST 1048576: true; the input reads as it did. -/
def permBackUptoRow : OpenClaim := { program := "ytbfncpcpmigidaa", sum := "d1896c7a79c79baa122e3daf182c30a4908e0f5200b0e3eb10532604ed1f85ad", func := "steeple/steeplelaw10.PermBack", spec := "permBack", unfollowed := true, recurses := true, apart := false, narrowed := true }
def PermBackUptoSaid : Prop := permBackUptoRow.holds Try.pinned (OpenSpec.upto permBackSpec)

/-- 'steeplelaw10.PermNil', WHERE WHAT IT READS IS OF BULK AT MOST 1048576: true; the input reads as it did. -/
def permNilUptoRow : OpenClaim := { program := "ytbfncpcpmigidaa", sum := "d1896c7a79c79baa122e3daf182c30a4908e0f5200b0e3eb10532604ed1f85ad", func := "steeple/steeplelaw10.PermNil", spec := "permNil", unfollowed := true, recurses := true, apart := false, narrowed := true }
def PermNilUptoSaid : Prop := permNilUptoRow.holds Try.pinned (OpenSpec.upto permNilSpec)

end Rows
end Go.Proofs.Ytbfncpcpmigidaa
