/- Merkle's functions without tables, in the print's form. Conditions: those that each theorem names. Printed by gen_nil12.py. -/
import Derived.Test.YtmibjgjgfombaaaHSu
import Derived.WalkMore
import Derived.Test.YtmibjgjgfombaaaPx4
set_option linter.unusedVariables false
set_option linter.unusedSimpArgs false
set_option maxRecDepth 100000
namespace Go.Proofs.Ytmibjgjgfombaaa.P
open Go.RowKit Go.Proofs.Ytmibjgjgfombaaa.Br Go.Proofs.YtmibjgjgfombaaaX Go.Proofs.YtmibjgjgfombaaaW.PrintWords Go.Proofs.YtmibjgjgfombaaaW.PrintLast Go.Proofs.YtmibjgjgfombaaaW.PrintMore
set_option maxHeartbeats 8000000 in
set_option maxRecDepth 100000 in
theorem climbNil_calls (h i : Int) (s : ByteArray) (v : Value) (w : World) :
  Calls Try.prog 22 #[.pointer none, .int .i64 h, .int .i64 i, .string s, v] w fun e w' => e = .returned (.tuple #[.string ⟨#[]⟩, .slice none 0 0, .int .i64 1]) ∧ Below w.heap.size w w' := by
 have HB := Aside0.mk (Below.refl w.heap.size w)
 go_enter Try.func22, Try.ntmps22
 go_wp2
 go_ret3
 exact ⟨by first | rfl | (simp; done) | (simp [*]; done), HB.out⟩
def merkle_ClimbNil.f (_ : Nat) (_ _ : Int) (_ : ByteArray) (_ : List ByteArray) : Option (ByteArray × List ByteArray × Int) := some (⟨#[]⟩, [], 1)
theorem merkle_ClimbNil.calls (k : Nat) (a1 a2 : Int) (a3 : ByteArray) (A4 : Option Addr) (c4 : Nat) (l4 : List ByteArray) (r1 : ByteArray) (r2 : List ByteArray) (r3 : Int) (w : World) (hr4 : Kd.C Kd.string w A4 l4.length l4) (hc4 : l4.length ≤ c4) (h : merkle_ClimbNil.f k a1 a2 a3 l4 = some (r1, r2, r3)) :
  Calls Try.prog 22 #[.pointer none, .int .i64 a1, .int .i64 a2, .string a3, .slice A4 l4.length c4] w fun e w' => ∃ v0 : Value, e = .returned (.tuple #[.string r1, v0, .int .i64 r3]) ∧ Kd.R Kd.string 9 w' w.heap.size (fun _ => True) v0 r2 ∧ Below w.heap.size w w' := by
 obtain ⟨rfl, rfl, rfl⟩ : (⟨#[]⟩ : ByteArray) = r1 ∧ ([] : List ByteArray) = r2 ∧ (1 : Int) = r3 := by simpa [merkle_ClimbNil.f] using h
 refine (climbNil_calls a1 a2 a3 _ w).mono ?_
 rintro e w' ⟨he, hb⟩
 exact ⟨_, he, Kd.R_nil _ _ _ _ _, hb⟩
end Go.Proofs.Ytmibjgjgfombaaa.P
