/- The lower halves of all lanes, out of a table (pack.low). Conditions: the level is from 0 to 6. -/
import Derived.Test.YtceneggampgboaaPx0
set_option linter.unusedVariables false
namespace Go.Proofs.Ytceneggampgboaa.P
open Go.RowKit Go.Proofs.YtceneggampgboaaX Go.Proofs.YtceneggampgboaaW.PrintWords Go.Proofs.YtceneggampgboaaW.PrintLast Go.Proofs.YtceneggampgboaaW.PrintMore
def lowT : List Int := [0, 6148914691236517205, 3689348814741910323, 1085102592571150095, 71777214294589695, 281470681808895, 4294967295]
def pack_low.f (a0 : Int) : Option Int := if 0 ≤ a0 then (if a0 < 7 then some (rd lowT a0) else none) else none
theorem low_at (W : World) : ∀ i : Fin 7, (Instr.index 98 (.agg #[.int .u64 0, .int .u64 6148914691236517205, .int .u64 3689348814741910323, .int .u64 1085102592571150095, .int .u64 71777214294589695, .int .u64 281470681808895, .int .u64 4294967295]) (.int .i64 (i.val : Int))).run Try.prog W = .ok (.int .u64 (rd lowT (i.val : Int))) W
  | 0 => by kernel_rfl
  | 1 => by kernel_rfl
  | 2 => by kernel_rfl
  | 3 => by kernel_rfl
  | 4 => by kernel_rfl
  | 5 => by kernel_rfl
  | 6 => by kernel_rfl
set_option maxHeartbeats 1000000 in
set_option maxRecDepth 100000 in
theorem pack_low.calls (a0 : Int) (r : Int) (w : World) (h : pack_low.f a0 = some r) : Calls Try.prog 55 #[.int .i64 a0] w fun e w' => e = .returned (.int .u64 r) ∧ Drawn0 w w' := by
  unfold pack_low.f at h
  by_cases h0 : 0 ≤ a0
  · rw [if_pos h0] at h
    by_cases h7 : a0 < 7
    · rw [if_pos h7] at h
      have hI : ∀ W : World, (Instr.index 98 (.agg #[.int .u64 0, .int .u64 6148914691236517205, .int .u64 3689348814741910323, .int .u64 1085102592571150095, .int .u64 71777214294589695, .int .u64 281470681808895, .int .u64 4294967295]) (.int .i64 a0)).run Try.prog W = .ok (.int .u64 (rd lowT a0)) W := fun W => by
        have := low_at W ⟨a0.toNat, by omega⟩
        rw [show ((⟨a0.toNat, by omega⟩ : Fin 7).val : Int) = a0 by show (a0.toNat : Int) = a0; omega] at this
        exact this
      obtain rfl := Option.some.inj h
      clear h h0 h7
      go_enter Try.func55, Try.ntmps55
      go_wp2
      go_ret
      exact ⟨rfl, Drawn0.refl _⟩
    · rw [if_neg h7] at h
      cases h
  · rw [if_neg h0] at h
    cases h
end Go.Proofs.Ytceneggampgboaa.P
