/- Written by a program of this session: functions that the law reaches, as Lean functions, and that the code comes to their answers. Conditions: those that each theorem names. -/
import Derived.Test.YtlegcabfgkccmaaPx6a
import Derived.Test.YtlegcabfgkccmaaPx0
import Derived.Test.YtlegcabfgkccmaaPx1
import Derived.Test.YtlegcabfgkccmaaPx3
import Derived.Test.YtlegcabfgkccmaaPx4
import Derived.Test.YtlegcabfgkccmaaHLeast
import Derived.Test.YtlegcabfgkccmaaHNorm
import Derived.Test.YtlegcabfgkccmaaHTrace
namespace Go.Proofs.Ytlegcabfgkccmaa.P
open Go.RowKit Go.Proofs.YtlegcabfgkccmaaX Go.Proofs.YtlegcabfgkccmaaW.PrintWords Go.Proofs.YtlegcabfgkccmaaW.PrintLast Go.Proofs.YtlegcabfgkccmaaW.PrintMore
attribute [local go_sem] max2_int min2_int max_two min_two max_three min_three max_four min_four   -- for this text's walks alone
set_option linter.unusedVariables false
set_option linter.unusedSimpArgs false

attribute [local go_sem high] eqA24
/-! ### steeplelaw33_FrobThrough: function 4 -/
def steeplelaw33_FrobThrough.f (k : Nat) (a0 : Int) (a1_0 : Int) (a1_1 : Int) (a2_0 : Int) (a2_1 : Int) : Option (Bool) := if (wrap64 ((Int.tmod (wrap64 ((Int.tmod a0 8) + 8)) 8) + 1)) = 0 then (none) else (if (wrap64 ((Int.tmod (wrap64 ((wrap64 ((Int.tmod a1_0 (wrap64 ((Int.tmod (wrap64 ((Int.tmod a0 8) + 8)) 8) + 1))) + (Int.tmod (wrap64 ((Int.tmod a0 8) + 8)) 8))) + 1)) (wrap64 ((Int.tmod (wrap64 ((Int.tmod a0 8) + 8)) 8) + 1))) + 1)) = 0 then (none) else ((steeplelaw33_of.f (Int.tmod (wrap64 ((Int.tmod a0 8) + 8)) 8) a2_0 a2_1).bind fun bt187 => ((steeplelaw33_awake.f k).bind fun t190 => (if t190 = true then ((frob_Trace.f k (Int.tmod (wrap64 ((Int.tmod a0 8) + 8)) 8) (Int.tmod (wrap64 ((wrap64 ((Int.tmod a1_1 (wrap64 ((Int.tmod (wrap64 ((wrap64 ((Int.tmod a1_0 (wrap64 ((Int.tmod (wrap64 ((Int.tmod a0 8) + 8)) 8) + 1))) + (Int.tmod (wrap64 ((Int.tmod a0 8) + 8)) 8))) + 1)) (wrap64 ((Int.tmod (wrap64 ((Int.tmod a0 8) + 8)) 8) + 1))) + 1))) + (Int.tmod (wrap64 ((wrap64 ((Int.tmod a1_0 (wrap64 ((Int.tmod (wrap64 ((Int.tmod a0 8) + 8)) 8) + 1))) + (Int.tmod (wrap64 ((Int.tmod a0 8) + 8)) 8))) + 1)) (wrap64 ((Int.tmod (wrap64 ((Int.tmod a0 8) + 8)) 8) + 1))))) + 1)) (wrap64 ((Int.tmod (wrap64 ((wrap64 ((Int.tmod a1_0 (wrap64 ((Int.tmod (wrap64 ((Int.tmod a0 8) + 8)) 8) + 1))) + (Int.tmod (wrap64 ((Int.tmod a0 8) + 8)) 8))) + 1)) (wrap64 ((Int.tmod (wrap64 ((Int.tmod a0 8) + 8)) 8) + 1))) + 1))) bt187.1 bt187.2).bind fun bt191 => ((frob_Trace.f k (Int.tmod (wrap64 ((Int.tmod a0 8) + 8)) 8) (Int.tmod (wrap64 ((wrap64 ((Int.tmod a1_0 (wrap64 ((Int.tmod (wrap64 ((Int.tmod a0 8) + 8)) 8) + 1))) + (Int.tmod (wrap64 ((Int.tmod a0 8) + 8)) 8))) + 1)) (wrap64 ((Int.tmod (wrap64 ((Int.tmod a0 8) + 8)) 8) + 1))) bt187.1 bt187.2).bind fun bt193 => ((frob_Trace.f k (Int.tmod (wrap64 ((wrap64 ((Int.tmod a1_0 (wrap64 ((Int.tmod (wrap64 ((Int.tmod a0 8) + 8)) 8) + 1))) + (Int.tmod (wrap64 ((Int.tmod a0 8) + 8)) 8))) + 1)) (wrap64 ((Int.tmod (wrap64 ((Int.tmod a0 8) + 8)) 8) + 1))) (Int.tmod (wrap64 ((wrap64 ((Int.tmod a1_1 (wrap64 ((Int.tmod (wrap64 ((wrap64 ((Int.tmod a1_0 (wrap64 ((Int.tmod (wrap64 ((Int.tmod a0 8) + 8)) 8) + 1))) + (Int.tmod (wrap64 ((Int.tmod a0 8) + 8)) 8))) + 1)) (wrap64 ((Int.tmod (wrap64 ((Int.tmod a0 8) + 8)) 8) + 1))) + 1))) + (Int.tmod (wrap64 ((wrap64 ((Int.tmod a1_0 (wrap64 ((Int.tmod (wrap64 ((Int.tmod a0 8) + 8)) 8) + 1))) + (Int.tmod (wrap64 ((Int.tmod a0 8) + 8)) 8))) + 1)) (wrap64 ((Int.tmod (wrap64 ((Int.tmod a0 8) + 8)) 8) + 1))))) + 1)) (wrap64 ((Int.tmod (wrap64 ((wrap64 ((Int.tmod a1_0 (wrap64 ((Int.tmod (wrap64 ((Int.tmod a0 8) + 8)) 8) + 1))) + (Int.tmod (wrap64 ((Int.tmod a0 8) + 8)) 8))) + 1)) (wrap64 ((Int.tmod (wrap64 ((Int.tmod a0 8) + 8)) 8) + 1))) + 1))) bt193.1 bt193.2).bind fun bt195 => (if (bt191.1 == bt195.1 && (bt191.2 == bt195.2)) = true then ((frob_Norm.f k (Int.tmod (wrap64 ((Int.tmod a0 8) + 8)) 8) (Int.tmod (wrap64 ((wrap64 ((Int.tmod a1_1 (wrap64 ((Int.tmod (wrap64 ((wrap64 ((Int.tmod a1_0 (wrap64 ((Int.tmod (wrap64 ((Int.tmod a0 8) + 8)) 8) + 1))) + (Int.tmod (wrap64 ((Int.tmod a0 8) + 8)) 8))) + 1)) (wrap64 ((Int.tmod (wrap64 ((Int.tmod a0 8) + 8)) 8) + 1))) + 1))) + (Int.tmod (wrap64 ((wrap64 ((Int.tmod a1_0 (wrap64 ((Int.tmod (wrap64 ((Int.tmod a0 8) + 8)) 8) + 1))) + (Int.tmod (wrap64 ((Int.tmod a0 8) + 8)) 8))) + 1)) (wrap64 ((Int.tmod (wrap64 ((Int.tmod a0 8) + 8)) 8) + 1))))) + 1)) (wrap64 ((Int.tmod (wrap64 ((wrap64 ((Int.tmod a1_0 (wrap64 ((Int.tmod (wrap64 ((Int.tmod a0 8) + 8)) 8) + 1))) + (Int.tmod (wrap64 ((Int.tmod a0 8) + 8)) 8))) + 1)) (wrap64 ((Int.tmod (wrap64 ((Int.tmod a0 8) + 8)) 8) + 1))) + 1))) bt187.1 bt187.2).bind fun bt197 => ((frob_Norm.f k (Int.tmod (wrap64 ((Int.tmod a0 8) + 8)) 8) (Int.tmod (wrap64 ((wrap64 ((Int.tmod a1_0 (wrap64 ((Int.tmod (wrap64 ((Int.tmod a0 8) + 8)) 8) + 1))) + (Int.tmod (wrap64 ((Int.tmod a0 8) + 8)) 8))) + 1)) (wrap64 ((Int.tmod (wrap64 ((Int.tmod a0 8) + 8)) 8) + 1))) bt187.1 bt187.2).bind fun bt199 => ((frob_Norm.f k (Int.tmod (wrap64 ((wrap64 ((Int.tmod a1_0 (wrap64 ((Int.tmod (wrap64 ((Int.tmod a0 8) + 8)) 8) + 1))) + (Int.tmod (wrap64 ((Int.tmod a0 8) + 8)) 8))) + 1)) (wrap64 ((Int.tmod (wrap64 ((Int.tmod a0 8) + 8)) 8) + 1))) (Int.tmod (wrap64 ((wrap64 ((Int.tmod a1_1 (wrap64 ((Int.tmod (wrap64 ((wrap64 ((Int.tmod a1_0 (wrap64 ((Int.tmod (wrap64 ((Int.tmod a0 8) + 8)) 8) + 1))) + (Int.tmod (wrap64 ((Int.tmod a0 8) + 8)) 8))) + 1)) (wrap64 ((Int.tmod (wrap64 ((Int.tmod a0 8) + 8)) 8) + 1))) + 1))) + (Int.tmod (wrap64 ((wrap64 ((Int.tmod a1_0 (wrap64 ((Int.tmod (wrap64 ((Int.tmod a0 8) + 8)) 8) + 1))) + (Int.tmod (wrap64 ((Int.tmod a0 8) + 8)) 8))) + 1)) (wrap64 ((Int.tmod (wrap64 ((Int.tmod a0 8) + 8)) 8) + 1))))) + 1)) (wrap64 ((Int.tmod (wrap64 ((wrap64 ((Int.tmod a1_0 (wrap64 ((Int.tmod (wrap64 ((Int.tmod a0 8) + 8)) 8) + 1))) + (Int.tmod (wrap64 ((Int.tmod a0 8) + 8)) 8))) + 1)) (wrap64 ((Int.tmod (wrap64 ((Int.tmod a0 8) + 8)) 8) + 1))) + 1))) bt199.1 bt199.2).bind fun bt201 => (some (bt197.1 == bt201.1 && (bt197.2 == bt201.2)))))) else (none))))) else (none)))))
theorem steeplelaw33_FrobThrough.mono : ∀ a0 a1 a2 a3 a4 k, LeO (steeplelaw33_FrobThrough.f k a0 a1 a2 a3 a4) (steeplelaw33_FrobThrough.f (k + 1) a0 a1 a2 a3 a4) := by
 intro a0 a1 a2 a3 a4 k
 unfold steeplelaw33_FrobThrough.f
 repeat' first
   | (with_reducible exact frob_Norm.mono _ _ _ _ _)
   | (with_reducible exact frob_Trace.mono _ _ _ _ _)
   | (with_reducible exact steeplelaw33_awake.mono _)
   | (with_reducible exact LeO.refl _)
   | (with_reducible exact LeO.none _)
   | (with_reducible refine LeO.ite ?_ ?_)
   | (with_reducible refine LeO.bind ?_ (fun _ => ?_))
   | exact frob_Norm.mono _ _ _ _ _
   | exact frob_Trace.mono _ _ _ _ _
   | exact steeplelaw33_awake.mono _
   | exact LeO.none _
   | refine LeO.ite ?_ ?_
   | refine LeO.bind ?_ (fun _ => ?_)
def steeplelaw33_FrobThrough.T5 : Bool × List (List Nat × List Nat) := (true, [([], []), ([0, 0], [0]), ([1], [1]), ([1], [1]), ([1], [1]), ([2, 3, 4, 1, 1], [1, 2, 3, 4]), ([1], [1]), ([1], [1]), ([1], [1]), ([1], [1]), ([1], [1]), ([8, 9, 10, 5, 1], [1, 8, 9, 10]), ([6, 7, 11, 11, 1], [1, 6, 7, 11]), ([5, 12, 1], [1, 5, 12]), ([1, 13], [1, 13]), ([14, 12], [14]), ([15], [15]), ([15], [15]), ([15], [15]), ([16, 17, 18, 15, 15], [15, 16, 17, 18]), ([15], [15]), ([15], [15]), ([15], [15]), ([15], [15]), ([15], [15]), ([22, 23, 24, 19, 15], [15, 22, 23, 24]), ([20, 21, 25, 25, 15], [15, 20, 21, 25]), ([19, 26, 15], [15, 19, 26]), ([15, 27], [15, 27]), ([28, 26, 0, 1, 2, 3, 4, 5, 6, 7, 8, 9, 10, 11, 12, 13, 14, 15, 16, 17, 18, 19, 20, 21, 22, 23, 24, 25, 26, 27, 28], [28])])
def steeplelaw33_FrobThrough.B5 : List Nat := [0, 1, 3, 3, 3, 31, 3, 3, 3, 3, 3, 1855, 4095, 8191, 16383, 32767, 65535, 65535, 65535, 524287, 65535, 65535, 65535, 65535, 65535, 30408703, 67108863, 134217727, 268435455, 536870911]
theorem steeplelaw33_FrobThrough.tab5 : rtab .any (opsOf Try.f4 5) = steeplelaw33_FrobThrough.T5 := by kernel_rfl
theorem steeplelaw33_FrobThrough.bits5 : waitsOk steeplelaw33_FrobThrough.T5.2 steeplelaw33_FrobThrough.B5 = true := by kernel_rfl
set_option maxHeartbeats 8000000 in
set_option maxRecDepth 100000 in
theorem steeplelaw33_FrobThrough.calls (k : Nat) (a0 : Int) (a1_0 : Int) (a1_1 : Int) (a2_0 : Int) (a2_1 : Int) (r : Bool) (w : World) (h : steeplelaw33_FrobThrough.f k a0 a1_0 a1_1 a2_0 a2_1 = some r) :
  Calls Try.prog 4 #[.int .i64 a0, .agg #[.int .i64 a1_0, .int .i64 a1_1], .agg #[.int .u64 a2_0, .int .u64 a2_1]] w fun e w' => e = .returned (.bool r) ∧ Below w.heap.size w w' := by
 have hu33 := Try.underlying33
 have hu24 := Try.underlying24
 have HB := Aside0.mk (Below.refl w.heap.size w)
 have H : (if (wrap64 ((Int.tmod (wrap64 ((Int.tmod a0 8) + 8)) 8) + 1)) = 0 then (none) else (if (wrap64 ((Int.tmod (wrap64 ((wrap64 ((Int.tmod a1_0 (wrap64 ((Int.tmod (wrap64 ((Int.tmod a0 8) + 8)) 8) + 1))) + (Int.tmod (wrap64 ((Int.tmod a0 8) + 8)) 8))) + 1)) (wrap64 ((Int.tmod (wrap64 ((Int.tmod a0 8) + 8)) 8) + 1))) + 1)) = 0 then (none) else ((steeplelaw33_of.f (Int.tmod (wrap64 ((Int.tmod a0 8) + 8)) 8) a2_0 a2_1).bind fun bt187 => ((steeplelaw33_awake.f k).bind fun t190 => (if t190 = true then ((frob_Trace.f k (Int.tmod (wrap64 ((Int.tmod a0 8) + 8)) 8) (Int.tmod (wrap64 ((wrap64 ((Int.tmod a1_1 (wrap64 ((Int.tmod (wrap64 ((wrap64 ((Int.tmod a1_0 (wrap64 ((Int.tmod (wrap64 ((Int.tmod a0 8) + 8)) 8) + 1))) + (Int.tmod (wrap64 ((Int.tmod a0 8) + 8)) 8))) + 1)) (wrap64 ((Int.tmod (wrap64 ((Int.tmod a0 8) + 8)) 8) + 1))) + 1))) + (Int.tmod (wrap64 ((wrap64 ((Int.tmod a1_0 (wrap64 ((Int.tmod (wrap64 ((Int.tmod a0 8) + 8)) 8) + 1))) + (Int.tmod (wrap64 ((Int.tmod a0 8) + 8)) 8))) + 1)) (wrap64 ((Int.tmod (wrap64 ((Int.tmod a0 8) + 8)) 8) + 1))))) + 1)) (wrap64 ((Int.tmod (wrap64 ((wrap64 ((Int.tmod a1_0 (wrap64 ((Int.tmod (wrap64 ((Int.tmod a0 8) + 8)) 8) + 1))) + (Int.tmod (wrap64 ((Int.tmod a0 8) + 8)) 8))) + 1)) (wrap64 ((Int.tmod (wrap64 ((Int.tmod a0 8) + 8)) 8) + 1))) + 1))) bt187.1 bt187.2).bind fun bt191 => ((frob_Trace.f k (Int.tmod (wrap64 ((Int.tmod a0 8) + 8)) 8) (Int.tmod (wrap64 ((wrap64 ((Int.tmod a1_0 (wrap64 ((Int.tmod (wrap64 ((Int.tmod a0 8) + 8)) 8) + 1))) + (Int.tmod (wrap64 ((Int.tmod a0 8) + 8)) 8))) + 1)) (wrap64 ((Int.tmod (wrap64 ((Int.tmod a0 8) + 8)) 8) + 1))) bt187.1 bt187.2).bind fun bt193 => ((frob_Trace.f k (Int.tmod (wrap64 ((wrap64 ((Int.tmod a1_0 (wrap64 ((Int.tmod (wrap64 ((Int.tmod a0 8) + 8)) 8) + 1))) + (Int.tmod (wrap64 ((Int.tmod a0 8) + 8)) 8))) + 1)) (wrap64 ((Int.tmod (wrap64 ((Int.tmod a0 8) + 8)) 8) + 1))) (Int.tmod (wrap64 ((wrap64 ((Int.tmod a1_1 (wrap64 ((Int.tmod (wrap64 ((wrap64 ((Int.tmod a1_0 (wrap64 ((Int.tmod (wrap64 ((Int.tmod a0 8) + 8)) 8) + 1))) + (Int.tmod (wrap64 ((Int.tmod a0 8) + 8)) 8))) + 1)) (wrap64 ((Int.tmod (wrap64 ((Int.tmod a0 8) + 8)) 8) + 1))) + 1))) + (Int.tmod (wrap64 ((wrap64 ((Int.tmod a1_0 (wrap64 ((Int.tmod (wrap64 ((Int.tmod a0 8) + 8)) 8) + 1))) + (Int.tmod (wrap64 ((Int.tmod a0 8) + 8)) 8))) + 1)) (wrap64 ((Int.tmod (wrap64 ((Int.tmod a0 8) + 8)) 8) + 1))))) + 1)) (wrap64 ((Int.tmod (wrap64 ((wrap64 ((Int.tmod a1_0 (wrap64 ((Int.tmod (wrap64 ((Int.tmod a0 8) + 8)) 8) + 1))) + (Int.tmod (wrap64 ((Int.tmod a0 8) + 8)) 8))) + 1)) (wrap64 ((Int.tmod (wrap64 ((Int.tmod a0 8) + 8)) 8) + 1))) + 1))) bt193.1 bt193.2).bind fun bt195 => (if (bt191.1 == bt195.1 && (bt191.2 == bt195.2)) = true then ((frob_Norm.f k (Int.tmod (wrap64 ((Int.tmod a0 8) + 8)) 8) (Int.tmod (wrap64 ((wrap64 ((Int.tmod a1_1 (wrap64 ((Int.tmod (wrap64 ((wrap64 ((Int.tmod a1_0 (wrap64 ((Int.tmod (wrap64 ((Int.tmod a0 8) + 8)) 8) + 1))) + (Int.tmod (wrap64 ((Int.tmod a0 8) + 8)) 8))) + 1)) (wrap64 ((Int.tmod (wrap64 ((Int.tmod a0 8) + 8)) 8) + 1))) + 1))) + (Int.tmod (wrap64 ((wrap64 ((Int.tmod a1_0 (wrap64 ((Int.tmod (wrap64 ((Int.tmod a0 8) + 8)) 8) + 1))) + (Int.tmod (wrap64 ((Int.tmod a0 8) + 8)) 8))) + 1)) (wrap64 ((Int.tmod (wrap64 ((Int.tmod a0 8) + 8)) 8) + 1))))) + 1)) (wrap64 ((Int.tmod (wrap64 ((wrap64 ((Int.tmod a1_0 (wrap64 ((Int.tmod (wrap64 ((Int.tmod a0 8) + 8)) 8) + 1))) + (Int.tmod (wrap64 ((Int.tmod a0 8) + 8)) 8))) + 1)) (wrap64 ((Int.tmod (wrap64 ((Int.tmod a0 8) + 8)) 8) + 1))) + 1))) bt187.1 bt187.2).bind fun bt197 => ((frob_Norm.f k (Int.tmod (wrap64 ((Int.tmod a0 8) + 8)) 8) (Int.tmod (wrap64 ((wrap64 ((Int.tmod a1_0 (wrap64 ((Int.tmod (wrap64 ((Int.tmod a0 8) + 8)) 8) + 1))) + (Int.tmod (wrap64 ((Int.tmod a0 8) + 8)) 8))) + 1)) (wrap64 ((Int.tmod (wrap64 ((Int.tmod a0 8) + 8)) 8) + 1))) bt187.1 bt187.2).bind fun bt199 => ((frob_Norm.f k (Int.tmod (wrap64 ((wrap64 ((Int.tmod a1_0 (wrap64 ((Int.tmod (wrap64 ((Int.tmod a0 8) + 8)) 8) + 1))) + (Int.tmod (wrap64 ((Int.tmod a0 8) + 8)) 8))) + 1)) (wrap64 ((Int.tmod (wrap64 ((Int.tmod a0 8) + 8)) 8) + 1))) (Int.tmod (wrap64 ((wrap64 ((Int.tmod a1_1 (wrap64 ((Int.tmod (wrap64 ((wrap64 ((Int.tmod a1_0 (wrap64 ((Int.tmod (wrap64 ((Int.tmod a0 8) + 8)) 8) + 1))) + (Int.tmod (wrap64 ((Int.tmod a0 8) + 8)) 8))) + 1)) (wrap64 ((Int.tmod (wrap64 ((Int.tmod a0 8) + 8)) 8) + 1))) + 1))) + (Int.tmod (wrap64 ((wrap64 ((Int.tmod a1_0 (wrap64 ((Int.tmod (wrap64 ((Int.tmod a0 8) + 8)) 8) + 1))) + (Int.tmod (wrap64 ((Int.tmod a0 8) + 8)) 8))) + 1)) (wrap64 ((Int.tmod (wrap64 ((Int.tmod a0 8) + 8)) 8) + 1))))) + 1)) (wrap64 ((Int.tmod (wrap64 ((wrap64 ((Int.tmod a1_0 (wrap64 ((Int.tmod (wrap64 ((Int.tmod a0 8) + 8)) 8) + 1))) + (Int.tmod (wrap64 ((Int.tmod a0 8) + 8)) 8))) + 1)) (wrap64 ((Int.tmod (wrap64 ((Int.tmod a0 8) + 8)) 8) + 1))) + 1))) bt199.1 bt199.2).bind fun bt201 => (some (bt197.1 == bt201.1 && (bt197.2 == bt201.2)))))) else (none))))) else (none)))))) = some r := h
 clear h
 by_cases c4 : (wrap64 ((Int.tmod (wrap64 ((Int.tmod a0 8) + 8)) 8) + 1)) = 0
 ·rw [if_pos c4] at H
  exact absurd H (by simp)
 ·rw [if_neg c4] at H
  have c4b0 : ((wrap64 ((Int.tmod (wrap64 ((Int.tmod a0 8) + 8)) 8) + 1)) == 0) = false := beq_eq_false_iff_ne.mpr c4
  have c4b1 : ((wrap64 ((Int.tmod (wrap64 ((Int.tmod a0 8) + 8)) 8) + 1)) != 0) = true := bne_iff_ne.mpr c4
  by_cases c5 : (wrap64 ((Int.tmod (wrap64 ((wrap64 ((Int.tmod a1_0 (wrap64 ((Int.tmod (wrap64 ((Int.tmod a0 8) + 8)) 8) + 1))) + (Int.tmod (wrap64 ((Int.tmod a0 8) + 8)) 8))) + 1)) (wrap64 ((Int.tmod (wrap64 ((Int.tmod a0 8) + 8)) 8) + 1))) + 1)) = 0
  ·rw [if_pos c5] at H
   exact absurd H (by simp)
  ·rw [if_neg c5] at H
   have c5b0 : ((wrap64 ((Int.tmod (wrap64 ((wrap64 ((Int.tmod a1_0 (wrap64 ((Int.tmod (wrap64 ((Int.tmod a0 8) + 8)) 8) + 1))) + (Int.tmod (wrap64 ((Int.tmod a0 8) + 8)) 8))) + 1)) (wrap64 ((Int.tmod (wrap64 ((Int.tmod a0 8) + 8)) 8) + 1))) + 1)) == 0) = false := beq_eq_false_iff_ne.mpr c5
   have c5b1 : ((wrap64 ((Int.tmod (wrap64 ((wrap64 ((Int.tmod a1_0 (wrap64 ((Int.tmod (wrap64 ((Int.tmod a0 8) + 8)) 8) + 1))) + (Int.tmod (wrap64 ((Int.tmod a0 8) + 8)) 8))) + 1)) (wrap64 ((Int.tmod (wrap64 ((Int.tmod a0 8) + 8)) 8) + 1))) + 1)) != 0) = true := bne_iff_ne.mpr c5
   replace H := Option.bind_eq_some_iff.mp H
   obtain ⟨⟨t187, t188⟩, A60, H⟩ := H
   replace H : ((steeplelaw33_awake.f k).bind fun t190 => (if t190 = true then ((frob_Trace.f k (Int.tmod (wrap64 ((Int.tmod a0 8) + 8)) 8) (Int.tmod (wrap64 ((wrap64 ((Int.tmod a1_1 (wrap64 ((Int.tmod (wrap64 ((wrap64 ((Int.tmod a1_0 (wrap64 ((Int.tmod (wrap64 ((Int.tmod a0 8) + 8)) 8) + 1))) + (Int.tmod (wrap64 ((Int.tmod a0 8) + 8)) 8))) + 1)) (wrap64 ((Int.tmod (wrap64 ((Int.tmod a0 8) + 8)) 8) + 1))) + 1))) + (Int.tmod (wrap64 ((wrap64 ((Int.tmod a1_0 (wrap64 ((Int.tmod (wrap64 ((Int.tmod a0 8) + 8)) 8) + 1))) + (Int.tmod (wrap64 ((Int.tmod a0 8) + 8)) 8))) + 1)) (wrap64 ((Int.tmod (wrap64 ((Int.tmod a0 8) + 8)) 8) + 1))))) + 1)) (wrap64 ((Int.tmod (wrap64 ((wrap64 ((Int.tmod a1_0 (wrap64 ((Int.tmod (wrap64 ((Int.tmod a0 8) + 8)) 8) + 1))) + (Int.tmod (wrap64 ((Int.tmod a0 8) + 8)) 8))) + 1)) (wrap64 ((Int.tmod (wrap64 ((Int.tmod a0 8) + 8)) 8) + 1))) + 1))) t187 t188).bind fun bt191 => ((frob_Trace.f k (Int.tmod (wrap64 ((Int.tmod a0 8) + 8)) 8) (Int.tmod (wrap64 ((wrap64 ((Int.tmod a1_0 (wrap64 ((Int.tmod (wrap64 ((Int.tmod a0 8) + 8)) 8) + 1))) + (Int.tmod (wrap64 ((Int.tmod a0 8) + 8)) 8))) + 1)) (wrap64 ((Int.tmod (wrap64 ((Int.tmod a0 8) + 8)) 8) + 1))) t187 t188).bind fun bt193 => ((frob_Trace.f k (Int.tmod (wrap64 ((wrap64 ((Int.tmod a1_0 (wrap64 ((Int.tmod (wrap64 ((Int.tmod a0 8) + 8)) 8) + 1))) + (Int.tmod (wrap64 ((Int.tmod a0 8) + 8)) 8))) + 1)) (wrap64 ((Int.tmod (wrap64 ((Int.tmod a0 8) + 8)) 8) + 1))) (Int.tmod (wrap64 ((wrap64 ((Int.tmod a1_1 (wrap64 ((Int.tmod (wrap64 ((wrap64 ((Int.tmod a1_0 (wrap64 ((Int.tmod (wrap64 ((Int.tmod a0 8) + 8)) 8) + 1))) + (Int.tmod (wrap64 ((Int.tmod a0 8) + 8)) 8))) + 1)) (wrap64 ((Int.tmod (wrap64 ((Int.tmod a0 8) + 8)) 8) + 1))) + 1))) + (Int.tmod (wrap64 ((wrap64 ((Int.tmod a1_0 (wrap64 ((Int.tmod (wrap64 ((Int.tmod a0 8) + 8)) 8) + 1))) + (Int.tmod (wrap64 ((Int.tmod a0 8) + 8)) 8))) + 1)) (wrap64 ((Int.tmod (wrap64 ((Int.tmod a0 8) + 8)) 8) + 1))))) + 1)) (wrap64 ((Int.tmod (wrap64 ((wrap64 ((Int.tmod a1_0 (wrap64 ((Int.tmod (wrap64 ((Int.tmod a0 8) + 8)) 8) + 1))) + (Int.tmod (wrap64 ((Int.tmod a0 8) + 8)) 8))) + 1)) (wrap64 ((Int.tmod (wrap64 ((Int.tmod a0 8) + 8)) 8) + 1))) + 1))) bt193.1 bt193.2).bind fun bt195 => (if (bt191.1 == bt195.1 && (bt191.2 == bt195.2)) = true then ((frob_Norm.f k (Int.tmod (wrap64 ((Int.tmod a0 8) + 8)) 8) (Int.tmod (wrap64 ((wrap64 ((Int.tmod a1_1 (wrap64 ((Int.tmod (wrap64 ((wrap64 ((Int.tmod a1_0 (wrap64 ((Int.tmod (wrap64 ((Int.tmod a0 8) + 8)) 8) + 1))) + (Int.tmod (wrap64 ((Int.tmod a0 8) + 8)) 8))) + 1)) (wrap64 ((Int.tmod (wrap64 ((Int.tmod a0 8) + 8)) 8) + 1))) + 1))) + (Int.tmod (wrap64 ((wrap64 ((Int.tmod a1_0 (wrap64 ((Int.tmod (wrap64 ((Int.tmod a0 8) + 8)) 8) + 1))) + (Int.tmod (wrap64 ((Int.tmod a0 8) + 8)) 8))) + 1)) (wrap64 ((Int.tmod (wrap64 ((Int.tmod a0 8) + 8)) 8) + 1))))) + 1)) (wrap64 ((Int.tmod (wrap64 ((wrap64 ((Int.tmod a1_0 (wrap64 ((Int.tmod (wrap64 ((Int.tmod a0 8) + 8)) 8) + 1))) + (Int.tmod (wrap64 ((Int.tmod a0 8) + 8)) 8))) + 1)) (wrap64 ((Int.tmod (wrap64 ((Int.tmod a0 8) + 8)) 8) + 1))) + 1))) t187 t188).bind fun bt197 => ((frob_Norm.f k (Int.tmod (wrap64 ((Int.tmod a0 8) + 8)) 8) (Int.tmod (wrap64 ((wrap64 ((Int.tmod a1_0 (wrap64 ((Int.tmod (wrap64 ((Int.tmod a0 8) + 8)) 8) + 1))) + (Int.tmod (wrap64 ((Int.tmod a0 8) + 8)) 8))) + 1)) (wrap64 ((Int.tmod (wrap64 ((Int.tmod a0 8) + 8)) 8) + 1))) t187 t188).bind fun bt199 => ((frob_Norm.f k (Int.tmod (wrap64 ((wrap64 ((Int.tmod a1_0 (wrap64 ((Int.tmod (wrap64 ((Int.tmod a0 8) + 8)) 8) + 1))) + (Int.tmod (wrap64 ((Int.tmod a0 8) + 8)) 8))) + 1)) (wrap64 ((Int.tmod (wrap64 ((Int.tmod a0 8) + 8)) 8) + 1))) (Int.tmod (wrap64 ((wrap64 ((Int.tmod a1_1 (wrap64 ((Int.tmod (wrap64 ((wrap64 ((Int.tmod a1_0 (wrap64 ((Int.tmod (wrap64 ((Int.tmod a0 8) + 8)) 8) + 1))) + (Int.tmod (wrap64 ((Int.tmod a0 8) + 8)) 8))) + 1)) (wrap64 ((Int.tmod (wrap64 ((Int.tmod a0 8) + 8)) 8) + 1))) + 1))) + (Int.tmod (wrap64 ((wrap64 ((Int.tmod a1_0 (wrap64 ((Int.tmod (wrap64 ((Int.tmod a0 8) + 8)) 8) + 1))) + (Int.tmod (wrap64 ((Int.tmod a0 8) + 8)) 8))) + 1)) (wrap64 ((Int.tmod (wrap64 ((Int.tmod a0 8) + 8)) 8) + 1))))) + 1)) (wrap64 ((Int.tmod (wrap64 ((wrap64 ((Int.tmod a1_0 (wrap64 ((Int.tmod (wrap64 ((Int.tmod a0 8) + 8)) 8) + 1))) + (Int.tmod (wrap64 ((Int.tmod a0 8) + 8)) 8))) + 1)) (wrap64 ((Int.tmod (wrap64 ((Int.tmod a0 8) + 8)) 8) + 1))) + 1))) bt199.1 bt199.2).bind fun bt201 => (some (bt197.1 == bt201.1 && (bt197.2 == bt201.2)))))) else (none))))) else (none))) = some r := H
   have A6 := Aside0.mk A60
   clear A60
   replace H := Option.bind_eq_some_iff.mp H
   obtain ⟨t190, A70, H⟩ := H
   replace H : (if t190 = true then ((frob_Trace.f k (Int.tmod (wrap64 ((Int.tmod a0 8) + 8)) 8) (Int.tmod (wrap64 ((wrap64 ((Int.tmod a1_1 (wrap64 ((Int.tmod (wrap64 ((wrap64 ((Int.tmod a1_0 (wrap64 ((Int.tmod (wrap64 ((Int.tmod a0 8) + 8)) 8) + 1))) + (Int.tmod (wrap64 ((Int.tmod a0 8) + 8)) 8))) + 1)) (wrap64 ((Int.tmod (wrap64 ((Int.tmod a0 8) + 8)) 8) + 1))) + 1))) + (Int.tmod (wrap64 ((wrap64 ((Int.tmod a1_0 (wrap64 ((Int.tmod (wrap64 ((Int.tmod a0 8) + 8)) 8) + 1))) + (Int.tmod (wrap64 ((Int.tmod a0 8) + 8)) 8))) + 1)) (wrap64 ((Int.tmod (wrap64 ((Int.tmod a0 8) + 8)) 8) + 1))))) + 1)) (wrap64 ((Int.tmod (wrap64 ((wrap64 ((Int.tmod a1_0 (wrap64 ((Int.tmod (wrap64 ((Int.tmod a0 8) + 8)) 8) + 1))) + (Int.tmod (wrap64 ((Int.tmod a0 8) + 8)) 8))) + 1)) (wrap64 ((Int.tmod (wrap64 ((Int.tmod a0 8) + 8)) 8) + 1))) + 1))) t187 t188).bind fun bt191 => ((frob_Trace.f k (Int.tmod (wrap64 ((Int.tmod a0 8) + 8)) 8) (Int.tmod (wrap64 ((wrap64 ((Int.tmod a1_0 (wrap64 ((Int.tmod (wrap64 ((Int.tmod a0 8) + 8)) 8) + 1))) + (Int.tmod (wrap64 ((Int.tmod a0 8) + 8)) 8))) + 1)) (wrap64 ((Int.tmod (wrap64 ((Int.tmod a0 8) + 8)) 8) + 1))) t187 t188).bind fun bt193 => ((frob_Trace.f k (Int.tmod (wrap64 ((wrap64 ((Int.tmod a1_0 (wrap64 ((Int.tmod (wrap64 ((Int.tmod a0 8) + 8)) 8) + 1))) + (Int.tmod (wrap64 ((Int.tmod a0 8) + 8)) 8))) + 1)) (wrap64 ((Int.tmod (wrap64 ((Int.tmod a0 8) + 8)) 8) + 1))) (Int.tmod (wrap64 ((wrap64 ((Int.tmod a1_1 (wrap64 ((Int.tmod (wrap64 ((wrap64 ((Int.tmod a1_0 (wrap64 ((Int.tmod (wrap64 ((Int.tmod a0 8) + 8)) 8) + 1))) + (Int.tmod (wrap64 ((Int.tmod a0 8) + 8)) 8))) + 1)) (wrap64 ((Int.tmod (wrap64 ((Int.tmod a0 8) + 8)) 8) + 1))) + 1))) + (Int.tmod (wrap64 ((wrap64 ((Int.tmod a1_0 (wrap64 ((Int.tmod (wrap64 ((Int.tmod a0 8) + 8)) 8) + 1))) + (Int.tmod (wrap64 ((Int.tmod a0 8) + 8)) 8))) + 1)) (wrap64 ((Int.tmod (wrap64 ((Int.tmod a0 8) + 8)) 8) + 1))))) + 1)) (wrap64 ((Int.tmod (wrap64 ((wrap64 ((Int.tmod a1_0 (wrap64 ((Int.tmod (wrap64 ((Int.tmod a0 8) + 8)) 8) + 1))) + (Int.tmod (wrap64 ((Int.tmod a0 8) + 8)) 8))) + 1)) (wrap64 ((Int.tmod (wrap64 ((Int.tmod a0 8) + 8)) 8) + 1))) + 1))) bt193.1 bt193.2).bind fun bt195 => (if (bt191.1 == bt195.1 && (bt191.2 == bt195.2)) = true then ((frob_Norm.f k (Int.tmod (wrap64 ((Int.tmod a0 8) + 8)) 8) (Int.tmod (wrap64 ((wrap64 ((Int.tmod a1_1 (wrap64 ((Int.tmod (wrap64 ((wrap64 ((Int.tmod a1_0 (wrap64 ((Int.tmod (wrap64 ((Int.tmod a0 8) + 8)) 8) + 1))) + (Int.tmod (wrap64 ((Int.tmod a0 8) + 8)) 8))) + 1)) (wrap64 ((Int.tmod (wrap64 ((Int.tmod a0 8) + 8)) 8) + 1))) + 1))) + (Int.tmod (wrap64 ((wrap64 ((Int.tmod a1_0 (wrap64 ((Int.tmod (wrap64 ((Int.tmod a0 8) + 8)) 8) + 1))) + (Int.tmod (wrap64 ((Int.tmod a0 8) + 8)) 8))) + 1)) (wrap64 ((Int.tmod (wrap64 ((Int.tmod a0 8) + 8)) 8) + 1))))) + 1)) (wrap64 ((Int.tmod (wrap64 ((wrap64 ((Int.tmod a1_0 (wrap64 ((Int.tmod (wrap64 ((Int.tmod a0 8) + 8)) 8) + 1))) + (Int.tmod (wrap64 ((Int.tmod a0 8) + 8)) 8))) + 1)) (wrap64 ((Int.tmod (wrap64 ((Int.tmod a0 8) + 8)) 8) + 1))) + 1))) t187 t188).bind fun bt197 => ((frob_Norm.f k (Int.tmod (wrap64 ((Int.tmod a0 8) + 8)) 8) (Int.tmod (wrap64 ((wrap64 ((Int.tmod a1_0 (wrap64 ((Int.tmod (wrap64 ((Int.tmod a0 8) + 8)) 8) + 1))) + (Int.tmod (wrap64 ((Int.tmod a0 8) + 8)) 8))) + 1)) (wrap64 ((Int.tmod (wrap64 ((Int.tmod a0 8) + 8)) 8) + 1))) t187 t188).bind fun bt199 => ((frob_Norm.f k (Int.tmod (wrap64 ((wrap64 ((Int.tmod a1_0 (wrap64 ((Int.tmod (wrap64 ((Int.tmod a0 8) + 8)) 8) + 1))) + (Int.tmod (wrap64 ((Int.tmod a0 8) + 8)) 8))) + 1)) (wrap64 ((Int.tmod (wrap64 ((Int.tmod a0 8) + 8)) 8) + 1))) (Int.tmod (wrap64 ((wrap64 ((Int.tmod a1_1 (wrap64 ((Int.tmod (wrap64 ((wrap64 ((Int.tmod a1_0 (wrap64 ((Int.tmod (wrap64 ((Int.tmod a0 8) + 8)) 8) + 1))) + (Int.tmod (wrap64 ((Int.tmod a0 8) + 8)) 8))) + 1)) (wrap64 ((Int.tmod (wrap64 ((Int.tmod a0 8) + 8)) 8) + 1))) + 1))) + (Int.tmod (wrap64 ((wrap64 ((Int.tmod a1_0 (wrap64 ((Int.tmod (wrap64 ((Int.tmod a0 8) + 8)) 8) + 1))) + (Int.tmod (wrap64 ((Int.tmod a0 8) + 8)) 8))) + 1)) (wrap64 ((Int.tmod (wrap64 ((Int.tmod a0 8) + 8)) 8) + 1))))) + 1)) (wrap64 ((Int.tmod (wrap64 ((wrap64 ((Int.tmod a1_0 (wrap64 ((Int.tmod (wrap64 ((Int.tmod a0 8) + 8)) 8) + 1))) + (Int.tmod (wrap64 ((Int.tmod a0 8) + 8)) 8))) + 1)) (wrap64 ((Int.tmod (wrap64 ((Int.tmod a0 8) + 8)) 8) + 1))) + 1))) bt199.1 bt199.2).bind fun bt201 => (some (bt197.1 == bt201.1 && (bt197.2 == bt201.2)))))) else (none))))) else (none)) = some r := H
   have A7 := Aside0.mk A70
   clear A70
   by_cases c8 : t190 = true
   ·subst c8
    have H1 : ((frob_Trace.f k (Int.tmod (wrap64 ((Int.tmod a0 8) + 8)) 8) (Int.tmod (wrap64 ((wrap64 ((Int.tmod a1_1 (wrap64 ((Int.tmod (wrap64 ((wrap64 ((Int.tmod a1_0 (wrap64 ((Int.tmod (wrap64 ((Int.tmod a0 8) + 8)) 8) + 1))) + (Int.tmod (wrap64 ((Int.tmod a0 8) + 8)) 8))) + 1)) (wrap64 ((Int.tmod (wrap64 ((Int.tmod a0 8) + 8)) 8) + 1))) + 1))) + (Int.tmod (wrap64 ((wrap64 ((Int.tmod a1_0 (wrap64 ((Int.tmod (wrap64 ((Int.tmod a0 8) + 8)) 8) + 1))) + (Int.tmod (wrap64 ((Int.tmod a0 8) + 8)) 8))) + 1)) (wrap64 ((Int.tmod (wrap64 ((Int.tmod a0 8) + 8)) 8) + 1))))) + 1)) (wrap64 ((Int.tmod (wrap64 ((wrap64 ((Int.tmod a1_0 (wrap64 ((Int.tmod (wrap64 ((Int.tmod a0 8) + 8)) 8) + 1))) + (Int.tmod (wrap64 ((Int.tmod a0 8) + 8)) 8))) + 1)) (wrap64 ((Int.tmod (wrap64 ((Int.tmod a0 8) + 8)) 8) + 1))) + 1))) t187 t188).bind fun bt191 => ((frob_Trace.f k (Int.tmod (wrap64 ((Int.tmod a0 8) + 8)) 8) (Int.tmod (wrap64 ((wrap64 ((Int.tmod a1_0 (wrap64 ((Int.tmod (wrap64 ((Int.tmod a0 8) + 8)) 8) + 1))) + (Int.tmod (wrap64 ((Int.tmod a0 8) + 8)) 8))) + 1)) (wrap64 ((Int.tmod (wrap64 ((Int.tmod a0 8) + 8)) 8) + 1))) t187 t188).bind fun bt193 => ((frob_Trace.f k (Int.tmod (wrap64 ((wrap64 ((Int.tmod a1_0 (wrap64 ((Int.tmod (wrap64 ((Int.tmod a0 8) + 8)) 8) + 1))) + (Int.tmod (wrap64 ((Int.tmod a0 8) + 8)) 8))) + 1)) (wrap64 ((Int.tmod (wrap64 ((Int.tmod a0 8) + 8)) 8) + 1))) (Int.tmod (wrap64 ((wrap64 ((Int.tmod a1_1 (wrap64 ((Int.tmod (wrap64 ((wrap64 ((Int.tmod a1_0 (wrap64 ((Int.tmod (wrap64 ((Int.tmod a0 8) + 8)) 8) + 1))) + (Int.tmod (wrap64 ((Int.tmod a0 8) + 8)) 8))) + 1)) (wrap64 ((Int.tmod (wrap64 ((Int.tmod a0 8) + 8)) 8) + 1))) + 1))) + (Int.tmod (wrap64 ((wrap64 ((Int.tmod a1_0 (wrap64 ((Int.tmod (wrap64 ((Int.tmod a0 8) + 8)) 8) + 1))) + (Int.tmod (wrap64 ((Int.tmod a0 8) + 8)) 8))) + 1)) (wrap64 ((Int.tmod (wrap64 ((Int.tmod a0 8) + 8)) 8) + 1))))) + 1)) (wrap64 ((Int.tmod (wrap64 ((wrap64 ((Int.tmod a1_0 (wrap64 ((Int.tmod (wrap64 ((Int.tmod a0 8) + 8)) 8) + 1))) + (Int.tmod (wrap64 ((Int.tmod a0 8) + 8)) 8))) + 1)) (wrap64 ((Int.tmod (wrap64 ((Int.tmod a0 8) + 8)) 8) + 1))) + 1))) bt193.1 bt193.2).bind fun bt195 => (if (bt191.1 == bt195.1 && (bt191.2 == bt195.2)) = true then ((frob_Norm.f k (Int.tmod (wrap64 ((Int.tmod a0 8) + 8)) 8) (Int.tmod (wrap64 ((wrap64 ((Int.tmod a1_1 (wrap64 ((Int.tmod (wrap64 ((wrap64 ((Int.tmod a1_0 (wrap64 ((Int.tmod (wrap64 ((Int.tmod a0 8) + 8)) 8) + 1))) + (Int.tmod (wrap64 ((Int.tmod a0 8) + 8)) 8))) + 1)) (wrap64 ((Int.tmod (wrap64 ((Int.tmod a0 8) + 8)) 8) + 1))) + 1))) + (Int.tmod (wrap64 ((wrap64 ((Int.tmod a1_0 (wrap64 ((Int.tmod (wrap64 ((Int.tmod a0 8) + 8)) 8) + 1))) + (Int.tmod (wrap64 ((Int.tmod a0 8) + 8)) 8))) + 1)) (wrap64 ((Int.tmod (wrap64 ((Int.tmod a0 8) + 8)) 8) + 1))))) + 1)) (wrap64 ((Int.tmod (wrap64 ((wrap64 ((Int.tmod a1_0 (wrap64 ((Int.tmod (wrap64 ((Int.tmod a0 8) + 8)) 8) + 1))) + (Int.tmod (wrap64 ((Int.tmod a0 8) + 8)) 8))) + 1)) (wrap64 ((Int.tmod (wrap64 ((Int.tmod a0 8) + 8)) 8) + 1))) + 1))) t187 t188).bind fun bt197 => ((frob_Norm.f k (Int.tmod (wrap64 ((Int.tmod a0 8) + 8)) 8) (Int.tmod (wrap64 ((wrap64 ((Int.tmod a1_0 (wrap64 ((Int.tmod (wrap64 ((Int.tmod a0 8) + 8)) 8) + 1))) + (Int.tmod (wrap64 ((Int.tmod a0 8) + 8)) 8))) + 1)) (wrap64 ((Int.tmod (wrap64 ((Int.tmod a0 8) + 8)) 8) + 1))) t187 t188).bind fun bt199 => ((frob_Norm.f k (Int.tmod (wrap64 ((wrap64 ((Int.tmod a1_0 (wrap64 ((Int.tmod (wrap64 ((Int.tmod a0 8) + 8)) 8) + 1))) + (Int.tmod (wrap64 ((Int.tmod a0 8) + 8)) 8))) + 1)) (wrap64 ((Int.tmod (wrap64 ((Int.tmod a0 8) + 8)) 8) + 1))) (Int.tmod (wrap64 ((wrap64 ((Int.tmod a1_1 (wrap64 ((Int.tmod (wrap64 ((wrap64 ((Int.tmod a1_0 (wrap64 ((Int.tmod (wrap64 ((Int.tmod a0 8) + 8)) 8) + 1))) + (Int.tmod (wrap64 ((Int.tmod a0 8) + 8)) 8))) + 1)) (wrap64 ((Int.tmod (wrap64 ((Int.tmod a0 8) + 8)) 8) + 1))) + 1))) + (Int.tmod (wrap64 ((wrap64 ((Int.tmod a1_0 (wrap64 ((Int.tmod (wrap64 ((Int.tmod a0 8) + 8)) 8) + 1))) + (Int.tmod (wrap64 ((Int.tmod a0 8) + 8)) 8))) + 1)) (wrap64 ((Int.tmod (wrap64 ((Int.tmod a0 8) + 8)) 8) + 1))))) + 1)) (wrap64 ((Int.tmod (wrap64 ((wrap64 ((Int.tmod a1_0 (wrap64 ((Int.tmod (wrap64 ((Int.tmod a0 8) + 8)) 8) + 1))) + (Int.tmod (wrap64 ((Int.tmod a0 8) + 8)) 8))) + 1)) (wrap64 ((Int.tmod (wrap64 ((Int.tmod a0 8) + 8)) 8) + 1))) + 1))) bt199.1 bt199.2).bind fun bt201 => (some (bt197.1 == bt201.1 && (bt197.2 == bt201.2)))))) else (none))))) = some r := by rw [if_pos rfl] at H; exact H
    clear H
    have H := H1
    clear H1
    replace H := Option.bind_eq_some_iff.mp H
    obtain ⟨⟨t191, t192⟩, A90, H⟩ := H
    replace H : ((frob_Trace.f k (Int.tmod (wrap64 ((Int.tmod a0 8) + 8)) 8) (Int.tmod (wrap64 ((wrap64 ((Int.tmod a1_0 (wrap64 ((Int.tmod (wrap64 ((Int.tmod a0 8) + 8)) 8) + 1))) + (Int.tmod (wrap64 ((Int.tmod a0 8) + 8)) 8))) + 1)) (wrap64 ((Int.tmod (wrap64 ((Int.tmod a0 8) + 8)) 8) + 1))) t187 t188).bind fun bt193 => ((frob_Trace.f k (Int.tmod (wrap64 ((wrap64 ((Int.tmod a1_0 (wrap64 ((Int.tmod (wrap64 ((Int.tmod a0 8) + 8)) 8) + 1))) + (Int.tmod (wrap64 ((Int.tmod a0 8) + 8)) 8))) + 1)) (wrap64 ((Int.tmod (wrap64 ((Int.tmod a0 8) + 8)) 8) + 1))) (Int.tmod (wrap64 ((wrap64 ((Int.tmod a1_1 (wrap64 ((Int.tmod (wrap64 ((wrap64 ((Int.tmod a1_0 (wrap64 ((Int.tmod (wrap64 ((Int.tmod a0 8) + 8)) 8) + 1))) + (Int.tmod (wrap64 ((Int.tmod a0 8) + 8)) 8))) + 1)) (wrap64 ((Int.tmod (wrap64 ((Int.tmod a0 8) + 8)) 8) + 1))) + 1))) + (Int.tmod (wrap64 ((wrap64 ((Int.tmod a1_0 (wrap64 ((Int.tmod (wrap64 ((Int.tmod a0 8) + 8)) 8) + 1))) + (Int.tmod (wrap64 ((Int.tmod a0 8) + 8)) 8))) + 1)) (wrap64 ((Int.tmod (wrap64 ((Int.tmod a0 8) + 8)) 8) + 1))))) + 1)) (wrap64 ((Int.tmod (wrap64 ((wrap64 ((Int.tmod a1_0 (wrap64 ((Int.tmod (wrap64 ((Int.tmod a0 8) + 8)) 8) + 1))) + (Int.tmod (wrap64 ((Int.tmod a0 8) + 8)) 8))) + 1)) (wrap64 ((Int.tmod (wrap64 ((Int.tmod a0 8) + 8)) 8) + 1))) + 1))) bt193.1 bt193.2).bind fun bt195 => (if (t191 == bt195.1 && (t192 == bt195.2)) = true then ((frob_Norm.f k (Int.tmod (wrap64 ((Int.tmod a0 8) + 8)) 8) (Int.tmod (wrap64 ((wrap64 ((Int.tmod a1_1 (wrap64 ((Int.tmod (wrap64 ((wrap64 ((Int.tmod a1_0 (wrap64 ((Int.tmod (wrap64 ((Int.tmod a0 8) + 8)) 8) + 1))) + (Int.tmod (wrap64 ((Int.tmod a0 8) + 8)) 8))) + 1)) (wrap64 ((Int.tmod (wrap64 ((Int.tmod a0 8) + 8)) 8) + 1))) + 1))) + (Int.tmod (wrap64 ((wrap64 ((Int.tmod a1_0 (wrap64 ((Int.tmod (wrap64 ((Int.tmod a0 8) + 8)) 8) + 1))) + (Int.tmod (wrap64 ((Int.tmod a0 8) + 8)) 8))) + 1)) (wrap64 ((Int.tmod (wrap64 ((Int.tmod a0 8) + 8)) 8) + 1))))) + 1)) (wrap64 ((Int.tmod (wrap64 ((wrap64 ((Int.tmod a1_0 (wrap64 ((Int.tmod (wrap64 ((Int.tmod a0 8) + 8)) 8) + 1))) + (Int.tmod (wrap64 ((Int.tmod a0 8) + 8)) 8))) + 1)) (wrap64 ((Int.tmod (wrap64 ((Int.tmod a0 8) + 8)) 8) + 1))) + 1))) t187 t188).bind fun bt197 => ((frob_Norm.f k (Int.tmod (wrap64 ((Int.tmod a0 8) + 8)) 8) (Int.tmod (wrap64 ((wrap64 ((Int.tmod a1_0 (wrap64 ((Int.tmod (wrap64 ((Int.tmod a0 8) + 8)) 8) + 1))) + (Int.tmod (wrap64 ((Int.tmod a0 8) + 8)) 8))) + 1)) (wrap64 ((Int.tmod (wrap64 ((Int.tmod a0 8) + 8)) 8) + 1))) t187 t188).bind fun bt199 => ((frob_Norm.f k (Int.tmod (wrap64 ((wrap64 ((Int.tmod a1_0 (wrap64 ((Int.tmod (wrap64 ((Int.tmod a0 8) + 8)) 8) + 1))) + (Int.tmod (wrap64 ((Int.tmod a0 8) + 8)) 8))) + 1)) (wrap64 ((Int.tmod (wrap64 ((Int.tmod a0 8) + 8)) 8) + 1))) (Int.tmod (wrap64 ((wrap64 ((Int.tmod a1_1 (wrap64 ((Int.tmod (wrap64 ((wrap64 ((Int.tmod a1_0 (wrap64 ((Int.tmod (wrap64 ((Int.tmod a0 8) + 8)) 8) + 1))) + (Int.tmod (wrap64 ((Int.tmod a0 8) + 8)) 8))) + 1)) (wrap64 ((Int.tmod (wrap64 ((Int.tmod a0 8) + 8)) 8) + 1))) + 1))) + (Int.tmod (wrap64 ((wrap64 ((Int.tmod a1_0 (wrap64 ((Int.tmod (wrap64 ((Int.tmod a0 8) + 8)) 8) + 1))) + (Int.tmod (wrap64 ((Int.tmod a0 8) + 8)) 8))) + 1)) (wrap64 ((Int.tmod (wrap64 ((Int.tmod a0 8) + 8)) 8) + 1))))) + 1)) (wrap64 ((Int.tmod (wrap64 ((wrap64 ((Int.tmod a1_0 (wrap64 ((Int.tmod (wrap64 ((Int.tmod a0 8) + 8)) 8) + 1))) + (Int.tmod (wrap64 ((Int.tmod a0 8) + 8)) 8))) + 1)) (wrap64 ((Int.tmod (wrap64 ((Int.tmod a0 8) + 8)) 8) + 1))) + 1))) bt199.1 bt199.2).bind fun bt201 => (some (bt197.1 == bt201.1 && (bt197.2 == bt201.2)))))) else (none)))) = some r := H
    have A9 := Aside0.mk A90
    clear A90
    replace H := Option.bind_eq_some_iff.mp H
    obtain ⟨⟨t193, t194⟩, A100, H⟩ := H
    replace H : ((frob_Trace.f k (Int.tmod (wrap64 ((wrap64 ((Int.tmod a1_0 (wrap64 ((Int.tmod (wrap64 ((Int.tmod a0 8) + 8)) 8) + 1))) + (Int.tmod (wrap64 ((Int.tmod a0 8) + 8)) 8))) + 1)) (wrap64 ((Int.tmod (wrap64 ((Int.tmod a0 8) + 8)) 8) + 1))) (Int.tmod (wrap64 ((wrap64 ((Int.tmod a1_1 (wrap64 ((Int.tmod (wrap64 ((wrap64 ((Int.tmod a1_0 (wrap64 ((Int.tmod (wrap64 ((Int.tmod a0 8) + 8)) 8) + 1))) + (Int.tmod (wrap64 ((Int.tmod a0 8) + 8)) 8))) + 1)) (wrap64 ((Int.tmod (wrap64 ((Int.tmod a0 8) + 8)) 8) + 1))) + 1))) + (Int.tmod (wrap64 ((wrap64 ((Int.tmod a1_0 (wrap64 ((Int.tmod (wrap64 ((Int.tmod a0 8) + 8)) 8) + 1))) + (Int.tmod (wrap64 ((Int.tmod a0 8) + 8)) 8))) + 1)) (wrap64 ((Int.tmod (wrap64 ((Int.tmod a0 8) + 8)) 8) + 1))))) + 1)) (wrap64 ((Int.tmod (wrap64 ((wrap64 ((Int.tmod a1_0 (wrap64 ((Int.tmod (wrap64 ((Int.tmod a0 8) + 8)) 8) + 1))) + (Int.tmod (wrap64 ((Int.tmod a0 8) + 8)) 8))) + 1)) (wrap64 ((Int.tmod (wrap64 ((Int.tmod a0 8) + 8)) 8) + 1))) + 1))) t193 t194).bind fun bt195 => (if (t191 == bt195.1 && (t192 == bt195.2)) = true then ((frob_Norm.f k (Int.tmod (wrap64 ((Int.tmod a0 8) + 8)) 8) (Int.tmod (wrap64 ((wrap64 ((Int.tmod a1_1 (wrap64 ((Int.tmod (wrap64 ((wrap64 ((Int.tmod a1_0 (wrap64 ((Int.tmod (wrap64 ((Int.tmod a0 8) + 8)) 8) + 1))) + (Int.tmod (wrap64 ((Int.tmod a0 8) + 8)) 8))) + 1)) (wrap64 ((Int.tmod (wrap64 ((Int.tmod a0 8) + 8)) 8) + 1))) + 1))) + (Int.tmod (wrap64 ((wrap64 ((Int.tmod a1_0 (wrap64 ((Int.tmod (wrap64 ((Int.tmod a0 8) + 8)) 8) + 1))) + (Int.tmod (wrap64 ((Int.tmod a0 8) + 8)) 8))) + 1)) (wrap64 ((Int.tmod (wrap64 ((Int.tmod a0 8) + 8)) 8) + 1))))) + 1)) (wrap64 ((Int.tmod (wrap64 ((wrap64 ((Int.tmod a1_0 (wrap64 ((Int.tmod (wrap64 ((Int.tmod a0 8) + 8)) 8) + 1))) + (Int.tmod (wrap64 ((Int.tmod a0 8) + 8)) 8))) + 1)) (wrap64 ((Int.tmod (wrap64 ((Int.tmod a0 8) + 8)) 8) + 1))) + 1))) t187 t188).bind fun bt197 => ((frob_Norm.f k (Int.tmod (wrap64 ((Int.tmod a0 8) + 8)) 8) (Int.tmod (wrap64 ((wrap64 ((Int.tmod a1_0 (wrap64 ((Int.tmod (wrap64 ((Int.tmod a0 8) + 8)) 8) + 1))) + (Int.tmod (wrap64 ((Int.tmod a0 8) + 8)) 8))) + 1)) (wrap64 ((Int.tmod (wrap64 ((Int.tmod a0 8) + 8)) 8) + 1))) t187 t188).bind fun bt199 => ((frob_Norm.f k (Int.tmod (wrap64 ((wrap64 ((Int.tmod a1_0 (wrap64 ((Int.tmod (wrap64 ((Int.tmod a0 8) + 8)) 8) + 1))) + (Int.tmod (wrap64 ((Int.tmod a0 8) + 8)) 8))) + 1)) (wrap64 ((Int.tmod (wrap64 ((Int.tmod a0 8) + 8)) 8) + 1))) (Int.tmod (wrap64 ((wrap64 ((Int.tmod a1_1 (wrap64 ((Int.tmod (wrap64 ((wrap64 ((Int.tmod a1_0 (wrap64 ((Int.tmod (wrap64 ((Int.tmod a0 8) + 8)) 8) + 1))) + (Int.tmod (wrap64 ((Int.tmod a0 8) + 8)) 8))) + 1)) (wrap64 ((Int.tmod (wrap64 ((Int.tmod a0 8) + 8)) 8) + 1))) + 1))) + (Int.tmod (wrap64 ((wrap64 ((Int.tmod a1_0 (wrap64 ((Int.tmod (wrap64 ((Int.tmod a0 8) + 8)) 8) + 1))) + (Int.tmod (wrap64 ((Int.tmod a0 8) + 8)) 8))) + 1)) (wrap64 ((Int.tmod (wrap64 ((Int.tmod a0 8) + 8)) 8) + 1))))) + 1)) (wrap64 ((Int.tmod (wrap64 ((wrap64 ((Int.tmod a1_0 (wrap64 ((Int.tmod (wrap64 ((Int.tmod a0 8) + 8)) 8) + 1))) + (Int.tmod (wrap64 ((Int.tmod a0 8) + 8)) 8))) + 1)) (wrap64 ((Int.tmod (wrap64 ((Int.tmod a0 8) + 8)) 8) + 1))) + 1))) bt199.1 bt199.2).bind fun bt201 => (some (bt197.1 == bt201.1 && (bt197.2 == bt201.2)))))) else (none))) = some r := H
    have A10 := Aside0.mk A100
    clear A100
    replace H := Option.bind_eq_some_iff.mp H
    obtain ⟨⟨t195, t196⟩, A110, H⟩ := H
    replace H : (if (t191 == t195 && (t192 == t196)) = true then ((frob_Norm.f k (Int.tmod (wrap64 ((Int.tmod a0 8) + 8)) 8) (Int.tmod (wrap64 ((wrap64 ((Int.tmod a1_1 (wrap64 ((Int.tmod (wrap64 ((wrap64 ((Int.tmod a1_0 (wrap64 ((Int.tmod (wrap64 ((Int.tmod a0 8) + 8)) 8) + 1))) + (Int.tmod (wrap64 ((Int.tmod a0 8) + 8)) 8))) + 1)) (wrap64 ((Int.tmod (wrap64 ((Int.tmod a0 8) + 8)) 8) + 1))) + 1))) + (Int.tmod (wrap64 ((wrap64 ((Int.tmod a1_0 (wrap64 ((Int.tmod (wrap64 ((Int.tmod a0 8) + 8)) 8) + 1))) + (Int.tmod (wrap64 ((Int.tmod a0 8) + 8)) 8))) + 1)) (wrap64 ((Int.tmod (wrap64 ((Int.tmod a0 8) + 8)) 8) + 1))))) + 1)) (wrap64 ((Int.tmod (wrap64 ((wrap64 ((Int.tmod a1_0 (wrap64 ((Int.tmod (wrap64 ((Int.tmod a0 8) + 8)) 8) + 1))) + (Int.tmod (wrap64 ((Int.tmod a0 8) + 8)) 8))) + 1)) (wrap64 ((Int.tmod (wrap64 ((Int.tmod a0 8) + 8)) 8) + 1))) + 1))) t187 t188).bind fun bt197 => ((frob_Norm.f k (Int.tmod (wrap64 ((Int.tmod a0 8) + 8)) 8) (Int.tmod (wrap64 ((wrap64 ((Int.tmod a1_0 (wrap64 ((Int.tmod (wrap64 ((Int.tmod a0 8) + 8)) 8) + 1))) + (Int.tmod (wrap64 ((Int.tmod a0 8) + 8)) 8))) + 1)) (wrap64 ((Int.tmod (wrap64 ((Int.tmod a0 8) + 8)) 8) + 1))) t187 t188).bind fun bt199 => ((frob_Norm.f k (Int.tmod (wrap64 ((wrap64 ((Int.tmod a1_0 (wrap64 ((Int.tmod (wrap64 ((Int.tmod a0 8) + 8)) 8) + 1))) + (Int.tmod (wrap64 ((Int.tmod a0 8) + 8)) 8))) + 1)) (wrap64 ((Int.tmod (wrap64 ((Int.tmod a0 8) + 8)) 8) + 1))) (Int.tmod (wrap64 ((wrap64 ((Int.tmod a1_1 (wrap64 ((Int.tmod (wrap64 ((wrap64 ((Int.tmod a1_0 (wrap64 ((Int.tmod (wrap64 ((Int.tmod a0 8) + 8)) 8) + 1))) + (Int.tmod (wrap64 ((Int.tmod a0 8) + 8)) 8))) + 1)) (wrap64 ((Int.tmod (wrap64 ((Int.tmod a0 8) + 8)) 8) + 1))) + 1))) + (Int.tmod (wrap64 ((wrap64 ((Int.tmod a1_0 (wrap64 ((Int.tmod (wrap64 ((Int.tmod a0 8) + 8)) 8) + 1))) + (Int.tmod (wrap64 ((Int.tmod a0 8) + 8)) 8))) + 1)) (wrap64 ((Int.tmod (wrap64 ((Int.tmod a0 8) + 8)) 8) + 1))))) + 1)) (wrap64 ((Int.tmod (wrap64 ((wrap64 ((Int.tmod a1_0 (wrap64 ((Int.tmod (wrap64 ((Int.tmod a0 8) + 8)) 8) + 1))) + (Int.tmod (wrap64 ((Int.tmod a0 8) + 8)) 8))) + 1)) (wrap64 ((Int.tmod (wrap64 ((Int.tmod a0 8) + 8)) 8) + 1))) + 1))) bt199.1 bt199.2).bind fun bt201 => (some (bt197.1 == bt201.1 && (bt197.2 == bt201.2)))))) else (none)) = some r := H
    have A11 := Aside0.mk A110
    clear A110
    by_cases c12 : (t191 == t195 && (t192 == t196)) = true
    ·rw [if_pos c12] at H
     have c12b0 : (t191 == t195 && (t192 == t196)) = true := c12
     (try (have c12b1 : decide (t191 = t195 && (t192 == t196)) = true := by simpa using c12))
     (try (have c12b2 : (t191 == t195 && (t192 == t196)) = true := by simpa using c12))
     clear c12
     replace H := Option.bind_eq_some_iff.mp H
     obtain ⟨⟨t197, t198⟩, A130, H⟩ := H
     replace H : ((frob_Norm.f k (Int.tmod (wrap64 ((Int.tmod a0 8) + 8)) 8) (Int.tmod (wrap64 ((wrap64 ((Int.tmod a1_0 (wrap64 ((Int.tmod (wrap64 ((Int.tmod a0 8) + 8)) 8) + 1))) + (Int.tmod (wrap64 ((Int.tmod a0 8) + 8)) 8))) + 1)) (wrap64 ((Int.tmod (wrap64 ((Int.tmod a0 8) + 8)) 8) + 1))) t187 t188).bind fun bt199 => ((frob_Norm.f k (Int.tmod (wrap64 ((wrap64 ((Int.tmod a1_0 (wrap64 ((Int.tmod (wrap64 ((Int.tmod a0 8) + 8)) 8) + 1))) + (Int.tmod (wrap64 ((Int.tmod a0 8) + 8)) 8))) + 1)) (wrap64 ((Int.tmod (wrap64 ((Int.tmod a0 8) + 8)) 8) + 1))) (Int.tmod (wrap64 ((wrap64 ((Int.tmod a1_1 (wrap64 ((Int.tmod (wrap64 ((wrap64 ((Int.tmod a1_0 (wrap64 ((Int.tmod (wrap64 ((Int.tmod a0 8) + 8)) 8) + 1))) + (Int.tmod (wrap64 ((Int.tmod a0 8) + 8)) 8))) + 1)) (wrap64 ((Int.tmod (wrap64 ((Int.tmod a0 8) + 8)) 8) + 1))) + 1))) + (Int.tmod (wrap64 ((wrap64 ((Int.tmod a1_0 (wrap64 ((Int.tmod (wrap64 ((Int.tmod a0 8) + 8)) 8) + 1))) + (Int.tmod (wrap64 ((Int.tmod a0 8) + 8)) 8))) + 1)) (wrap64 ((Int.tmod (wrap64 ((Int.tmod a0 8) + 8)) 8) + 1))))) + 1)) (wrap64 ((Int.tmod (wrap64 ((wrap64 ((Int.tmod a1_0 (wrap64 ((Int.tmod (wrap64 ((Int.tmod a0 8) + 8)) 8) + 1))) + (Int.tmod (wrap64 ((Int.tmod a0 8) + 8)) 8))) + 1)) (wrap64 ((Int.tmod (wrap64 ((Int.tmod a0 8) + 8)) 8) + 1))) + 1))) bt199.1 bt199.2).bind fun bt201 => (some (t197 == bt201.1 && (t198 == bt201.2))))) = some r := H
     have A13 := Aside0.mk A130
     clear A130
     replace H := Option.bind_eq_some_iff.mp H
     obtain ⟨⟨t199, t200⟩, A140, H⟩ := H
     replace H : ((frob_Norm.f k (Int.tmod (wrap64 ((wrap64 ((Int.tmod a1_0 (wrap64 ((Int.tmod (wrap64 ((Int.tmod a0 8) + 8)) 8) + 1))) + (Int.tmod (wrap64 ((Int.tmod a0 8) + 8)) 8))) + 1)) (wrap64 ((Int.tmod (wrap64 ((Int.tmod a0 8) + 8)) 8) + 1))) (Int.tmod (wrap64 ((wrap64 ((Int.tmod a1_1 (wrap64 ((Int.tmod (wrap64 ((wrap64 ((Int.tmod a1_0 (wrap64 ((Int.tmod (wrap64 ((Int.tmod a0 8) + 8)) 8) + 1))) + (Int.tmod (wrap64 ((Int.tmod a0 8) + 8)) 8))) + 1)) (wrap64 ((Int.tmod (wrap64 ((Int.tmod a0 8) + 8)) 8) + 1))) + 1))) + (Int.tmod (wrap64 ((wrap64 ((Int.tmod a1_0 (wrap64 ((Int.tmod (wrap64 ((Int.tmod a0 8) + 8)) 8) + 1))) + (Int.tmod (wrap64 ((Int.tmod a0 8) + 8)) 8))) + 1)) (wrap64 ((Int.tmod (wrap64 ((Int.tmod a0 8) + 8)) 8) + 1))))) + 1)) (wrap64 ((Int.tmod (wrap64 ((wrap64 ((Int.tmod a1_0 (wrap64 ((Int.tmod (wrap64 ((Int.tmod a0 8) + 8)) 8) + 1))) + (Int.tmod (wrap64 ((Int.tmod a0 8) + 8)) 8))) + 1)) (wrap64 ((Int.tmod (wrap64 ((Int.tmod a0 8) + 8)) 8) + 1))) + 1))) t199 t200).bind fun bt201 => (some (t197 == bt201.1 && (t198 == bt201.2)))) = some r := H
     have A14 := Aside0.mk A140
     clear A140
     replace H := Option.bind_eq_some_iff.mp H
     obtain ⟨⟨t201, t202⟩, A150, H⟩ := H
     replace H : (some (t197 == t201 && (t198 == t202))) = some r := H
     have A15 := Aside0.mk A150
     clear A150
     obtain rfl := Option.some.inj H
     go_enter Try.func4, Try.ntmps4
     try go_wp2_with (first | ((with_reducible refine gate_dst (N := 4) rfl ?_); refine box_event ?hg (N := 4) ?hd (cs := #[.int .i64 a1_0, .int .i64 a1_1]) (t := 33) ?hr ?_; (case hd => rfl); (case hg => rfl); (case hr => first | (go_simp; done) | (go_simp; rfl)); intro gb185 hg w16 hbox hb; have BK185 := Aside0.mk hbox; have GW185 := ge hg HB; have GE185 := ge hg HB; replace HB := bh HB hb; clear hb hbox hg) | ((with_reducible refine gate_dst (N := 5) rfl ?_); refine box_event ?hg (N := 5) ?hd (cs := #[.int .u64 a2_0, .int .u64 a2_1]) (t := 24) ?hr ?_; (case hd => rfl); (case hg => rfl); (case hr => first | (go_simp; done) | (go_simp; rfl)); intro gb186 hg w17 hbox hb; have BK186 := Aside0.mk hbox; have GW186 := ge hg HB; have GE186 := ge hg HB; have NB185_186 := nl hg BK185; have NB186_185 := ng hg BK185; replace BK185 := bb BK185 hb; replace HB := bh HB hb; clear hb hbox hg; have hnb18 := NB185_186.out; have hnc18 := NB186_185.out; obtain ⟨hcz19_0, hcz19_1⟩ := zc2 BK185; obtain ⟨hfz19_0, hfz19_1⟩ := zf2 BK185; obtain ⟨hcz20_0, hcz20_1⟩ := zc2 BK186; obtain ⟨hfz20_0, hfz20_1⟩ := zf2 BK186) | ((with_reducible refine gate_callee (f := 10) rfl ?_); refine goesL_ (some 39) rfl rfl Try.func10 (by kernel_rfl) rfl #[.int .i64 (Int.tmod (wrap64 ((Int.tmod a0 8) + 8)) 8), .agg #[.int .u64 a2_0, .int .u64 a2_1]] rfl (by (try simp only [List.map_toArray, List.map_cons, List.map_nil]); first | done | rfl | (simp only [List.length_drop, List.length_take]; rfl)) ?_; (with_reducible refine (steeplelaw33_of.calls (Int.tmod (wrap64 ((Int.tmod a0 8) + 8)) 8) a2_0 a2_1 t187 t188 _ A6.out).mono ?_); rintro e w21 ⟨rfl, hb⟩; refine ⟨_, rfl, ?_⟩; replace BK185 := bb BK185 hb; replace BK186 := bb BK186 hb; replace HB := bh HB hb; (try clear hb); (try clear hb2); (try clear hk); (try clear hi)) | ((with_reducible refine gate_dst (N := 10) rfl ?_); refine box_event ?hg (N := 10) ?hd (cs := #[.int .u64 0, .int .u64 0]) (t := 24) ?hr ?_; (case hd => rfl); (case hg => rfl); (case hr => first | (go_simp; done) | (go_simp; rfl)); intro gb189 hg w22 hbox hb; have BK189 := Aside0.mk hbox; have GW189 := ge hg HB; have GE189 := ge hg HB; have NB185_189 := nl hg BK185; have NB189_185 := ng hg BK185; have NB186_189 := nl hg BK186; have NB189_186 := ng hg BK186; replace BK185 := bb BK185 hb; replace BK186 := bb BK186 hb; replace HB := bh HB hb; clear hb hbox hg; have hnb23 := NB189_185.out; have hnc23 := NB185_189.out; have hnb24 := NB189_186.out; have hnc24 := NB186_189.out; obtain ⟨hcz25_0, hcz25_1⟩ := zc2 BK189; obtain ⟨hfz25_0, hfz25_1⟩ := zf2 BK189))
     have n0_ : Aside0 (((w22.setCell ⟨gb189, 0, none⟩ (.int .u64 t187)).setCell ⟨gb189, 1, none⟩ (.int .u64 t188)).heap[gb185]? = some (.cells #[.int .i64 a1_0, .int .i64 a1_1] 33 (0, 0))) := ⟨by (with_reducible repeat refine bl ?_); refine blk_far ?_ NB185_189.out _; (with_reducible repeat refine bl ?_); refine blk_far ?_ NB185_189.out _; (with_reducible repeat refine bl ?_); exact BK185.out⟩
     have n1_ : Aside0 (((w22.setCell ⟨gb189, 0, none⟩ (.int .u64 t187)).setCell ⟨gb189, 1, none⟩ (.int .u64 t188)).heap[gb186]? = some (.cells #[.int .u64 a2_0, .int .u64 a2_1] 24 (0, 0))) := ⟨by (with_reducible repeat refine bl ?_); refine blk_far ?_ NB186_189.out _; (with_reducible repeat refine bl ?_); refine blk_far ?_ NB186_189.out _; (with_reducible repeat refine bl ?_); exact BK186.out⟩
     have n2_ : Aside0 (((w22.setCell ⟨gb189, 0, none⟩ (.int .u64 t187)).setCell ⟨gb189, 1, none⟩ (.int .u64 t188)).heap[gb189]? = some (.cells #[.int .u64 t187, .int .u64 t188] 24 (0, 0))) := ⟨by (with_reducible repeat refine bl ?_); refine blk_put (cs := #[.int .u64 t187, .int .u64 0]) ?_ 1 _ rfl; (with_reducible repeat refine bl ?_); refine blk_put (cs := #[.int .u64 0, .int .u64 0]) ?_ 0 _ rfl; (with_reducible repeat refine bl ?_); exact BK189.out⟩
     have n3_ : Aside0 (Below w.heap.size w ((w22.setCell ⟨gb189, 0, none⟩ (.int .u64 t187)).setCell ⟨gb189, 1, none⟩ (.int .u64 t188))) := ⟨bq HB.out⟩
     (try clear BK185)
     (try clear BK186)
     (try clear BK189)
     (try clear HB)
     generalize ((w22.setCell ⟨gb189, 0, none⟩ (.int .u64 t187)).setCell ⟨gb189, 1, none⟩ (.int .u64 t188)) = w26 at n0_ n1_ n2_ n3_ ⊢
     have BK185 := n0_
     have BK186 := n1_
     have BK189 := n2_
     have HB := n3_
     clear n0_ n1_ n2_ n3_
     replace BK185 := Aside0.mk (blk_drew BK185.out)
     replace BK186 := Aside0.mk (blk_drew BK186.out)
     replace BK189 := Aside0.mk (blk_drew BK189.out)
     replace HB := Aside0.mk (below_drew1 HB.out)
     refine start_ (n := 30) (S := fun w' => w'.cell? ⟨gb189, 0, none⟩ = some (.int .u64 t187) ∧ w'.cell? ⟨gb189, 1, none⟩ = some (.int .u64 t188)) (ds := []) #[false, false, false, false, false, false, false, false, false, false, false, false, false, false, false, false, false, false, false, false, false, false, false, false, false, false, false, false, false, false] (by kernel_rfl) rfl rfl ⟨(blk_cell BK189.out 0).trans rfl, (blk_cell BK189.out 1).trans rfl⟩ (fun hHeld => ?_); refine with_tabW steeplelaw33_FrobThrough.tab5 steeplelaw33_FrobThrough.bits5 (fun HT_ HW_ => ?_)
     generalize w26.drew = w27 at BK185 BK186 BK189 HB hHeld ⊢
     refine one_ (i := 0) (N := some 40) #[true, false, false, false, false, false, false, false, false, false, false, false, false, false, false, false, false, false, false, false, false, false, false, false, false, false, false, false, false, false] rfl rfl (one_of HT_.out (by kernel_rfl)) (by decide) (fun K hK => ?_)
     refine goes_ Try.func14 (by kernel_rfl) rfl #[] (by rfl) rfl rfl (by (try simp only [List.map_toArray, List.map_cons, List.map_nil]); first | done | rfl | (simp only [List.length_drop, List.length_take]; rfl)) ?_
     with_reducible refine (steeplelaw33_awake.calls k  true _ A7.out).mono ?_
     rintro e w28 ⟨rfl, hb⟩
     refine ⟨_, rfl, ?_⟩
     replace BK185 := bb BK185 hb
     replace BK186 := bb BK186 hb
     replace BK189 := bb BK189 hb
     replace HB := bh HB hb
     (try clear hb)
     (try clear hb2)
     (try clear hk)
     (try clear hi)
     refine hK.out _ _ ⟨(blk_cell BK189.out 0).trans rfl, (blk_cell BK189.out 1).trans rfl⟩ (fun hHeld => ?_)
     clear hK K
     refine norm_ (a' := ?_) ?_ ?_
     rotate_left
     ·show Act.put _ (some 40) _ = _
      simp only [Act.put, List.setIfInBounds_toArray, List.set_cons_zero, List.set_cons_succ, i64_w, i32_w]
      rfl
     refine pure_ (i := 1) (N := some 41) (v := ?_) (a' := ?_) #[true, true, false, false, false, false, false, false, false, false, false, false, false, false, false, false, false, false, false, false, false, false, false, false, false, false, false, false, false, false] rfl rfl (any_of HT_.out (by kernel_rfl)) (fun _ _ _ h => h) (Or.inl ⟨by rfl, ?_⟩) ?_ ?_
     rotate_left
     ·intro w'
      go_simp
      with_reducible rfl
     rotate_left
     ·simp only [Act.put, List.setIfInBounds_toArray, List.set_cons_zero, List.set_cons_succ, i64_w, i32_w]
      rfl
     refine pure_ (i := 2) (N := some 42) (v := ?_) (a' := ?_) #[true, true, true, false, false, false, false, false, false, false, false, false, false, false, false, false, false, false, false, false, false, false, false, false, false, false, false, false, false, false] rfl rfl (any_of HT_.out (by kernel_rfl)) (fun _ _ _ h => h) (Or.inl ⟨by rfl, ?_⟩) ?_ ?_
     rotate_left
     ·intro w'
      go_simp
      with_reducible rfl
     rotate_left
     ·simp only [Act.put, List.setIfInBounds_toArray, List.set_cons_zero, List.set_cons_succ, i64_w, i32_w]
      rfl
     refine pure_ (i := 3) (N := some 43) (v := ?_) (a' := ?_) #[true, true, true, true, false, false, false, false, false, false, false, false, false, false, false, false, false, false, false, false, false, false, false, false, false, false, false, false, false, false] rfl rfl (any_of HT_.out (by kernel_rfl)) (fun _ _ _ h => h) (Or.inl ⟨by rfl, ?_⟩) ?_ ?_
     rotate_left
     ·intro w'
      go_simp
      with_reducible rfl
     rotate_left
     ·simp only [Act.put, List.setIfInBounds_toArray, List.set_cons_zero, List.set_cons_succ, i64_w, i32_w]
      rfl
     refine pure_ (i := 6) (N := some 46) (v := ?_) (a' := ?_) #[true, true, true, true, false, false, true, false, false, false, false, false, false, false, false, false, false, false, false, false, false, false, false, false, false, false, false, false, false, false] rfl rfl (any_of HT_.out (by kernel_rfl)) (fun _ _ _ h => h) (Or.inl ⟨by rfl, ?_⟩) ?_ ?_
     rotate_left
     ·intro w'
      go_simp
      with_reducible rfl
     rotate_left
     ·simp only [Act.put, List.setIfInBounds_toArray, List.set_cons_zero, List.set_cons_succ, i64_w, i32_w]
      rfl
     refine pure_ (i := 7) (N := some 47) (v := ?_) (a' := ?_) #[true, true, true, true, false, false, true, true, false, false, false, false, false, false, false, false, false, false, false, false, false, false, false, false, false, false, false, false, false, false] rfl rfl (any_of HT_.out (by kernel_rfl)) (fun _ _ _ h => h) (Or.inl ⟨by rfl, ?_⟩) ?_ ?_
     rotate_left
     ·intro w'
      go_simp
      with_reducible rfl
     rotate_left
     ·simp only [Act.put, List.setIfInBounds_toArray, List.set_cons_zero, List.set_cons_succ, i64_w, i32_w]
      rfl
     refine pure_ (i := 8) (N := some 48) (v := ?_) (a' := ?_) #[true, true, true, true, false, false, true, true, true, false, false, false, false, false, false, false, false, false, false, false, false, false, false, false, false, false, false, false, false, false] rfl rfl (any_of HT_.out (by kernel_rfl)) (fun _ _ _ h => h) (Or.inl ⟨by rfl, ?_⟩) ?_ ?_
     rotate_left
     ·intro w'
      go_simp
      with_reducible rfl
     rotate_left
     ·simp only [Act.put, List.setIfInBounds_toArray, List.set_cons_zero, List.set_cons_succ, i64_w, i32_w]
      rfl
     refine pure_ (i := 9) (N := some 49) (v := ?_) (a' := ?_) #[true, true, true, true, false, false, true, true, true, true, false, false, false, false, false, false, false, false, false, false, false, false, false, false, false, false, false, false, false, false] rfl rfl (any_of HT_.out (by kernel_rfl)) (fun _ _ _ h => h) (Or.inl ⟨by rfl, ?_⟩) ?_ ?_
     rotate_left
     ·intro w'
      go_simp
      with_reducible rfl
     rotate_left
     ·simp only [Act.put, List.setIfInBounds_toArray, List.set_cons_zero, List.set_cons_succ, i64_w, i32_w]
      rfl
     refine take_ (i := 4) (N := some 44) (v := ?_) (a' := ?_) #[true, true, true, true, true, false, true, true, true, true, false, false, false, false, false, false, false, false, false, false, false, false, false, false, false, false, false, false, false, false] rfl rfl (take_ofW HT_.out HW_.out (by kernel_rfl)) (fun _ _ _ h => h) (Or.inl ⟨by rfl, ?_⟩) hHeld ?_ ?_
     rotate_left
     ·rintro w' ⟨s0, s1⟩
      go_simp
      with_reducible rfl
     rotate_left
     ·simp only [Act.put, List.setIfInBounds_toArray, List.set_cons_zero, List.set_cons_succ, i64_w, i32_w]
      rfl
     refine take_ (i := 10) (N := some 50) (v := ?_) (a' := ?_) #[true, true, true, true, true, false, true, true, true, true, true, false, false, false, false, false, false, false, false, false, false, false, false, false, false, false, false, false, false, false] rfl rfl (take_ofW HT_.out HW_.out (by kernel_rfl)) (fun _ _ _ h => h) (Or.inl ⟨by rfl, ?_⟩) hHeld ?_ ?_
     rotate_left
     ·rintro w' ⟨s0, s1⟩
      go_simp
      with_reducible rfl
     rotate_left
     ·simp only [Act.put, List.setIfInBounds_toArray, List.set_cons_zero, List.set_cons_succ, i64_w, i32_w]
      rfl
     refine one_ (i := 5) (N := some 45) #[true, true, true, true, true, true, true, true, true, true, true, false, false, false, false, false, false, false, false, false, false, false, false, false, false, false, false, false, false, false] rfl rfl (one_of HT_.out (by kernel_rfl)) (by decide) (fun K hK => ?_)
     refine goes_ Try.func11 (by kernel_rfl) rfl #[.int .i64 (Int.tmod (wrap64 ((Int.tmod a0 8) + 8)) 8), .int .i64 (Int.tmod (wrap64 ((wrap64 ((Int.tmod a1_1 (wrap64 ((Int.tmod (wrap64 ((wrap64 ((Int.tmod a1_0 (wrap64 ((Int.tmod (wrap64 ((Int.tmod a0 8) + 8)) 8) + 1))) + (Int.tmod (wrap64 ((Int.tmod a0 8) + 8)) 8))) + 1)) (wrap64 ((Int.tmod (wrap64 ((Int.tmod a0 8) + 8)) 8) + 1))) + 1))) + (Int.tmod (wrap64 ((wrap64 ((Int.tmod a1_0 (wrap64 ((Int.tmod (wrap64 ((Int.tmod a0 8) + 8)) 8) + 1))) + (Int.tmod (wrap64 ((Int.tmod a0 8) + 8)) 8))) + 1)) (wrap64 ((Int.tmod (wrap64 ((Int.tmod a0 8) + 8)) 8) + 1))))) + 1)) (wrap64 ((Int.tmod (wrap64 ((wrap64 ((Int.tmod a1_0 (wrap64 ((Int.tmod (wrap64 ((Int.tmod a0 8) + 8)) 8) + 1))) + (Int.tmod (wrap64 ((Int.tmod a0 8) + 8)) 8))) + 1)) (wrap64 ((Int.tmod (wrap64 ((Int.tmod a0 8) + 8)) 8) + 1))) + 1))), .agg #[.int .u64 t187, .int .u64 t188]] (by rfl) rfl rfl (by (try simp only [List.map_toArray, List.map_cons, List.map_nil]); first | done | rfl | (simp only [List.length_drop, List.length_take]; rfl)) ?_
     with_reducible refine (frob_Trace.calls k (Int.tmod (wrap64 ((Int.tmod a0 8) + 8)) 8) (Int.tmod (wrap64 ((wrap64 ((Int.tmod a1_1 (wrap64 ((Int.tmod (wrap64 ((wrap64 ((Int.tmod a1_0 (wrap64 ((Int.tmod (wrap64 ((Int.tmod a0 8) + 8)) 8) + 1))) + (Int.tmod (wrap64 ((Int.tmod a0 8) + 8)) 8))) + 1)) (wrap64 ((Int.tmod (wrap64 ((Int.tmod a0 8) + 8)) 8) + 1))) + 1))) + (Int.tmod (wrap64 ((wrap64 ((Int.tmod a1_0 (wrap64 ((Int.tmod (wrap64 ((Int.tmod a0 8) + 8)) 8) + 1))) + (Int.tmod (wrap64 ((Int.tmod a0 8) + 8)) 8))) + 1)) (wrap64 ((Int.tmod (wrap64 ((Int.tmod a0 8) + 8)) 8) + 1))))) + 1)) (wrap64 ((Int.tmod (wrap64 ((wrap64 ((Int.tmod a1_0 (wrap64 ((Int.tmod (wrap64 ((Int.tmod a0 8) + 8)) 8) + 1))) + (Int.tmod (wrap64 ((Int.tmod a0 8) + 8)) 8))) + 1)) (wrap64 ((Int.tmod (wrap64 ((Int.tmod a0 8) + 8)) 8) + 1))) + 1))) t187 t188 t191 t192 _ A9.out).mono ?_
     rintro e w29 ⟨rfl, hb⟩
     refine ⟨_, rfl, ?_⟩
     replace BK185 := bb BK185 hb
     replace BK186 := bb BK186 hb
     replace BK189 := bb BK189 hb
     replace HB := bh HB hb
     (try clear hb)
     (try clear hb2)
     (try clear hk)
     (try clear hi)
     refine hK.out _ _ ⟨(blk_cell BK189.out 0).trans rfl, (blk_cell BK189.out 1).trans rfl⟩ (fun hHeld => ?_)
     clear hK K
     refine norm_ (a' := ?_) ?_ ?_
     rotate_left
     ·show Act.put _ (some 45) _ = _
      simp only [Act.put, List.setIfInBounds_toArray, List.set_cons_zero, List.set_cons_succ, i64_w, i32_w]
      rfl
     refine one_ (i := 11) (N := some 51) #[true, true, true, true, true, true, true, true, true, true, true, true, false, false, false, false, false, false, false, false, false, false, false, false, false, false, false, false, false, false] rfl rfl (one_of HT_.out (by kernel_rfl)) (by decide) (fun K hK => ?_)
     refine goes_ Try.func11 (by kernel_rfl) rfl #[.int .i64 (Int.tmod (wrap64 ((Int.tmod a0 8) + 8)) 8), .int .i64 (Int.tmod (wrap64 ((wrap64 ((Int.tmod a1_0 (wrap64 ((Int.tmod (wrap64 ((Int.tmod a0 8) + 8)) 8) + 1))) + (Int.tmod (wrap64 ((Int.tmod a0 8) + 8)) 8))) + 1)) (wrap64 ((Int.tmod (wrap64 ((Int.tmod a0 8) + 8)) 8) + 1))), .agg #[.int .u64 t187, .int .u64 t188]] (by rfl) rfl rfl (by (try simp only [List.map_toArray, List.map_cons, List.map_nil]); first | done | rfl | (simp only [List.length_drop, List.length_take]; rfl)) ?_
     with_reducible refine (frob_Trace.calls k (Int.tmod (wrap64 ((Int.tmod a0 8) + 8)) 8) (Int.tmod (wrap64 ((wrap64 ((Int.tmod a1_0 (wrap64 ((Int.tmod (wrap64 ((Int.tmod a0 8) + 8)) 8) + 1))) + (Int.tmod (wrap64 ((Int.tmod a0 8) + 8)) 8))) + 1)) (wrap64 ((Int.tmod (wrap64 ((Int.tmod a0 8) + 8)) 8) + 1))) t187 t188 t193 t194 _ A10.out).mono ?_
     rintro e w30 ⟨rfl, hb⟩
     refine ⟨_, rfl, ?_⟩
     replace BK185 := bb BK185 hb
     replace BK186 := bb BK186 hb
     replace BK189 := bb BK189 hb
     replace HB := bh HB hb
     (try clear hb)
     (try clear hb2)
     (try clear hk)
     (try clear hi)
     refine hK.out _ _ ⟨(blk_cell BK189.out 0).trans rfl, (blk_cell BK189.out 1).trans rfl⟩ (fun hHeld => ?_)
     clear hK K
     refine norm_ (a' := ?_) ?_ ?_
     rotate_left
     ·show Act.put _ (some 51) _ = _
      simp only [Act.put, List.setIfInBounds_toArray, List.set_cons_zero, List.set_cons_succ, i64_w, i32_w]
      rfl
     refine one_ (i := 12) (N := some 52) #[true, true, true, true, true, true, true, true, true, true, true, true, true, false, false, false, false, false, false, false, false, false, false, false, false, false, false, false, false, false] rfl rfl (one_of HT_.out (by kernel_rfl)) (by decide) (fun K hK => ?_)
     refine goes_ Try.func11 (by kernel_rfl) rfl #[.int .i64 (Int.tmod (wrap64 ((wrap64 ((Int.tmod a1_0 (wrap64 ((Int.tmod (wrap64 ((Int.tmod a0 8) + 8)) 8) + 1))) + (Int.tmod (wrap64 ((Int.tmod a0 8) + 8)) 8))) + 1)) (wrap64 ((Int.tmod (wrap64 ((Int.tmod a0 8) + 8)) 8) + 1))), .int .i64 (Int.tmod (wrap64 ((wrap64 ((Int.tmod a1_1 (wrap64 ((Int.tmod (wrap64 ((wrap64 ((Int.tmod a1_0 (wrap64 ((Int.tmod (wrap64 ((Int.tmod a0 8) + 8)) 8) + 1))) + (Int.tmod (wrap64 ((Int.tmod a0 8) + 8)) 8))) + 1)) (wrap64 ((Int.tmod (wrap64 ((Int.tmod a0 8) + 8)) 8) + 1))) + 1))) + (Int.tmod (wrap64 ((wrap64 ((Int.tmod a1_0 (wrap64 ((Int.tmod (wrap64 ((Int.tmod a0 8) + 8)) 8) + 1))) + (Int.tmod (wrap64 ((Int.tmod a0 8) + 8)) 8))) + 1)) (wrap64 ((Int.tmod (wrap64 ((Int.tmod a0 8) + 8)) 8) + 1))))) + 1)) (wrap64 ((Int.tmod (wrap64 ((wrap64 ((Int.tmod a1_0 (wrap64 ((Int.tmod (wrap64 ((Int.tmod a0 8) + 8)) 8) + 1))) + (Int.tmod (wrap64 ((Int.tmod a0 8) + 8)) 8))) + 1)) (wrap64 ((Int.tmod (wrap64 ((Int.tmod a0 8) + 8)) 8) + 1))) + 1))), .agg #[.int .u64 t193, .int .u64 t194]] (by rfl) rfl rfl (by (try simp only [List.map_toArray, List.map_cons, List.map_nil]); first | done | rfl | (simp only [List.length_drop, List.length_take]; rfl)) ?_
     with_reducible refine (frob_Trace.calls k (Int.tmod (wrap64 ((wrap64 ((Int.tmod a1_0 (wrap64 ((Int.tmod (wrap64 ((Int.tmod a0 8) + 8)) 8) + 1))) + (Int.tmod (wrap64 ((Int.tmod a0 8) + 8)) 8))) + 1)) (wrap64 ((Int.tmod (wrap64 ((Int.tmod a0 8) + 8)) 8) + 1))) (Int.tmod (wrap64 ((wrap64 ((Int.tmod a1_1 (wrap64 ((Int.tmod (wrap64 ((wrap64 ((Int.tmod a1_0 (wrap64 ((Int.tmod (wrap64 ((Int.tmod a0 8) + 8)) 8) + 1))) + (Int.tmod (wrap64 ((Int.tmod a0 8) + 8)) 8))) + 1)) (wrap64 ((Int.tmod (wrap64 ((Int.tmod a0 8) + 8)) 8) + 1))) + 1))) + (Int.tmod (wrap64 ((wrap64 ((Int.tmod a1_0 (wrap64 ((Int.tmod (wrap64 ((Int.tmod a0 8) + 8)) 8) + 1))) + (Int.tmod (wrap64 ((Int.tmod a0 8) + 8)) 8))) + 1)) (wrap64 ((Int.tmod (wrap64 ((Int.tmod a0 8) + 8)) 8) + 1))))) + 1)) (wrap64 ((Int.tmod (wrap64 ((wrap64 ((Int.tmod a1_0 (wrap64 ((Int.tmod (wrap64 ((Int.tmod a0 8) + 8)) 8) + 1))) + (Int.tmod (wrap64 ((Int.tmod a0 8) + 8)) 8))) + 1)) (wrap64 ((Int.tmod (wrap64 ((Int.tmod a0 8) + 8)) 8) + 1))) + 1))) t193 t194 t195 t196 _ A11.out).mono ?_
     rintro e w31 ⟨rfl, hb⟩
     refine ⟨_, rfl, ?_⟩
     replace BK185 := bb BK185 hb
     replace BK186 := bb BK186 hb
     replace BK189 := bb BK189 hb
     replace HB := bh HB hb
     (try clear hb)
     (try clear hb2)
     (try clear hk)
     (try clear hi)
     refine hK.out _ _ ⟨(blk_cell BK189.out 0).trans rfl, (blk_cell BK189.out 1).trans rfl⟩ (fun hHeld => ?_)
     clear hK K
     refine norm_ (a' := ?_) ?_ ?_
     rotate_left
     ·show Act.put _ (some 52) _ = _
      simp only [Act.put, List.setIfInBounds_toArray, List.set_cons_zero, List.set_cons_succ, i64_w, i32_w]
      rfl
     refine pure_ (i := 13) (N := some 53) (v := ?_) (a' := ?_) #[true, true, true, true, true, true, true, true, true, true, true, true, true, true, false, false, false, false, false, false, false, false, false, false, false, false, false, false, false, false] rfl rfl (any_of HT_.out (by kernel_rfl)) (fun _ _ _ h => h) (Or.inl ⟨by rfl, ?_⟩) ?_ ?_
     rotate_left
     ·intro w'
      go_simp
      with_reducible rfl
     rotate_left
     ·simp only [Act.put, List.setIfInBounds_toArray, List.set_cons_zero, List.set_cons_succ, i64_w, i32_w]
      rfl
     refine pure_ (i := 14) (N := some 54) (v := ?_) (a' := ?_) #[true, true, true, true, true, true, true, true, true, true, true, true, true, true, true, false, false, false, false, false, false, false, false, false, false, false, false, false, false, false] rfl rfl (any_of HT_.out (by kernel_rfl)) (fun _ _ _ h => h) (Or.inl ⟨by rfl, ?_⟩) ?_ ?_
     rotate_left
     ·intro w'
      go_simp
      with_reducible rfl
     rotate_left
     ·simp only [Act.put, List.setIfInBounds_toArray, List.set_cons_zero, List.set_cons_succ, i64_w, i32_w]
      rfl
     refine pure_ (i := 15) (N := some 55) (v := ?_) (a' := ?_) #[true, true, true, true, true, true, true, true, true, true, true, true, true, true, true, true, false, false, false, false, false, false, false, false, false, false, false, false, false, false] rfl rfl (any_of HT_.out (by kernel_rfl)) (fun _ _ _ h => h) (Or.inl ⟨by rfl, ?_⟩) ?_ ?_
     rotate_left
     ·intro w'
      go_simp
      with_reducible rfl
     rotate_left
     ·simp only [Act.put, List.setIfInBounds_toArray, List.set_cons_zero, List.set_cons_succ, i64_w, i32_w]
      rfl
     refine pure_ (i := 16) (N := some 56) (v := ?_) (a' := ?_) #[true, true, true, true, true, true, true, true, true, true, true, true, true, true, true, true, true, false, false, false, false, false, false, false, false, false, false, false, false, false] rfl rfl (any_of HT_.out (by kernel_rfl)) (fun _ _ _ h => h) (Or.inl ⟨by rfl, ?_⟩) ?_ ?_
     rotate_left
     ·intro w'
      go_simp
      with_reducible rfl
     rotate_left
     ·simp only [Act.put, List.setIfInBounds_toArray, List.set_cons_zero, List.set_cons_succ, i64_w, i32_w]
      rfl
     refine pure_ (i := 17) (N := some 57) (v := ?_) (a' := ?_) #[true, true, true, true, true, true, true, true, true, true, true, true, true, true, true, true, true, true, false, false, false, false, false, false, false, false, false, false, false, false] rfl rfl (any_of HT_.out (by kernel_rfl)) (fun _ _ _ h => h) (Or.inl ⟨by rfl, ?_⟩) ?_ ?_
     rotate_left
     ·intro w'
      go_simp
      with_reducible rfl
     rotate_left
     ·simp only [Act.put, List.setIfInBounds_toArray, List.set_cons_zero, List.set_cons_succ, i64_w, i32_w]
      rfl
     refine pure_ (i := 20) (N := some 60) (v := ?_) (a' := ?_) #[true, true, true, true, true, true, true, true, true, true, true, true, true, true, true, true, true, true, false, false, true, false, false, false, false, false, false, false, false, false] rfl rfl (any_of HT_.out (by kernel_rfl)) (fun _ _ _ h => h) (Or.inl ⟨by rfl, ?_⟩) ?_ ?_
     rotate_left
     ·intro w'
      go_simp
      with_reducible rfl
     rotate_left
     ·simp only [Act.put, List.setIfInBounds_toArray, List.set_cons_zero, List.set_cons_succ, i64_w, i32_w]
      rfl
     refine pure_ (i := 21) (N := some 61) (v := ?_) (a' := ?_) #[true, true, true, true, true, true, true, true, true, true, true, true, true, true, true, true, true, true, false, false, true, true, false, false, false, false, false, false, false, false] rfl rfl (any_of HT_.out (by kernel_rfl)) (fun _ _ _ h => h) (Or.inl ⟨by rfl, ?_⟩) ?_ ?_
     rotate_left
     ·intro w'
      go_simp
      with_reducible rfl
     rotate_left
     ·simp only [Act.put, List.setIfInBounds_toArray, List.set_cons_zero, List.set_cons_succ, i64_w, i32_w]
      rfl
     refine pure_ (i := 22) (N := some 62) (v := ?_) (a' := ?_) #[true, true, true, true, true, true, true, true, true, true, true, true, true, true, true, true, true, true, false, false, true, true, true, false, false, false, false, false, false, false] rfl rfl (any_of HT_.out (by kernel_rfl)) (fun _ _ _ h => h) (Or.inl ⟨by rfl, ?_⟩) ?_ ?_
     rotate_left
     ·intro w'
      go_simp
      with_reducible rfl
     rotate_left
     ·simp only [Act.put, List.setIfInBounds_toArray, List.set_cons_zero, List.set_cons_succ, i64_w, i32_w]
      rfl
     refine pure_ (i := 23) (N := some 63) (v := ?_) (a' := ?_) #[true, true, true, true, true, true, true, true, true, true, true, true, true, true, true, true, true, true, false, false, true, true, true, true, false, false, false, false, false, false] rfl rfl (any_of HT_.out (by kernel_rfl)) (fun _ _ _ h => h) (Or.inl ⟨by rfl, ?_⟩) ?_ ?_
     rotate_left
     ·intro w'
      go_simp
      with_reducible rfl
     rotate_left
     ·simp only [Act.put, List.setIfInBounds_toArray, List.set_cons_zero, List.set_cons_succ, i64_w, i32_w]
      rfl
     refine take_ (i := 18) (N := some 58) (v := ?_) (a' := ?_) #[true, true, true, true, true, true, true, true, true, true, true, true, true, true, true, true, true, true, true, false, true, true, true, true, false, false, false, false, false, false] rfl rfl (take_ofW HT_.out HW_.out (by kernel_rfl)) (fun _ _ _ h => h) (Or.inl ⟨by rfl, ?_⟩) hHeld ?_ ?_
     rotate_left
     ·rintro w' ⟨s0, s1⟩
      go_simp
      with_reducible rfl
     rotate_left
     ·simp only [Act.put, List.setIfInBounds_toArray, List.set_cons_zero, List.set_cons_succ, i64_w, i32_w]
      rfl
     refine take_ (i := 24) (N := some 64) (v := ?_) (a' := ?_) #[true, true, true, true, true, true, true, true, true, true, true, true, true, true, true, true, true, true, true, false, true, true, true, true, true, false, false, false, false, false] rfl rfl (take_ofW HT_.out HW_.out (by kernel_rfl)) (fun _ _ _ h => h) (Or.inl ⟨by rfl, ?_⟩) hHeld ?_ ?_
     rotate_left
     ·rintro w' ⟨s0, s1⟩
      go_simp
      with_reducible rfl
     rotate_left
     ·simp only [Act.put, List.setIfInBounds_toArray, List.set_cons_zero, List.set_cons_succ, i64_w, i32_w]
      rfl
     refine one_ (i := 19) (N := some 59) #[true, true, true, true, true, true, true, true, true, true, true, true, true, true, true, true, true, true, true, true, true, true, true, true, true, false, false, false, false, false] rfl rfl (one_of HT_.out (by kernel_rfl)) (by decide) (fun K hK => ?_)
     refine goes_ Try.func15 (by kernel_rfl) rfl #[.int .i64 (Int.tmod (wrap64 ((Int.tmod a0 8) + 8)) 8), .int .i64 (Int.tmod (wrap64 ((wrap64 ((Int.tmod a1_1 (wrap64 ((Int.tmod (wrap64 ((wrap64 ((Int.tmod a1_0 (wrap64 ((Int.tmod (wrap64 ((Int.tmod a0 8) + 8)) 8) + 1))) + (Int.tmod (wrap64 ((Int.tmod a0 8) + 8)) 8))) + 1)) (wrap64 ((Int.tmod (wrap64 ((Int.tmod a0 8) + 8)) 8) + 1))) + 1))) + (Int.tmod (wrap64 ((wrap64 ((Int.tmod a1_0 (wrap64 ((Int.tmod (wrap64 ((Int.tmod a0 8) + 8)) 8) + 1))) + (Int.tmod (wrap64 ((Int.tmod a0 8) + 8)) 8))) + 1)) (wrap64 ((Int.tmod (wrap64 ((Int.tmod a0 8) + 8)) 8) + 1))))) + 1)) (wrap64 ((Int.tmod (wrap64 ((wrap64 ((Int.tmod a1_0 (wrap64 ((Int.tmod (wrap64 ((Int.tmod a0 8) + 8)) 8) + 1))) + (Int.tmod (wrap64 ((Int.tmod a0 8) + 8)) 8))) + 1)) (wrap64 ((Int.tmod (wrap64 ((Int.tmod a0 8) + 8)) 8) + 1))) + 1))), .agg #[.int .u64 t187, .int .u64 t188]] (by rfl) rfl rfl (by (try simp only [List.map_toArray, List.map_cons, List.map_nil]); first | done | rfl | (simp only [List.length_drop, List.length_take]; rfl)) ?_
     with_reducible refine (frob_Norm.calls k (Int.tmod (wrap64 ((Int.tmod a0 8) + 8)) 8) (Int.tmod (wrap64 ((wrap64 ((Int.tmod a1_1 (wrap64 ((Int.tmod (wrap64 ((wrap64 ((Int.tmod a1_0 (wrap64 ((Int.tmod (wrap64 ((Int.tmod a0 8) + 8)) 8) + 1))) + (Int.tmod (wrap64 ((Int.tmod a0 8) + 8)) 8))) + 1)) (wrap64 ((Int.tmod (wrap64 ((Int.tmod a0 8) + 8)) 8) + 1))) + 1))) + (Int.tmod (wrap64 ((wrap64 ((Int.tmod a1_0 (wrap64 ((Int.tmod (wrap64 ((Int.tmod a0 8) + 8)) 8) + 1))) + (Int.tmod (wrap64 ((Int.tmod a0 8) + 8)) 8))) + 1)) (wrap64 ((Int.tmod (wrap64 ((Int.tmod a0 8) + 8)) 8) + 1))))) + 1)) (wrap64 ((Int.tmod (wrap64 ((wrap64 ((Int.tmod a1_0 (wrap64 ((Int.tmod (wrap64 ((Int.tmod a0 8) + 8)) 8) + 1))) + (Int.tmod (wrap64 ((Int.tmod a0 8) + 8)) 8))) + 1)) (wrap64 ((Int.tmod (wrap64 ((Int.tmod a0 8) + 8)) 8) + 1))) + 1))) t187 t188 t197 t198 _ A13.out).mono ?_
     rintro e w32 ⟨rfl, hb⟩
     refine ⟨_, rfl, ?_⟩
     replace BK185 := bb BK185 hb
     replace BK186 := bb BK186 hb
     replace BK189 := bb BK189 hb
     replace HB := bh HB hb
     (try clear hb)
     (try clear hb2)
     (try clear hk)
     (try clear hi)
     refine hK.out _ _ ⟨(blk_cell BK189.out 0).trans rfl, (blk_cell BK189.out 1).trans rfl⟩ (fun hHeld => ?_)
     clear hK K
     refine norm_ (a' := ?_) ?_ ?_
     rotate_left
     ·show Act.put _ (some 59) _ = _
      simp only [Act.put, List.setIfInBounds_toArray, List.set_cons_zero, List.set_cons_succ, i64_w, i32_w]
      rfl
     refine one_ (i := 25) (N := some 65) #[true, true, true, true, true, true, true, true, true, true, true, true, true, true, true, true, true, true, true, true, true, true, true, true, true, true, false, false, false, false] rfl rfl (one_of HT_.out (by kernel_rfl)) (by decide) (fun K hK => ?_)
     refine goes_ Try.func15 (by kernel_rfl) rfl #[.int .i64 (Int.tmod (wrap64 ((Int.tmod a0 8) + 8)) 8), .int .i64 (Int.tmod (wrap64 ((wrap64 ((Int.tmod a1_0 (wrap64 ((Int.tmod (wrap64 ((Int.tmod a0 8) + 8)) 8) + 1))) + (Int.tmod (wrap64 ((Int.tmod a0 8) + 8)) 8))) + 1)) (wrap64 ((Int.tmod (wrap64 ((Int.tmod a0 8) + 8)) 8) + 1))), .agg #[.int .u64 t187, .int .u64 t188]] (by rfl) rfl rfl (by (try simp only [List.map_toArray, List.map_cons, List.map_nil]); first | done | rfl | (simp only [List.length_drop, List.length_take]; rfl)) ?_
     with_reducible refine (frob_Norm.calls k (Int.tmod (wrap64 ((Int.tmod a0 8) + 8)) 8) (Int.tmod (wrap64 ((wrap64 ((Int.tmod a1_0 (wrap64 ((Int.tmod (wrap64 ((Int.tmod a0 8) + 8)) 8) + 1))) + (Int.tmod (wrap64 ((Int.tmod a0 8) + 8)) 8))) + 1)) (wrap64 ((Int.tmod (wrap64 ((Int.tmod a0 8) + 8)) 8) + 1))) t187 t188 t199 t200 _ A14.out).mono ?_
     rintro e w33 ⟨rfl, hb⟩
     refine ⟨_, rfl, ?_⟩
     replace BK185 := bb BK185 hb
     replace BK186 := bb BK186 hb
     replace BK189 := bb BK189 hb
     replace HB := bh HB hb
     (try clear hb)
     (try clear hb2)
     (try clear hk)
     (try clear hi)
     refine hK.out _ _ ⟨(blk_cell BK189.out 0).trans rfl, (blk_cell BK189.out 1).trans rfl⟩ (fun hHeld => ?_)
     clear hK K
     refine norm_ (a' := ?_) ?_ ?_
     rotate_left
     ·show Act.put _ (some 65) _ = _
      simp only [Act.put, List.setIfInBounds_toArray, List.set_cons_zero, List.set_cons_succ, i64_w, i32_w]
      rfl
     refine one_ (i := 26) (N := some 66) #[true, true, true, true, true, true, true, true, true, true, true, true, true, true, true, true, true, true, true, true, true, true, true, true, true, true, true, false, false, false] rfl rfl (one_of HT_.out (by kernel_rfl)) (by decide) (fun K hK => ?_)
     refine goes_ Try.func15 (by kernel_rfl) rfl #[.int .i64 (Int.tmod (wrap64 ((wrap64 ((Int.tmod a1_0 (wrap64 ((Int.tmod (wrap64 ((Int.tmod a0 8) + 8)) 8) + 1))) + (Int.tmod (wrap64 ((Int.tmod a0 8) + 8)) 8))) + 1)) (wrap64 ((Int.tmod (wrap64 ((Int.tmod a0 8) + 8)) 8) + 1))), .int .i64 (Int.tmod (wrap64 ((wrap64 ((Int.tmod a1_1 (wrap64 ((Int.tmod (wrap64 ((wrap64 ((Int.tmod a1_0 (wrap64 ((Int.tmod (wrap64 ((Int.tmod a0 8) + 8)) 8) + 1))) + (Int.tmod (wrap64 ((Int.tmod a0 8) + 8)) 8))) + 1)) (wrap64 ((Int.tmod (wrap64 ((Int.tmod a0 8) + 8)) 8) + 1))) + 1))) + (Int.tmod (wrap64 ((wrap64 ((Int.tmod a1_0 (wrap64 ((Int.tmod (wrap64 ((Int.tmod a0 8) + 8)) 8) + 1))) + (Int.tmod (wrap64 ((Int.tmod a0 8) + 8)) 8))) + 1)) (wrap64 ((Int.tmod (wrap64 ((Int.tmod a0 8) + 8)) 8) + 1))))) + 1)) (wrap64 ((Int.tmod (wrap64 ((wrap64 ((Int.tmod a1_0 (wrap64 ((Int.tmod (wrap64 ((Int.tmod a0 8) + 8)) 8) + 1))) + (Int.tmod (wrap64 ((Int.tmod a0 8) + 8)) 8))) + 1)) (wrap64 ((Int.tmod (wrap64 ((Int.tmod a0 8) + 8)) 8) + 1))) + 1))), .agg #[.int .u64 t199, .int .u64 t200]] (by rfl) rfl rfl (by (try simp only [List.map_toArray, List.map_cons, List.map_nil]); first | done | rfl | (simp only [List.length_drop, List.length_take]; rfl)) ?_
     with_reducible refine (frob_Norm.calls k (Int.tmod (wrap64 ((wrap64 ((Int.tmod a1_0 (wrap64 ((Int.tmod (wrap64 ((Int.tmod a0 8) + 8)) 8) + 1))) + (Int.tmod (wrap64 ((Int.tmod a0 8) + 8)) 8))) + 1)) (wrap64 ((Int.tmod (wrap64 ((Int.tmod a0 8) + 8)) 8) + 1))) (Int.tmod (wrap64 ((wrap64 ((Int.tmod a1_1 (wrap64 ((Int.tmod (wrap64 ((wrap64 ((Int.tmod a1_0 (wrap64 ((Int.tmod (wrap64 ((Int.tmod a0 8) + 8)) 8) + 1))) + (Int.tmod (wrap64 ((Int.tmod a0 8) + 8)) 8))) + 1)) (wrap64 ((Int.tmod (wrap64 ((Int.tmod a0 8) + 8)) 8) + 1))) + 1))) + (Int.tmod (wrap64 ((wrap64 ((Int.tmod a1_0 (wrap64 ((Int.tmod (wrap64 ((Int.tmod a0 8) + 8)) 8) + 1))) + (Int.tmod (wrap64 ((Int.tmod a0 8) + 8)) 8))) + 1)) (wrap64 ((Int.tmod (wrap64 ((Int.tmod a0 8) + 8)) 8) + 1))))) + 1)) (wrap64 ((Int.tmod (wrap64 ((wrap64 ((Int.tmod a1_0 (wrap64 ((Int.tmod (wrap64 ((Int.tmod a0 8) + 8)) 8) + 1))) + (Int.tmod (wrap64 ((Int.tmod a0 8) + 8)) 8))) + 1)) (wrap64 ((Int.tmod (wrap64 ((Int.tmod a0 8) + 8)) 8) + 1))) + 1))) t199 t200 t201 t202 _ A15.out).mono ?_
     rintro e w34 ⟨rfl, hb⟩
     refine ⟨_, rfl, ?_⟩
     replace BK185 := bb BK185 hb
     replace BK186 := bb BK186 hb
     replace BK189 := bb BK189 hb
     replace HB := bh HB hb
     (try clear hb)
     (try clear hb2)
     (try clear hk)
     (try clear hi)
     refine hK.out _ _ ⟨(blk_cell BK189.out 0).trans rfl, (blk_cell BK189.out 1).trans rfl⟩ (fun hHeld => ?_)
     clear hK K
     refine norm_ (a' := ?_) ?_ ?_
     rotate_left
     ·show Act.put _ (some 66) _ = _
      simp only [Act.put, List.setIfInBounds_toArray, List.set_cons_zero, List.set_cons_succ, i64_w, i32_w]
      rfl
     refine pure_ (i := 27) (N := some 67) (v := ?_) (a' := ?_) #[true, true, true, true, true, true, true, true, true, true, true, true, true, true, true, true, true, true, true, true, true, true, true, true, true, true, true, true, false, false] rfl rfl (any_of HT_.out (by kernel_rfl)) (fun _ _ _ h => h) (Or.inl ⟨by rfl, ?_⟩) ?_ ?_
     rotate_left
     ·intro w'
      go_simp
      with_reducible rfl
     rotate_left
     ·simp only [Act.put, List.setIfInBounds_toArray, List.set_cons_zero, List.set_cons_succ, i64_w, i32_w]
      rfl
     refine pure_ (i := 28) (N := some 68) (v := ?_) (a' := ?_) #[true, true, true, true, true, true, true, true, true, true, true, true, true, true, true, true, true, true, true, true, true, true, true, true, true, true, true, true, true, false] rfl rfl (any_of HT_.out (by kernel_rfl)) (fun _ _ _ h => h) (Or.inl ⟨by rfl, ?_⟩) ?_ ?_
     rotate_left
     ·intro w'
      go_simp
      with_reducible rfl
     rotate_left
     ·simp only [Act.put, List.setIfInBounds_toArray, List.set_cons_zero, List.set_cons_succ, i64_w, i32_w]
      rfl
     refine pure_ (i := 29) (N := some 6) (v := ?_) (a' := ?_) #[true, true, true, true, true, true, true, true, true, true, true, true, true, true, true, true, true, true, true, true, true, true, true, true, true, true, true, true, true, true] rfl rfl (any_of HT_.out (by kernel_rfl)) (fun _ _ _ h => h) (Or.inl ⟨by rfl, ?_⟩) ?_ ?_
     rotate_left
     ·intro w'
      go_simp
      with_reducible rfl
     rotate_left
     ·simp only [Act.put, List.setIfInBounds_toArray, List.set_cons_zero, List.set_cons_succ, i64_w, i32_w]
      rfl
     refine done_ (done_of HT_.out (by kernel_rfl)) ?_
     try go_wp2
     go_ret
     exact ⟨by first | rfl | (simp [errW_none, errW_some] <;> rfl) | (simp [*, errW_none, errW_some] <;> rfl), bq HB.out⟩
    ·rw [if_neg c12] at H
     have c12b0 : (t191 == t195 && (t192 == t196)) = false := by simpa using c12
     (try (have c12b1 : decide (t191 = t195 && (t192 == t196)) = false := by simpa using c12))
     (try (have c12b2 : (t191 == t195 && (t192 == t196)) = false := by simpa using c12))
     (try (have c12b3 : ¬ (t191 = t195 && (t192 == t196)) := by simpa using c12))
     clear c12
     exact absurd H (by simp)
   ·replace c8 := Bool.eq_false_iff.mpr c8
    subst c8
    have H1 : (none) = some r := by rw [if_neg (show ¬ (false = true) by decide)] at H; exact H
    clear H
    have H := H1
    clear H1
    exact absurd H (by simp)

/-- THE ONE PURE STATEMENT of steeplelaw33_FrobThrough. -/
def steeplelaw33_FrobThrough.Pure : Prop := ∀ (x0 : Int) (x1 : S33) (x2 : S24), (Lit.int .i64 x0).wf = true → ((Lit.int .i64 x1.f0).wf = true ∧ (Lit.int .i64 x1.f1).wf = true) → ((Lit.int .u64 x2.f0).wf = true ∧ (Lit.int .u64 x2.f1).wf = true) → ∃ k, steeplelaw33_FrobThrough.f k x0 x1.f0 x1.f1 x2.f0 x2.f1 = some true

end Go.Proofs.Ytlegcabfgkccmaa.P
