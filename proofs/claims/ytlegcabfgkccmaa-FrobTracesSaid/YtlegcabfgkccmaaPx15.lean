/- Written by a program of this session: functions that the law reaches, as Lean functions, and that the code comes to their answers. Conditions: those that each theorem names. -/
import Derived.Test.YtlegcabfgkccmaaPx0
import Derived.Test.YtlegcabfgkccmaaPx1
import Derived.Test.YtlegcabfgkccmaaPx2
import Derived.Test.YtlegcabfgkccmaaPx3
import Derived.Test.YtlegcabfgkccmaaPx6
import Derived.Test.YtlegcabfgkccmaaPx6a
import Derived.Test.YtlegcabfgkccmaaPx8
import Derived.Test.YtlegcabfgkccmaaPx14
import Derived.Test.YtlegcabfgkccmaaHConj
import Derived.Test.YtlegcabfgkccmaaHNorm
import Derived.Test.YtlegcabfgkccmaaHTrace
namespace Go.Proofs.Ytlegcabfgkccmaa.P
open Go.RowKit Go.Proofs.YtlegcabfgkccmaaX Go.Proofs.YtlegcabfgkccmaaW.PrintWords Go.Proofs.YtlegcabfgkccmaaW.PrintLast Go.Proofs.YtlegcabfgkccmaaW.PrintMore
attribute [local go_sem] max2_int min2_int max_two min_two max_three min_three max_four min_four   -- for this text's walks alone
set_option linter.unusedVariables false
set_option linter.unusedSimpArgs false

attribute [local go_sem high] eqA24 eqA37
/-! ### steeplelaw33_FrobTraces: function 7 -/
def steeplelaw33_FrobTraces.f (k : Nat) (a0 : Int) (a1 : Int) (a2_0 : Int) (a2_1 : Int) : Option (Bool) := (frob_Conjugates.f k a0 a1 a2_0 a2_1).bind fun t392 => ((frob_Trace.f k a0 a1 a2_0 a2_1).bind fun bt395 => ((frob_Norm.f k a0 a1 a2_0 a2_1).bind fun bt397 => ((steepleref33_Fits.f k a0 a1 a2_0 a2_1).bind fun t401 => (if t401 = true then ((steeplelaw33_awake.f k).bind fun t403 => (if t403 = true then ((steepleref33_Conjugates.f k a0 a1 a2_0 a2_1).bind fun t404 => ((steeplelaw01_Same.f k t392 t404).bind fun t407 => (if t407 = true then ((steepleref33_Trace.f k a0 a1 a2_0 a2_1).bind fun bt408 => (if (bt395.1 == bt408.1 && (bt395.2 == bt408.2)) = true then ((steepleref33_Norm.f k a0 a1 a2_0 a2_1).bind fun bt410 => (if (bt397.1 == bt410.1 && (bt397.2 == bt410.2)) = true then ((octet_Of.f k a1 bt395.1 bt395.2).bind fun t412 => (if t412 = true then ((octet_Of.f k a1 bt397.1 bt397.2).bind fun t413 => (some t413)) else (none))) else (none))) else (none))) else (none)))) else (none))) else ((steeplelaw33_awake.f k).bind fun t402 => (if t402 = true then (if (t392.length : Int) = 0 then (if (bt395.1 == 0 && (bt395.2 == 0)) = true then (some (bt397.1 == 0 && (bt397.2 == 0))) else (none)) else (none)) else (none)))))))
theorem steeplelaw33_FrobTraces.mono : ∀ a0 a1 a2 a3 k, LeO (steeplelaw33_FrobTraces.f k a0 a1 a2 a3) (steeplelaw33_FrobTraces.f (k + 1) a0 a1 a2 a3) := by
 intro a0 a1 a2 a3 k
 unfold steeplelaw33_FrobTraces.f
 repeat' first
   | (with_reducible exact frob_Conjugates.mono _ _ _ _ _)
   | (with_reducible exact frob_Norm.mono _ _ _ _ _)
   | (with_reducible exact frob_Trace.mono _ _ _ _ _)
   | (with_reducible exact octet_Of.mono _ _ _ _)
   | (with_reducible exact steeplelaw01_Same.mono _ _ _)
   | (with_reducible exact steeplelaw33_awake.mono _)
   | (with_reducible exact steepleref33_Conjugates.mono _ _ _ _ _)
   | (with_reducible exact steepleref33_Fits.mono _ _ _ _ _)
   | (with_reducible exact steepleref33_Norm.mono _ _ _ _ _)
   | (with_reducible exact steepleref33_Trace.mono _ _ _ _ _)
   | (with_reducible exact LeO.refl _)
   | (with_reducible exact LeO.none _)
   | (with_reducible refine LeO.ite ?_ ?_)
   | (with_reducible refine LeO.bind ?_ (fun _ => ?_))
   | exact frob_Conjugates.mono _ _ _ _ _
   | exact frob_Norm.mono _ _ _ _ _
   | exact frob_Trace.mono _ _ _ _ _
   | exact octet_Of.mono _ _ _ _
   | exact steeplelaw01_Same.mono _ _ _
   | exact steeplelaw33_awake.mono _
   | exact steepleref33_Conjugates.mono _ _ _ _ _
   | exact steepleref33_Fits.mono _ _ _ _ _
   | exact steepleref33_Norm.mono _ _ _ _ _
   | exact steepleref33_Trace.mono _ _ _ _ _
   | exact LeO.none _
   | refine LeO.ite ?_ ?_
   | refine LeO.bind ?_ (fun _ => ?_)
def steeplelaw33_FrobTraces.T2 : Bool × List (List Nat × List Nat) := (true, [([], []), ([], []), ([], []), ([0, 1, 2], [0, 1, 2]), ([], []), ([], []), ([], []), ([4, 5, 6, 3], [4, 5, 6]), ([], []), ([], []), ([], []), ([8, 9, 10, 7], [8, 9, 10]), ([], []), ([], []), ([3, 11, 0, 1, 2, 3, 12, 13], [3]), ([12, 7, 14, 0, 1, 2, 3, 4, 5, 6, 7, 12, 13, 14], [7, 12]), ([13, 11, 15, 0, 1, 2, 3, 4, 5, 6, 7, 8, 9, 10, 11, 12, 13, 14, 15], [11, 13])])
def steeplelaw33_FrobTraces.B2 : List Nat := [0, 0, 0, 7, 0, 0, 0, 127, 0, 0, 0, 2047, 0, 0, 16383, 32767, 65535]
theorem steeplelaw33_FrobTraces.tab2 : rtab .any (opsOf Try.f7 2) = steeplelaw33_FrobTraces.T2 := by kernel_rfl
theorem steeplelaw33_FrobTraces.bits2 : waitsOk steeplelaw33_FrobTraces.T2.2 steeplelaw33_FrobTraces.B2 = true := by kernel_rfl
def steeplelaw33_FrobTraces.T5 : Bool × List (List Nat × List Nat) := (true, [([], []), ([0, 0], [0]), ([1], [1]), ([1], [1]), ([1], [1]), ([1], [1]), ([3, 4, 5, 1, 1], [1, 3, 4, 5]), ([2, 6, 6, 1], [1, 2, 6]), ([1, 7], [1, 7]), ([8, 7], [8]), ([9], [9]), ([9], [9]), ([9], [9]), ([9], [9]), ([11, 12, 13, 9, 9], [9, 11, 12, 13]), ([10, 14, 9], [9, 10, 14]), ([9, 15], [9, 15]), ([16, 14], [16]), ([17], [17]), ([17], [17]), ([17], [17]), ([17], [17]), ([19, 20, 21, 17, 17], [17, 19, 20, 21]), ([18, 22, 17], [17, 18, 22]), ([17, 23], [17, 23]), ([24, 22], [24]), ([25], [25]), ([25], [25]), ([26, 27, 25, 25], [25, 26, 27]), ([25, 28], [25, 28]), ([29, 28], [29]), ([30], [30]), ([30], [30]), ([31, 32, 30, 30], [30, 31, 32]), ([30, 33], [30, 33]), ([34, 33, 0, 1, 2, 3, 4, 5, 6, 7, 8, 9, 10, 11, 12, 13, 14, 15, 16, 17, 18, 19, 20, 21, 22, 23, 24, 25, 26, 27, 28, 29, 30, 31, 32, 33, 34], [34])])
def steeplelaw33_FrobTraces.B5 : List Nat := [0, 1, 3, 3, 3, 3, 59, 127, 255, 511, 1023, 1023, 1023, 1023, 15359, 32767, 65535, 131071, 262143, 262143, 262143, 262143, 3932159, 8388607, 16777215, 33554431, 67108863, 67108863, 268435455, 536870911, 1073741823, 2147483647, 2147483647, 8589934591, 17179869183, 34359738367]
theorem steeplelaw33_FrobTraces.tab5 : rtab .any (opsOf Try.f7 5) = steeplelaw33_FrobTraces.T5 := by kernel_rfl
theorem steeplelaw33_FrobTraces.bits5 : waitsOk steeplelaw33_FrobTraces.T5.2 steeplelaw33_FrobTraces.B5 = true := by kernel_rfl
set_option maxHeartbeats 8000000 in
set_option maxRecDepth 100000 in
theorem steeplelaw33_FrobTraces.calls (k : Nat) (a0 : Int) (a1 : Int) (a2_0 : Int) (a2_1 : Int) (r : Bool) (w : World) (h : steeplelaw33_FrobTraces.f k a0 a1 a2_0 a2_1 = some r) :
  Calls Try.prog 7 #[.int .i64 a0, .int .i64 a1, .agg #[.int .u64 a2_0, .int .u64 a2_1]] w fun e w' => e = .returned (.bool r) ∧ Below w.heap.size w w' := by
 have hu24 := Try.underlying24
 have hu37 := Try.underlying37
 have HB := Aside0.mk (Below.refl w.heap.size w)
 have H : ((frob_Conjugates.f k a0 a1 a2_0 a2_1).bind fun t392 => ((frob_Trace.f k a0 a1 a2_0 a2_1).bind fun bt395 => ((frob_Norm.f k a0 a1 a2_0 a2_1).bind fun bt397 => ((steepleref33_Fits.f k a0 a1 a2_0 a2_1).bind fun t401 => (if t401 = true then ((steeplelaw33_awake.f k).bind fun t403 => (if t403 = true then ((steepleref33_Conjugates.f k a0 a1 a2_0 a2_1).bind fun t404 => ((steeplelaw01_Same.f k t392 t404).bind fun t407 => (if t407 = true then ((steepleref33_Trace.f k a0 a1 a2_0 a2_1).bind fun bt408 => (if (bt395.1 == bt408.1 && (bt395.2 == bt408.2)) = true then ((steepleref33_Norm.f k a0 a1 a2_0 a2_1).bind fun bt410 => (if (bt397.1 == bt410.1 && (bt397.2 == bt410.2)) = true then ((octet_Of.f k a1 bt395.1 bt395.2).bind fun t412 => (if t412 = true then ((octet_Of.f k a1 bt397.1 bt397.2).bind fun t413 => (some t413)) else (none))) else (none))) else (none))) else (none)))) else (none))) else ((steeplelaw33_awake.f k).bind fun t402 => (if t402 = true then (if (t392.length : Int) = 0 then (if (bt395.1 == 0 && (bt395.2 == 0)) = true then (some (bt397.1 == 0 && (bt397.2 == 0))) else (none)) else (none)) else (none)))))))) = some r := h
 clear h
 replace H := Option.bind_eq_some_iff.mp H
 obtain ⟨t392, A40, H⟩ := H
 replace H : ((frob_Trace.f k a0 a1 a2_0 a2_1).bind fun bt395 => ((frob_Norm.f k a0 a1 a2_0 a2_1).bind fun bt397 => ((steepleref33_Fits.f k a0 a1 a2_0 a2_1).bind fun t401 => (if t401 = true then ((steeplelaw33_awake.f k).bind fun t403 => (if t403 = true then ((steepleref33_Conjugates.f k a0 a1 a2_0 a2_1).bind fun t404 => ((steeplelaw01_Same.f k t392 t404).bind fun t407 => (if t407 = true then ((steepleref33_Trace.f k a0 a1 a2_0 a2_1).bind fun bt408 => (if (bt395.1 == bt408.1 && (bt395.2 == bt408.2)) = true then ((steepleref33_Norm.f k a0 a1 a2_0 a2_1).bind fun bt410 => (if (bt397.1 == bt410.1 && (bt397.2 == bt410.2)) = true then ((octet_Of.f k a1 bt395.1 bt395.2).bind fun t412 => (if t412 = true then ((octet_Of.f k a1 bt397.1 bt397.2).bind fun t413 => (some t413)) else (none))) else (none))) else (none))) else (none)))) else (none))) else ((steeplelaw33_awake.f k).bind fun t402 => (if t402 = true then (if (t392.length : Int) = 0 then (if (bt395.1 == 0 && (bt395.2 == 0)) = true then (some (bt397.1 == 0 && (bt397.2 == 0))) else (none)) else (none)) else (none))))))) = some r := H
 have A4 := Aside0.mk A40
 clear A40
 replace H := Option.bind_eq_some_iff.mp H
 obtain ⟨⟨t395, t396⟩, A50, H⟩ := H
 replace H : ((frob_Norm.f k a0 a1 a2_0 a2_1).bind fun bt397 => ((steepleref33_Fits.f k a0 a1 a2_0 a2_1).bind fun t401 => (if t401 = true then ((steeplelaw33_awake.f k).bind fun t403 => (if t403 = true then ((steepleref33_Conjugates.f k a0 a1 a2_0 a2_1).bind fun t404 => ((steeplelaw01_Same.f k t392 t404).bind fun t407 => (if t407 = true then ((steepleref33_Trace.f k a0 a1 a2_0 a2_1).bind fun bt408 => (if (t395 == bt408.1 && (t396 == bt408.2)) = true then ((steepleref33_Norm.f k a0 a1 a2_0 a2_1).bind fun bt410 => (if (bt397.1 == bt410.1 && (bt397.2 == bt410.2)) = true then ((octet_Of.f k a1 t395 t396).bind fun t412 => (if t412 = true then ((octet_Of.f k a1 bt397.1 bt397.2).bind fun t413 => (some t413)) else (none))) else (none))) else (none))) else (none)))) else (none))) else ((steeplelaw33_awake.f k).bind fun t402 => (if t402 = true then (if (t392.length : Int) = 0 then (if (t395 == 0 && (t396 == 0)) = true then (some (bt397.1 == 0 && (bt397.2 == 0))) else (none)) else (none)) else (none)))))) = some r := H
 have A5 := Aside0.mk A50
 clear A50
 replace H := Option.bind_eq_some_iff.mp H
 obtain ⟨⟨t397, t398⟩, A60, H⟩ := H
 replace H : ((steepleref33_Fits.f k a0 a1 a2_0 a2_1).bind fun t401 => (if t401 = true then ((steeplelaw33_awake.f k).bind fun t403 => (if t403 = true then ((steepleref33_Conjugates.f k a0 a1 a2_0 a2_1).bind fun t404 => ((steeplelaw01_Same.f k t392 t404).bind fun t407 => (if t407 = true then ((steepleref33_Trace.f k a0 a1 a2_0 a2_1).bind fun bt408 => (if (t395 == bt408.1 && (t396 == bt408.2)) = true then ((steepleref33_Norm.f k a0 a1 a2_0 a2_1).bind fun bt410 => (if (t397 == bt410.1 && (t398 == bt410.2)) = true then ((octet_Of.f k a1 t395 t396).bind fun t412 => (if t412 = true then ((octet_Of.f k a1 t397 t398).bind fun t413 => (some t413)) else (none))) else (none))) else (none))) else (none)))) else (none))) else ((steeplelaw33_awake.f k).bind fun t402 => (if t402 = true then (if (t392.length : Int) = 0 then (if (t395 == 0 && (t396 == 0)) = true then (some (t397 == 0 && (t398 == 0))) else (none)) else (none)) else (none))))) = some r := H
 have A6 := Aside0.mk A60
 clear A60
 replace H := Option.bind_eq_some_iff.mp H
 obtain ⟨t401, A70, H⟩ := H
 replace H : (if t401 = true then ((steeplelaw33_awake.f k).bind fun t403 => (if t403 = true then ((steepleref33_Conjugates.f k a0 a1 a2_0 a2_1).bind fun t404 => ((steeplelaw01_Same.f k t392 t404).bind fun t407 => (if t407 = true then ((steepleref33_Trace.f k a0 a1 a2_0 a2_1).bind fun bt408 => (if (t395 == bt408.1 && (t396 == bt408.2)) = true then ((steepleref33_Norm.f k a0 a1 a2_0 a2_1).bind fun bt410 => (if (t397 == bt410.1 && (t398 == bt410.2)) = true then ((octet_Of.f k a1 t395 t396).bind fun t412 => (if t412 = true then ((octet_Of.f k a1 t397 t398).bind fun t413 => (some t413)) else (none))) else (none))) else (none))) else (none)))) else (none))) else ((steeplelaw33_awake.f k).bind fun t402 => (if t402 = true then (if (t392.length : Int) = 0 then (if (t395 == 0 && (t396 == 0)) = true then (some (t397 == 0 && (t398 == 0))) else (none)) else (none)) else (none)))) = some r := H
 have A7 := Aside0.mk A70
 clear A70
 by_cases c8 : t401 = true
 ·subst c8
  have H1 : ((steeplelaw33_awake.f k).bind fun t403 => (if t403 = true then ((steepleref33_Conjugates.f k a0 a1 a2_0 a2_1).bind fun t404 => ((steeplelaw01_Same.f k t392 t404).bind fun t407 => (if t407 = true then ((steepleref33_Trace.f k a0 a1 a2_0 a2_1).bind fun bt408 => (if (t395 == bt408.1 && (t396 == bt408.2)) = true then ((steepleref33_Norm.f k a0 a1 a2_0 a2_1).bind fun bt410 => (if (t397 == bt410.1 && (t398 == bt410.2)) = true then ((octet_Of.f k a1 t395 t396).bind fun t412 => (if t412 = true then ((octet_Of.f k a1 t397 t398).bind fun t413 => (some t413)) else (none))) else (none))) else (none))) else (none)))) else (none))) = some r := by rw [if_pos rfl] at H; exact H
  clear H
  have H := H1
  clear H1
  replace H := Option.bind_eq_some_iff.mp H
  obtain ⟨t403, A90, H⟩ := H
  replace H : (if t403 = true then ((steepleref33_Conjugates.f k a0 a1 a2_0 a2_1).bind fun t404 => ((steeplelaw01_Same.f k t392 t404).bind fun t407 => (if t407 = true then ((steepleref33_Trace.f k a0 a1 a2_0 a2_1).bind fun bt408 => (if (t395 == bt408.1 && (t396 == bt408.2)) = true then ((steepleref33_Norm.f k a0 a1 a2_0 a2_1).bind fun bt410 => (if (t397 == bt410.1 && (t398 == bt410.2)) = true then ((octet_Of.f k a1 t395 t396).bind fun t412 => (if t412 = true then ((octet_Of.f k a1 t397 t398).bind fun t413 => (some t413)) else (none))) else (none))) else (none))) else (none)))) else (none)) = some r := H
  have A9 := Aside0.mk A90
  clear A90
  by_cases c10 : t403 = true
  ·subst c10
   have H1 : ((steepleref33_Conjugates.f k a0 a1 a2_0 a2_1).bind fun t404 => ((steeplelaw01_Same.f k t392 t404).bind fun t407 => (if t407 = true then ((steepleref33_Trace.f k a0 a1 a2_0 a2_1).bind fun bt408 => (if (t395 == bt408.1 && (t396 == bt408.2)) = true then ((steepleref33_Norm.f k a0 a1 a2_0 a2_1).bind fun bt410 => (if (t397 == bt410.1 && (t398 == bt410.2)) = true then ((octet_Of.f k a1 t395 t396).bind fun t412 => (if t412 = true then ((octet_Of.f k a1 t397 t398).bind fun t413 => (some t413)) else (none))) else (none))) else (none))) else (none)))) = some r := by rw [if_pos rfl] at H; exact H
   clear H
   have H := H1
   clear H1
   replace H := Option.bind_eq_some_iff.mp H
   obtain ⟨t404, A110, H⟩ := H
   replace H : ((steeplelaw01_Same.f k t392 t404).bind fun t407 => (if t407 = true then ((steepleref33_Trace.f k a0 a1 a2_0 a2_1).bind fun bt408 => (if (t395 == bt408.1 && (t396 == bt408.2)) = true then ((steepleref33_Norm.f k a0 a1 a2_0 a2_1).bind fun bt410 => (if (t397 == bt410.1 && (t398 == bt410.2)) = true then ((octet_Of.f k a1 t395 t396).bind fun t412 => (if t412 = true then ((octet_Of.f k a1 t397 t398).bind fun t413 => (some t413)) else (none))) else (none))) else (none))) else (none))) = some r := H
   have A11 := Aside0.mk A110
   clear A110
   replace H := Option.bind_eq_some_iff.mp H
   obtain ⟨t407, A120, H⟩ := H
   replace H : (if t407 = true then ((steepleref33_Trace.f k a0 a1 a2_0 a2_1).bind fun bt408 => (if (t395 == bt408.1 && (t396 == bt408.2)) = true then ((steepleref33_Norm.f k a0 a1 a2_0 a2_1).bind fun bt410 => (if (t397 == bt410.1 && (t398 == bt410.2)) = true then ((octet_Of.f k a1 t395 t396).bind fun t412 => (if t412 = true then ((octet_Of.f k a1 t397 t398).bind fun t413 => (some t413)) else (none))) else (none))) else (none))) else (none)) = some r := H
   have A12 := Aside0.mk A120
   clear A120
   by_cases c13 : t407 = true
   ·subst c13
    have H1 : ((steepleref33_Trace.f k a0 a1 a2_0 a2_1).bind fun bt408 => (if (t395 == bt408.1 && (t396 == bt408.2)) = true then ((steepleref33_Norm.f k a0 a1 a2_0 a2_1).bind fun bt410 => (if (t397 == bt410.1 && (t398 == bt410.2)) = true then ((octet_Of.f k a1 t395 t396).bind fun t412 => (if t412 = true then ((octet_Of.f k a1 t397 t398).bind fun t413 => (some t413)) else (none))) else (none))) else (none))) = some r := by rw [if_pos rfl] at H; exact H
    clear H
    have H := H1
    clear H1
    replace H := Option.bind_eq_some_iff.mp H
    obtain ⟨⟨t408, t409⟩, A140, H⟩ := H
    replace H : (if (t395 == t408 && (t396 == t409)) = true then ((steepleref33_Norm.f k a0 a1 a2_0 a2_1).bind fun bt410 => (if (t397 == bt410.1 && (t398 == bt410.2)) = true then ((octet_Of.f k a1 t395 t396).bind fun t412 => (if t412 = true then ((octet_Of.f k a1 t397 t398).bind fun t413 => (some t413)) else (none))) else (none))) else (none)) = some r := H
    have A14 := Aside0.mk A140
    clear A140
    by_cases c15 : (t395 == t408 && (t396 == t409)) = true
    ·rw [if_pos c15] at H
     have c15b0 : (t395 == t408 && (t396 == t409)) = true := c15
     (try (have c15b1 : decide (t395 = t408 && (t396 == t409)) = true := by simpa using c15))
     (try (have c15b2 : (t395 == t408 && (t396 == t409)) = true := by simpa using c15))
     clear c15
     replace H := Option.bind_eq_some_iff.mp H
     obtain ⟨⟨t410, t411⟩, A160, H⟩ := H
     replace H : (if (t397 == t410 && (t398 == t411)) = true then ((octet_Of.f k a1 t395 t396).bind fun t412 => (if t412 = true then ((octet_Of.f k a1 t397 t398).bind fun t413 => (some t413)) else (none))) else (none)) = some r := H
     have A16 := Aside0.mk A160
     clear A160
     by_cases c17 : (t397 == t410 && (t398 == t411)) = true
     ·rw [if_pos c17] at H
      have c17b0 : (t397 == t410 && (t398 == t411)) = true := c17
      (try (have c17b1 : decide (t397 = t410 && (t398 == t411)) = true := by simpa using c17))
      (try (have c17b2 : (t397 == t410 && (t398 == t411)) = true := by simpa using c17))
      clear c17
      replace H := Option.bind_eq_some_iff.mp H
      obtain ⟨t412, A180, H⟩ := H
      replace H : (if t412 = true then ((octet_Of.f k a1 t397 t398).bind fun t413 => (some t413)) else (none)) = some r := H
      have A18 := Aside0.mk A180
      clear A180
      by_cases c19 : t412 = true
      ·subst c19
       have H1 : ((octet_Of.f k a1 t397 t398).bind fun t413 => (some t413)) = some r := by rw [if_pos rfl] at H; exact H
       clear H
       have H := H1
       clear H1
       replace H := Option.bind_eq_some_iff.mp H
       obtain ⟨t413, A200, H⟩ := H
       replace H : (some t413) = some r := H
       have A20 := Aside0.mk A200
       clear A200
       obtain rfl := Option.some.inj H
       go_enter Try.func7, Try.ntmps7
       try go_wp2_with (first | ((with_reducible refine gate_dst (N := 5) rfl ?_); (try (refine gate_guard (by rfl) ?_; dsimp only)); refine box_event ?hg (N := 5) ?hd (cs := #[.int .u64 a2_0, .int .u64 a2_1]) (t := 24) ?hr ?_; (case hd => rfl); (case hg => rfl); (case hr => first | (go_simp; done) | (go_simp; rfl)); intro gb390 hg w21 hbox hb; have BK390 := Aside0.mk hbox; have GW390 := ge hg HB; have GE390 := ge hg HB; replace HB := bh HB hb; clear hb hbox hg; obtain ⟨hcz22_0, hcz22_1⟩ := zc2 BK390; obtain ⟨hfz22_0, hfz22_1⟩ := zf2 BK390) | ((with_reducible refine gate_dst (N := 7) rfl ?_); (try (refine gate_guard (by rfl) ?_; dsimp only)); refine box_event ?hg (N := 7) ?hd (cs := #[.int .u64 0, .int .u64 0]) (t := 37) ?hr ?_; (case hd => rfl); (case hg => rfl); (case hr => first | (go_simp; done) | (go_simp; rfl)); intro gb391 hg w23 hbox hb; have BK391 := Aside0.mk hbox; have GW391 := ge hg HB; have GE391 := ge hg HB; have NB390_391 := nl hg BK390; have NB391_390 := ng hg BK390; replace BK390 := bb BK390 hb; replace HB := bh HB hb; clear hb hbox hg; have hnb24 := NB391_390.out; have hnc24 := NB390_391.out; obtain ⟨hcz25_0, hcz25_1⟩ := zc2 BK391; obtain ⟨hfz25_0, hfz25_1⟩ := zf2 BK391))
       have n0_ : Aside0 (((w23.setCell ⟨gb391, 0, none⟩ (.int .u64 a2_0)).setCell ⟨gb391, 1, none⟩ (.int .u64 a2_1)).heap[gb390]? = some (.cells #[.int .u64 a2_0, .int .u64 a2_1] 24 (0, 0))) := ⟨by (with_reducible repeat refine bl ?_); refine blk_far ?_ NB390_391.out _; (with_reducible repeat refine bl ?_); refine blk_far ?_ NB390_391.out _; (with_reducible repeat refine bl ?_); exact BK390.out⟩
       have n1_ : Aside0 (((w23.setCell ⟨gb391, 0, none⟩ (.int .u64 a2_0)).setCell ⟨gb391, 1, none⟩ (.int .u64 a2_1)).heap[gb391]? = some (.cells #[.int .u64 a2_0, .int .u64 a2_1] 37 (0, 0))) := ⟨by (with_reducible repeat refine bl ?_); refine blk_put (cs := #[.int .u64 a2_0, .int .u64 0]) ?_ 1 _ rfl; (with_reducible repeat refine bl ?_); refine blk_put (cs := #[.int .u64 0, .int .u64 0]) ?_ 0 _ rfl; (with_reducible repeat refine bl ?_); exact BK391.out⟩
       have n2_ : Aside0 (Below w.heap.size w ((w23.setCell ⟨gb391, 0, none⟩ (.int .u64 a2_0)).setCell ⟨gb391, 1, none⟩ (.int .u64 a2_1))) := ⟨bq HB.out⟩
       (try clear BK390)
       (try clear BK391)
       (try clear HB)
       generalize ((w23.setCell ⟨gb391, 0, none⟩ (.int .u64 a2_0)).setCell ⟨gb391, 1, none⟩ (.int .u64 a2_1)) = w26 at n0_ n1_ n2_ ⊢
       have BK390 := n0_
       have BK391 := n1_
       have HB := n2_
       clear n0_ n1_ n2_
       replace BK390 := Aside0.mk (blk_drew BK390.out)
       replace BK391 := Aside0.mk (blk_drew BK391.out)
       replace HB := Aside0.mk (below_drew1 HB.out)
       refine start_ (n := 17) (S := fun w' => w'.cell? ⟨gb390, 0, none⟩ = some (.int .u64 a2_0) ∧ w'.cell? ⟨gb390, 1, none⟩ = some (.int .u64 a2_1)) (ds := []) #[false, false, false, false, false, false, false, false, false, false, false, false, false, false, false, false, false] (by kernel_rfl) rfl rfl ⟨(blk_cell BK390.out 0).trans rfl, (blk_cell BK390.out 1).trans rfl⟩ (fun hHeld => ?_); refine with_tabW steeplelaw33_FrobTraces.tab2 steeplelaw33_FrobTraces.bits2 (fun HT_ HW_ => ?_)
       generalize w26.drew = w27 at BK390 BK391 HB hHeld ⊢
       refine pure_ (i := 0) (N := some 12) (v := ?_) (a' := ?_) #[true, false, false, false, false, false, false, false, false, false, false, false, false, false, false, false, false] rfl rfl (any_of HT_.out (by kernel_rfl)) (fun _ _ _ h => h) (Or.inl ⟨by rfl, ?_⟩) ?_ ?_
       rotate_left
       ·intro w'
        go_simp
        with_reducible rfl
       rotate_left
       ·simp only [Act.put, List.setIfInBounds_toArray, List.set_cons_zero, List.set_cons_succ, i64_w, i32_w]
        rfl
       refine pure_ (i := 1) (N := some 13) (v := ?_) (a' := ?_) #[true, true, false, false, false, false, false, false, false, false, false, false, false, false, false, false, false] rfl rfl (any_of HT_.out (by kernel_rfl)) (fun _ _ _ h => h) (Or.inl ⟨by rfl, ?_⟩) ?_ ?_
       rotate_left
       ·intro w'
        go_simp
        with_reducible rfl
       rotate_left
       ·simp only [Act.put, List.setIfInBounds_toArray, List.set_cons_zero, List.set_cons_succ, i64_w, i32_w]
        rfl
       refine pure_ (i := 4) (N := some 16) (v := ?_) (a' := ?_) #[true, true, false, false, true, false, false, false, false, false, false, false, false, false, false, false, false] rfl rfl (any_of HT_.out (by kernel_rfl)) (fun _ _ _ h => h) (Or.inl ⟨by rfl, ?_⟩) ?_ ?_
       rotate_left
       ·intro w'
        go_simp
        with_reducible rfl
       rotate_left
       ·simp only [Act.put, List.setIfInBounds_toArray, List.set_cons_zero, List.set_cons_succ, i64_w, i32_w]
        rfl
       refine pure_ (i := 5) (N := some 17) (v := ?_) (a' := ?_) #[true, true, false, false, true, true, false, false, false, false, false, false, false, false, false, false, false] rfl rfl (any_of HT_.out (by kernel_rfl)) (fun _ _ _ h => h) (Or.inl ⟨by rfl, ?_⟩) ?_ ?_
       rotate_left
       ·intro w'
        go_simp
        with_reducible rfl
       rotate_left
       ·simp only [Act.put, List.setIfInBounds_toArray, List.set_cons_zero, List.set_cons_succ, i64_w, i32_w]
        rfl
       refine pure_ (i := 8) (N := some 20) (v := ?_) (a' := ?_) #[true, true, false, false, true, true, false, false, true, false, false, false, false, false, false, false, false] rfl rfl (any_of HT_.out (by kernel_rfl)) (fun _ _ _ h => h) (Or.inl ⟨by rfl, ?_⟩) ?_ ?_
       rotate_left
       ·intro w'
        go_simp
        with_reducible rfl
       rotate_left
       ·simp only [Act.put, List.setIfInBounds_toArray, List.set_cons_zero, List.set_cons_succ, i64_w, i32_w]
        rfl
       refine pure_ (i := 9) (N := some 21) (v := ?_) (a' := ?_) #[true, true, false, false, true, true, false, false, true, true, false, false, false, false, false, false, false] rfl rfl (any_of HT_.out (by kernel_rfl)) (fun _ _ _ h => h) (Or.inl ⟨by rfl, ?_⟩) ?_ ?_
       rotate_left
       ·intro w'
        go_simp
        with_reducible rfl
       rotate_left
       ·simp only [Act.put, List.setIfInBounds_toArray, List.set_cons_zero, List.set_cons_succ, i64_w, i32_w]
        rfl
       refine take_ (i := 2) (N := some 14) (v := ?_) (a' := ?_) #[true, true, true, false, true, true, false, false, true, true, false, false, false, false, false, false, false] rfl rfl (take_ofW HT_.out HW_.out (by kernel_rfl)) (fun _ _ _ h => h) (Or.inl ⟨by rfl, ?_⟩) hHeld ?_ ?_
       rotate_left
       ·rintro w' ⟨s0, s1⟩
        go_simp
        with_reducible rfl
       rotate_left
       ·simp only [Act.put, List.setIfInBounds_toArray, List.set_cons_zero, List.set_cons_succ, i64_w, i32_w]
        rfl
       refine take_ (i := 6) (N := some 18) (v := ?_) (a' := ?_) #[true, true, true, false, true, true, true, false, true, true, false, false, false, false, false, false, false] rfl rfl (take_ofW HT_.out HW_.out (by kernel_rfl)) (fun _ _ _ h => h) (Or.inl ⟨by rfl, ?_⟩) hHeld ?_ ?_
       rotate_left
       ·rintro w' ⟨s0, s1⟩
        go_simp
        with_reducible rfl
       rotate_left
       ·simp only [Act.put, List.setIfInBounds_toArray, List.set_cons_zero, List.set_cons_succ, i64_w, i32_w]
        rfl
       refine take_ (i := 10) (N := some 22) (v := ?_) (a' := ?_) #[true, true, true, false, true, true, true, false, true, true, true, false, false, false, false, false, false] rfl rfl (take_ofW HT_.out HW_.out (by kernel_rfl)) (fun _ _ _ h => h) (Or.inl ⟨by rfl, ?_⟩) hHeld ?_ ?_
       rotate_left
       ·rintro w' ⟨s0, s1⟩
        go_simp
        with_reducible rfl
       rotate_left
       ·simp only [Act.put, List.setIfInBounds_toArray, List.set_cons_zero, List.set_cons_succ, i64_w, i32_w]
        rfl
       refine join_ (σ := Value × Nat × Nat) 3 #[true, true, true, true, true, true, true, true, true, true, true, true, true, true, false, false, false] (fun s_ => [(15, s_.1), (19, .agg #[.int .u64 t395, .int .u64 t396]), (23, .agg #[.int .u64 t397, .int .u64 t398]), (9, .pointer (some ⟨s_.2.1, 0, none⟩)), (10, .pointer (some ⟨s_.2.2, 0, none⟩))]) (fun s_ w' => (w'.cell? ⟨gb390, 0, none⟩ = some (.int .u64 a2_0) ∧ w'.cell? ⟨gb390, 1, none⟩ = some (.int .u64 a2_1)) ∧ (Kd.R k24 24 w' w.heap.size (fun k_ => k_ ≠ gb390 ∧ k_ ≠ s_.2.1 ∧ k_ ≠ s_.2.2) s_.1 t392) ∧ (w'.heap[gb390]? = some (.cells #[.int .u64 a2_0, .int .u64 a2_1] 24 (0, 0))) ∧ (w'.heap[gb391]? = some (.cells #[.int .u64 a2_0, .int .u64 a2_1] 37 (0, 0))) ∧ (w'.heap[s_.2.1]? = some (.cells #[.int .u64 0, .int .u64 0] 24 (0, 0))) ∧ (w'.heap[s_.2.2]? = some (.cells #[.int .u64 0, .int .u64 0] 24 (0, 0))) ∧ (w.heap.size ≤ s_.2.1) ∧ (w.heap.size ≤ s_.2.1) ∧ (gb390 ≠ s_.2.1) ∧ (s_.2.1 ≠ gb390) ∧ (gb391 ≠ s_.2.1) ∧ (s_.2.1 ≠ gb391) ∧ (s_.2.2 ≠ s_.2.1) ∧ (s_.2.1 ≠ s_.2.2) ∧ (w.heap.size ≤ s_.2.2) ∧ (w.heap.size ≤ s_.2.2) ∧ (gb390 ≠ s_.2.2) ∧ (s_.2.2 ≠ gb390) ∧ (gb391 ≠ s_.2.2) ∧ (s_.2.2 ≠ gb391) ∧ (Below w.heap.size w w')) ?_ ?_
       rotate_left
       ·intro hJ3_7_11_12_13
        refine join_ (σ := Value × Nat) 4 #[true, true, true, true, true, true, true, true, true, true, true, true, true, false, false, false, false] (fun s_ => [(15, s_.1), (19, .agg #[.int .u64 t395, .int .u64 t396]), (23, .agg #[.int .u64 t397, .int .u64 t398]), (9, .pointer (some ⟨s_.2, 0, none⟩))]) (fun s_ w' => (w'.cell? ⟨gb390, 0, none⟩ = some (.int .u64 a2_0) ∧ w'.cell? ⟨gb390, 1, none⟩ = some (.int .u64 a2_1)) ∧ (Kd.R k24 24 w' w.heap.size (fun k_ => k_ ≠ gb390 ∧ k_ ≠ s_.2) s_.1 t392) ∧ (w'.heap[gb390]? = some (.cells #[.int .u64 a2_0, .int .u64 a2_1] 24 (0, 0))) ∧ (w'.heap[gb391]? = some (.cells #[.int .u64 a2_0, .int .u64 a2_1] 37 (0, 0))) ∧ (w'.heap[s_.2]? = some (.cells #[.int .u64 0, .int .u64 0] 24 (0, 0))) ∧ (w.heap.size ≤ s_.2) ∧ (w.heap.size ≤ s_.2) ∧ (gb390 ≠ s_.2) ∧ (s_.2 ≠ gb390) ∧ (gb391 ≠ s_.2) ∧ (s_.2 ≠ gb391) ∧ (Below w.heap.size w w')) ?_ ?_
        rotate_left
        ·intro hJ3_7_11_12
         refine join_ (σ := Value × Nat) 4 #[true, true, true, true, true, true, true, true, true, true, true, true, false, true, false, false, false] (fun s_ => [(15, s_.1), (19, .agg #[.int .u64 t395, .int .u64 t396]), (23, .agg #[.int .u64 t397, .int .u64 t398]), (10, .pointer (some ⟨s_.2, 0, none⟩))]) (fun s_ w' => (w'.cell? ⟨gb390, 0, none⟩ = some (.int .u64 a2_0) ∧ w'.cell? ⟨gb390, 1, none⟩ = some (.int .u64 a2_1)) ∧ (Kd.R k24 24 w' w.heap.size (fun k_ => k_ ≠ gb390 ∧ k_ ≠ s_.2) s_.1 t392) ∧ (w'.heap[gb390]? = some (.cells #[.int .u64 a2_0, .int .u64 a2_1] 24 (0, 0))) ∧ (w'.heap[gb391]? = some (.cells #[.int .u64 a2_0, .int .u64 a2_1] 37 (0, 0))) ∧ (w'.heap[s_.2]? = some (.cells #[.int .u64 0, .int .u64 0] 24 (0, 0))) ∧ (w.heap.size ≤ s_.2) ∧ (w.heap.size ≤ s_.2) ∧ (gb390 ≠ s_.2) ∧ (s_.2 ≠ gb390) ∧ (gb391 ≠ s_.2) ∧ (s_.2 ≠ gb391) ∧ (Below w.heap.size w w')) ?_ ?_
         rotate_left
         ·intro hJ3_7_11_13
          refine join_ (σ := Value × Nat × Nat) 4 #[true, true, true, true, true, true, true, true, true, true, true, false, true, true, false, false, false] (fun s_ => [(15, s_.1), (19, .agg #[.int .u64 t395, .int .u64 t396]), (9, .pointer (some ⟨s_.2.1, 0, none⟩)), (10, .pointer (some ⟨s_.2.2, 0, none⟩))]) (fun s_ w' => (w'.cell? ⟨gb390, 0, none⟩ = some (.int .u64 a2_0) ∧ w'.cell? ⟨gb390, 1, none⟩ = some (.int .u64 a2_1)) ∧ (Kd.R k24 24 w' w.heap.size (fun k_ => k_ ≠ gb390 ∧ k_ ≠ s_.2.1 ∧ k_ ≠ s_.2.2) s_.1 t392) ∧ (w'.heap[gb390]? = some (.cells #[.int .u64 a2_0, .int .u64 a2_1] 24 (0, 0))) ∧ (w'.heap[gb391]? = some (.cells #[.int .u64 a2_0, .int .u64 a2_1] 37 (0, 0))) ∧ (w'.heap[s_.2.1]? = some (.cells #[.int .u64 0, .int .u64 0] 24 (0, 0))) ∧ (w'.heap[s_.2.2]? = some (.cells #[.int .u64 0, .int .u64 0] 24 (0, 0))) ∧ (w.heap.size ≤ s_.2.1) ∧ (w.heap.size ≤ s_.2.1) ∧ (gb390 ≠ s_.2.1) ∧ (s_.2.1 ≠ gb390) ∧ (gb391 ≠ s_.2.1) ∧ (s_.2.1 ≠ gb391) ∧ (s_.2.2 ≠ s_.2.1) ∧ (s_.2.1 ≠ s_.2.2) ∧ (w.heap.size ≤ s_.2.2) ∧ (w.heap.size ≤ s_.2.2) ∧ (gb390 ≠ s_.2.2) ∧ (s_.2.2 ≠ gb390) ∧ (gb391 ≠ s_.2.2) ∧ (s_.2.2 ≠ gb391) ∧ (Below w.heap.size w w')) ?_ ?_
          rotate_left
          ·intro hJ3_7_12_13
           refine join_ (σ := Value) 5 #[true, true, true, true, true, true, true, true, true, true, true, true, false, false, false, false, false] (fun s_ => [(15, s_), (19, .agg #[.int .u64 t395, .int .u64 t396]), (23, .agg #[.int .u64 t397, .int .u64 t398])]) (fun s_ w' => (w'.cell? ⟨gb390, 0, none⟩ = some (.int .u64 a2_0) ∧ w'.cell? ⟨gb390, 1, none⟩ = some (.int .u64 a2_1)) ∧ (Kd.R k24 24 w' w.heap.size (fun k_ => k_ ≠ gb390) s_ t392) ∧ (w'.heap[gb390]? = some (.cells #[.int .u64 a2_0, .int .u64 a2_1] 24 (0, 0))) ∧ (w'.heap[gb391]? = some (.cells #[.int .u64 a2_0, .int .u64 a2_1] 37 (0, 0))) ∧ (Below w.heap.size w w')) ?_ ?_
           rotate_left
           ·intro hJ3_7_11
            refine join_ (σ := Value × Nat) 5 #[true, true, true, true, true, true, true, true, true, true, true, false, true, false, false, false, false] (fun s_ => [(15, s_.1), (19, .agg #[.int .u64 t395, .int .u64 t396]), (9, .pointer (some ⟨s_.2, 0, none⟩))]) (fun s_ w' => (w'.cell? ⟨gb390, 0, none⟩ = some (.int .u64 a2_0) ∧ w'.cell? ⟨gb390, 1, none⟩ = some (.int .u64 a2_1)) ∧ (Kd.R k24 24 w' w.heap.size (fun k_ => k_ ≠ gb390 ∧ k_ ≠ s_.2) s_.1 t392) ∧ (w'.heap[gb390]? = some (.cells #[.int .u64 a2_0, .int .u64 a2_1] 24 (0, 0))) ∧ (w'.heap[gb391]? = some (.cells #[.int .u64 a2_0, .int .u64 a2_1] 37 (0, 0))) ∧ (w'.heap[s_.2]? = some (.cells #[.int .u64 0, .int .u64 0] 24 (0, 0))) ∧ (w.heap.size ≤ s_.2) ∧ (w.heap.size ≤ s_.2) ∧ (gb390 ≠ s_.2) ∧ (s_.2 ≠ gb390) ∧ (gb391 ≠ s_.2) ∧ (s_.2 ≠ gb391) ∧ (Below w.heap.size w w')) ?_ ?_
            rotate_left
            ·intro hJ3_7_12
             refine join_ (σ := Value × Nat) 5 #[true, true, true, true, true, true, true, true, true, true, true, false, false, true, false, false, false] (fun s_ => [(15, s_.1), (19, .agg #[.int .u64 t395, .int .u64 t396]), (10, .pointer (some ⟨s_.2, 0, none⟩))]) (fun s_ w' => (w'.cell? ⟨gb390, 0, none⟩ = some (.int .u64 a2_0) ∧ w'.cell? ⟨gb390, 1, none⟩ = some (.int .u64 a2_1)) ∧ (Kd.R k24 24 w' w.heap.size (fun k_ => k_ ≠ gb390 ∧ k_ ≠ s_.2) s_.1 t392) ∧ (w'.heap[gb390]? = some (.cells #[.int .u64 a2_0, .int .u64 a2_1] 24 (0, 0))) ∧ (w'.heap[gb391]? = some (.cells #[.int .u64 a2_0, .int .u64 a2_1] 37 (0, 0))) ∧ (w'.heap[s_.2]? = some (.cells #[.int .u64 0, .int .u64 0] 24 (0, 0))) ∧ (w.heap.size ≤ s_.2) ∧ (w.heap.size ≤ s_.2) ∧ (gb390 ≠ s_.2) ∧ (s_.2 ≠ gb390) ∧ (gb391 ≠ s_.2) ∧ (s_.2 ≠ gb391) ∧ (Below w.heap.size w w')) ?_ ?_
             rotate_left
             ·intro hJ3_7_13
              refine join_ (σ := Value × Nat × Nat) 5 #[true, true, true, true, true, true, true, false, true, true, true, false, true, true, false, false, false] (fun s_ => [(15, s_.1), (9, .pointer (some ⟨s_.2.1, 0, none⟩)), (10, .pointer (some ⟨s_.2.2, 0, none⟩))]) (fun s_ w' => (w'.cell? ⟨gb390, 0, none⟩ = some (.int .u64 a2_0) ∧ w'.cell? ⟨gb390, 1, none⟩ = some (.int .u64 a2_1)) ∧ (Kd.R k24 24 w' w.heap.size (fun k_ => k_ ≠ gb390 ∧ k_ ≠ s_.2.1 ∧ k_ ≠ s_.2.2) s_.1 t392) ∧ (w'.heap[gb390]? = some (.cells #[.int .u64 a2_0, .int .u64 a2_1] 24 (0, 0))) ∧ (w'.heap[gb391]? = some (.cells #[.int .u64 a2_0, .int .u64 a2_1] 37 (0, 0))) ∧ (w'.heap[s_.2.1]? = some (.cells #[.int .u64 0, .int .u64 0] 24 (0, 0))) ∧ (w'.heap[s_.2.2]? = some (.cells #[.int .u64 0, .int .u64 0] 24 (0, 0))) ∧ (w.heap.size ≤ s_.2.1) ∧ (w.heap.size ≤ s_.2.1) ∧ (gb390 ≠ s_.2.1) ∧ (s_.2.1 ≠ gb390) ∧ (gb391 ≠ s_.2.1) ∧ (s_.2.1 ≠ gb391) ∧ (s_.2.2 ≠ s_.2.1) ∧ (s_.2.1 ≠ s_.2.2) ∧ (w.heap.size ≤ s_.2.2) ∧ (w.heap.size ≤ s_.2.2) ∧ (gb390 ≠ s_.2.2) ∧ (s_.2.2 ≠ gb390) ∧ (gb391 ≠ s_.2.2) ∧ (s_.2.2 ≠ gb391) ∧ (Below w.heap.size w w')) ?_ ?_
              rotate_left
              ·intro hJ3_12_13
               refine join_ (σ := Value) 6 #[true, true, true, true, true, true, true, true, true, true, true, false, false, false, false, false, false] (fun s_ => [(15, s_), (19, .agg #[.int .u64 t395, .int .u64 t396])]) (fun s_ w' => (w'.cell? ⟨gb390, 0, none⟩ = some (.int .u64 a2_0) ∧ w'.cell? ⟨gb390, 1, none⟩ = some (.int .u64 a2_1)) ∧ (Kd.R k24 24 w' w.heap.size (fun k_ => k_ ≠ gb390) s_ t392) ∧ (w'.heap[gb390]? = some (.cells #[.int .u64 a2_0, .int .u64 a2_1] 24 (0, 0))) ∧ (w'.heap[gb391]? = some (.cells #[.int .u64 a2_0, .int .u64 a2_1] 37 (0, 0))) ∧ (Below w.heap.size w w')) ?_ ?_
               rotate_left
               ·intro hJ3_7
                refine join_ (σ := Value × Nat) 6 #[true, true, true, true, true, true, true, false, true, true, true, false, true, false, false, false, false] (fun s_ => [(15, s_.1), (9, .pointer (some ⟨s_.2, 0, none⟩))]) (fun s_ w' => (w'.cell? ⟨gb390, 0, none⟩ = some (.int .u64 a2_0) ∧ w'.cell? ⟨gb390, 1, none⟩ = some (.int .u64 a2_1)) ∧ (Kd.R k24 24 w' w.heap.size (fun k_ => k_ ≠ gb390 ∧ k_ ≠ s_.2) s_.1 t392) ∧ (w'.heap[gb390]? = some (.cells #[.int .u64 a2_0, .int .u64 a2_1] 24 (0, 0))) ∧ (w'.heap[gb391]? = some (.cells #[.int .u64 a2_0, .int .u64 a2_1] 37 (0, 0))) ∧ (w'.heap[s_.2]? = some (.cells #[.int .u64 0, .int .u64 0] 24 (0, 0))) ∧ (w.heap.size ≤ s_.2) ∧ (w.heap.size ≤ s_.2) ∧ (gb390 ≠ s_.2) ∧ (s_.2 ≠ gb390) ∧ (gb391 ≠ s_.2) ∧ (s_.2 ≠ gb391) ∧ (Below w.heap.size w w')) ?_ ?_
                rotate_left
                ·intro hJ3_12
                 refine join_ (σ := Value × Nat) 6 #[true, true, true, true, true, true, true, false, true, true, true, false, false, true, false, false, false] (fun s_ => [(15, s_.1), (10, .pointer (some ⟨s_.2, 0, none⟩))]) (fun s_ w' => (w'.cell? ⟨gb390, 0, none⟩ = some (.int .u64 a2_0) ∧ w'.cell? ⟨gb390, 1, none⟩ = some (.int .u64 a2_1)) ∧ (Kd.R k24 24 w' w.heap.size (fun k_ => k_ ≠ gb390 ∧ k_ ≠ s_.2) s_.1 t392) ∧ (w'.heap[gb390]? = some (.cells #[.int .u64 a2_0, .int .u64 a2_1] 24 (0, 0))) ∧ (w'.heap[gb391]? = some (.cells #[.int .u64 a2_0, .int .u64 a2_1] 37 (0, 0))) ∧ (w'.heap[s_.2]? = some (.cells #[.int .u64 0, .int .u64 0] 24 (0, 0))) ∧ (w.heap.size ≤ s_.2) ∧ (w.heap.size ≤ s_.2) ∧ (gb390 ≠ s_.2) ∧ (s_.2 ≠ gb390) ∧ (gb391 ≠ s_.2) ∧ (s_.2 ≠ gb391) ∧ (Below w.heap.size w w')) ?_ ?_
                 rotate_left
                 ·intro hJ3_13
                  refine join_ (σ := Nat × Nat) 6 #[true, true, true, false, true, true, true, false, true, true, true, false, true, true, false, false, false] (fun s_ => [(9, .pointer (some ⟨s_.1, 0, none⟩)), (10, .pointer (some ⟨s_.2, 0, none⟩))]) (fun s_ w' => (w'.cell? ⟨gb390, 0, none⟩ = some (.int .u64 a2_0) ∧ w'.cell? ⟨gb390, 1, none⟩ = some (.int .u64 a2_1)) ∧ (w'.heap[gb390]? = some (.cells #[.int .u64 a2_0, .int .u64 a2_1] 24 (0, 0))) ∧ (w'.heap[gb391]? = some (.cells #[.int .u64 a2_0, .int .u64 a2_1] 37 (0, 0))) ∧ (w'.heap[s_.1]? = some (.cells #[.int .u64 0, .int .u64 0] 24 (0, 0))) ∧ (w'.heap[s_.2]? = some (.cells #[.int .u64 0, .int .u64 0] 24 (0, 0))) ∧ (w.heap.size ≤ s_.1) ∧ (w.heap.size ≤ s_.1) ∧ (gb390 ≠ s_.1) ∧ (s_.1 ≠ gb390) ∧ (gb391 ≠ s_.1) ∧ (s_.1 ≠ gb391) ∧ (s_.2 ≠ s_.1) ∧ (s_.1 ≠ s_.2) ∧ (w.heap.size ≤ s_.2) ∧ (w.heap.size ≤ s_.2) ∧ (gb390 ≠ s_.2) ∧ (s_.2 ≠ gb390) ∧ (gb391 ≠ s_.2) ∧ (s_.2 ≠ gb391) ∧ (Below w.heap.size w w')) ?_ ?_
                  rotate_left
                  ·intro hJ12_13
                   refine join_ (σ := Value) 7 #[true, true, true, true, true, true, true, false, true, true, true, false, false, false, false, false, false] (fun s_ => [(15, s_)]) (fun s_ w' => (w'.cell? ⟨gb390, 0, none⟩ = some (.int .u64 a2_0) ∧ w'.cell? ⟨gb390, 1, none⟩ = some (.int .u64 a2_1)) ∧ (Kd.R k24 24 w' w.heap.size (fun k_ => k_ ≠ gb390) s_ t392) ∧ (w'.heap[gb390]? = some (.cells #[.int .u64 a2_0, .int .u64 a2_1] 24 (0, 0))) ∧ (w'.heap[gb391]? = some (.cells #[.int .u64 a2_0, .int .u64 a2_1] 37 (0, 0))) ∧ (Below w.heap.size w w')) ?_ ?_
                   rotate_left
                   ·intro hJ3
                    refine join_ (σ := Nat) 7 #[true, true, true, false, true, true, true, false, true, true, true, false, true, false, false, false, false] (fun s_ => [(9, .pointer (some ⟨s_, 0, none⟩))]) (fun s_ w' => (w'.cell? ⟨gb390, 0, none⟩ = some (.int .u64 a2_0) ∧ w'.cell? ⟨gb390, 1, none⟩ = some (.int .u64 a2_1)) ∧ (w'.heap[gb390]? = some (.cells #[.int .u64 a2_0, .int .u64 a2_1] 24 (0, 0))) ∧ (w'.heap[gb391]? = some (.cells #[.int .u64 a2_0, .int .u64 a2_1] 37 (0, 0))) ∧ (w'.heap[s_]? = some (.cells #[.int .u64 0, .int .u64 0] 24 (0, 0))) ∧ (w.heap.size ≤ s_) ∧ (w.heap.size ≤ s_) ∧ (gb390 ≠ s_) ∧ (s_ ≠ gb390) ∧ (gb391 ≠ s_) ∧ (s_ ≠ gb391) ∧ (Below w.heap.size w w')) ?_ ?_
                    rotate_left
                    ·intro hJ12
                     refine join_ (σ := Nat) 7 #[true, true, true, false, true, true, true, false, true, true, true, false, false, true, false, false, false] (fun s_ => [(10, .pointer (some ⟨s_, 0, none⟩))]) (fun s_ w' => (w'.cell? ⟨gb390, 0, none⟩ = some (.int .u64 a2_0) ∧ w'.cell? ⟨gb390, 1, none⟩ = some (.int .u64 a2_1)) ∧ (w'.heap[gb390]? = some (.cells #[.int .u64 a2_0, .int .u64 a2_1] 24 (0, 0))) ∧ (w'.heap[gb391]? = some (.cells #[.int .u64 a2_0, .int .u64 a2_1] 37 (0, 0))) ∧ (w'.heap[s_]? = some (.cells #[.int .u64 0, .int .u64 0] 24 (0, 0))) ∧ (w.heap.size ≤ s_) ∧ (w.heap.size ≤ s_) ∧ (gb390 ≠ s_) ∧ (s_ ≠ gb390) ∧ (gb391 ≠ s_) ∧ (s_ ≠ gb391) ∧ (Below w.heap.size w w')) ?_ ?_
                     rotate_left
                     ·intro hJ13
                      refine three_ (i := 3) (j := 12) (k := 13) (Ni := some 15) (Nj := some 9) (Nk := some 10) #[true, true, true, true, true, true, true, false, true, true, true, false, false, false, false, false, false] #[true, true, true, false, true, true, true, false, true, true, true, false, true, false, false, false, false] #[true, true, true, false, true, true, true, false, true, true, true, false, false, true, false, false, false] rfl rfl rfl rfl rfl rfl (three_of HT_.out (by kernel_rfl)) (by decide) (by decide) (by decide) (fun K hK => ?_) (fun K hK => ?_) (fun K hK => ?_)
                      ·skip
                       refine goes_ Try.func27 (by kernel_rfl) rfl #[.int .i64 a0, .int .i64 a1, .agg #[.int .u64 a2_0, .int .u64 a2_1]] (by rfl) rfl rfl (by (try simp only [List.map_toArray, List.map_cons, List.map_nil]); first | done | rfl | (simp only [List.length_drop, List.length_take]; rfl)) ?_
                       with_reducible refine (frob_Conjugates.calls k a0 a1 a2_0 a2_1 t392 _ A4.out).mono ?_
                       rintro e w28 ⟨v393, rfl, ho0, hb⟩
                       refine ⟨_, rfl, ?_⟩
                       have HO394 := Aside0.mk (Kd.R_lower (Kd.R_newB ho0 (g := gb390) (o := .cells #[.int .u64 a2_0, .int .u64 a2_1] 24 (0, 0)) (bk BK390.out)) (below_size (bq HB.out)))
                       replace BK390 := bb BK390 hb
                       replace BK391 := bb BK391 hb
                       replace HB := bh HB hb
                       (try clear hb)
                       (try clear hb2)
                       (try clear hk)
                       (try clear hi)
                       (try clear ho0)
                       refine hK.out _ _ ⟨(blk_cell BK390.out 0).trans rfl, (blk_cell BK390.out 1).trans rfl⟩ (fun hHeld => ?_)
                       clear hK K
                       refine norm_ (a' := ?_) ?_ ?_
                       rotate_left
                       ·show Act.put _ (some 15) _ = _
                        simp only [Act.put, List.setIfInBounds_toArray, List.set_cons_zero, List.set_cons_succ, i64_w, i32_w]
                        rfl
                       exact norm_ (by first | (simp only [putAll, Act.put, List.setIfInBounds_toArray, List.set_cons_zero, List.set_cons_succ]; done) | (simp only [putAll, Act.put, List.setIfInBounds_toArray, List.set_cons_zero, List.set_cons_succ]; rfl)) (hJ3 (v393) _ ⟨hHeld, (by (with_reducible repeat refine kl ?_); exact Kd.R_mono HO394.out (fun _ hk => hk.2)), (bk BK390.out), (bk BK391.out), (bq HB.out)⟩)
                      ·skip
                       refine box_step ?hg (N := 9) ?hd (cs := #[.int .u64 0, .int .u64 0]) (t := 24) ?hr ?_; (case hd => rfl); (case hg => rfl); (case hr => first | (go_simp; done) | (go_simp; rfl))
                       intro gb399 hg w28 hbox hb
                       have BK399 := Aside0.mk hbox
                       have GW399 := ge hg HB
                       have GE399 := ge hg HB
                       have NB390_399 := nl hg BK390
                       have NB399_390 := ng hg BK390
                       have NB391_399 := nl hg BK391
                       have NB399_391 := ng hg BK391
                       replace BK390 := bb BK390 hb
                       replace BK391 := bb BK391 hb
                       replace HB := bh HB hb
                       clear hb hbox hg
                       refine hK.out _ _ ⟨(blk_cell BK390.out 0).trans rfl, (blk_cell BK390.out 1).trans rfl⟩ (fun hHeld => ?_)
                       clear hK K
                       refine norm_ (a' := ?_) ?_ ?_
                       rotate_left
                       ·show Act.put _ (some 9) _ = _
                        simp only [Act.put, List.setIfInBounds_toArray, List.set_cons_zero, List.set_cons_succ, i64_w, i32_w]
                        rfl
                       exact norm_ (by first | (simp only [putAll, Act.put, List.setIfInBounds_toArray, List.set_cons_zero, List.set_cons_succ]; done) | (simp only [putAll, Act.put, List.setIfInBounds_toArray, List.set_cons_zero, List.set_cons_succ]; rfl)) (hJ12 (gb399) _ ⟨hHeld, (bk BK390.out), (bk BK391.out), (bk BK399.out), GW399.out, GE399.out, NB390_399.out, NB399_390.out, NB391_399.out, NB399_391.out, (bq HB.out)⟩)
                      ·skip
                       refine box_step ?hg (N := 10) ?hd (cs := #[.int .u64 0, .int .u64 0]) (t := 24) ?hr ?_; (case hd => rfl); (case hg => rfl); (case hr => first | (go_simp; done) | (go_simp; rfl))
                       intro gb400 hg w28 hbox hb
                       have BK400 := Aside0.mk hbox
                       have GW400 := ge hg HB
                       have GE400 := ge hg HB
                       have NB390_400 := nl hg BK390
                       have NB400_390 := ng hg BK390
                       have NB391_400 := nl hg BK391
                       have NB400_391 := ng hg BK391
                       replace BK390 := bb BK390 hb
                       replace BK391 := bb BK391 hb
                       replace HB := bh HB hb
                       clear hb hbox hg
                       refine hK.out _ _ ⟨(blk_cell BK390.out 0).trans rfl, (blk_cell BK390.out 1).trans rfl⟩ (fun hHeld => ?_)
                       clear hK K
                       refine norm_ (a' := ?_) ?_ ?_
                       rotate_left
                       ·show Act.put _ (some 10) _ = _
                        simp only [Act.put, List.setIfInBounds_toArray, List.set_cons_zero, List.set_cons_succ, i64_w, i32_w]
                        rfl
                       exact norm_ (by first | (simp only [putAll, Act.put, List.setIfInBounds_toArray, List.set_cons_zero, List.set_cons_succ]; done) | (simp only [putAll, Act.put, List.setIfInBounds_toArray, List.set_cons_zero, List.set_cons_succ]; rfl)) (hJ13 (gb400) _ ⟨hHeld, (bk BK390.out), (bk BK391.out), (bk BK400.out), GW400.out, GE400.out, NB390_400.out, NB400_390.out, NB391_400.out, NB400_391.out, (bq HB.out)⟩)
                     ·skip
                      rintro gb400 w29 ⟨hS_, h0_, h1_, h2_, h3_, h4_, h5_, h6_, h7_, h8_, h9_⟩
                      have n0_ : Aside0 (w29.heap[gb390]? = some (.cells #[.int .u64 a2_0, .int .u64 a2_1] 24 (0, 0))) := ⟨h0_⟩
                      have n1_ : Aside0 (w29.heap[gb391]? = some (.cells #[.int .u64 a2_0, .int .u64 a2_1] 37 (0, 0))) := ⟨h1_⟩
                      have n2_ : Aside0 (w29.heap[gb400]? = some (.cells #[.int .u64 0, .int .u64 0] 24 (0, 0))) := ⟨h2_⟩
                      have n3_ : Aside0 (w.heap.size ≤ gb400) := ⟨h3_⟩
                      have n4_ : Aside0 (w.heap.size ≤ gb400) := ⟨h4_⟩
                      have n5_ : Aside0 (gb390 ≠ gb400) := ⟨h5_⟩
                      have n6_ : Aside0 (gb400 ≠ gb390) := ⟨h6_⟩
                      have n7_ : Aside0 (gb391 ≠ gb400) := ⟨h7_⟩
                      have n8_ : Aside0 (gb400 ≠ gb391) := ⟨h8_⟩
                      have n9_ : Aside0 (Below w.heap.size w w29) := ⟨h9_⟩
                      clear BK390
                      clear BK391
                      clear HB
                      clear h0_ h1_ h2_ h3_ h4_ h5_ h6_ h7_ h8_ h9_
                      have BK390 := n0_
                      have BK391 := n1_
                      have BK400 := n2_
                      have GW400 := Aside1.mk n3_.out
                      have GE400 := Aside1.mk n4_.out
                      have NB390_400 := n5_
                      have NB400_390 := n6_
                      have NB391_400 := n7_
                      have NB400_391 := n8_
                      have HB := n9_
                      clear n0_ n1_ n2_ n3_ n4_ n5_ n6_ n7_ n8_ n9_
                      have hHeld : w29.cell? ⟨gb390, 0, none⟩ = some (.int .u64 a2_0) ∧ w29.cell? ⟨gb390, 1, none⟩ = some (.int .u64 a2_1) := hS_
                      refine norm_ (a' := ?_) ?_ ?_
                      rotate_left
                      ·simp only [putAll, Act.put, List.setIfInBounds_toArray, List.set_cons_zero, List.set_cons_succ]
                       rfl
                      refine two_ (i := 3) (j := 12) (Ni := some 15) (Nj := some 9) #[true, true, true, true, true, true, true, false, true, true, true, false, false, true, false, false, false] #[true, true, true, false, true, true, true, false, true, true, true, false, true, true, false, false, false] rfl rfl rfl rfl (two_of HT_.out (by kernel_rfl)) (by decide) (by decide) (fun K hK => ?_) (fun K hK => ?_)
                      ·skip
                       refine goes_ Try.func27 (by kernel_rfl) rfl #[.int .i64 a0, .int .i64 a1, .agg #[.int .u64 a2_0, .int .u64 a2_1]] (by rfl) rfl rfl (by (try simp only [List.map_toArray, List.map_cons, List.map_nil]); first | done | rfl | (simp only [List.length_drop, List.length_take]; rfl)) ?_
                       with_reducible refine (frob_Conjugates.calls k a0 a1 a2_0 a2_1 t392 _ A4.out).mono ?_
                       rintro e w30 ⟨v393, rfl, ho0, hb⟩
                       refine ⟨_, rfl, ?_⟩
                       have HO394 := Aside0.mk (Kd.R_lower (Kd.R_newB (Kd.R_newB ho0 (g := gb390) (o := .cells #[.int .u64 a2_0, .int .u64 a2_1] 24 (0, 0)) (bk BK390.out)) (g := gb400) (o := .cells #[.int .u64 0, .int .u64 0] 24 (0, 0)) (bk BK400.out)) (below_size (bq HB.out)))
                       replace BK390 := bb BK390 hb
                       replace BK391 := bb BK391 hb
                       replace BK400 := bb BK400 hb
                       replace HB := bh HB hb
                       (try clear hb)
                       (try clear hb2)
                       (try clear hk)
                       (try clear hi)
                       (try clear ho0)
                       refine hK.out _ _ ⟨(blk_cell BK390.out 0).trans rfl, (blk_cell BK390.out 1).trans rfl⟩ (fun hHeld => ?_)
                       clear hK K
                       refine norm_ (a' := ?_) ?_ ?_
                       rotate_left
                       ·show Act.put _ (some 15) _ = _
                        simp only [Act.put, List.setIfInBounds_toArray, List.set_cons_zero, List.set_cons_succ, i64_w, i32_w]
                        rfl
                       exact norm_ (by first | (simp only [putAll, Act.put, List.setIfInBounds_toArray, List.set_cons_zero, List.set_cons_succ]; done) | (simp only [putAll, Act.put, List.setIfInBounds_toArray, List.set_cons_zero, List.set_cons_succ]; rfl)) (hJ3_13 (v393, gb400) _ ⟨hHeld, (by (with_reducible repeat refine kl ?_); exact Kd.R_mono HO394.out (fun _ hk => ⟨hk.1.2, hk.2⟩)), (bk BK390.out), (bk BK391.out), (bk BK400.out), GW400.out, GE400.out, NB390_400.out, NB400_390.out, NB391_400.out, NB400_391.out, (bq HB.out)⟩)
                      ·skip
                       refine box_step ?hg (N := 9) ?hd (cs := #[.int .u64 0, .int .u64 0]) (t := 24) ?hr ?_; (case hd => rfl); (case hg => rfl); (case hr => first | (go_simp; done) | (go_simp; rfl))
                       intro gb399 hg w30 hbox hb
                       have BK399 := Aside0.mk hbox
                       have GW399 := ge hg HB
                       have GE399 := ge hg HB
                       have NB390_399 := nl hg BK390
                       have NB399_390 := ng hg BK390
                       have NB391_399 := nl hg BK391
                       have NB399_391 := ng hg BK391
                       have NB400_399 := nl hg BK400
                       have NB399_400 := ng hg BK400
                       replace BK390 := bb BK390 hb
                       replace BK391 := bb BK391 hb
                       replace BK400 := bb BK400 hb
                       replace HB := bh HB hb
                       clear hb hbox hg
                       refine hK.out _ _ ⟨(blk_cell BK390.out 0).trans rfl, (blk_cell BK390.out 1).trans rfl⟩ (fun hHeld => ?_)
                       clear hK K
                       refine norm_ (a' := ?_) ?_ ?_
                       rotate_left
                       ·show Act.put _ (some 9) _ = _
                        simp only [Act.put, List.setIfInBounds_toArray, List.set_cons_zero, List.set_cons_succ, i64_w, i32_w]
                        rfl
                       exact norm_ (by first | (simp only [putAll, Act.put, List.setIfInBounds_toArray, List.set_cons_zero, List.set_cons_succ]; done) | (simp only [putAll, Act.put, List.setIfInBounds_toArray, List.set_cons_zero, List.set_cons_succ]; rfl)) (hJ12_13 (gb399, gb400) _ ⟨hHeld, (bk BK390.out), (bk BK391.out), (bk BK399.out), (bk BK400.out), GW399.out, GE399.out, NB390_399.out, NB399_390.out, NB391_399.out, NB399_391.out, NB400_399.out, NB399_400.out, GW400.out, GE400.out, NB390_400.out, NB400_390.out, NB391_400.out, NB400_391.out, (bq HB.out)⟩)
                    ·skip
                     rintro gb399 w29 ⟨hS_, h0_, h1_, h2_, h3_, h4_, h5_, h6_, h7_, h8_, h9_⟩
                     have n0_ : Aside0 (w29.heap[gb390]? = some (.cells #[.int .u64 a2_0, .int .u64 a2_1] 24 (0, 0))) := ⟨h0_⟩
                     have n1_ : Aside0 (w29.heap[gb391]? = some (.cells #[.int .u64 a2_0, .int .u64 a2_1] 37 (0, 0))) := ⟨h1_⟩
                     have n2_ : Aside0 (w29.heap[gb399]? = some (.cells #[.int .u64 0, .int .u64 0] 24 (0, 0))) := ⟨h2_⟩
                     have n3_ : Aside0 (w.heap.size ≤ gb399) := ⟨h3_⟩
                     have n4_ : Aside0 (w.heap.size ≤ gb399) := ⟨h4_⟩
                     have n5_ : Aside0 (gb390 ≠ gb399) := ⟨h5_⟩
                     have n6_ : Aside0 (gb399 ≠ gb390) := ⟨h6_⟩
                     have n7_ : Aside0 (gb391 ≠ gb399) := ⟨h7_⟩
                     have n8_ : Aside0 (gb399 ≠ gb391) := ⟨h8_⟩
                     have n9_ : Aside0 (Below w.heap.size w w29) := ⟨h9_⟩
                     clear BK390
                     clear BK391
                     clear HB
                     clear h0_ h1_ h2_ h3_ h4_ h5_ h6_ h7_ h8_ h9_
                     have BK390 := n0_
                     have BK391 := n1_
                     have BK399 := n2_
                     have GW399 := Aside1.mk n3_.out
                     have GE399 := Aside1.mk n4_.out
                     have NB390_399 := n5_
                     have NB399_390 := n6_
                     have NB391_399 := n7_
                     have NB399_391 := n8_
                     have HB := n9_
                     clear n0_ n1_ n2_ n3_ n4_ n5_ n6_ n7_ n8_ n9_
                     have hHeld : w29.cell? ⟨gb390, 0, none⟩ = some (.int .u64 a2_0) ∧ w29.cell? ⟨gb390, 1, none⟩ = some (.int .u64 a2_1) := hS_
                     refine norm_ (a' := ?_) ?_ ?_
                     rotate_left
                     ·simp only [putAll, Act.put, List.setIfInBounds_toArray, List.set_cons_zero, List.set_cons_succ]
                      rfl
                     refine two_ (i := 3) (j := 13) (Ni := some 15) (Nj := some 10) #[true, true, true, true, true, true, true, false, true, true, true, false, true, false, false, false, false] #[true, true, true, false, true, true, true, false, true, true, true, false, true, true, false, false, false] rfl rfl rfl rfl (two_of HT_.out (by kernel_rfl)) (by decide) (by decide) (fun K hK => ?_) (fun K hK => ?_)
                     ·skip
                      refine goes_ Try.func27 (by kernel_rfl) rfl #[.int .i64 a0, .int .i64 a1, .agg #[.int .u64 a2_0, .int .u64 a2_1]] (by rfl) rfl rfl (by (try simp only [List.map_toArray, List.map_cons, List.map_nil]); first | done | rfl | (simp only [List.length_drop, List.length_take]; rfl)) ?_
                      with_reducible refine (frob_Conjugates.calls k a0 a1 a2_0 a2_1 t392 _ A4.out).mono ?_
                      rintro e w30 ⟨v393, rfl, ho0, hb⟩
                      refine ⟨_, rfl, ?_⟩
                      have HO394 := Aside0.mk (Kd.R_lower (Kd.R_newB (Kd.R_newB ho0 (g := gb390) (o := .cells #[.int .u64 a2_0, .int .u64 a2_1] 24 (0, 0)) (bk BK390.out)) (g := gb399) (o := .cells #[.int .u64 0, .int .u64 0] 24 (0, 0)) (bk BK399.out)) (below_size (bq HB.out)))
                      replace BK390 := bb BK390 hb
                      replace BK391 := bb BK391 hb
                      replace BK399 := bb BK399 hb
                      replace HB := bh HB hb
                      (try clear hb)
                      (try clear hb2)
                      (try clear hk)
                      (try clear hi)
                      (try clear ho0)
                      refine hK.out _ _ ⟨(blk_cell BK390.out 0).trans rfl, (blk_cell BK390.out 1).trans rfl⟩ (fun hHeld => ?_)
                      clear hK K
                      refine norm_ (a' := ?_) ?_ ?_
                      rotate_left
                      ·show Act.put _ (some 15) _ = _
                       simp only [Act.put, List.setIfInBounds_toArray, List.set_cons_zero, List.set_cons_succ, i64_w, i32_w]
                       rfl
                      exact norm_ (by first | (simp only [putAll, Act.put, List.setIfInBounds_toArray, List.set_cons_zero, List.set_cons_succ]; done) | (simp only [putAll, Act.put, List.setIfInBounds_toArray, List.set_cons_zero, List.set_cons_succ]; rfl)) (hJ3_12 (v393, gb399) _ ⟨hHeld, (by (with_reducible repeat refine kl ?_); exact Kd.R_mono HO394.out (fun _ hk => ⟨hk.1.2, hk.2⟩)), (bk BK390.out), (bk BK391.out), (bk BK399.out), GW399.out, GE399.out, NB390_399.out, NB399_390.out, NB391_399.out, NB399_391.out, (bq HB.out)⟩)
                     ·skip
                      refine box_step ?hg (N := 10) ?hd (cs := #[.int .u64 0, .int .u64 0]) (t := 24) ?hr ?_; (case hd => rfl); (case hg => rfl); (case hr => first | (go_simp; done) | (go_simp; rfl))
                      intro gb400 hg w30 hbox hb
                      have BK400 := Aside0.mk hbox
                      have GW400 := ge hg HB
                      have GE400 := ge hg HB
                      have NB390_400 := nl hg BK390
                      have NB400_390 := ng hg BK390
                      have NB391_400 := nl hg BK391
                      have NB400_391 := ng hg BK391
                      have NB399_400 := nl hg BK399
                      have NB400_399 := ng hg BK399
                      replace BK390 := bb BK390 hb
                      replace BK391 := bb BK391 hb
                      replace BK399 := bb BK399 hb
                      replace HB := bh HB hb
                      clear hb hbox hg
                      refine hK.out _ _ ⟨(blk_cell BK390.out 0).trans rfl, (blk_cell BK390.out 1).trans rfl⟩ (fun hHeld => ?_)
                      clear hK K
                      refine norm_ (a' := ?_) ?_ ?_
                      rotate_left
                      ·show Act.put _ (some 10) _ = _
                       simp only [Act.put, List.setIfInBounds_toArray, List.set_cons_zero, List.set_cons_succ, i64_w, i32_w]
                       rfl
                      exact norm_ (by first | (simp only [putAll, Act.put, List.setIfInBounds_toArray, List.set_cons_zero, List.set_cons_succ]; done) | (simp only [putAll, Act.put, List.setIfInBounds_toArray, List.set_cons_zero, List.set_cons_succ]; rfl)) (hJ12_13 (gb399, gb400) _ ⟨hHeld, (bk BK390.out), (bk BK391.out), (bk BK399.out), (bk BK400.out), GW399.out, GE399.out, NB390_399.out, NB399_390.out, NB391_399.out, NB399_391.out, NB400_399.out, NB399_400.out, GW400.out, GE400.out, NB390_400.out, NB400_390.out, NB391_400.out, NB400_391.out, (bq HB.out)⟩)
                   ·skip
                    rintro v393 w29 ⟨hS_, h0_, h1_, h2_, h3_⟩
                    have n0_ : Aside0 (Kd.R k24 24 w29 w.heap.size (fun k_ => k_ ≠ gb390) v393 t392) := ⟨h0_⟩
                    have n1_ : Aside0 (w29.heap[gb390]? = some (.cells #[.int .u64 a2_0, .int .u64 a2_1] 24 (0, 0))) := ⟨h1_⟩
                    have n2_ : Aside0 (w29.heap[gb391]? = some (.cells #[.int .u64 a2_0, .int .u64 a2_1] 37 (0, 0))) := ⟨h2_⟩
                    have n3_ : Aside0 (Below w.heap.size w w29) := ⟨h3_⟩
                    clear BK390
                    clear BK391
                    clear HB
                    clear h0_ h1_ h2_ h3_
                    have HO394 := n0_
                    have BK390 := n1_
                    have BK391 := n2_
                    have HB := n3_
                    clear n0_ n1_ n2_ n3_
                    have hHeld : w29.cell? ⟨gb390, 0, none⟩ = some (.int .u64 a2_0) ∧ w29.cell? ⟨gb390, 1, none⟩ = some (.int .u64 a2_1) := hS_
                    refine norm_ (a' := ?_) ?_ ?_
                    rotate_left
                    ·simp only [putAll, Act.put, List.setIfInBounds_toArray, List.set_cons_zero, List.set_cons_succ]
                     rfl
                    refine three_ (i := 7) (j := 12) (k := 13) (Ni := some 19) (Nj := some 9) (Nk := some 10) #[true, true, true, true, true, true, true, true, true, true, true, false, false, false, false, false, false] #[true, true, true, true, true, true, true, false, true, true, true, false, true, false, false, false, false] #[true, true, true, true, true, true, true, false, true, true, true, false, false, true, false, false, false] rfl rfl rfl rfl rfl rfl (three_of HT_.out (by kernel_rfl)) (by decide) (by decide) (by decide) (fun K hK => ?_) (fun K hK => ?_) (fun K hK => ?_)
                    ·skip
                     refine goes_ Try.func11 (by kernel_rfl) rfl #[.int .i64 a0, .int .i64 a1, .agg #[.int .u64 a2_0, .int .u64 a2_1]] (by rfl) rfl rfl (by (try simp only [List.map_toArray, List.map_cons, List.map_nil]); first | done | rfl | (simp only [List.length_drop, List.length_take]; rfl)) ?_
                     with_reducible refine (frob_Trace.calls k a0 a1 a2_0 a2_1 t395 t396 _ A5.out).mono ?_
                     rintro e w30 ⟨rfl, hb⟩
                     refine ⟨_, rfl, ?_⟩
                     replace HO394 := kb HO394 hb
                     replace BK390 := bb BK390 hb
                     replace BK391 := bb BK391 hb
                     replace HB := bh HB hb
                     (try clear hb)
                     (try clear hb2)
                     (try clear hk)
                     (try clear hi)
                     refine hK.out _ _ ⟨(blk_cell BK390.out 0).trans rfl, (blk_cell BK390.out 1).trans rfl⟩ (fun hHeld => ?_)
                     clear hK K
                     refine norm_ (a' := ?_) ?_ ?_
                     rotate_left
                     ·show Act.put _ (some 19) _ = _
                      simp only [Act.put, List.setIfInBounds_toArray, List.set_cons_zero, List.set_cons_succ, i64_w, i32_w]
                      rfl
                     exact norm_ (by first | (simp only [putAll, Act.put, List.setIfInBounds_toArray, List.set_cons_zero, List.set_cons_succ]; done) | (simp only [putAll, Act.put, List.setIfInBounds_toArray, List.set_cons_zero, List.set_cons_succ]; rfl)) (hJ3_7 (v393) _ ⟨hHeld, (kr HO394.out), (bk BK390.out), (bk BK391.out), (bq HB.out)⟩)
                    ·skip
                     refine box_step ?hg (N := 9) ?hd (cs := #[.int .u64 0, .int .u64 0]) (t := 24) ?hr ?_; (case hd => rfl); (case hg => rfl); (case hr => first | (go_simp; done) | (go_simp; rfl))
                     intro gb399 hg w30 hbox hb
                     have BK399 := Aside0.mk hbox
                     have GW399 := ge hg HB
                     have GE399 := ge hg HB
                     have NB390_399 := nl hg BK390
                     have NB399_390 := ng hg BK390
                     have NB391_399 := nl hg BK391
                     have NB399_391 := ng hg BK391
                     replace HO394 := Aside0.mk (Kd.R_below (Kd.R_elderB (kr HO394.out) gb399 (Nat.le_of_eq hg.symm)) hb)
                     replace BK390 := bb BK390 hb
                     replace BK391 := bb BK391 hb
                     replace HB := bh HB hb
                     clear hb hbox hg
                     refine hK.out _ _ ⟨(blk_cell BK390.out 0).trans rfl, (blk_cell BK390.out 1).trans rfl⟩ (fun hHeld => ?_)
                     clear hK K
                     refine norm_ (a' := ?_) ?_ ?_
                     rotate_left
                     ·show Act.put _ (some 9) _ = _
                      simp only [Act.put, List.setIfInBounds_toArray, List.set_cons_zero, List.set_cons_succ, i64_w, i32_w]
                      rfl
                     exact norm_ (by first | (simp only [putAll, Act.put, List.setIfInBounds_toArray, List.set_cons_zero, List.set_cons_succ]; done) | (simp only [putAll, Act.put, List.setIfInBounds_toArray, List.set_cons_zero, List.set_cons_succ]; rfl)) (hJ3_12 (v393, gb399) _ ⟨hHeld, (kr HO394.out), (bk BK390.out), (bk BK391.out), (bk BK399.out), GW399.out, GE399.out, NB390_399.out, NB399_390.out, NB391_399.out, NB399_391.out, (bq HB.out)⟩)
                    ·skip
                     refine box_step ?hg (N := 10) ?hd (cs := #[.int .u64 0, .int .u64 0]) (t := 24) ?hr ?_; (case hd => rfl); (case hg => rfl); (case hr => first | (go_simp; done) | (go_simp; rfl))
                     intro gb400 hg w30 hbox hb
                     have BK400 := Aside0.mk hbox
                     have GW400 := ge hg HB
                     have GE400 := ge hg HB
                     have NB390_400 := nl hg BK390
                     have NB400_390 := ng hg BK390
                     have NB391_400 := nl hg BK391
                     have NB400_391 := ng hg BK391
                     replace HO394 := Aside0.mk (Kd.R_below (Kd.R_elderB (kr HO394.out) gb400 (Nat.le_of_eq hg.symm)) hb)
                     replace BK390 := bb BK390 hb
                     replace BK391 := bb BK391 hb
                     replace HB := bh HB hb
                     clear hb hbox hg
                     refine hK.out _ _ ⟨(blk_cell BK390.out 0).trans rfl, (blk_cell BK390.out 1).trans rfl⟩ (fun hHeld => ?_)
                     clear hK K
                     refine norm_ (a' := ?_) ?_ ?_
                     rotate_left
                     ·show Act.put _ (some 10) _ = _
                      simp only [Act.put, List.setIfInBounds_toArray, List.set_cons_zero, List.set_cons_succ, i64_w, i32_w]
                      rfl
                     exact norm_ (by first | (simp only [putAll, Act.put, List.setIfInBounds_toArray, List.set_cons_zero, List.set_cons_succ]; done) | (simp only [putAll, Act.put, List.setIfInBounds_toArray, List.set_cons_zero, List.set_cons_succ]; rfl)) (hJ3_13 (v393, gb400) _ ⟨hHeld, (kr HO394.out), (bk BK390.out), (bk BK391.out), (bk BK400.out), GW400.out, GE400.out, NB390_400.out, NB400_390.out, NB391_400.out, NB400_391.out, (bq HB.out)⟩)
                  ·skip
                   rintro ⟨gb399, gb400⟩ w30 ⟨hS_, h0_, h1_, h2_, h3_, h4_, h5_, h6_, h7_, h8_, h9_, h10_, h11_, h12_, h13_, h14_, h15_, h16_, h17_, h18_⟩
                   have n0_ : Aside0 (w30.heap[gb390]? = some (.cells #[.int .u64 a2_0, .int .u64 a2_1] 24 (0, 0))) := ⟨h0_⟩
                   have n1_ : Aside0 (w30.heap[gb391]? = some (.cells #[.int .u64 a2_0, .int .u64 a2_1] 37 (0, 0))) := ⟨h1_⟩
                   have n2_ : Aside0 (w30.heap[gb399]? = some (.cells #[.int .u64 0, .int .u64 0] 24 (0, 0))) := ⟨h2_⟩
                   have n3_ : Aside0 (w30.heap[gb400]? = some (.cells #[.int .u64 0, .int .u64 0] 24 (0, 0))) := ⟨h3_⟩
                   have n4_ : Aside0 (w.heap.size ≤ gb399) := ⟨h4_⟩
                   have n5_ : Aside0 (w.heap.size ≤ gb399) := ⟨h5_⟩
                   have n6_ : Aside0 (gb390 ≠ gb399) := ⟨h6_⟩
                   have n7_ : Aside0 (gb399 ≠ gb390) := ⟨h7_⟩
                   have n8_ : Aside0 (gb391 ≠ gb399) := ⟨h8_⟩
                   have n9_ : Aside0 (gb399 ≠ gb391) := ⟨h9_⟩
                   have n10_ : Aside0 (gb400 ≠ gb399) := ⟨h10_⟩
                   have n11_ : Aside0 (gb399 ≠ gb400) := ⟨h11_⟩
                   have n12_ : Aside0 (w.heap.size ≤ gb400) := ⟨h12_⟩
                   have n13_ : Aside0 (w.heap.size ≤ gb400) := ⟨h13_⟩
                   have n14_ : Aside0 (gb390 ≠ gb400) := ⟨h14_⟩
                   have n15_ : Aside0 (gb400 ≠ gb390) := ⟨h15_⟩
                   have n16_ : Aside0 (gb391 ≠ gb400) := ⟨h16_⟩
                   have n17_ : Aside0 (gb400 ≠ gb391) := ⟨h17_⟩
                   have n18_ : Aside0 (Below w.heap.size w w30) := ⟨h18_⟩
                   clear BK390
                   clear BK391
                   clear HB
                   clear h0_ h1_ h2_ h3_ h4_ h5_ h6_ h7_ h8_ h9_ h10_ h11_ h12_ h13_ h14_ h15_ h16_ h17_ h18_
                   have BK390 := n0_
                   have BK391 := n1_
                   have BK399 := n2_
                   have BK400 := n3_
                   have GW399 := Aside1.mk n4_.out
                   have GE399 := Aside1.mk n5_.out
                   have NB390_399 := n6_
                   have NB399_390 := n7_
                   have NB391_399 := n8_
                   have NB399_391 := n9_
                   have NB400_399 := n10_
                   have NB399_400 := n11_
                   have GW400 := Aside1.mk n12_.out
                   have GE400 := Aside1.mk n13_.out
                   have NB390_400 := n14_
                   have NB400_390 := n15_
                   have NB391_400 := n16_
                   have NB400_391 := n17_
                   have HB := n18_
                   clear n0_ n1_ n2_ n3_ n4_ n5_ n6_ n7_ n8_ n9_ n10_ n11_ n12_ n13_ n14_ n15_ n16_ n17_ n18_
                   have hHeld : w30.cell? ⟨gb390, 0, none⟩ = some (.int .u64 a2_0) ∧ w30.cell? ⟨gb390, 1, none⟩ = some (.int .u64 a2_1) := hS_
                   refine norm_ (a' := ?_) ?_ ?_
                   rotate_left
                   ·simp only [putAll, Act.put, List.setIfInBounds_toArray, List.set_cons_zero, List.set_cons_succ]
                    rfl
                   refine one_ (i := 3) (N := some 15) #[true, true, true, true, true, true, true, false, true, true, true, false, true, true, false, false, false] rfl rfl (one_of HT_.out (by kernel_rfl)) (by decide) (fun K hK => ?_)
                   refine goes_ Try.func27 (by kernel_rfl) rfl #[.int .i64 a0, .int .i64 a1, .agg #[.int .u64 a2_0, .int .u64 a2_1]] (by rfl) rfl rfl (by (try simp only [List.map_toArray, List.map_cons, List.map_nil]); first | done | rfl | (simp only [List.length_drop, List.length_take]; rfl)) ?_
                   with_reducible refine (frob_Conjugates.calls k a0 a1 a2_0 a2_1 t392 _ A4.out).mono ?_
                   rintro e w31 ⟨v393, rfl, ho0, hb⟩
                   refine ⟨_, rfl, ?_⟩
                   have HO394 := Aside0.mk (Kd.R_lower (Kd.R_newB (Kd.R_newB (Kd.R_newB ho0 (g := gb390) (o := .cells #[.int .u64 a2_0, .int .u64 a2_1] 24 (0, 0)) (bk BK390.out)) (g := gb399) (o := .cells #[.int .u64 0, .int .u64 0] 24 (0, 0)) (bk BK399.out)) (g := gb400) (o := .cells #[.int .u64 0, .int .u64 0] 24 (0, 0)) (bk BK400.out)) (below_size (bq HB.out)))
                   replace BK390 := bb BK390 hb
                   replace BK391 := bb BK391 hb
                   replace BK399 := bb BK399 hb
                   replace BK400 := bb BK400 hb
                   replace HB := bh HB hb
                   (try clear hb)
                   (try clear hb2)
                   (try clear hk)
                   (try clear hi)
                   (try clear ho0)
                   refine hK.out _ _ ⟨(blk_cell BK390.out 0).trans rfl, (blk_cell BK390.out 1).trans rfl⟩ (fun hHeld => ?_)
                   clear hK K
                   refine norm_ (a' := ?_) ?_ ?_
                   rotate_left
                   ·show Act.put _ (some 15) _ = _
                    simp only [Act.put, List.setIfInBounds_toArray, List.set_cons_zero, List.set_cons_succ, i64_w, i32_w]
                    rfl
                   exact norm_ (by first | (simp only [putAll, Act.put, List.setIfInBounds_toArray, List.set_cons_zero, List.set_cons_succ]; done) | (simp only [putAll, Act.put, List.setIfInBounds_toArray, List.set_cons_zero, List.set_cons_succ]; rfl)) (hJ3_12_13 (v393, gb399, gb400) _ ⟨hHeld, (by (with_reducible repeat refine kl ?_); exact Kd.R_mono HO394.out (fun _ hk => ⟨hk.1.1.2, ⟨hk.1.2, hk.2⟩⟩)), (bk BK390.out), (bk BK391.out), (bk BK399.out), (bk BK400.out), GW399.out, GE399.out, NB390_399.out, NB399_390.out, NB391_399.out, NB399_391.out, NB400_399.out, NB399_400.out, GW400.out, GE400.out, NB390_400.out, NB400_390.out, NB391_400.out, NB400_391.out, (bq HB.out)⟩)
                 ·skip
                  rintro ⟨v393, gb400⟩ w30 ⟨hS_, h0_, h1_, h2_, h3_, h4_, h5_, h6_, h7_, h8_, h9_, h10_⟩
                  have n0_ : Aside0 (Kd.R k24 24 w30 w.heap.size (fun k_ => k_ ≠ gb390 ∧ k_ ≠ gb400) v393 t392) := ⟨h0_⟩
                  have n1_ : Aside0 (w30.heap[gb390]? = some (.cells #[.int .u64 a2_0, .int .u64 a2_1] 24 (0, 0))) := ⟨h1_⟩
                  have n2_ : Aside0 (w30.heap[gb391]? = some (.cells #[.int .u64 a2_0, .int .u64 a2_1] 37 (0, 0))) := ⟨h2_⟩
                  have n3_ : Aside0 (w30.heap[gb400]? = some (.cells #[.int .u64 0, .int .u64 0] 24 (0, 0))) := ⟨h3_⟩
                  have n4_ : Aside0 (w.heap.size ≤ gb400) := ⟨h4_⟩
                  have n5_ : Aside0 (w.heap.size ≤ gb400) := ⟨h5_⟩
                  have n6_ : Aside0 (gb390 ≠ gb400) := ⟨h6_⟩
                  have n7_ : Aside0 (gb400 ≠ gb390) := ⟨h7_⟩
                  have n8_ : Aside0 (gb391 ≠ gb400) := ⟨h8_⟩
                  have n9_ : Aside0 (gb400 ≠ gb391) := ⟨h9_⟩
                  have n10_ : Aside0 (Below w.heap.size w w30) := ⟨h10_⟩
                  clear BK390
                  clear BK391
                  clear HB
                  clear h0_ h1_ h2_ h3_ h4_ h5_ h6_ h7_ h8_ h9_ h10_
                  have HO394 := n0_
                  have BK390 := n1_
                  have BK391 := n2_
                  have BK400 := n3_
                  have GW400 := Aside1.mk n4_.out
                  have GE400 := Aside1.mk n5_.out
                  have NB390_400 := n6_
                  have NB400_390 := n7_
                  have NB391_400 := n8_
                  have NB400_391 := n9_
                  have HB := n10_
                  clear n0_ n1_ n2_ n3_ n4_ n5_ n6_ n7_ n8_ n9_ n10_
                  have hHeld : w30.cell? ⟨gb390, 0, none⟩ = some (.int .u64 a2_0) ∧ w30.cell? ⟨gb390, 1, none⟩ = some (.int .u64 a2_1) := hS_
                  refine norm_ (a' := ?_) ?_ ?_
                  rotate_left
                  ·simp only [putAll, Act.put, List.setIfInBounds_toArray, List.set_cons_zero, List.set_cons_succ]
                   rfl
                  refine two_ (i := 7) (j := 12) (Ni := some 19) (Nj := some 9) #[true, true, true, true, true, true, true, true, true, true, true, false, false, true, false, false, false] #[true, true, true, true, true, true, true, false, true, true, true, false, true, true, false, false, false] rfl rfl rfl rfl (two_of HT_.out (by kernel_rfl)) (by decide) (by decide) (fun K hK => ?_) (fun K hK => ?_)
                  ·skip
                   refine goes_ Try.func11 (by kernel_rfl) rfl #[.int .i64 a0, .int .i64 a1, .agg #[.int .u64 a2_0, .int .u64 a2_1]] (by rfl) rfl rfl (by (try simp only [List.map_toArray, List.map_cons, List.map_nil]); first | done | rfl | (simp only [List.length_drop, List.length_take]; rfl)) ?_
                   with_reducible refine (frob_Trace.calls k a0 a1 a2_0 a2_1 t395 t396 _ A5.out).mono ?_
                   rintro e w31 ⟨rfl, hb⟩
                   refine ⟨_, rfl, ?_⟩
                   replace HO394 := kb HO394 hb
                   replace BK390 := bb BK390 hb
                   replace BK391 := bb BK391 hb
                   replace BK400 := bb BK400 hb
                   replace HB := bh HB hb
                   (try clear hb)
                   (try clear hb2)
                   (try clear hk)
                   (try clear hi)
                   refine hK.out _ _ ⟨(blk_cell BK390.out 0).trans rfl, (blk_cell BK390.out 1).trans rfl⟩ (fun hHeld => ?_)
                   clear hK K
                   refine norm_ (a' := ?_) ?_ ?_
                   rotate_left
                   ·show Act.put _ (some 19) _ = _
                    simp only [Act.put, List.setIfInBounds_toArray, List.set_cons_zero, List.set_cons_succ, i64_w, i32_w]
                    rfl
                   exact norm_ (by first | (simp only [putAll, Act.put, List.setIfInBounds_toArray, List.set_cons_zero, List.set_cons_succ]; done) | (simp only [putAll, Act.put, List.setIfInBounds_toArray, List.set_cons_zero, List.set_cons_succ]; rfl)) (hJ3_7_13 (v393, gb400) _ ⟨hHeld, (kr HO394.out), (bk BK390.out), (bk BK391.out), (bk BK400.out), GW400.out, GE400.out, NB390_400.out, NB400_390.out, NB391_400.out, NB400_391.out, (bq HB.out)⟩)
                  ·skip
                   refine box_step ?hg (N := 9) ?hd (cs := #[.int .u64 0, .int .u64 0]) (t := 24) ?hr ?_; (case hd => rfl); (case hg => rfl); (case hr => first | (go_simp; done) | (go_simp; rfl))
                   intro gb399 hg w31 hbox hb
                   have BK399 := Aside0.mk hbox
                   have GW399 := ge hg HB
                   have GE399 := ge hg HB
                   have NB390_399 := nl hg BK390
                   have NB399_390 := ng hg BK390
                   have NB391_399 := nl hg BK391
                   have NB399_391 := ng hg BK391
                   have NB400_399 := nl hg BK400
                   have NB399_400 := ng hg BK400
                   replace HO394 := Aside0.mk (Kd.R_below (Kd.R_elderB (kr HO394.out) gb399 (Nat.le_of_eq hg.symm)) hb)
                   replace BK390 := bb BK390 hb
                   replace BK391 := bb BK391 hb
                   replace BK400 := bb BK400 hb
                   replace HB := bh HB hb
                   clear hb hbox hg
                   refine hK.out _ _ ⟨(blk_cell BK390.out 0).trans rfl, (blk_cell BK390.out 1).trans rfl⟩ (fun hHeld => ?_)
                   clear hK K
                   refine norm_ (a' := ?_) ?_ ?_
                   rotate_left
                   ·show Act.put _ (some 9) _ = _
                    simp only [Act.put, List.setIfInBounds_toArray, List.set_cons_zero, List.set_cons_succ, i64_w, i32_w]
                    rfl
                   exact norm_ (by first | (simp only [putAll, Act.put, List.setIfInBounds_toArray, List.set_cons_zero, List.set_cons_succ]; done) | (simp only [putAll, Act.put, List.setIfInBounds_toArray, List.set_cons_zero, List.set_cons_succ]; rfl)) (hJ3_12_13 (v393, gb399, gb400) _ ⟨hHeld, (by (with_reducible repeat refine kl ?_); exact Kd.R_mono HO394.out (fun _ hk => ⟨hk.1.1, ⟨hk.2, hk.1.2⟩⟩)), (bk BK390.out), (bk BK391.out), (bk BK399.out), (bk BK400.out), GW399.out, GE399.out, NB390_399.out, NB399_390.out, NB391_399.out, NB399_391.out, NB400_399.out, NB399_400.out, GW400.out, GE400.out, NB390_400.out, NB400_390.out, NB391_400.out, NB400_391.out, (bq HB.out)⟩)
                ·skip
                 rintro ⟨v393, gb399⟩ w30 ⟨hS_, h0_, h1_, h2_, h3_, h4_, h5_, h6_, h7_, h8_, h9_, h10_⟩
                 have n0_ : Aside0 (Kd.R k24 24 w30 w.heap.size (fun k_ => k_ ≠ gb390 ∧ k_ ≠ gb399) v393 t392) := ⟨h0_⟩
                 have n1_ : Aside0 (w30.heap[gb390]? = some (.cells #[.int .u64 a2_0, .int .u64 a2_1] 24 (0, 0))) := ⟨h1_⟩
                 have n2_ : Aside0 (w30.heap[gb391]? = some (.cells #[.int .u64 a2_0, .int .u64 a2_1] 37 (0, 0))) := ⟨h2_⟩
                 have n3_ : Aside0 (w30.heap[gb399]? = some (.cells #[.int .u64 0, .int .u64 0] 24 (0, 0))) := ⟨h3_⟩
                 have n4_ : Aside0 (w.heap.size ≤ gb399) := ⟨h4_⟩
                 have n5_ : Aside0 (w.heap.size ≤ gb399) := ⟨h5_⟩
                 have n6_ : Aside0 (gb390 ≠ gb399) := ⟨h6_⟩
                 have n7_ : Aside0 (gb399 ≠ gb390) := ⟨h7_⟩
                 have n8_ : Aside0 (gb391 ≠ gb399) := ⟨h8_⟩
                 have n9_ : Aside0 (gb399 ≠ gb391) := ⟨h9_⟩
                 have n10_ : Aside0 (Below w.heap.size w w30) := ⟨h10_⟩
                 clear BK390
                 clear BK391
                 clear HB
                 clear h0_ h1_ h2_ h3_ h4_ h5_ h6_ h7_ h8_ h9_ h10_
                 have HO394 := n0_
                 have BK390 := n1_
                 have BK391 := n2_
                 have BK399 := n3_
                 have GW399 := Aside1.mk n4_.out
                 have GE399 := Aside1.mk n5_.out
                 have NB390_399 := n6_
                 have NB399_390 := n7_
                 have NB391_399 := n8_
                 have NB399_391 := n9_
                 have HB := n10_
                 clear n0_ n1_ n2_ n3_ n4_ n5_ n6_ n7_ n8_ n9_ n10_
                 have hHeld : w30.cell? ⟨gb390, 0, none⟩ = some (.int .u64 a2_0) ∧ w30.cell? ⟨gb390, 1, none⟩ = some (.int .u64 a2_1) := hS_
                 refine norm_ (a' := ?_) ?_ ?_
                 rotate_left
                 ·simp only [putAll, Act.put, List.setIfInBounds_toArray, List.set_cons_zero, List.set_cons_succ]
                  rfl
                 refine two_ (i := 7) (j := 13) (Ni := some 19) (Nj := some 10) #[true, true, true, true, true, true, true, true, true, true, true, false, true, false, false, false, false] #[true, true, true, true, true, true, true, false, true, true, true, false, true, true, false, false, false] rfl rfl rfl rfl (two_of HT_.out (by kernel_rfl)) (by decide) (by decide) (fun K hK => ?_) (fun K hK => ?_)
                 ·skip
                  refine goes_ Try.func11 (by kernel_rfl) rfl #[.int .i64 a0, .int .i64 a1, .agg #[.int .u64 a2_0, .int .u64 a2_1]] (by rfl) rfl rfl (by (try simp only [List.map_toArray, List.map_cons, List.map_nil]); first | done | rfl | (simp only [List.length_drop, List.length_take]; rfl)) ?_
                  with_reducible refine (frob_Trace.calls k a0 a1 a2_0 a2_1 t395 t396 _ A5.out).mono ?_
                  rintro e w31 ⟨rfl, hb⟩
                  refine ⟨_, rfl, ?_⟩
                  replace HO394 := kb HO394 hb
                  replace BK390 := bb BK390 hb
                  replace BK391 := bb BK391 hb
                  replace BK399 := bb BK399 hb
                  replace HB := bh HB hb
                  (try clear hb)
                  (try clear hb2)
                  (try clear hk)
                  (try clear hi)
                  refine hK.out _ _ ⟨(blk_cell BK390.out 0).trans rfl, (blk_cell BK390.out 1).trans rfl⟩ (fun hHeld => ?_)
                  clear hK K
                  refine norm_ (a' := ?_) ?_ ?_
                  rotate_left
                  ·show Act.put _ (some 19) _ = _
                   simp only [Act.put, List.setIfInBounds_toArray, List.set_cons_zero, List.set_cons_succ, i64_w, i32_w]
                   rfl
                  exact norm_ (by first | (simp only [putAll, Act.put, List.setIfInBounds_toArray, List.set_cons_zero, List.set_cons_succ]; done) | (simp only [putAll, Act.put, List.setIfInBounds_toArray, List.set_cons_zero, List.set_cons_succ]; rfl)) (hJ3_7_12 (v393, gb399) _ ⟨hHeld, (kr HO394.out), (bk BK390.out), (bk BK391.out), (bk BK399.out), GW399.out, GE399.out, NB390_399.out, NB399_390.out, NB391_399.out, NB399_391.out, (bq HB.out)⟩)
                 ·skip
                  refine box_step ?hg (N := 10) ?hd (cs := #[.int .u64 0, .int .u64 0]) (t := 24) ?hr ?_; (case hd => rfl); (case hg => rfl); (case hr => first | (go_simp; done) | (go_simp; rfl))
                  intro gb400 hg w31 hbox hb
                  have BK400 := Aside0.mk hbox
                  have GW400 := ge hg HB
                  have GE400 := ge hg HB
                  have NB390_400 := nl hg BK390
                  have NB400_390 := ng hg BK390
                  have NB391_400 := nl hg BK391
                  have NB400_391 := ng hg BK391
                  have NB399_400 := nl hg BK399
                  have NB400_399 := ng hg BK399
                  replace HO394 := Aside0.mk (Kd.R_below (Kd.R_elderB (kr HO394.out) gb400 (Nat.le_of_eq hg.symm)) hb)
                  replace BK390 := bb BK390 hb
                  replace BK391 := bb BK391 hb
                  replace BK399 := bb BK399 hb
                  replace HB := bh HB hb
                  clear hb hbox hg
                  refine hK.out _ _ ⟨(blk_cell BK390.out 0).trans rfl, (blk_cell BK390.out 1).trans rfl⟩ (fun hHeld => ?_)
                  clear hK K
                  refine norm_ (a' := ?_) ?_ ?_
                  rotate_left
                  ·show Act.put _ (some 10) _ = _
                   simp only [Act.put, List.setIfInBounds_toArray, List.set_cons_zero, List.set_cons_succ, i64_w, i32_w]
                   rfl
                  exact norm_ (by first | (simp only [putAll, Act.put, List.setIfInBounds_toArray, List.set_cons_zero, List.set_cons_succ]; done) | (simp only [putAll, Act.put, List.setIfInBounds_toArray, List.set_cons_zero, List.set_cons_succ]; rfl)) (hJ3_12_13 (v393, gb399, gb400) _ ⟨hHeld, (by (with_reducible repeat refine kl ?_); exact Kd.R_mono HO394.out (fun _ hk => ⟨hk.1.1, ⟨hk.1.2, hk.2⟩⟩)), (bk BK390.out), (bk BK391.out), (bk BK399.out), (bk BK400.out), GW399.out, GE399.out, NB390_399.out, NB399_390.out, NB391_399.out, NB399_391.out, NB400_399.out, NB399_400.out, GW400.out, GE400.out, NB390_400.out, NB400_390.out, NB391_400.out, NB400_391.out, (bq HB.out)⟩)
               ·skip
                rintro v393 w30 ⟨hS_, h0_, h1_, h2_, h3_⟩
                have n0_ : Aside0 (Kd.R k24 24 w30 w.heap.size (fun k_ => k_ ≠ gb390) v393 t392) := ⟨h0_⟩
                have n1_ : Aside0 (w30.heap[gb390]? = some (.cells #[.int .u64 a2_0, .int .u64 a2_1] 24 (0, 0))) := ⟨h1_⟩
                have n2_ : Aside0 (w30.heap[gb391]? = some (.cells #[.int .u64 a2_0, .int .u64 a2_1] 37 (0, 0))) := ⟨h2_⟩
                have n3_ : Aside0 (Below w.heap.size w w30) := ⟨h3_⟩
                clear BK390
                clear BK391
                clear HB
                clear h0_ h1_ h2_ h3_
                have HO394 := n0_
                have BK390 := n1_
                have BK391 := n2_
                have HB := n3_
                clear n0_ n1_ n2_ n3_
                have hHeld : w30.cell? ⟨gb390, 0, none⟩ = some (.int .u64 a2_0) ∧ w30.cell? ⟨gb390, 1, none⟩ = some (.int .u64 a2_1) := hS_
                refine norm_ (a' := ?_) ?_ ?_
                rotate_left
                ·simp only [putAll, Act.put, List.setIfInBounds_toArray, List.set_cons_zero, List.set_cons_succ]
                 rfl
                refine three_ (i := 11) (j := 12) (k := 13) (Ni := some 23) (Nj := some 9) (Nk := some 10) #[true, true, true, true, true, true, true, true, true, true, true, true, false, false, false, false, false] #[true, true, true, true, true, true, true, true, true, true, true, false, true, false, false, false, false] #[true, true, true, true, true, true, true, true, true, true, true, false, false, true, false, false, false] rfl rfl rfl rfl rfl rfl (three_of HT_.out (by kernel_rfl)) (by decide) (by decide) (by decide) (fun K hK => ?_) (fun K hK => ?_) (fun K hK => ?_)
                ·skip
                 refine goes_ Try.func15 (by kernel_rfl) rfl #[.int .i64 a0, .int .i64 a1, .agg #[.int .u64 a2_0, .int .u64 a2_1]] (by rfl) rfl rfl (by (try simp only [List.map_toArray, List.map_cons, List.map_nil]); first | done | rfl | (simp only [List.length_drop, List.length_take]; rfl)) ?_
                 with_reducible refine (frob_Norm.calls k a0 a1 a2_0 a2_1 t397 t398 _ A6.out).mono ?_
                 rintro e w31 ⟨rfl, hb⟩
                 refine ⟨_, rfl, ?_⟩
                 replace HO394 := kb HO394 hb
                 replace BK390 := bb BK390 hb
                 replace BK391 := bb BK391 hb
                 replace HB := bh HB hb
                 (try clear hb)
                 (try clear hb2)
                 (try clear hk)
                 (try clear hi)
                 refine hK.out _ _ ⟨(blk_cell BK390.out 0).trans rfl, (blk_cell BK390.out 1).trans rfl⟩ (fun hHeld => ?_)
                 clear hK K
                 refine norm_ (a' := ?_) ?_ ?_
                 rotate_left
                 ·show Act.put _ (some 23) _ = _
                  simp only [Act.put, List.setIfInBounds_toArray, List.set_cons_zero, List.set_cons_succ, i64_w, i32_w]
                  rfl
                 exact norm_ (by first | (simp only [putAll, Act.put, List.setIfInBounds_toArray, List.set_cons_zero, List.set_cons_succ]; done) | (simp only [putAll, Act.put, List.setIfInBounds_toArray, List.set_cons_zero, List.set_cons_succ]; rfl)) (hJ3_7_11 (v393) _ ⟨hHeld, (kr HO394.out), (bk BK390.out), (bk BK391.out), (bq HB.out)⟩)
                ·skip
                 refine box_step ?hg (N := 9) ?hd (cs := #[.int .u64 0, .int .u64 0]) (t := 24) ?hr ?_; (case hd => rfl); (case hg => rfl); (case hr => first | (go_simp; done) | (go_simp; rfl))
                 intro gb399 hg w31 hbox hb
                 have BK399 := Aside0.mk hbox
                 have GW399 := ge hg HB
                 have GE399 := ge hg HB
                 have NB390_399 := nl hg BK390
                 have NB399_390 := ng hg BK390
                 have NB391_399 := nl hg BK391
                 have NB399_391 := ng hg BK391
                 replace HO394 := Aside0.mk (Kd.R_below (Kd.R_elderB (kr HO394.out) gb399 (Nat.le_of_eq hg.symm)) hb)
                 replace BK390 := bb BK390 hb
                 replace BK391 := bb BK391 hb
                 replace HB := bh HB hb
                 clear hb hbox hg
                 refine hK.out _ _ ⟨(blk_cell BK390.out 0).trans rfl, (blk_cell BK390.out 1).trans rfl⟩ (fun hHeld => ?_)
                 clear hK K
                 refine norm_ (a' := ?_) ?_ ?_
                 rotate_left
                 ·show Act.put _ (some 9) _ = _
                  simp only [Act.put, List.setIfInBounds_toArray, List.set_cons_zero, List.set_cons_succ, i64_w, i32_w]
                  rfl
                 exact norm_ (by first | (simp only [putAll, Act.put, List.setIfInBounds_toArray, List.set_cons_zero, List.set_cons_succ]; done) | (simp only [putAll, Act.put, List.setIfInBounds_toArray, List.set_cons_zero, List.set_cons_succ]; rfl)) (hJ3_7_12 (v393, gb399) _ ⟨hHeld, (kr HO394.out), (bk BK390.out), (bk BK391.out), (bk BK399.out), GW399.out, GE399.out, NB390_399.out, NB399_390.out, NB391_399.out, NB399_391.out, (bq HB.out)⟩)
                ·skip
                 refine box_step ?hg (N := 10) ?hd (cs := #[.int .u64 0, .int .u64 0]) (t := 24) ?hr ?_; (case hd => rfl); (case hg => rfl); (case hr => first | (go_simp; done) | (go_simp; rfl))
                 intro gb400 hg w31 hbox hb
                 have BK400 := Aside0.mk hbox
                 have GW400 := ge hg HB
                 have GE400 := ge hg HB
                 have NB390_400 := nl hg BK390
                 have NB400_390 := ng hg BK390
                 have NB391_400 := nl hg BK391
                 have NB400_391 := ng hg BK391
                 replace HO394 := Aside0.mk (Kd.R_below (Kd.R_elderB (kr HO394.out) gb400 (Nat.le_of_eq hg.symm)) hb)
                 replace BK390 := bb BK390 hb
                 replace BK391 := bb BK391 hb
                 replace HB := bh HB hb
                 clear hb hbox hg
                 refine hK.out _ _ ⟨(blk_cell BK390.out 0).trans rfl, (blk_cell BK390.out 1).trans rfl⟩ (fun hHeld => ?_)
                 clear hK K
                 refine norm_ (a' := ?_) ?_ ?_
                 rotate_left
                 ·show Act.put _ (some 10) _ = _
                  simp only [Act.put, List.setIfInBounds_toArray, List.set_cons_zero, List.set_cons_succ, i64_w, i32_w]
                  rfl
                 exact norm_ (by first | (simp only [putAll, Act.put, List.setIfInBounds_toArray, List.set_cons_zero, List.set_cons_succ]; done) | (simp only [putAll, Act.put, List.setIfInBounds_toArray, List.set_cons_zero, List.set_cons_succ]; rfl)) (hJ3_7_13 (v393, gb400) _ ⟨hHeld, (kr HO394.out), (bk BK390.out), (bk BK391.out), (bk BK400.out), GW400.out, GE400.out, NB390_400.out, NB400_390.out, NB391_400.out, NB400_391.out, (bq HB.out)⟩)
              ·skip
               rintro ⟨v393, gb399, gb400⟩ w31 ⟨hS_, h0_, h1_, h2_, h3_, h4_, h5_, h6_, h7_, h8_, h9_, h10_, h11_, h12_, h13_, h14_, h15_, h16_, h17_, h18_, h19_⟩
               have n0_ : Aside0 (Kd.R k24 24 w31 w.heap.size (fun k_ => k_ ≠ gb390 ∧ k_ ≠ gb399 ∧ k_ ≠ gb400) v393 t392) := ⟨h0_⟩
               have n1_ : Aside0 (w31.heap[gb390]? = some (.cells #[.int .u64 a2_0, .int .u64 a2_1] 24 (0, 0))) := ⟨h1_⟩
               have n2_ : Aside0 (w31.heap[gb391]? = some (.cells #[.int .u64 a2_0, .int .u64 a2_1] 37 (0, 0))) := ⟨h2_⟩
               have n3_ : Aside0 (w31.heap[gb399]? = some (.cells #[.int .u64 0, .int .u64 0] 24 (0, 0))) := ⟨h3_⟩
               have n4_ : Aside0 (w31.heap[gb400]? = some (.cells #[.int .u64 0, .int .u64 0] 24 (0, 0))) := ⟨h4_⟩
               have n5_ : Aside0 (w.heap.size ≤ gb399) := ⟨h5_⟩
               have n6_ : Aside0 (w.heap.size ≤ gb399) := ⟨h6_⟩
               have n7_ : Aside0 (gb390 ≠ gb399) := ⟨h7_⟩
               have n8_ : Aside0 (gb399 ≠ gb390) := ⟨h8_⟩
               have n9_ : Aside0 (gb391 ≠ gb399) := ⟨h9_⟩
               have n10_ : Aside0 (gb399 ≠ gb391) := ⟨h10_⟩
               have n11_ : Aside0 (gb400 ≠ gb399) := ⟨h11_⟩
               have n12_ : Aside0 (gb399 ≠ gb400) := ⟨h12_⟩
               have n13_ : Aside0 (w.heap.size ≤ gb400) := ⟨h13_⟩
               have n14_ : Aside0 (w.heap.size ≤ gb400) := ⟨h14_⟩
               have n15_ : Aside0 (gb390 ≠ gb400) := ⟨h15_⟩
               have n16_ : Aside0 (gb400 ≠ gb390) := ⟨h16_⟩
               have n17_ : Aside0 (gb391 ≠ gb400) := ⟨h17_⟩
               have n18_ : Aside0 (gb400 ≠ gb391) := ⟨h18_⟩
               have n19_ : Aside0 (Below w.heap.size w w31) := ⟨h19_⟩
               clear BK390
               clear BK391
               clear HB
               clear h0_ h1_ h2_ h3_ h4_ h5_ h6_ h7_ h8_ h9_ h10_ h11_ h12_ h13_ h14_ h15_ h16_ h17_ h18_ h19_
               have HO394 := n0_
               have BK390 := n1_
               have BK391 := n2_
               have BK399 := n3_
               have BK400 := n4_
               have GW399 := Aside1.mk n5_.out
               have GE399 := Aside1.mk n6_.out
               have NB390_399 := n7_
               have NB399_390 := n8_
               have NB391_399 := n9_
               have NB399_391 := n10_
               have NB400_399 := n11_
               have NB399_400 := n12_
               have GW400 := Aside1.mk n13_.out
               have GE400 := Aside1.mk n14_.out
               have NB390_400 := n15_
               have NB400_390 := n16_
               have NB391_400 := n17_
               have NB400_391 := n18_
               have HB := n19_
               clear n0_ n1_ n2_ n3_ n4_ n5_ n6_ n7_ n8_ n9_ n10_ n11_ n12_ n13_ n14_ n15_ n16_ n17_ n18_ n19_
               have hHeld : w31.cell? ⟨gb390, 0, none⟩ = some (.int .u64 a2_0) ∧ w31.cell? ⟨gb390, 1, none⟩ = some (.int .u64 a2_1) := hS_
               refine norm_ (a' := ?_) ?_ ?_
               rotate_left
               ·simp only [putAll, Act.put, List.setIfInBounds_toArray, List.set_cons_zero, List.set_cons_succ]
                rfl
               refine one_ (i := 7) (N := some 19) #[true, true, true, true, true, true, true, true, true, true, true, false, true, true, false, false, false] rfl rfl (one_of HT_.out (by kernel_rfl)) (by decide) (fun K hK => ?_)
               refine goes_ Try.func11 (by kernel_rfl) rfl #[.int .i64 a0, .int .i64 a1, .agg #[.int .u64 a2_0, .int .u64 a2_1]] (by rfl) rfl rfl (by (try simp only [List.map_toArray, List.map_cons, List.map_nil]); first | done | rfl | (simp only [List.length_drop, List.length_take]; rfl)) ?_
               with_reducible refine (frob_Trace.calls k a0 a1 a2_0 a2_1 t395 t396 _ A5.out).mono ?_
               rintro e w32 ⟨rfl, hb⟩
               refine ⟨_, rfl, ?_⟩
               replace HO394 := kb HO394 hb
               replace BK390 := bb BK390 hb
               replace BK391 := bb BK391 hb
               replace BK399 := bb BK399 hb
               replace BK400 := bb BK400 hb
               replace HB := bh HB hb
               (try clear hb)
               (try clear hb2)
               (try clear hk)
               (try clear hi)
               refine hK.out _ _ ⟨(blk_cell BK390.out 0).trans rfl, (blk_cell BK390.out 1).trans rfl⟩ (fun hHeld => ?_)
               clear hK K
               refine norm_ (a' := ?_) ?_ ?_
               rotate_left
               ·show Act.put _ (some 19) _ = _
                simp only [Act.put, List.setIfInBounds_toArray, List.set_cons_zero, List.set_cons_succ, i64_w, i32_w]
                rfl
               exact norm_ (by first | (simp only [putAll, Act.put, List.setIfInBounds_toArray, List.set_cons_zero, List.set_cons_succ]; done) | (simp only [putAll, Act.put, List.setIfInBounds_toArray, List.set_cons_zero, List.set_cons_succ]; rfl)) (hJ3_7_12_13 (v393, gb399, gb400) _ ⟨hHeld, (kr HO394.out), (bk BK390.out), (bk BK391.out), (bk BK399.out), (bk BK400.out), GW399.out, GE399.out, NB390_399.out, NB399_390.out, NB391_399.out, NB399_391.out, NB400_399.out, NB399_400.out, GW400.out, GE400.out, NB390_400.out, NB400_390.out, NB391_400.out, NB400_391.out, (bq HB.out)⟩)
             ·skip
              rintro ⟨v393, gb400⟩ w31 ⟨hS_, h0_, h1_, h2_, h3_, h4_, h5_, h6_, h7_, h8_, h9_, h10_⟩
              have n0_ : Aside0 (Kd.R k24 24 w31 w.heap.size (fun k_ => k_ ≠ gb390 ∧ k_ ≠ gb400) v393 t392) := ⟨h0_⟩
              have n1_ : Aside0 (w31.heap[gb390]? = some (.cells #[.int .u64 a2_0, .int .u64 a2_1] 24 (0, 0))) := ⟨h1_⟩
              have n2_ : Aside0 (w31.heap[gb391]? = some (.cells #[.int .u64 a2_0, .int .u64 a2_1] 37 (0, 0))) := ⟨h2_⟩
              have n3_ : Aside0 (w31.heap[gb400]? = some (.cells #[.int .u64 0, .int .u64 0] 24 (0, 0))) := ⟨h3_⟩
              have n4_ : Aside0 (w.heap.size ≤ gb400) := ⟨h4_⟩
              have n5_ : Aside0 (w.heap.size ≤ gb400) := ⟨h5_⟩
              have n6_ : Aside0 (gb390 ≠ gb400) := ⟨h6_⟩
              have n7_ : Aside0 (gb400 ≠ gb390) := ⟨h7_⟩
              have n8_ : Aside0 (gb391 ≠ gb400) := ⟨h8_⟩
              have n9_ : Aside0 (gb400 ≠ gb391) := ⟨h9_⟩
              have n10_ : Aside0 (Below w.heap.size w w31) := ⟨h10_⟩
              clear BK390
              clear BK391
              clear HB
              clear h0_ h1_ h2_ h3_ h4_ h5_ h6_ h7_ h8_ h9_ h10_
              have HO394 := n0_
              have BK390 := n1_
              have BK391 := n2_
              have BK400 := n3_
              have GW400 := Aside1.mk n4_.out
              have GE400 := Aside1.mk n5_.out
              have NB390_400 := n6_
              have NB400_390 := n7_
              have NB391_400 := n8_
              have NB400_391 := n9_
              have HB := n10_
              clear n0_ n1_ n2_ n3_ n4_ n5_ n6_ n7_ n8_ n9_ n10_
              have hHeld : w31.cell? ⟨gb390, 0, none⟩ = some (.int .u64 a2_0) ∧ w31.cell? ⟨gb390, 1, none⟩ = some (.int .u64 a2_1) := hS_
              refine norm_ (a' := ?_) ?_ ?_
              rotate_left
              ·simp only [putAll, Act.put, List.setIfInBounds_toArray, List.set_cons_zero, List.set_cons_succ]
               rfl
              refine two_ (i := 11) (j := 12) (Ni := some 23) (Nj := some 9) #[true, true, true, true, true, true, true, true, true, true, true, true, false, true, false, false, false] #[true, true, true, true, true, true, true, true, true, true, true, false, true, true, false, false, false] rfl rfl rfl rfl (two_of HT_.out (by kernel_rfl)) (by decide) (by decide) (fun K hK => ?_) (fun K hK => ?_)
              ·skip
               refine goes_ Try.func15 (by kernel_rfl) rfl #[.int .i64 a0, .int .i64 a1, .agg #[.int .u64 a2_0, .int .u64 a2_1]] (by rfl) rfl rfl (by (try simp only [List.map_toArray, List.map_cons, List.map_nil]); first | done | rfl | (simp only [List.length_drop, List.length_take]; rfl)) ?_
               with_reducible refine (frob_Norm.calls k a0 a1 a2_0 a2_1 t397 t398 _ A6.out).mono ?_
               rintro e w32 ⟨rfl, hb⟩
               refine ⟨_, rfl, ?_⟩
               replace HO394 := kb HO394 hb
               replace BK390 := bb BK390 hb
               replace BK391 := bb BK391 hb
               replace BK400 := bb BK400 hb
               replace HB := bh HB hb
               (try clear hb)
               (try clear hb2)
               (try clear hk)
               (try clear hi)
               refine hK.out _ _ ⟨(blk_cell BK390.out 0).trans rfl, (blk_cell BK390.out 1).trans rfl⟩ (fun hHeld => ?_)
               clear hK K
               refine norm_ (a' := ?_) ?_ ?_
               rotate_left
               ·show Act.put _ (some 23) _ = _
                simp only [Act.put, List.setIfInBounds_toArray, List.set_cons_zero, List.set_cons_succ, i64_w, i32_w]
                rfl
               exact norm_ (by first | (simp only [putAll, Act.put, List.setIfInBounds_toArray, List.set_cons_zero, List.set_cons_succ]; done) | (simp only [putAll, Act.put, List.setIfInBounds_toArray, List.set_cons_zero, List.set_cons_succ]; rfl)) (hJ3_7_11_13 (v393, gb400) _ ⟨hHeld, (kr HO394.out), (bk BK390.out), (bk BK391.out), (bk BK400.out), GW400.out, GE400.out, NB390_400.out, NB400_390.out, NB391_400.out, NB400_391.out, (bq HB.out)⟩)
              ·skip
               refine box_step ?hg (N := 9) ?hd (cs := #[.int .u64 0, .int .u64 0]) (t := 24) ?hr ?_; (case hd => rfl); (case hg => rfl); (case hr => first | (go_simp; done) | (go_simp; rfl))
               intro gb399 hg w32 hbox hb
               have BK399 := Aside0.mk hbox
               have GW399 := ge hg HB
               have GE399 := ge hg HB
               have NB390_399 := nl hg BK390
               have NB399_390 := ng hg BK390
               have NB391_399 := nl hg BK391
               have NB399_391 := ng hg BK391
               have NB400_399 := nl hg BK400
               have NB399_400 := ng hg BK400
               replace HO394 := Aside0.mk (Kd.R_below (Kd.R_elderB (kr HO394.out) gb399 (Nat.le_of_eq hg.symm)) hb)
               replace BK390 := bb BK390 hb
               replace BK391 := bb BK391 hb
               replace BK400 := bb BK400 hb
               replace HB := bh HB hb
               clear hb hbox hg
               refine hK.out _ _ ⟨(blk_cell BK390.out 0).trans rfl, (blk_cell BK390.out 1).trans rfl⟩ (fun hHeld => ?_)
               clear hK K
               refine norm_ (a' := ?_) ?_ ?_
               rotate_left
               ·show Act.put _ (some 9) _ = _
                simp only [Act.put, List.setIfInBounds_toArray, List.set_cons_zero, List.set_cons_succ, i64_w, i32_w]
                rfl
               exact norm_ (by first | (simp only [putAll, Act.put, List.setIfInBounds_toArray, List.set_cons_zero, List.set_cons_succ]; done) | (simp only [putAll, Act.put, List.setIfInBounds_toArray, List.set_cons_zero, List.set_cons_succ]; rfl)) (hJ3_7_12_13 (v393, gb399, gb400) _ ⟨hHeld, (by (with_reducible repeat refine kl ?_); exact Kd.R_mono HO394.out (fun _ hk => ⟨hk.1.1, ⟨hk.2, hk.1.2⟩⟩)), (bk BK390.out), (bk BK391.out), (bk BK399.out), (bk BK400.out), GW399.out, GE399.out, NB390_399.out, NB399_390.out, NB391_399.out, NB399_391.out, NB400_399.out, NB399_400.out, GW400.out, GE400.out, NB390_400.out, NB400_390.out, NB391_400.out, NB400_391.out, (bq HB.out)⟩)
            ·skip
             rintro ⟨v393, gb399⟩ w31 ⟨hS_, h0_, h1_, h2_, h3_, h4_, h5_, h6_, h7_, h8_, h9_, h10_⟩
             have n0_ : Aside0 (Kd.R k24 24 w31 w.heap.size (fun k_ => k_ ≠ gb390 ∧ k_ ≠ gb399) v393 t392) := ⟨h0_⟩
             have n1_ : Aside0 (w31.heap[gb390]? = some (.cells #[.int .u64 a2_0, .int .u64 a2_1] 24 (0, 0))) := ⟨h1_⟩
             have n2_ : Aside0 (w31.heap[gb391]? = some (.cells #[.int .u64 a2_0, .int .u64 a2_1] 37 (0, 0))) := ⟨h2_⟩
             have n3_ : Aside0 (w31.heap[gb399]? = some (.cells #[.int .u64 0, .int .u64 0] 24 (0, 0))) := ⟨h3_⟩
             have n4_ : Aside0 (w.heap.size ≤ gb399) := ⟨h4_⟩
             have n5_ : Aside0 (w.heap.size ≤ gb399) := ⟨h5_⟩
             have n6_ : Aside0 (gb390 ≠ gb399) := ⟨h6_⟩
             have n7_ : Aside0 (gb399 ≠ gb390) := ⟨h7_⟩
             have n8_ : Aside0 (gb391 ≠ gb399) := ⟨h8_⟩
             have n9_ : Aside0 (gb399 ≠ gb391) := ⟨h9_⟩
             have n10_ : Aside0 (Below w.heap.size w w31) := ⟨h10_⟩
             clear BK390
             clear BK391
             clear HB
             clear h0_ h1_ h2_ h3_ h4_ h5_ h6_ h7_ h8_ h9_ h10_
             have HO394 := n0_
             have BK390 := n1_
             have BK391 := n2_
             have BK399 := n3_
             have GW399 := Aside1.mk n4_.out
             have GE399 := Aside1.mk n5_.out
             have NB390_399 := n6_
             have NB399_390 := n7_
             have NB391_399 := n8_
             have NB399_391 := n9_
             have HB := n10_
             clear n0_ n1_ n2_ n3_ n4_ n5_ n6_ n7_ n8_ n9_ n10_
             have hHeld : w31.cell? ⟨gb390, 0, none⟩ = some (.int .u64 a2_0) ∧ w31.cell? ⟨gb390, 1, none⟩ = some (.int .u64 a2_1) := hS_
             refine norm_ (a' := ?_) ?_ ?_
             rotate_left
             ·simp only [putAll, Act.put, List.setIfInBounds_toArray, List.set_cons_zero, List.set_cons_succ]
              rfl
             refine two_ (i := 11) (j := 13) (Ni := some 23) (Nj := some 10) #[true, true, true, true, true, true, true, true, true, true, true, true, true, false, false, false, false] #[true, true, true, true, true, true, true, true, true, true, true, false, true, true, false, false, false] rfl rfl rfl rfl (two_of HT_.out (by kernel_rfl)) (by decide) (by decide) (fun K hK => ?_) (fun K hK => ?_)
             ·skip
              refine goes_ Try.func15 (by kernel_rfl) rfl #[.int .i64 a0, .int .i64 a1, .agg #[.int .u64 a2_0, .int .u64 a2_1]] (by rfl) rfl rfl (by (try simp only [List.map_toArray, List.map_cons, List.map_nil]); first | done | rfl | (simp only [List.length_drop, List.length_take]; rfl)) ?_
              with_reducible refine (frob_Norm.calls k a0 a1 a2_0 a2_1 t397 t398 _ A6.out).mono ?_
              rintro e w32 ⟨rfl, hb⟩
              refine ⟨_, rfl, ?_⟩
              replace HO394 := kb HO394 hb
              replace BK390 := bb BK390 hb
              replace BK391 := bb BK391 hb
              replace BK399 := bb BK399 hb
              replace HB := bh HB hb
              (try clear hb)
              (try clear hb2)
              (try clear hk)
              (try clear hi)
              refine hK.out _ _ ⟨(blk_cell BK390.out 0).trans rfl, (blk_cell BK390.out 1).trans rfl⟩ (fun hHeld => ?_)
              clear hK K
              refine norm_ (a' := ?_) ?_ ?_
              rotate_left
              ·show Act.put _ (some 23) _ = _
               simp only [Act.put, List.setIfInBounds_toArray, List.set_cons_zero, List.set_cons_succ, i64_w, i32_w]
               rfl
              exact norm_ (by first | (simp only [putAll, Act.put, List.setIfInBounds_toArray, List.set_cons_zero, List.set_cons_succ]; done) | (simp only [putAll, Act.put, List.setIfInBounds_toArray, List.set_cons_zero, List.set_cons_succ]; rfl)) (hJ3_7_11_12 (v393, gb399) _ ⟨hHeld, (kr HO394.out), (bk BK390.out), (bk BK391.out), (bk BK399.out), GW399.out, GE399.out, NB390_399.out, NB399_390.out, NB391_399.out, NB399_391.out, (bq HB.out)⟩)
             ·skip
              refine box_step ?hg (N := 10) ?hd (cs := #[.int .u64 0, .int .u64 0]) (t := 24) ?hr ?_; (case hd => rfl); (case hg => rfl); (case hr => first | (go_simp; done) | (go_simp; rfl))
              intro gb400 hg w32 hbox hb
              have BK400 := Aside0.mk hbox
              have GW400 := ge hg HB
              have GE400 := ge hg HB
              have NB390_400 := nl hg BK390
              have NB400_390 := ng hg BK390
              have NB391_400 := nl hg BK391
              have NB400_391 := ng hg BK391
              have NB399_400 := nl hg BK399
              have NB400_399 := ng hg BK399
              replace HO394 := Aside0.mk (Kd.R_below (Kd.R_elderB (kr HO394.out) gb400 (Nat.le_of_eq hg.symm)) hb)
              replace BK390 := bb BK390 hb
              replace BK391 := bb BK391 hb
              replace BK399 := bb BK399 hb
              replace HB := bh HB hb
              clear hb hbox hg
              refine hK.out _ _ ⟨(blk_cell BK390.out 0).trans rfl, (blk_cell BK390.out 1).trans rfl⟩ (fun hHeld => ?_)
              clear hK K
              refine norm_ (a' := ?_) ?_ ?_
              rotate_left
              ·show Act.put _ (some 10) _ = _
               simp only [Act.put, List.setIfInBounds_toArray, List.set_cons_zero, List.set_cons_succ, i64_w, i32_w]
               rfl
              exact norm_ (by first | (simp only [putAll, Act.put, List.setIfInBounds_toArray, List.set_cons_zero, List.set_cons_succ]; done) | (simp only [putAll, Act.put, List.setIfInBounds_toArray, List.set_cons_zero, List.set_cons_succ]; rfl)) (hJ3_7_12_13 (v393, gb399, gb400) _ ⟨hHeld, (by (with_reducible repeat refine kl ?_); exact Kd.R_mono HO394.out (fun _ hk => ⟨hk.1.1, ⟨hk.1.2, hk.2⟩⟩)), (bk BK390.out), (bk BK391.out), (bk BK399.out), (bk BK400.out), GW399.out, GE399.out, NB390_399.out, NB399_390.out, NB391_399.out, NB399_391.out, NB400_399.out, NB399_400.out, GW400.out, GE400.out, NB390_400.out, NB400_390.out, NB391_400.out, NB400_391.out, (bq HB.out)⟩)
           ·skip
            rintro v393 w31 ⟨hS_, h0_, h1_, h2_, h3_⟩
            have n0_ : Aside0 (Kd.R k24 24 w31 w.heap.size (fun k_ => k_ ≠ gb390) v393 t392) := ⟨h0_⟩
            have n1_ : Aside0 (w31.heap[gb390]? = some (.cells #[.int .u64 a2_0, .int .u64 a2_1] 24 (0, 0))) := ⟨h1_⟩
            have n2_ : Aside0 (w31.heap[gb391]? = some (.cells #[.int .u64 a2_0, .int .u64 a2_1] 37 (0, 0))) := ⟨h2_⟩
            have n3_ : Aside0 (Below w.heap.size w w31) := ⟨h3_⟩
            clear BK390
            clear BK391
            clear HB
            clear h0_ h1_ h2_ h3_
            have HO394 := n0_
            have BK390 := n1_
            have BK391 := n2_
            have HB := n3_
            clear n0_ n1_ n2_ n3_
            have hHeld : w31.cell? ⟨gb390, 0, none⟩ = some (.int .u64 a2_0) ∧ w31.cell? ⟨gb390, 1, none⟩ = some (.int .u64 a2_1) := hS_
            refine norm_ (a' := ?_) ?_ ?_
            rotate_left
            ·simp only [putAll, Act.put, List.setIfInBounds_toArray, List.set_cons_zero, List.set_cons_succ]
             rfl
            refine two_ (i := 12) (j := 13) (Ni := some 9) (Nj := some 10) #[true, true, true, true, true, true, true, true, true, true, true, true, true, false, false, false, false] #[true, true, true, true, true, true, true, true, true, true, true, true, false, true, false, false, false] rfl rfl rfl rfl (two_of HT_.out (by kernel_rfl)) (by decide) (by decide) (fun K hK => ?_) (fun K hK => ?_)
            ·skip
             refine box_step ?hg (N := 9) ?hd (cs := #[.int .u64 0, .int .u64 0]) (t := 24) ?hr ?_; (case hd => rfl); (case hg => rfl); (case hr => first | (go_simp; done) | (go_simp; rfl))
             intro gb399 hg w32 hbox hb
             have BK399 := Aside0.mk hbox
             have GW399 := ge hg HB
             have GE399 := ge hg HB
             have NB390_399 := nl hg BK390
             have NB399_390 := ng hg BK390
             have NB391_399 := nl hg BK391
             have NB399_391 := ng hg BK391
             replace HO394 := Aside0.mk (Kd.R_below (Kd.R_elderB (kr HO394.out) gb399 (Nat.le_of_eq hg.symm)) hb)
             replace BK390 := bb BK390 hb
             replace BK391 := bb BK391 hb
             replace HB := bh HB hb
             clear hb hbox hg
             refine hK.out _ _ ⟨(blk_cell BK390.out 0).trans rfl, (blk_cell BK390.out 1).trans rfl⟩ (fun hHeld => ?_)
             clear hK K
             refine norm_ (a' := ?_) ?_ ?_
             rotate_left
             ·show Act.put _ (some 9) _ = _
              simp only [Act.put, List.setIfInBounds_toArray, List.set_cons_zero, List.set_cons_succ, i64_w, i32_w]
              rfl
             exact norm_ (by first | (simp only [putAll, Act.put, List.setIfInBounds_toArray, List.set_cons_zero, List.set_cons_succ]; done) | (simp only [putAll, Act.put, List.setIfInBounds_toArray, List.set_cons_zero, List.set_cons_succ]; rfl)) (hJ3_7_11_12 (v393, gb399) _ ⟨hHeld, (kr HO394.out), (bk BK390.out), (bk BK391.out), (bk BK399.out), GW399.out, GE399.out, NB390_399.out, NB399_390.out, NB391_399.out, NB399_391.out, (bq HB.out)⟩)
            ·skip
             refine box_step ?hg (N := 10) ?hd (cs := #[.int .u64 0, .int .u64 0]) (t := 24) ?hr ?_; (case hd => rfl); (case hg => rfl); (case hr => first | (go_simp; done) | (go_simp; rfl))
             intro gb400 hg w32 hbox hb
             have BK400 := Aside0.mk hbox
             have GW400 := ge hg HB
             have GE400 := ge hg HB
             have NB390_400 := nl hg BK390
             have NB400_390 := ng hg BK390
             have NB391_400 := nl hg BK391
             have NB400_391 := ng hg BK391
             replace HO394 := Aside0.mk (Kd.R_below (Kd.R_elderB (kr HO394.out) gb400 (Nat.le_of_eq hg.symm)) hb)
             replace BK390 := bb BK390 hb
             replace BK391 := bb BK391 hb
             replace HB := bh HB hb
             clear hb hbox hg
             refine hK.out _ _ ⟨(blk_cell BK390.out 0).trans rfl, (blk_cell BK390.out 1).trans rfl⟩ (fun hHeld => ?_)
             clear hK K
             refine norm_ (a' := ?_) ?_ ?_
             rotate_left
             ·show Act.put _ (some 10) _ = _
              simp only [Act.put, List.setIfInBounds_toArray, List.set_cons_zero, List.set_cons_succ, i64_w, i32_w]
              rfl
             exact norm_ (by first | (simp only [putAll, Act.put, List.setIfInBounds_toArray, List.set_cons_zero, List.set_cons_succ]; done) | (simp only [putAll, Act.put, List.setIfInBounds_toArray, List.set_cons_zero, List.set_cons_succ]; rfl)) (hJ3_7_11_13 (v393, gb400) _ ⟨hHeld, (kr HO394.out), (bk BK390.out), (bk BK391.out), (bk BK400.out), GW400.out, GE400.out, NB390_400.out, NB400_390.out, NB391_400.out, NB400_391.out, (bq HB.out)⟩)
          ·skip
           rintro ⟨v393, gb399, gb400⟩ w32 ⟨hS_, h0_, h1_, h2_, h3_, h4_, h5_, h6_, h7_, h8_, h9_, h10_, h11_, h12_, h13_, h14_, h15_, h16_, h17_, h18_, h19_⟩
           have n0_ : Aside0 (Kd.R k24 24 w32 w.heap.size (fun k_ => k_ ≠ gb390 ∧ k_ ≠ gb399 ∧ k_ ≠ gb400) v393 t392) := ⟨h0_⟩
           have n1_ : Aside0 (w32.heap[gb390]? = some (.cells #[.int .u64 a2_0, .int .u64 a2_1] 24 (0, 0))) := ⟨h1_⟩
           have n2_ : Aside0 (w32.heap[gb391]? = some (.cells #[.int .u64 a2_0, .int .u64 a2_1] 37 (0, 0))) := ⟨h2_⟩
           have n3_ : Aside0 (w32.heap[gb399]? = some (.cells #[.int .u64 0, .int .u64 0] 24 (0, 0))) := ⟨h3_⟩
           have n4_ : Aside0 (w32.heap[gb400]? = some (.cells #[.int .u64 0, .int .u64 0] 24 (0, 0))) := ⟨h4_⟩
           have n5_ : Aside0 (w.heap.size ≤ gb399) := ⟨h5_⟩
           have n6_ : Aside0 (w.heap.size ≤ gb399) := ⟨h6_⟩
           have n7_ : Aside0 (gb390 ≠ gb399) := ⟨h7_⟩
           have n8_ : Aside0 (gb399 ≠ gb390) := ⟨h8_⟩
           have n9_ : Aside0 (gb391 ≠ gb399) := ⟨h9_⟩
           have n10_ : Aside0 (gb399 ≠ gb391) := ⟨h10_⟩
           have n11_ : Aside0 (gb400 ≠ gb399) := ⟨h11_⟩
           have n12_ : Aside0 (gb399 ≠ gb400) := ⟨h12_⟩
           have n13_ : Aside0 (w.heap.size ≤ gb400) := ⟨h13_⟩
           have n14_ : Aside0 (w.heap.size ≤ gb400) := ⟨h14_⟩
           have n15_ : Aside0 (gb390 ≠ gb400) := ⟨h15_⟩
           have n16_ : Aside0 (gb400 ≠ gb390) := ⟨h16_⟩
           have n17_ : Aside0 (gb391 ≠ gb400) := ⟨h17_⟩
           have n18_ : Aside0 (gb400 ≠ gb391) := ⟨h18_⟩
           have n19_ : Aside0 (Below w.heap.size w w32) := ⟨h19_⟩
           clear BK390
           clear BK391
           clear HB
           clear h0_ h1_ h2_ h3_ h4_ h5_ h6_ h7_ h8_ h9_ h10_ h11_ h12_ h13_ h14_ h15_ h16_ h17_ h18_ h19_
           have HO394 := n0_
           have BK390 := n1_
           have BK391 := n2_
           have BK399 := n3_
           have BK400 := n4_
           have GW399 := Aside1.mk n5_.out
           have GE399 := Aside1.mk n6_.out
           have NB390_399 := n7_
           have NB399_390 := n8_
           have NB391_399 := n9_
           have NB399_391 := n10_
           have NB400_399 := n11_
           have NB399_400 := n12_
           have GW400 := Aside1.mk n13_.out
           have GE400 := Aside1.mk n14_.out
           have NB390_400 := n15_
           have NB400_390 := n16_
           have NB391_400 := n17_
           have NB400_391 := n18_
           have HB := n19_
           clear n0_ n1_ n2_ n3_ n4_ n5_ n6_ n7_ n8_ n9_ n10_ n11_ n12_ n13_ n14_ n15_ n16_ n17_ n18_ n19_
           have hHeld : w32.cell? ⟨gb390, 0, none⟩ = some (.int .u64 a2_0) ∧ w32.cell? ⟨gb390, 1, none⟩ = some (.int .u64 a2_1) := hS_
           refine norm_ (a' := ?_) ?_ ?_
           rotate_left
           ·simp only [putAll, Act.put, List.setIfInBounds_toArray, List.set_cons_zero, List.set_cons_succ]
            rfl
           refine one_ (i := 11) (N := some 23) #[true, true, true, true, true, true, true, true, true, true, true, true, true, true, false, false, false] rfl rfl (one_of HT_.out (by kernel_rfl)) (by decide) (fun K hK => ?_)
           refine goes_ Try.func15 (by kernel_rfl) rfl #[.int .i64 a0, .int .i64 a1, .agg #[.int .u64 a2_0, .int .u64 a2_1]] (by rfl) rfl rfl (by (try simp only [List.map_toArray, List.map_cons, List.map_nil]); first | done | rfl | (simp only [List.length_drop, List.length_take]; rfl)) ?_
           with_reducible refine (frob_Norm.calls k a0 a1 a2_0 a2_1 t397 t398 _ A6.out).mono ?_
           rintro e w33 ⟨rfl, hb⟩
           refine ⟨_, rfl, ?_⟩
           replace HO394 := kb HO394 hb
           replace BK390 := bb BK390 hb
           replace BK391 := bb BK391 hb
           replace BK399 := bb BK399 hb
           replace BK400 := bb BK400 hb
           replace HB := bh HB hb
           (try clear hb)
           (try clear hb2)
           (try clear hk)
           (try clear hi)
           refine hK.out _ _ ⟨(blk_cell BK390.out 0).trans rfl, (blk_cell BK390.out 1).trans rfl⟩ (fun hHeld => ?_)
           clear hK K
           refine norm_ (a' := ?_) ?_ ?_
           rotate_left
           ·show Act.put _ (some 23) _ = _
            simp only [Act.put, List.setIfInBounds_toArray, List.set_cons_zero, List.set_cons_succ, i64_w, i32_w]
            rfl
           exact norm_ (by first | (simp only [putAll, Act.put, List.setIfInBounds_toArray, List.set_cons_zero, List.set_cons_succ]; done) | (simp only [putAll, Act.put, List.setIfInBounds_toArray, List.set_cons_zero, List.set_cons_succ]; rfl)) (hJ3_7_11_12_13 (v393, gb399, gb400) _ ⟨hHeld, (kr HO394.out), (bk BK390.out), (bk BK391.out), (bk BK399.out), (bk BK400.out), GW399.out, GE399.out, NB390_399.out, NB399_390.out, NB391_399.out, NB399_391.out, NB400_399.out, NB399_400.out, GW400.out, GE400.out, NB390_400.out, NB400_390.out, NB391_400.out, NB400_391.out, (bq HB.out)⟩)
         ·skip
          rintro ⟨v393, gb400⟩ w32 ⟨hS_, h0_, h1_, h2_, h3_, h4_, h5_, h6_, h7_, h8_, h9_, h10_⟩
          have n0_ : Aside0 (Kd.R k24 24 w32 w.heap.size (fun k_ => k_ ≠ gb390 ∧ k_ ≠ gb400) v393 t392) := ⟨h0_⟩
          have n1_ : Aside0 (w32.heap[gb390]? = some (.cells #[.int .u64 a2_0, .int .u64 a2_1] 24 (0, 0))) := ⟨h1_⟩
          have n2_ : Aside0 (w32.heap[gb391]? = some (.cells #[.int .u64 a2_0, .int .u64 a2_1] 37 (0, 0))) := ⟨h2_⟩
          have n3_ : Aside0 (w32.heap[gb400]? = some (.cells #[.int .u64 0, .int .u64 0] 24 (0, 0))) := ⟨h3_⟩
          have n4_ : Aside0 (w.heap.size ≤ gb400) := ⟨h4_⟩
          have n5_ : Aside0 (w.heap.size ≤ gb400) := ⟨h5_⟩
          have n6_ : Aside0 (gb390 ≠ gb400) := ⟨h6_⟩
          have n7_ : Aside0 (gb400 ≠ gb390) := ⟨h7_⟩
          have n8_ : Aside0 (gb391 ≠ gb400) := ⟨h8_⟩
          have n9_ : Aside0 (gb400 ≠ gb391) := ⟨h9_⟩
          have n10_ : Aside0 (Below w.heap.size w w32) := ⟨h10_⟩
          clear BK390
          clear BK391
          clear HB
          clear h0_ h1_ h2_ h3_ h4_ h5_ h6_ h7_ h8_ h9_ h10_
          have HO394 := n0_
          have BK390 := n1_
          have BK391 := n2_
          have BK400 := n3_
          have GW400 := Aside1.mk n4_.out
          have GE400 := Aside1.mk n5_.out
          have NB390_400 := n6_
          have NB400_390 := n7_
          have NB391_400 := n8_
          have NB400_391 := n9_
          have HB := n10_
          clear n0_ n1_ n2_ n3_ n4_ n5_ n6_ n7_ n8_ n9_ n10_
          have hHeld : w32.cell? ⟨gb390, 0, none⟩ = some (.int .u64 a2_0) ∧ w32.cell? ⟨gb390, 1, none⟩ = some (.int .u64 a2_1) := hS_
          refine norm_ (a' := ?_) ?_ ?_
          rotate_left
          ·simp only [putAll, Act.put, List.setIfInBounds_toArray, List.set_cons_zero, List.set_cons_succ]
           rfl
          refine one_ (i := 12) (N := some 9) #[true, true, true, true, true, true, true, true, true, true, true, true, true, true, false, false, false] rfl rfl (one_of HT_.out (by kernel_rfl)) (by decide) (fun K hK => ?_)
          refine box_step ?hg (N := 9) ?hd (cs := #[.int .u64 0, .int .u64 0]) (t := 24) ?hr ?_; (case hd => rfl); (case hg => rfl); (case hr => first | (go_simp; done) | (go_simp; rfl))
          intro gb399 hg w33 hbox hb
          have BK399 := Aside0.mk hbox
          have GW399 := ge hg HB
          have GE399 := ge hg HB
          have NB390_399 := nl hg BK390
          have NB399_390 := ng hg BK390
          have NB391_399 := nl hg BK391
          have NB399_391 := ng hg BK391
          have NB400_399 := nl hg BK400
          have NB399_400 := ng hg BK400
          replace HO394 := Aside0.mk (Kd.R_below (Kd.R_elderB (kr HO394.out) gb399 (Nat.le_of_eq hg.symm)) hb)
          replace BK390 := bb BK390 hb
          replace BK391 := bb BK391 hb
          replace BK400 := bb BK400 hb
          replace HB := bh HB hb
          clear hb hbox hg
          refine hK.out _ _ ⟨(blk_cell BK390.out 0).trans rfl, (blk_cell BK390.out 1).trans rfl⟩ (fun hHeld => ?_)
          clear hK K
          refine norm_ (a' := ?_) ?_ ?_
          rotate_left
          ·show Act.put _ (some 9) _ = _
           simp only [Act.put, List.setIfInBounds_toArray, List.set_cons_zero, List.set_cons_succ, i64_w, i32_w]
           rfl
          exact norm_ (by first | (simp only [putAll, Act.put, List.setIfInBounds_toArray, List.set_cons_zero, List.set_cons_succ]; done) | (simp only [putAll, Act.put, List.setIfInBounds_toArray, List.set_cons_zero, List.set_cons_succ]; rfl)) (hJ3_7_11_12_13 (v393, gb399, gb400) _ ⟨hHeld, (by (with_reducible repeat refine kl ?_); exact Kd.R_mono HO394.out (fun _ hk => ⟨hk.1.1, ⟨hk.2, hk.1.2⟩⟩)), (bk BK390.out), (bk BK391.out), (bk BK399.out), (bk BK400.out), GW399.out, GE399.out, NB390_399.out, NB399_390.out, NB391_399.out, NB399_391.out, NB400_399.out, NB399_400.out, GW400.out, GE400.out, NB390_400.out, NB400_390.out, NB391_400.out, NB400_391.out, (bq HB.out)⟩)
        ·skip
         rintro ⟨v393, gb399⟩ w32 ⟨hS_, h0_, h1_, h2_, h3_, h4_, h5_, h6_, h7_, h8_, h9_, h10_⟩
         have n0_ : Aside0 (Kd.R k24 24 w32 w.heap.size (fun k_ => k_ ≠ gb390 ∧ k_ ≠ gb399) v393 t392) := ⟨h0_⟩
         have n1_ : Aside0 (w32.heap[gb390]? = some (.cells #[.int .u64 a2_0, .int .u64 a2_1] 24 (0, 0))) := ⟨h1_⟩
         have n2_ : Aside0 (w32.heap[gb391]? = some (.cells #[.int .u64 a2_0, .int .u64 a2_1] 37 (0, 0))) := ⟨h2_⟩
         have n3_ : Aside0 (w32.heap[gb399]? = some (.cells #[.int .u64 0, .int .u64 0] 24 (0, 0))) := ⟨h3_⟩
         have n4_ : Aside0 (w.heap.size ≤ gb399) := ⟨h4_⟩
         have n5_ : Aside0 (w.heap.size ≤ gb399) := ⟨h5_⟩
         have n6_ : Aside0 (gb390 ≠ gb399) := ⟨h6_⟩
         have n7_ : Aside0 (gb399 ≠ gb390) := ⟨h7_⟩
         have n8_ : Aside0 (gb391 ≠ gb399) := ⟨h8_⟩
         have n9_ : Aside0 (gb399 ≠ gb391) := ⟨h9_⟩
         have n10_ : Aside0 (Below w.heap.size w w32) := ⟨h10_⟩
         clear BK390
         clear BK391
         clear HB
         clear h0_ h1_ h2_ h3_ h4_ h5_ h6_ h7_ h8_ h9_ h10_
         have HO394 := n0_
         have BK390 := n1_
         have BK391 := n2_
         have BK399 := n3_
         have GW399 := Aside1.mk n4_.out
         have GE399 := Aside1.mk n5_.out
         have NB390_399 := n6_
         have NB399_390 := n7_
         have NB391_399 := n8_
         have NB399_391 := n9_
         have HB := n10_
         clear n0_ n1_ n2_ n3_ n4_ n5_ n6_ n7_ n8_ n9_ n10_
         have hHeld : w32.cell? ⟨gb390, 0, none⟩ = some (.int .u64 a2_0) ∧ w32.cell? ⟨gb390, 1, none⟩ = some (.int .u64 a2_1) := hS_
         refine norm_ (a' := ?_) ?_ ?_
         rotate_left
         ·simp only [putAll, Act.put, List.setIfInBounds_toArray, List.set_cons_zero, List.set_cons_succ]
          rfl
         refine one_ (i := 13) (N := some 10) #[true, true, true, true, true, true, true, true, true, true, true, true, true, true, false, false, false] rfl rfl (one_of HT_.out (by kernel_rfl)) (by decide) (fun K hK => ?_)
         refine box_step ?hg (N := 10) ?hd (cs := #[.int .u64 0, .int .u64 0]) (t := 24) ?hr ?_; (case hd => rfl); (case hg => rfl); (case hr => first | (go_simp; done) | (go_simp; rfl))
         intro gb400 hg w33 hbox hb
         have BK400 := Aside0.mk hbox
         have GW400 := ge hg HB
         have GE400 := ge hg HB
         have NB390_400 := nl hg BK390
         have NB400_390 := ng hg BK390
         have NB391_400 := nl hg BK391
         have NB400_391 := ng hg BK391
         have NB399_400 := nl hg BK399
         have NB400_399 := ng hg BK399
         replace HO394 := Aside0.mk (Kd.R_below (Kd.R_elderB (kr HO394.out) gb400 (Nat.le_of_eq hg.symm)) hb)
         replace BK390 := bb BK390 hb
         replace BK391 := bb BK391 hb
         replace BK399 := bb BK399 hb
         replace HB := bh HB hb
         clear hb hbox hg
         refine hK.out _ _ ⟨(blk_cell BK390.out 0).trans rfl, (blk_cell BK390.out 1).trans rfl⟩ (fun hHeld => ?_)
         clear hK K
         refine norm_ (a' := ?_) ?_ ?_
         rotate_left
         ·show Act.put _ (some 10) _ = _
          simp only [Act.put, List.setIfInBounds_toArray, List.set_cons_zero, List.set_cons_succ, i64_w, i32_w]
          rfl
         exact norm_ (by first | (simp only [putAll, Act.put, List.setIfInBounds_toArray, List.set_cons_zero, List.set_cons_succ]; done) | (simp only [putAll, Act.put, List.setIfInBounds_toArray, List.set_cons_zero, List.set_cons_succ]; rfl)) (hJ3_7_11_12_13 (v393, gb399, gb400) _ ⟨hHeld, (by (with_reducible repeat refine kl ?_); exact Kd.R_mono HO394.out (fun _ hk => ⟨hk.1.1, ⟨hk.1.2, hk.2⟩⟩)), (bk BK390.out), (bk BK391.out), (bk BK399.out), (bk BK400.out), GW399.out, GE399.out, NB390_399.out, NB399_390.out, NB391_399.out, NB399_391.out, NB400_399.out, NB399_400.out, GW400.out, GE400.out, NB390_400.out, NB400_390.out, NB391_400.out, NB400_391.out, (bq HB.out)⟩)
       rintro ⟨v393, gb399, gb400⟩ w33 ⟨hS_, h0_, h1_, h2_, h3_, h4_, h5_, h6_, h7_, h8_, h9_, h10_, h11_, h12_, h13_, h14_, h15_, h16_, h17_, h18_, h19_⟩
       have n0_ : Aside0 (Kd.R k24 24 w33 w.heap.size (fun k_ => k_ ≠ gb390 ∧ k_ ≠ gb399 ∧ k_ ≠ gb400) v393 t392) := ⟨h0_⟩
       have n1_ : Aside0 (w33.heap[gb390]? = some (.cells #[.int .u64 a2_0, .int .u64 a2_1] 24 (0, 0))) := ⟨h1_⟩
       have n2_ : Aside0 (w33.heap[gb391]? = some (.cells #[.int .u64 a2_0, .int .u64 a2_1] 37 (0, 0))) := ⟨h2_⟩
       have n3_ : Aside0 (w33.heap[gb399]? = some (.cells #[.int .u64 0, .int .u64 0] 24 (0, 0))) := ⟨h3_⟩
       have n4_ : Aside0 (w33.heap[gb400]? = some (.cells #[.int .u64 0, .int .u64 0] 24 (0, 0))) := ⟨h4_⟩
       have n5_ : Aside0 (w.heap.size ≤ gb399) := ⟨h5_⟩
       have n6_ : Aside0 (w.heap.size ≤ gb399) := ⟨h6_⟩
       have n7_ : Aside0 (gb390 ≠ gb399) := ⟨h7_⟩
       have n8_ : Aside0 (gb399 ≠ gb390) := ⟨h8_⟩
       have n9_ : Aside0 (gb391 ≠ gb399) := ⟨h9_⟩
       have n10_ : Aside0 (gb399 ≠ gb391) := ⟨h10_⟩
       have n11_ : Aside0 (gb400 ≠ gb399) := ⟨h11_⟩
       have n12_ : Aside0 (gb399 ≠ gb400) := ⟨h12_⟩
       have n13_ : Aside0 (w.heap.size ≤ gb400) := ⟨h13_⟩
       have n14_ : Aside0 (w.heap.size ≤ gb400) := ⟨h14_⟩
       have n15_ : Aside0 (gb390 ≠ gb400) := ⟨h15_⟩
       have n16_ : Aside0 (gb400 ≠ gb390) := ⟨h16_⟩
       have n17_ : Aside0 (gb391 ≠ gb400) := ⟨h17_⟩
       have n18_ : Aside0 (gb400 ≠ gb391) := ⟨h18_⟩
       have n19_ : Aside0 (Below w.heap.size w w33) := ⟨h19_⟩
       clear BK390
       clear BK391
       clear HB
       clear h0_ h1_ h2_ h3_ h4_ h5_ h6_ h7_ h8_ h9_ h10_ h11_ h12_ h13_ h14_ h15_ h16_ h17_ h18_ h19_
       have HO394 := n0_
       have BK390 := n1_
       have BK391 := n2_
       have BK399 := n3_
       have BK400 := n4_
       have GW399 := Aside1.mk n5_.out
       have GE399 := Aside1.mk n6_.out
       have NB390_399 := n7_
       have NB399_390 := n8_
       have NB391_399 := n9_
       have NB399_391 := n10_
       have NB400_399 := n11_
       have NB399_400 := n12_
       have GW400 := Aside1.mk n13_.out
       have GE400 := Aside1.mk n14_.out
       have NB390_400 := n15_
       have NB400_390 := n16_
       have NB391_400 := n17_
       have NB400_391 := n18_
       have HB := n19_
       clear n0_ n1_ n2_ n3_ n4_ n5_ n6_ n7_ n8_ n9_ n10_ n11_ n12_ n13_ n14_ n15_ n16_ n17_ n18_ n19_
       have hHeld : w33.cell? ⟨gb390, 0, none⟩ = some (.int .u64 a2_0) ∧ w33.cell? ⟨gb390, 1, none⟩ = some (.int .u64 a2_1) := hS_
       refine norm_ (a' := ?_) ?_ ?_
       rotate_left
       ·simp only [putAll, Act.put, List.setIfInBounds_toArray, List.set_cons_zero, List.set_cons_succ]
        rfl
       refine pure_ (i := 14) (N := some 8) (v := ?_) (a' := ?_) #[true, true, true, true, true, true, true, true, true, true, true, true, true, true, true, false, false] rfl rfl (any_of HT_.out (by kernel_rfl)) (fun _ _ _ h => h) (Or.inl ⟨by rfl, ?_⟩) ?_ ?_
       rotate_left
       ·intro w'
        go_simp
        with_reducible rfl
       rotate_left
       ·simp only [Act.put, List.setIfInBounds_toArray, List.set_cons_zero, List.set_cons_succ, i64_w, i32_w]
        rfl
       refine one_ (i := 15) (N := none) #[true, true, true, true, true, true, true, true, true, true, true, true, true, true, true, true, false] rfl rfl (one_of HT_.out (by kernel_rfl)) (by decide) (fun K hK => ?_)
       have hs34 : w33.cell? ⟨gb399, 0, none⟩ = some (.int .u64 0) := (blk_cell BK399.out 0).trans rfl
       have hfs34 := blk_frozen BK399.out 0
       have hns34_0 := NB390_399.out
       have hns34_1 := NB391_399.out
       have hns34_3 := NB400_399.out
       have hms34_0 := NB399_390.out
       have hms34_1 := NB399_391.out
       have hms34_3 := NB399_400.out
       have hs35 : w33.cell? ⟨gb399, 1, none⟩ = some (.int .u64 0) := (blk_cell BK399.out 1).trans rfl
       have hfs35 := blk_frozen BK399.out 1
       have hns35_0 := NB390_399.out
       have hns35_1 := NB391_399.out
       have hns35_3 := NB400_399.out
       have hms35_0 := NB399_390.out
       have hms35_1 := NB399_391.out
       have hms35_3 := NB399_400.out
       refine skip_ (w1 := ?_) (by rfl) rfl ?_ ?_
       rotate_left
       ·go_simp
        rfl
       refine hK.out _ _ ⟨((cell_far (p := ⟨gb399, _, none⟩) NB390_399.out _).trans (((cell_far (p := ⟨gb399, _, none⟩) NB390_399.out _).trans (hHeld.1)))), ((cell_far (p := ⟨gb399, _, none⟩) NB390_399.out _).trans (((cell_far (p := ⟨gb399, _, none⟩) NB390_399.out _).trans (hHeld.2))))⟩ (fun hHeld => ?_)
       clear hK K
       refine one_ (i := 16) (N := none) #[true, true, true, true, true, true, true, true, true, true, true, true, true, true, true, true, true] rfl rfl (one_of HT_.out (by kernel_rfl)) (by decide) (fun K hK => ?_)
       have hs36 : w33.cell? ⟨gb400, 0, none⟩ = some (.int .u64 0) := (blk_cell BK400.out 0).trans rfl
       have hfs36 := blk_frozen BK400.out 0
       have hns36_0 := NB390_400.out
       have hns36_1 := NB391_400.out
       have hns36_2 := NB399_400.out
       have hms36_0 := NB400_390.out
       have hms36_1 := NB400_391.out
       have hms36_2 := NB400_399.out
       have hs37 : w33.cell? ⟨gb400, 1, none⟩ = some (.int .u64 0) := (blk_cell BK400.out 1).trans rfl
       have hfs37 := blk_frozen BK400.out 1
       have hns37_0 := NB390_400.out
       have hns37_1 := NB391_400.out
       have hns37_2 := NB399_400.out
       have hms37_0 := NB400_390.out
       have hms37_1 := NB400_391.out
       have hms37_2 := NB400_399.out
       refine skip_ (w1 := ?_) (by rfl) rfl ?_ ?_
       rotate_left
       ·go_simp
        rfl
       refine hK.out _ _ ⟨((cell_far (p := ⟨gb400, _, none⟩) NB390_400.out _).trans (((cell_far (p := ⟨gb400, _, none⟩) NB390_400.out _).trans (hHeld.1)))), ((cell_far (p := ⟨gb400, _, none⟩) NB390_400.out _).trans (((cell_far (p := ⟨gb400, _, none⟩) NB390_400.out _).trans (hHeld.2))))⟩ (fun hHeld => ?_)
       clear hK K
       refine done_ (done_of HT_.out (by kernel_rfl)) ?_
       have hnb38 := NB391_399.out
       have hnc38 := NB399_391.out
       have hnb39 := NB391_400.out
       have hnc39 := NB400_391.out
       obtain ⟨hcz40_0, hcz40_1⟩ := zc2 BK391
       obtain ⟨hfz40_0, hfz40_1⟩ := zf2 BK391
       try go_wp2_with (first | ((with_reducible refine gate_callee (f := 28) rfl ?_); refine goesL_ (some 27) rfl rfl Try.func28 (by kernel_rfl) rfl #[.int .i64 a0, .int .i64 a1, .agg #[.int .u64 a2_0, .int .u64 a2_1]] rfl (by (try simp only [List.map_toArray, List.map_cons, List.map_nil]); first | done | rfl | (simp only [List.length_drop, List.length_take]; rfl)) ?_; (with_reducible refine (steepleref33_Fits.calls k a0 a1 a2_0 a2_1 true _ A7.out).mono ?_); rintro e w41 ⟨rfl, hb⟩; refine ⟨_, rfl, ?_⟩; replace HO394 := Aside0.mk (Kd.R_below (by (with_reducible repeat refine kl ?_); exact (Kd.R_mono (Kd.R_mono (Kd.R_far (p := ⟨gb400, 1, none⟩) (Kd.R_far (p := ⟨gb400, 0, none⟩) (Kd.R_far (p := ⟨gb399, 1, none⟩) (Kd.R_far (p := ⟨gb399, 0, none⟩) (Kd.R_mono (Kd.R_mono HO394.out (fun k_ hk => (⟨hk, hk.2.1⟩ : _ ∧ k_ ≠ gb399))) (fun k_ hk => (⟨hk, hk.1.2.2⟩ : _ ∧ k_ ≠ gb400))) (fun _ hk => hk.1.2) (.int .u64 t395)) (fun _ hk => hk.1.2) (.int .u64 t396)) (fun _ hk => hk.2) (.int .u64 t397)) (fun _ hk => hk.2) (.int .u64 t398)) (fun _ h_ => h_.1)) (fun _ h_ => h_.1))) hb); replace BK390 := Aside0.mk (blk_below (g := gb390) (o := .cells #[.int .u64 a2_0, .int .u64 a2_1] 24 (0, 0)) (by (with_reducible repeat refine bl ?_); refine blk_far ?_ NB390_400.out _; (with_reducible repeat refine bl ?_); refine blk_far ?_ NB390_400.out _; (with_reducible repeat refine bl ?_); refine blk_far ?_ NB390_399.out _; (with_reducible repeat refine bl ?_); refine blk_far ?_ NB390_399.out _; (with_reducible repeat refine bl ?_); exact BK390.out) hb); replace BK391 := Aside0.mk (blk_below (g := gb391) (o := .cells #[.int .u64 a2_0, .int .u64 a2_1] 37 (0, 0)) (by (with_reducible repeat refine bl ?_); refine blk_far ?_ NB391_400.out _; (with_reducible repeat refine bl ?_); refine blk_far ?_ NB391_400.out _; (with_reducible repeat refine bl ?_); refine blk_far ?_ NB391_399.out _; (with_reducible repeat refine bl ?_); refine blk_far ?_ NB391_399.out _; (with_reducible repeat refine bl ?_); exact BK391.out) hb); replace BK399 := Aside0.mk (blk_below (g := gb399) (o := .cells #[.int .u64 t395, .int .u64 t396] 24 (0, 0)) (by (with_reducible repeat refine bl ?_); refine blk_far ?_ NB399_400.out _; (with_reducible repeat refine bl ?_); refine blk_far ?_ NB399_400.out _; (with_reducible repeat refine bl ?_); refine blk_put (cs := #[.int .u64 t395, .int .u64 0]) ?_ 1 _ rfl; (with_reducible repeat refine bl ?_); refine blk_put (cs := #[.int .u64 0, .int .u64 0]) ?_ 0 _ rfl; (with_reducible repeat refine bl ?_); exact BK399.out) hb); replace BK400 := Aside0.mk (blk_below (g := gb400) (o := .cells #[.int .u64 t397, .int .u64 t398] 24 (0, 0)) (by (with_reducible repeat refine bl ?_); refine blk_put (cs := #[.int .u64 t397, .int .u64 0]) ?_ 1 _ rfl; (with_reducible repeat refine bl ?_); refine blk_put (cs := #[.int .u64 0, .int .u64 0]) ?_ 0 _ rfl; (with_reducible repeat refine bl ?_); refine blk_far ?_ NB400_399.out _; (with_reducible repeat refine bl ?_); refine blk_far ?_ NB400_399.out _; (with_reducible repeat refine bl ?_); exact BK400.out) hb); replace HB := bh HB hb; (try clear hb); (try clear hb2); (try clear hk); (try clear hi)))
       replace HO394 := Aside0.mk (Kd.R_drew HO394.out)
       replace BK390 := Aside0.mk (blk_drew BK390.out)
       replace BK391 := Aside0.mk (blk_drew BK391.out)
       replace BK399 := Aside0.mk (blk_drew BK399.out)
       replace BK400 := Aside0.mk (blk_drew BK400.out)
       replace HB := Aside0.mk (below_drew1 HB.out)
       refine start_ (n := 36) (S := fun w' => w'.cell? ⟨gb391, 0, none⟩ = some (.int .u64 a2_0) ∧ w'.cell? ⟨gb391, 1, none⟩ = some (.int .u64 a2_1) ∧ w'.cell? ⟨gb399, 0, none⟩ = some (.int .u64 t395) ∧ w'.cell? ⟨gb399, 1, none⟩ = some (.int .u64 t396) ∧ w'.cell? ⟨gb400, 0, none⟩ = some (.int .u64 t397) ∧ w'.cell? ⟨gb400, 1, none⟩ = some (.int .u64 t398)) (ds := []) #[false, false, false, false, false, false, false, false, false, false, false, false, false, false, false, false, false, false, false, false, false, false, false, false, false, false, false, false, false, false, false, false, false, false, false, false] (by kernel_rfl) rfl rfl ⟨(blk_cell BK391.out 0).trans rfl, (blk_cell BK391.out 1).trans rfl, (blk_cell BK399.out 0).trans rfl, (blk_cell BK399.out 1).trans rfl, (blk_cell BK400.out 0).trans rfl, (blk_cell BK400.out 1).trans rfl⟩ (fun hHeld => ?_); refine with_tabW steeplelaw33_FrobTraces.tab5 steeplelaw33_FrobTraces.bits5 (fun HT_ HW_ => ?_)
       generalize w41.drew = w42 at HO394 BK390 BK391 BK399 BK400 HB hHeld ⊢
       refine one_ (i := 0) (N := some 45) #[true, false, false, false, false, false, false, false, false, false, false, false, false, false, false, false, false, false, false, false, false, false, false, false, false, false, false, false, false, false, false, false, false, false, false, false] rfl rfl (one_of HT_.out (by kernel_rfl)) (by decide) (fun K hK => ?_)
       refine goes_ Try.func14 (by kernel_rfl) rfl #[] (by rfl) rfl rfl (by (try simp only [List.map_toArray, List.map_cons, List.map_nil]); first | done | rfl | (simp only [List.length_drop, List.length_take]; rfl)) ?_
       with_reducible refine (steeplelaw33_awake.calls k  true _ A9.out).mono ?_
       rintro e w43 ⟨rfl, hb⟩
       refine ⟨_, rfl, ?_⟩
       replace HO394 := kb HO394 hb
       replace BK390 := bb BK390 hb
       replace BK391 := bb BK391 hb
       replace BK399 := bb BK399 hb
       replace BK400 := bb BK400 hb
       replace HB := bh HB hb
       (try clear hb)
       (try clear hb2)
       (try clear hk)
       (try clear hi)
       refine hK.out _ _ ⟨(blk_cell BK391.out 0).trans rfl, (blk_cell BK391.out 1).trans rfl, (blk_cell BK399.out 0).trans rfl, (blk_cell BK399.out 1).trans rfl, (blk_cell BK400.out 0).trans rfl, (blk_cell BK400.out 1).trans rfl⟩ (fun hHeld => ?_)
       clear hK K
       refine norm_ (a' := ?_) ?_ ?_
       rotate_left
       ·show Act.put _ (some 45) _ = _
        simp only [Act.put, List.setIfInBounds_toArray, List.set_cons_zero, List.set_cons_succ, i64_w, i32_w]
        rfl
       refine pure_ (i := 1) (N := some 46) (v := ?_) (a' := ?_) #[true, true, false, false, false, false, false, false, false, false, false, false, false, false, false, false, false, false, false, false, false, false, false, false, false, false, false, false, false, false, false, false, false, false, false, false] rfl rfl (any_of HT_.out (by kernel_rfl)) (fun _ _ _ h => h) (Or.inl ⟨by rfl, ?_⟩) ?_ ?_
       rotate_left
       ·intro w'
        go_simp
        with_reducible rfl
       rotate_left
       ·simp only [Act.put, List.setIfInBounds_toArray, List.set_cons_zero, List.set_cons_succ, i64_w, i32_w]
        rfl
       refine pure_ (i := 2) (N := some 47) (v := ?_) (a' := ?_) #[true, true, true, false, false, false, false, false, false, false, false, false, false, false, false, false, false, false, false, false, false, false, false, false, false, false, false, false, false, false, false, false, false, false, false, false] rfl rfl (any_of HT_.out (by kernel_rfl)) (fun _ _ _ h => h) (Or.inl ⟨by rfl, ?_⟩) ?_ ?_
       rotate_left
       ·intro w'
        go_simp
        with_reducible rfl
       rotate_left
       ·simp only [Act.put, List.setIfInBounds_toArray, List.set_cons_zero, List.set_cons_succ, i64_w, i32_w]
        rfl
       refine pure_ (i := 3) (N := some 48) (v := ?_) (a' := ?_) #[true, true, true, true, false, false, false, false, false, false, false, false, false, false, false, false, false, false, false, false, false, false, false, false, false, false, false, false, false, false, false, false, false, false, false, false] rfl rfl (any_of HT_.out (by kernel_rfl)) (fun _ _ _ h => h) (Or.inl ⟨by rfl, ?_⟩) ?_ ?_
       rotate_left
       ·intro w'
        go_simp
        with_reducible rfl
       rotate_left
       ·simp only [Act.put, List.setIfInBounds_toArray, List.set_cons_zero, List.set_cons_succ, i64_w, i32_w]
        rfl
       refine pure_ (i := 4) (N := some 49) (v := ?_) (a' := ?_) #[true, true, true, true, true, false, false, false, false, false, false, false, false, false, false, false, false, false, false, false, false, false, false, false, false, false, false, false, false, false, false, false, false, false, false, false] rfl rfl (any_of HT_.out (by kernel_rfl)) (fun _ _ _ h => h) (Or.inl ⟨by rfl, ?_⟩) ?_ ?_
       rotate_left
       ·intro w'
        go_simp
        with_reducible rfl
       rotate_left
       ·simp only [Act.put, List.setIfInBounds_toArray, List.set_cons_zero, List.set_cons_succ, i64_w, i32_w]
        rfl
       refine take_ (i := 5) (N := some 50) (v := ?_) (a' := ?_) #[true, true, true, true, true, true, false, false, false, false, false, false, false, false, false, false, false, false, false, false, false, false, false, false, false, false, false, false, false, false, false, false, false, false, false, false] rfl rfl (take_ofW HT_.out HW_.out (by kernel_rfl)) (fun _ _ _ h => h) (Or.inl ⟨by rfl, ?_⟩) hHeld ?_ ?_
       rotate_left
       ·rintro w' ⟨s0, s1, s2, s3, s4, s5⟩
        go_simp
        with_reducible rfl
       rotate_left
       ·simp only [Act.put, List.setIfInBounds_toArray, List.set_cons_zero, List.set_cons_succ, i64_w, i32_w]
        rfl
       refine one_ (i := 6) (N := some 51) #[true, true, true, true, true, true, true, false, false, false, false, false, false, false, false, false, false, false, false, false, false, false, false, false, false, false, false, false, false, false, false, false, false, false, false, false] rfl rfl (one_of HT_.out (by kernel_rfl)) (by decide) (fun K hK => ?_)
       refine goes_ Try.func30 (by kernel_rfl) rfl #[.int .i64 a0, .int .i64 a1, .agg #[.int .u64 a2_0, .int .u64 a2_1]] (by rfl) rfl rfl (by (try simp only [List.map_toArray, List.map_cons, List.map_nil]); first | done | rfl | (simp only [List.length_drop, List.length_take]; rfl)) ?_
       with_reducible refine (steepleref33_Conjugates.calls k a0 a1 a2_0 a2_1 t404 _ A11.out).mono ?_
       rintro e w44 ⟨v405, rfl, ho0, hb⟩
       refine ⟨_, rfl, ?_⟩
       have HO406 := Aside0.mk (Kd.R_lower (Kd.R_newB ho0 (g := gb391) (o := .cells #[.int .u64 a2_0, .int .u64 a2_1] 37 (0, 0)) (bk BK391.out)) (below_size (bq HB.out)))
       replace HO394 := kb HO394 hb
       replace BK390 := bb BK390 hb
       replace BK391 := bb BK391 hb
       replace BK399 := bb BK399 hb
       replace BK400 := bb BK400 hb
       replace HB := bh HB hb
       (try clear hb)
       (try clear hb2)
       (try clear hk)
       (try clear hi)
       (try clear ho0)
       obtain ⟨Ao45, co45, eo45⟩ := Kd.R_slice HO394.out
       (first | subst eo45 | (injection eo45 with f1_ f2_ f3_; have f4_ := f1_.symm; have f5_ := f3_.symm; clear f1_ f2_ f3_; subst f4_; subst f5_))
       obtain ⟨Ao46, co46, eo46⟩ := Kd.R_slice HO406.out
       (first | subst eo46 | (injection eo46 with f1_ f2_ f3_; have f4_ := f1_.symm; have f5_ := f3_.symm; clear f1_ f2_ f3_; subst f4_; subst f5_))
       refine hK.out _ _ ⟨(blk_cell BK391.out 0).trans rfl, (blk_cell BK391.out 1).trans rfl, (blk_cell BK399.out 0).trans rfl, (blk_cell BK399.out 1).trans rfl, (blk_cell BK400.out 0).trans rfl, (blk_cell BK400.out 1).trans rfl⟩ (fun hHeld => ?_)
       clear hK K
       refine norm_ (a' := ?_) ?_ ?_
       rotate_left
       ·show Act.put _ (some 51) _ = _
        simp only [Act.put, List.setIfInBounds_toArray, List.set_cons_zero, List.set_cons_succ, i64_w, i32_w]
        rfl
       refine one_ (i := 7) (N := some 52) #[true, true, true, true, true, true, true, true, false, false, false, false, false, false, false, false, false, false, false, false, false, false, false, false, false, false, false, false, false, false, false, false, false, false, false, false] rfl rfl (one_of HT_.out (by kernel_rfl)) (by decide) (fun K hK => ?_)
       refine goes_ Try.func29 (by kernel_rfl) rfl #[.slice Ao45 t392.length co45, .slice Ao46 t404.length co46] (by rfl) rfl rfl (by (try simp only [List.map_toArray, List.map_cons, List.map_nil]); first | done | rfl | (simp only [List.length_drop, List.length_take]; rfl)) ?_
       with_reducible refine (steeplelaw01_Same.calls k _ _ t392 _ _ t404 true _ ?side1 ?side2 ?side3 ?side4 A12.out).mono ?_
       (case side1 => repeat (first | exact (Kd.R_reads' HO394.out).2.2 | (with_reducible refine Kd.C_alloc ?_ _) | (with_reducible refine Kd.C_drewN ?_ _) | (with_reducible refine Kd.C_drew ?_)))
       (case side2 => exact (Kd.R_reads' HO394.out).2.1)
       (case side3 => repeat (first | exact (Kd.R_reads' HO406.out).2.2 | (with_reducible refine Kd.C_alloc ?_ _) | (with_reducible refine Kd.C_drewN ?_ _) | (with_reducible refine Kd.C_drew ?_)))
       (case side4 => exact (Kd.R_reads' HO406.out).2.1)
       rintro e w' ⟨rfl, ⟨nd, rfl⟩⟩
       refine ⟨_, rfl, ?_⟩
       refine hK.out _ _ ⟨(blk_cell BK391.out 0).trans rfl, (blk_cell BK391.out 1).trans rfl, (blk_cell BK399.out 0).trans rfl, (blk_cell BK399.out 1).trans rfl, (blk_cell BK400.out 0).trans rfl, (blk_cell BK400.out 1).trans rfl⟩ (fun hHeld => ?_)
       clear hK K
       refine norm_ (a' := ?_) ?_ ?_
       rotate_left
       ·show Act.put _ (some 52) _ = _
        simp only [Act.put, List.setIfInBounds_toArray, List.set_cons_zero, List.set_cons_succ, i64_w, i32_w]
        rfl
       refine pure_ (i := 8) (N := some 53) (v := ?_) (a' := ?_) #[true, true, true, true, true, true, true, true, true, false, false, false, false, false, false, false, false, false, false, false, false, false, false, false, false, false, false, false, false, false, false, false, false, false, false, false] rfl rfl (any_of HT_.out (by kernel_rfl)) (fun _ _ _ h => h) (Or.inl ⟨by rfl, ?_⟩) ?_ ?_
       rotate_left
       ·intro w'
        go_simp
        with_reducible rfl
       rotate_left
       ·simp only [Act.put, List.setIfInBounds_toArray, List.set_cons_zero, List.set_cons_succ, i64_w, i32_w]
        rfl
       refine pure_ (i := 9) (N := some 54) (v := ?_) (a' := ?_) #[true, true, true, true, true, true, true, true, true, true, false, false, false, false, false, false, false, false, false, false, false, false, false, false, false, false, false, false, false, false, false, false, false, false, false, false] rfl rfl (any_of HT_.out (by kernel_rfl)) (fun _ _ _ h => h) (Or.inl ⟨by rfl, ?_⟩) ?_ ?_
       rotate_left
       ·intro w'
        go_simp
        with_reducible rfl
       rotate_left
       ·simp only [Act.put, List.setIfInBounds_toArray, List.set_cons_zero, List.set_cons_succ, i64_w, i32_w]
        rfl
       refine pure_ (i := 11) (N := some 56) (v := ?_) (a' := ?_) #[true, true, true, true, true, true, true, true, true, true, false, true, false, false, false, false, false, false, false, false, false, false, false, false, false, false, false, false, false, false, false, false, false, false, false, false] rfl rfl (any_of HT_.out (by kernel_rfl)) (fun _ _ _ h => h) (Or.inl ⟨by rfl, ?_⟩) ?_ ?_
       rotate_left
       ·intro w'
        go_simp
        with_reducible rfl
       rotate_left
       ·simp only [Act.put, List.setIfInBounds_toArray, List.set_cons_zero, List.set_cons_succ, i64_w, i32_w]
        rfl
       refine pure_ (i := 12) (N := some 57) (v := ?_) (a' := ?_) #[true, true, true, true, true, true, true, true, true, true, false, true, true, false, false, false, false, false, false, false, false, false, false, false, false, false, false, false, false, false, false, false, false, false, false, false] rfl rfl (any_of HT_.out (by kernel_rfl)) (fun _ _ _ h => h) (Or.inl ⟨by rfl, ?_⟩) ?_ ?_
       rotate_left
       ·intro w'
        go_simp
        with_reducible rfl
       rotate_left
       ·simp only [Act.put, List.setIfInBounds_toArray, List.set_cons_zero, List.set_cons_succ, i64_w, i32_w]
        rfl
       refine take_ (i := 10) (N := some 55) (v := ?_) (a' := ?_) #[true, true, true, true, true, true, true, true, true, true, true, true, true, false, false, false, false, false, false, false, false, false, false, false, false, false, false, false, false, false, false, false, false, false, false, false] rfl rfl (take_ofW HT_.out HW_.out (by kernel_rfl)) (fun _ _ _ h => h) (Or.inl ⟨by rfl, ?_⟩) hHeld ?_ ?_
       rotate_left
       ·rintro w' ⟨s0, s1, s2, s3, s4, s5⟩
        go_simp
        with_reducible rfl
       rotate_left
       ·simp only [Act.put, List.setIfInBounds_toArray, List.set_cons_zero, List.set_cons_succ, i64_w, i32_w]
        rfl
       refine take_ (i := 13) (N := some 58) (v := ?_) (a' := ?_) #[true, true, true, true, true, true, true, true, true, true, true, true, true, true, false, false, false, false, false, false, false, false, false, false, false, false, false, false, false, false, false, false, false, false, false, false] rfl rfl (take_ofW HT_.out HW_.out (by kernel_rfl)) (fun _ _ _ h => h) (Or.inl ⟨by rfl, ?_⟩) hHeld ?_ ?_
       rotate_left
       ·rintro w' ⟨s0, s1, s2, s3, s4, s5⟩
        go_simp
        with_reducible rfl
       rotate_left
       ·simp only [Act.put, List.setIfInBounds_toArray, List.set_cons_zero, List.set_cons_succ, i64_w, i32_w]
        rfl
       refine one_ (i := 14) (N := some 59) #[true, true, true, true, true, true, true, true, true, true, true, true, true, true, true, false, false, false, false, false, false, false, false, false, false, false, false, false, false, false, false, false, false, false, false, false] rfl rfl (one_of HT_.out (by kernel_rfl)) (by decide) (fun K hK => ?_)
       refine goes_ Try.func31 (by kernel_rfl) rfl #[.int .i64 a0, .int .i64 a1, .agg #[.int .u64 a2_0, .int .u64 a2_1]] (by rfl) rfl rfl (by (try simp only [List.map_toArray, List.map_cons, List.map_nil]); first | done | rfl | (simp only [List.length_drop, List.length_take]; rfl)) ?_
       with_reducible refine (steepleref33_Trace.calls k a0 a1 a2_0 a2_1 t408 t409 _ A14.out).mono ?_
       rintro e w47 ⟨rfl, hb⟩
       refine ⟨_, rfl, ?_⟩
       replace HO394 := kb HO394 hb
       replace HO406 := kb HO406 hb
       replace BK390 := bb BK390 hb
       replace BK391 := bb BK391 hb
       replace BK399 := bb BK399 hb
       replace BK400 := bb BK400 hb
       replace HB := bh HB hb
       (try clear hb)
       (try clear hb2)
       (try clear hk)
       (try clear hi)
       refine hK.out _ _ ⟨(blk_cell BK391.out 0).trans rfl, (blk_cell BK391.out 1).trans rfl, (blk_cell BK399.out 0).trans rfl, (blk_cell BK399.out 1).trans rfl, (blk_cell BK400.out 0).trans rfl, (blk_cell BK400.out 1).trans rfl⟩ (fun hHeld => ?_)
       clear hK K
       refine norm_ (a' := ?_) ?_ ?_
       rotate_left
       ·show Act.put _ (some 59) _ = _
        simp only [Act.put, List.setIfInBounds_toArray, List.set_cons_zero, List.set_cons_succ, i64_w, i32_w]
        rfl
       refine pure_ (i := 15) (N := some 60) (v := ?_) (a' := ?_) #[true, true, true, true, true, true, true, true, true, true, true, true, true, true, true, true, false, false, false, false, false, false, false, false, false, false, false, false, false, false, false, false, false, false, false, false] rfl rfl (any_of HT_.out (by kernel_rfl)) (fun _ _ _ h => h) (Or.inl ⟨by rfl, ?_⟩) ?_ ?_
       rotate_left
       ·intro w'
        go_simp
        with_reducible rfl
       rotate_left
       ·simp only [Act.put, List.setIfInBounds_toArray, List.set_cons_zero, List.set_cons_succ, i64_w, i32_w]
        rfl
       refine pure_ (i := 16) (N := some 61) (v := ?_) (a' := ?_) #[true, true, true, true, true, true, true, true, true, true, true, true, true, true, true, true, true, false, false, false, false, false, false, false, false, false, false, false, false, false, false, false, false, false, false, false] rfl rfl (any_of HT_.out (by kernel_rfl)) (fun _ _ _ h => h) (Or.inl ⟨by rfl, ?_⟩) ?_ ?_
       rotate_left
       ·intro w'
        go_simp
        with_reducible rfl
       rotate_left
       ·simp only [Act.put, List.setIfInBounds_toArray, List.set_cons_zero, List.set_cons_succ, i64_w, i32_w]
        rfl
       refine pure_ (i := 17) (N := some 62) (v := ?_) (a' := ?_) #[true, true, true, true, true, true, true, true, true, true, true, true, true, true, true, true, true, true, false, false, false, false, false, false, false, false, false, false, false, false, false, false, false, false, false, false] rfl rfl (any_of HT_.out (by kernel_rfl)) (fun _ _ _ h => h) (Or.inl ⟨by rfl, ?_⟩) ?_ ?_
       rotate_left
       ·intro w'
        go_simp
        with_reducible rfl
       rotate_left
       ·simp only [Act.put, List.setIfInBounds_toArray, List.set_cons_zero, List.set_cons_succ, i64_w, i32_w]
        rfl
       refine pure_ (i := 19) (N := some 64) (v := ?_) (a' := ?_) #[true, true, true, true, true, true, true, true, true, true, true, true, true, true, true, true, true, true, false, true, false, false, false, false, false, false, false, false, false, false, false, false, false, false, false, false] rfl rfl (any_of HT_.out (by kernel_rfl)) (fun _ _ _ h => h) (Or.inl ⟨by rfl, ?_⟩) ?_ ?_
       rotate_left
       ·intro w'
        go_simp
        with_reducible rfl
       rotate_left
       ·simp only [Act.put, List.setIfInBounds_toArray, List.set_cons_zero, List.set_cons_succ, i64_w, i32_w]
        rfl
       refine pure_ (i := 20) (N := some 65) (v := ?_) (a' := ?_) #[true, true, true, true, true, true, true, true, true, true, true, true, true, true, true, true, true, true, false, true, true, false, false, false, false, false, false, false, false, false, false, false, false, false, false, false] rfl rfl (any_of HT_.out (by kernel_rfl)) (fun _ _ _ h => h) (Or.inl ⟨by rfl, ?_⟩) ?_ ?_
       rotate_left
       ·intro w'
        go_simp
        with_reducible rfl
       rotate_left
       ·simp only [Act.put, List.setIfInBounds_toArray, List.set_cons_zero, List.set_cons_succ, i64_w, i32_w]
        rfl
       refine take_ (i := 18) (N := some 63) (v := ?_) (a' := ?_) #[true, true, true, true, true, true, true, true, true, true, true, true, true, true, true, true, true, true, true, true, true, false, false, false, false, false, false, false, false, false, false, false, false, false, false, false] rfl rfl (take_ofW HT_.out HW_.out (by kernel_rfl)) (fun _ _ _ h => h) (Or.inl ⟨by rfl, ?_⟩) hHeld ?_ ?_
       rotate_left
       ·rintro w' ⟨s0, s1, s2, s3, s4, s5⟩
        go_simp
        with_reducible rfl
       rotate_left
       ·simp only [Act.put, List.setIfInBounds_toArray, List.set_cons_zero, List.set_cons_succ, i64_w, i32_w]
        rfl
       refine take_ (i := 21) (N := some 66) (v := ?_) (a' := ?_) #[true, true, true, true, true, true, true, true, true, true, true, true, true, true, true, true, true, true, true, true, true, true, false, false, false, false, false, false, false, false, false, false, false, false, false, false] rfl rfl (take_ofW HT_.out HW_.out (by kernel_rfl)) (fun _ _ _ h => h) (Or.inl ⟨by rfl, ?_⟩) hHeld ?_ ?_
       rotate_left
       ·rintro w' ⟨s0, s1, s2, s3, s4, s5⟩
        go_simp
        with_reducible rfl
       rotate_left
       ·simp only [Act.put, List.setIfInBounds_toArray, List.set_cons_zero, List.set_cons_succ, i64_w, i32_w]
        rfl
       refine one_ (i := 22) (N := some 67) #[true, true, true, true, true, true, true, true, true, true, true, true, true, true, true, true, true, true, true, true, true, true, true, false, false, false, false, false, false, false, false, false, false, false, false, false] rfl rfl (one_of HT_.out (by kernel_rfl)) (by decide) (fun K hK => ?_)
       refine goes_ Try.func32 (by kernel_rfl) rfl #[.int .i64 a0, .int .i64 a1, .agg #[.int .u64 a2_0, .int .u64 a2_1]] (by rfl) rfl rfl (by (try simp only [List.map_toArray, List.map_cons, List.map_nil]); first | done | rfl | (simp only [List.length_drop, List.length_take]; rfl)) ?_
       with_reducible refine (steepleref33_Norm.calls k a0 a1 a2_0 a2_1 t410 t411 _ A16.out).mono ?_
       rintro e w48 ⟨rfl, hb⟩
       refine ⟨_, rfl, ?_⟩
       replace HO394 := kb HO394 hb
       replace HO406 := kb HO406 hb
       replace BK390 := bb BK390 hb
       replace BK391 := bb BK391 hb
       replace BK399 := bb BK399 hb
       replace BK400 := bb BK400 hb
       replace HB := bh HB hb
       (try clear hb)
       (try clear hb2)
       (try clear hk)
       (try clear hi)
       refine hK.out _ _ ⟨(blk_cell BK391.out 0).trans rfl, (blk_cell BK391.out 1).trans rfl, (blk_cell BK399.out 0).trans rfl, (blk_cell BK399.out 1).trans rfl, (blk_cell BK400.out 0).trans rfl, (blk_cell BK400.out 1).trans rfl⟩ (fun hHeld => ?_)
       clear hK K
       refine norm_ (a' := ?_) ?_ ?_
       rotate_left
       ·show Act.put _ (some 67) _ = _
        simp only [Act.put, List.setIfInBounds_toArray, List.set_cons_zero, List.set_cons_succ, i64_w, i32_w]
        rfl
       refine pure_ (i := 23) (N := some 68) (v := ?_) (a' := ?_) #[true, true, true, true, true, true, true, true, true, true, true, true, true, true, true, true, true, true, true, true, true, true, true, true, false, false, false, false, false, false, false, false, false, false, false, false] rfl rfl (any_of HT_.out (by kernel_rfl)) (fun _ _ _ h => h) (Or.inl ⟨by rfl, ?_⟩) ?_ ?_
       rotate_left
       ·intro w'
        go_simp
        with_reducible rfl
       rotate_left
       ·simp only [Act.put, List.setIfInBounds_toArray, List.set_cons_zero, List.set_cons_succ, i64_w, i32_w]
        rfl
       refine pure_ (i := 24) (N := some 69) (v := ?_) (a' := ?_) #[true, true, true, true, true, true, true, true, true, true, true, true, true, true, true, true, true, true, true, true, true, true, true, true, true, false, false, false, false, false, false, false, false, false, false, false] rfl rfl (any_of HT_.out (by kernel_rfl)) (fun _ _ _ h => h) (Or.inl ⟨by rfl, ?_⟩) ?_ ?_
       rotate_left
       ·intro w'
        go_simp
        with_reducible rfl
       rotate_left
       ·simp only [Act.put, List.setIfInBounds_toArray, List.set_cons_zero, List.set_cons_succ, i64_w, i32_w]
        rfl
       refine pure_ (i := 25) (N := some 70) (v := ?_) (a' := ?_) #[true, true, true, true, true, true, true, true, true, true, true, true, true, true, true, true, true, true, true, true, true, true, true, true, true, true, false, false, false, false, false, false, false, false, false, false] rfl rfl (any_of HT_.out (by kernel_rfl)) (fun _ _ _ h => h) (Or.inl ⟨by rfl, ?_⟩) ?_ ?_
       rotate_left
       ·intro w'
        go_simp
        with_reducible rfl
       rotate_left
       ·simp only [Act.put, List.setIfInBounds_toArray, List.set_cons_zero, List.set_cons_succ, i64_w, i32_w]
        rfl
       refine pure_ (i := 26) (N := some 71) (v := ?_) (a' := ?_) #[true, true, true, true, true, true, true, true, true, true, true, true, true, true, true, true, true, true, true, true, true, true, true, true, true, true, true, false, false, false, false, false, false, false, false, false] rfl rfl (any_of HT_.out (by kernel_rfl)) (fun _ _ _ h => h) (Or.inl ⟨by rfl, ?_⟩) ?_ ?_
       rotate_left
       ·intro w'
        go_simp
        with_reducible rfl
       rotate_left
       ·simp only [Act.put, List.setIfInBounds_toArray, List.set_cons_zero, List.set_cons_succ, i64_w, i32_w]
        rfl
       refine take_ (i := 27) (N := some 72) (v := ?_) (a' := ?_) #[true, true, true, true, true, true, true, true, true, true, true, true, true, true, true, true, true, true, true, true, true, true, true, true, true, true, true, true, false, false, false, false, false, false, false, false] rfl rfl (take_ofW HT_.out HW_.out (by kernel_rfl)) (fun _ _ _ h => h) (Or.inl ⟨by rfl, ?_⟩) hHeld ?_ ?_
       rotate_left
       ·rintro w' ⟨s0, s1, s2, s3, s4, s5⟩
        go_simp
        with_reducible rfl
       rotate_left
       ·simp only [Act.put, List.setIfInBounds_toArray, List.set_cons_zero, List.set_cons_succ, i64_w, i32_w]
        rfl
       refine one_ (i := 28) (N := some 73) #[true, true, true, true, true, true, true, true, true, true, true, true, true, true, true, true, true, true, true, true, true, true, true, true, true, true, true, true, true, false, false, false, false, false, false, false] rfl rfl (one_of HT_.out (by kernel_rfl)) (by decide) (fun K hK => ?_)
       refine goes_ Try.func26 (by kernel_rfl) rfl #[.int .i64 a1, .agg #[.int .u64 t395, .int .u64 t396]] (by rfl) rfl rfl (by (try simp only [List.map_toArray, List.map_cons, List.map_nil]); first | done | rfl | (simp only [List.length_drop, List.length_take]; rfl)) ?_
       with_reducible refine (octet_Of.calls k a1 t395 t396 true _ A18.out).mono ?_
       rintro e w49 ⟨rfl, hb⟩
       refine ⟨_, rfl, ?_⟩
       replace HO394 := kb HO394 hb
       replace HO406 := kb HO406 hb
       replace BK390 := bb BK390 hb
       replace BK391 := bb BK391 hb
       replace BK399 := bb BK399 hb
       replace BK400 := bb BK400 hb
       replace HB := bh HB hb
       (try clear hb)
       (try clear hb2)
       (try clear hk)
       (try clear hi)
       refine hK.out _ _ ⟨(blk_cell BK391.out 0).trans rfl, (blk_cell BK391.out 1).trans rfl, (blk_cell BK399.out 0).trans rfl, (blk_cell BK399.out 1).trans rfl, (blk_cell BK400.out 0).trans rfl, (blk_cell BK400.out 1).trans rfl⟩ (fun hHeld => ?_)
       clear hK K
       refine norm_ (a' := ?_) ?_ ?_
       rotate_left
       ·show Act.put _ (some 73) _ = _
        simp only [Act.put, List.setIfInBounds_toArray, List.set_cons_zero, List.set_cons_succ, i64_w, i32_w]
        rfl
       refine pure_ (i := 29) (N := some 74) (v := ?_) (a' := ?_) #[true, true, true, true, true, true, true, true, true, true, true, true, true, true, true, true, true, true, true, true, true, true, true, true, true, true, true, true, true, true, false, false, false, false, false, false] rfl rfl (any_of HT_.out (by kernel_rfl)) (fun _ _ _ h => h) (Or.inl ⟨by rfl, ?_⟩) ?_ ?_
       rotate_left
       ·intro w'
        go_simp
        with_reducible rfl
       rotate_left
       ·simp only [Act.put, List.setIfInBounds_toArray, List.set_cons_zero, List.set_cons_succ, i64_w, i32_w]
        rfl
       refine pure_ (i := 30) (N := some 75) (v := ?_) (a' := ?_) #[true, true, true, true, true, true, true, true, true, true, true, true, true, true, true, true, true, true, true, true, true, true, true, true, true, true, true, true, true, true, true, false, false, false, false, false] rfl rfl (any_of HT_.out (by kernel_rfl)) (fun _ _ _ h => h) (Or.inl ⟨by rfl, ?_⟩) ?_ ?_
       rotate_left
       ·intro w'
        go_simp
        with_reducible rfl
       rotate_left
       ·simp only [Act.put, List.setIfInBounds_toArray, List.set_cons_zero, List.set_cons_succ, i64_w, i32_w]
        rfl
       refine pure_ (i := 31) (N := some 76) (v := ?_) (a' := ?_) #[true, true, true, true, true, true, true, true, true, true, true, true, true, true, true, true, true, true, true, true, true, true, true, true, true, true, true, true, true, true, true, true, false, false, false, false] rfl rfl (any_of HT_.out (by kernel_rfl)) (fun _ _ _ h => h) (Or.inl ⟨by rfl, ?_⟩) ?_ ?_
       rotate_left
       ·intro w'
        go_simp
        with_reducible rfl
       rotate_left
       ·simp only [Act.put, List.setIfInBounds_toArray, List.set_cons_zero, List.set_cons_succ, i64_w, i32_w]
        rfl
       refine take_ (i := 32) (N := some 77) (v := ?_) (a' := ?_) #[true, true, true, true, true, true, true, true, true, true, true, true, true, true, true, true, true, true, true, true, true, true, true, true, true, true, true, true, true, true, true, true, true, false, false, false] rfl rfl (take_ofW HT_.out HW_.out (by kernel_rfl)) (fun _ _ _ h => h) (Or.inl ⟨by rfl, ?_⟩) hHeld ?_ ?_
       rotate_left
       ·rintro w' ⟨s0, s1, s2, s3, s4, s5⟩
        go_simp
        with_reducible rfl
       rotate_left
       ·simp only [Act.put, List.setIfInBounds_toArray, List.set_cons_zero, List.set_cons_succ, i64_w, i32_w]
        rfl
       refine one_ (i := 33) (N := some 78) #[true, true, true, true, true, true, true, true, true, true, true, true, true, true, true, true, true, true, true, true, true, true, true, true, true, true, true, true, true, true, true, true, true, true, false, false] rfl rfl (one_of HT_.out (by kernel_rfl)) (by decide) (fun K hK => ?_)
       refine goes_ Try.func26 (by kernel_rfl) rfl #[.int .i64 a1, .agg #[.int .u64 t397, .int .u64 t398]] (by rfl) rfl rfl (by (try simp only [List.map_toArray, List.map_cons, List.map_nil]); first | done | rfl | (simp only [List.length_drop, List.length_take]; rfl)) ?_
       with_reducible refine (octet_Of.calls k a1 t397 t398 t413 _ A20.out).mono ?_
       rintro e w50 ⟨rfl, hb⟩
       refine ⟨_, rfl, ?_⟩
       replace HO394 := kb HO394 hb
       replace HO406 := kb HO406 hb
       replace BK390 := bb BK390 hb
       replace BK391 := bb BK391 hb
       replace BK399 := bb BK399 hb
       replace BK400 := bb BK400 hb
       replace HB := bh HB hb
       (try clear hb)
       (try clear hb2)
       (try clear hk)
       (try clear hi)
       refine hK.out _ _ ⟨(blk_cell BK391.out 0).trans rfl, (blk_cell BK391.out 1).trans rfl, (blk_cell BK399.out 0).trans rfl, (blk_cell BK399.out 1).trans rfl, (blk_cell BK400.out 0).trans rfl, (blk_cell BK400.out 1).trans rfl⟩ (fun hHeld => ?_)
       clear hK K
       refine norm_ (a' := ?_) ?_ ?_
       rotate_left
       ·show Act.put _ (some 78) _ = _
        simp only [Act.put, List.setIfInBounds_toArray, List.set_cons_zero, List.set_cons_succ, i64_w, i32_w]
        rfl
       refine pure_ (i := 34) (N := some 79) (v := ?_) (a' := ?_) #[true, true, true, true, true, true, true, true, true, true, true, true, true, true, true, true, true, true, true, true, true, true, true, true, true, true, true, true, true, true, true, true, true, true, true, false] rfl rfl (any_of HT_.out (by kernel_rfl)) (fun _ _ _ h => h) (Or.inl ⟨by rfl, ?_⟩) ?_ ?_
       rotate_left
       ·intro w'
        go_simp
        with_reducible rfl
       rotate_left
       ·simp only [Act.put, List.setIfInBounds_toArray, List.set_cons_zero, List.set_cons_succ, i64_w, i32_w]
        rfl
       refine pure_ (i := 35) (N := some 6) (v := ?_) (a' := ?_) #[true, true, true, true, true, true, true, true, true, true, true, true, true, true, true, true, true, true, true, true, true, true, true, true, true, true, true, true, true, true, true, true, true, true, true, true] rfl rfl (any_of HT_.out (by kernel_rfl)) (fun _ _ _ h => h) (Or.inl ⟨by rfl, ?_⟩) ?_ ?_
       rotate_left
       ·intro w'
        go_simp
        with_reducible rfl
       rotate_left
       ·simp only [Act.put, List.setIfInBounds_toArray, List.set_cons_zero, List.set_cons_succ, i64_w, i32_w]
        rfl
       refine done_ (done_of HT_.out (by kernel_rfl)) ?_
       try go_wp2
       go_ret
       exact ⟨by first | rfl | (simp [errW_none, errW_some] <;> rfl) | (simp [*, errW_none, errW_some] <;> rfl), bq HB.out⟩
      ·replace c19 := Bool.eq_false_iff.mpr c19
       subst c19
       have H1 : (none) = some r := by rw [if_neg (show ¬ (false = true) by decide)] at H; exact H
       clear H
       have H := H1
       clear H1
       exact absurd H (by simp)
     ·rw [if_neg c17] at H
      have c17b0 : (t397 == t410 && (t398 == t411)) = false := by simpa using c17
      (try (have c17b1 : decide (t397 = t410 && (t398 == t411)) = false := by simpa using c17))
      (try (have c17b2 : (t397 == t410 && (t398 == t411)) = false := by simpa using c17))
      (try (have c17b3 : ¬ (t397 = t410 && (t398 == t411)) := by simpa using c17))
      clear c17
      exact absurd H (by simp)
    ·rw [if_neg c15] at H
     have c15b0 : (t395 == t408 && (t396 == t409)) = false := by simpa using c15
     (try (have c15b1 : decide (t395 = t408 && (t396 == t409)) = false := by simpa using c15))
     (try (have c15b2 : (t395 == t408 && (t396 == t409)) = false := by simpa using c15))
     (try (have c15b3 : ¬ (t395 = t408 && (t396 == t409)) := by simpa using c15))
     clear c15
     exact absurd H (by simp)
   ·replace c13 := Bool.eq_false_iff.mpr c13
    subst c13
    have H1 : (none) = some r := by rw [if_neg (show ¬ (false = true) by decide)] at H; exact H
    clear H
    have H := H1
    clear H1
    exact absurd H (by simp)
  ·replace c10 := Bool.eq_false_iff.mpr c10
   subst c10
   have H1 : (none) = some r := by rw [if_neg (show ¬ (false = true) by decide)] at H; exact H
   clear H
   have H := H1
   clear H1
   exact absurd H (by simp)
 ·replace c8 := Bool.eq_false_iff.mpr c8
  subst c8
  have H1 : ((steeplelaw33_awake.f k).bind fun t402 => (if t402 = true then (if (t392.length : Int) = 0 then (if (t395 == 0 && (t396 == 0)) = true then (some (t397 == 0 && (t398 == 0))) else (none)) else (none)) else (none))) = some r := by rw [if_neg (show ¬ (false = true) by decide)] at H; exact H
  clear H
  have H := H1
  clear H1
  replace H := Option.bind_eq_some_iff.mp H
  obtain ⟨t402, A510, H⟩ := H
  replace H : (if t402 = true then (if (t392.length : Int) = 0 then (if (t395 == 0 && (t396 == 0)) = true then (some (t397 == 0 && (t398 == 0))) else (none)) else (none)) else (none)) = some r := H
  have A51 := Aside0.mk A510
  clear A510
  by_cases c52 : t402 = true
  ·subst c52
   have H1 : (if (t392.length : Int) = 0 then (if (t395 == 0 && (t396 == 0)) = true then (some (t397 == 0 && (t398 == 0))) else (none)) else (none)) = some r := by rw [if_pos rfl] at H; exact H
   clear H
   have H := H1
   clear H1
   by_cases c53 : (t392.length : Int) = 0
   ·rw [if_pos c53] at H
    have c53b0 : ((t392.length : Int) == 0) = true := beq_iff_eq.mpr c53
    have c53b1 : ((t392.length : Int) != 0) = false := bne_eq_false_iff_eq.mpr c53
    clear c53
    by_cases c54 : (t395 == 0 && (t396 == 0)) = true
    ·rw [if_pos c54] at H
     have c54b0 : (t395 == 0 && (t396 == 0)) = true := c54
     (try (have c54b1 : decide (t395 = 0 && (t396 == 0)) = true := by simpa using c54))
     (try (have c54b2 : (t395 == 0 && (t396 == 0)) = true := by simpa using c54))
     clear c54
     obtain rfl := Option.some.inj H
     go_enter Try.func7, Try.ntmps7
     try go_wp2_with (first | ((with_reducible refine gate_dst (N := 5) rfl ?_); (try (refine gate_guard (by rfl) ?_; dsimp only)); refine box_event ?hg (N := 5) ?hd (cs := #[.int .u64 a2_0, .int .u64 a2_1]) (t := 24) ?hr ?_; (case hd => rfl); (case hg => rfl); (case hr => first | (go_simp; done) | (go_simp; rfl)); intro gb390 hg w55 hbox hb; have BK390 := Aside0.mk hbox; have GW390 := ge hg HB; have GE390 := ge hg HB; replace HB := bh HB hb; clear hb hbox hg; obtain ⟨hcz56_0, hcz56_1⟩ := zc2 BK390; obtain ⟨hfz56_0, hfz56_1⟩ := zf2 BK390) | ((with_reducible refine gate_dst (N := 7) rfl ?_); (try (refine gate_guard (by rfl) ?_; dsimp only)); refine box_event ?hg (N := 7) ?hd (cs := #[.int .u64 0, .int .u64 0]) (t := 37) ?hr ?_; (case hd => rfl); (case hg => rfl); (case hr => first | (go_simp; done) | (go_simp; rfl)); intro gb391 hg w57 hbox hb; have BK391 := Aside0.mk hbox; have GW391 := ge hg HB; have GE391 := ge hg HB; have NB390_391 := nl hg BK390; have NB391_390 := ng hg BK390; replace BK390 := bb BK390 hb; replace HB := bh HB hb; clear hb hbox hg; have hnb58 := NB391_390.out; have hnc58 := NB390_391.out; obtain ⟨hcz59_0, hcz59_1⟩ := zc2 BK391; obtain ⟨hfz59_0, hfz59_1⟩ := zf2 BK391))
     have n0_ : Aside0 (((w57.setCell ⟨gb391, 0, none⟩ (.int .u64 a2_0)).setCell ⟨gb391, 1, none⟩ (.int .u64 a2_1)).heap[gb390]? = some (.cells #[.int .u64 a2_0, .int .u64 a2_1] 24 (0, 0))) := ⟨by (with_reducible repeat refine bl ?_); refine blk_far ?_ NB390_391.out _; (with_reducible repeat refine bl ?_); refine blk_far ?_ NB390_391.out _; (with_reducible repeat refine bl ?_); exact BK390.out⟩
     have n1_ : Aside0 (((w57.setCell ⟨gb391, 0, none⟩ (.int .u64 a2_0)).setCell ⟨gb391, 1, none⟩ (.int .u64 a2_1)).heap[gb391]? = some (.cells #[.int .u64 a2_0, .int .u64 a2_1] 37 (0, 0))) := ⟨by (with_reducible repeat refine bl ?_); refine blk_put (cs := #[.int .u64 a2_0, .int .u64 0]) ?_ 1 _ rfl; (with_reducible repeat refine bl ?_); refine blk_put (cs := #[.int .u64 0, .int .u64 0]) ?_ 0 _ rfl; (with_reducible repeat refine bl ?_); exact BK391.out⟩
     have n2_ : Aside0 (Below w.heap.size w ((w57.setCell ⟨gb391, 0, none⟩ (.int .u64 a2_0)).setCell ⟨gb391, 1, none⟩ (.int .u64 a2_1))) := ⟨bq HB.out⟩
     (try clear BK390)
     (try clear BK391)
     (try clear HB)
     generalize ((w57.setCell ⟨gb391, 0, none⟩ (.int .u64 a2_0)).setCell ⟨gb391, 1, none⟩ (.int .u64 a2_1)) = w60 at n0_ n1_ n2_ ⊢
     have BK390 := n0_
     have BK391 := n1_
     have HB := n2_
     clear n0_ n1_ n2_
     replace BK390 := Aside0.mk (blk_drew BK390.out)
     replace BK391 := Aside0.mk (blk_drew BK391.out)
     replace HB := Aside0.mk (below_drew1 HB.out)
     refine start_ (n := 17) (S := fun w' => w'.cell? ⟨gb390, 0, none⟩ = some (.int .u64 a2_0) ∧ w'.cell? ⟨gb390, 1, none⟩ = some (.int .u64 a2_1)) (ds := []) #[false, false, false, false, false, false, false, false, false, false, false, false, false, false, false, false, false] (by kernel_rfl) rfl rfl ⟨(blk_cell BK390.out 0).trans rfl, (blk_cell BK390.out 1).trans rfl⟩ (fun hHeld => ?_); refine with_tabW steeplelaw33_FrobTraces.tab2 steeplelaw33_FrobTraces.bits2 (fun HT_ HW_ => ?_)
     generalize w60.drew = w61 at BK390 BK391 HB hHeld ⊢
     refine pure_ (i := 0) (N := some 12) (v := ?_) (a' := ?_) #[true, false, false, false, false, false, false, false, false, false, false, false, false, false, false, false, false] rfl rfl (any_of HT_.out (by kernel_rfl)) (fun _ _ _ h => h) (Or.inl ⟨by rfl, ?_⟩) ?_ ?_
     rotate_left
     ·intro w'
      go_simp
      with_reducible rfl
     rotate_left
     ·simp only [Act.put, List.setIfInBounds_toArray, List.set_cons_zero, List.set_cons_succ, i64_w, i32_w]
      rfl
     refine pure_ (i := 1) (N := some 13) (v := ?_) (a' := ?_) #[true, true, false, false, false, false, false, false, false, false, false, false, false, false, false, false, false] rfl rfl (any_of HT_.out (by kernel_rfl)) (fun _ _ _ h => h) (Or.inl ⟨by rfl, ?_⟩) ?_ ?_
     rotate_left
     ·intro w'
      go_simp
      with_reducible rfl
     rotate_left
     ·simp only [Act.put, List.setIfInBounds_toArray, List.set_cons_zero, List.set_cons_succ, i64_w, i32_w]
      rfl
     refine pure_ (i := 4) (N := some 16) (v := ?_) (a' := ?_) #[true, true, false, false, true, false, false, false, false, false, false, false, false, false, false, false, false] rfl rfl (any_of HT_.out (by kernel_rfl)) (fun _ _ _ h => h) (Or.inl ⟨by rfl, ?_⟩) ?_ ?_
     rotate_left
     ·intro w'
      go_simp
      with_reducible rfl
     rotate_left
     ·simp only [Act.put, List.setIfInBounds_toArray, List.set_cons_zero, List.set_cons_succ, i64_w, i32_w]
      rfl
     refine pure_ (i := 5) (N := some 17) (v := ?_) (a' := ?_) #[true, true, false, false, true, true, false, false, false, false, false, false, false, false, false, false, false] rfl rfl (any_of HT_.out (by kernel_rfl)) (fun _ _ _ h => h) (Or.inl ⟨by rfl, ?_⟩) ?_ ?_
     rotate_left
     ·intro w'
      go_simp
      with_reducible rfl
     rotate_left
     ·simp only [Act.put, List.setIfInBounds_toArray, List.set_cons_zero, List.set_cons_succ, i64_w, i32_w]
      rfl
     refine pure_ (i := 8) (N := some 20) (v := ?_) (a' := ?_) #[true, true, false, false, true, true, false, false, true, false, false, false, false, false, false, false, false] rfl rfl (any_of HT_.out (by kernel_rfl)) (fun _ _ _ h => h) (Or.inl ⟨by rfl, ?_⟩) ?_ ?_
     rotate_left
     ·intro w'
      go_simp
      with_reducible rfl
     rotate_left
     ·simp only [Act.put, List.setIfInBounds_toArray, List.set_cons_zero, List.set_cons_succ, i64_w, i32_w]
      rfl
     refine pure_ (i := 9) (N := some 21) (v := ?_) (a' := ?_) #[true, true, false, false, true, true, false, false, true, true, false, false, false, false, false, false, false] rfl rfl (any_of HT_.out (by kernel_rfl)) (fun _ _ _ h => h) (Or.inl ⟨by rfl, ?_⟩) ?_ ?_
     rotate_left
     ·intro w'
      go_simp
      with_reducible rfl
     rotate_left
     ·simp only [Act.put, List.setIfInBounds_toArray, List.set_cons_zero, List.set_cons_succ, i64_w, i32_w]
      rfl
     refine take_ (i := 2) (N := some 14) (v := ?_) (a' := ?_) #[true, true, true, false, true, true, false, false, true, true, false, false, false, false, false, false, false] rfl rfl (take_ofW HT_.out HW_.out (by kernel_rfl)) (fun _ _ _ h => h) (Or.inl ⟨by rfl, ?_⟩) hHeld ?_ ?_
     rotate_left
     ·rintro w' ⟨s0, s1⟩
      go_simp
      with_reducible rfl
     rotate_left
     ·simp only [Act.put, List.setIfInBounds_toArray, List.set_cons_zero, List.set_cons_succ, i64_w, i32_w]
      rfl
     refine take_ (i := 6) (N := some 18) (v := ?_) (a' := ?_) #[true, true, true, false, true, true, true, false, true, true, false, false, false, false, false, false, false] rfl rfl (take_ofW HT_.out HW_.out (by kernel_rfl)) (fun _ _ _ h => h) (Or.inl ⟨by rfl, ?_⟩) hHeld ?_ ?_
     rotate_left
     ·rintro w' ⟨s0, s1⟩
      go_simp
      with_reducible rfl
     rotate_left
     ·simp only [Act.put, List.setIfInBounds_toArray, List.set_cons_zero, List.set_cons_succ, i64_w, i32_w]
      rfl
     refine take_ (i := 10) (N := some 22) (v := ?_) (a' := ?_) #[true, true, true, false, true, true, true, false, true, true, true, false, false, false, false, false, false] rfl rfl (take_ofW HT_.out HW_.out (by kernel_rfl)) (fun _ _ _ h => h) (Or.inl ⟨by rfl, ?_⟩) hHeld ?_ ?_
     rotate_left
     ·rintro w' ⟨s0, s1⟩
      go_simp
      with_reducible rfl
     rotate_left
     ·simp only [Act.put, List.setIfInBounds_toArray, List.set_cons_zero, List.set_cons_succ, i64_w, i32_w]
      rfl
     refine join_ (σ := Value × Nat × Nat) 3 #[true, true, true, true, true, true, true, true, true, true, true, true, true, true, false, false, false] (fun s_ => [(15, s_.1), (19, .agg #[.int .u64 t395, .int .u64 t396]), (23, .agg #[.int .u64 t397, .int .u64 t398]), (9, .pointer (some ⟨s_.2.1, 0, none⟩)), (10, .pointer (some ⟨s_.2.2, 0, none⟩))]) (fun s_ w' => (w'.cell? ⟨gb390, 0, none⟩ = some (.int .u64 a2_0) ∧ w'.cell? ⟨gb390, 1, none⟩ = some (.int .u64 a2_1)) ∧ (Kd.R k24 24 w' w.heap.size (fun k_ => k_ ≠ gb390 ∧ k_ ≠ s_.2.1 ∧ k_ ≠ s_.2.2) s_.1 t392) ∧ (w'.heap[gb390]? = some (.cells #[.int .u64 a2_0, .int .u64 a2_1] 24 (0, 0))) ∧ (w'.heap[gb391]? = some (.cells #[.int .u64 a2_0, .int .u64 a2_1] 37 (0, 0))) ∧ (w'.heap[s_.2.1]? = some (.cells #[.int .u64 0, .int .u64 0] 24 (0, 0))) ∧ (w'.heap[s_.2.2]? = some (.cells #[.int .u64 0, .int .u64 0] 24 (0, 0))) ∧ (w.heap.size ≤ s_.2.1) ∧ (w.heap.size ≤ s_.2.1) ∧ (gb390 ≠ s_.2.1) ∧ (s_.2.1 ≠ gb390) ∧ (gb391 ≠ s_.2.1) ∧ (s_.2.1 ≠ gb391) ∧ (s_.2.2 ≠ s_.2.1) ∧ (s_.2.1 ≠ s_.2.2) ∧ (w.heap.size ≤ s_.2.2) ∧ (w.heap.size ≤ s_.2.2) ∧ (gb390 ≠ s_.2.2) ∧ (s_.2.2 ≠ gb390) ∧ (gb391 ≠ s_.2.2) ∧ (s_.2.2 ≠ gb391) ∧ (Below w.heap.size w w')) ?_ ?_
     rotate_left
     ·intro hJ3_7_11_12_13
      refine join_ (σ := Value × Nat) 4 #[true, true, true, true, true, true, true, true, true, true, true, true, true, false, false, false, false] (fun s_ => [(15, s_.1), (19, .agg #[.int .u64 t395, .int .u64 t396]), (23, .agg #[.int .u64 t397, .int .u64 t398]), (9, .pointer (some ⟨s_.2, 0, none⟩))]) (fun s_ w' => (w'.cell? ⟨gb390, 0, none⟩ = some (.int .u64 a2_0) ∧ w'.cell? ⟨gb390, 1, none⟩ = some (.int .u64 a2_1)) ∧ (Kd.R k24 24 w' w.heap.size (fun k_ => k_ ≠ gb390 ∧ k_ ≠ s_.2) s_.1 t392) ∧ (w'.heap[gb390]? = some (.cells #[.int .u64 a2_0, .int .u64 a2_1] 24 (0, 0))) ∧ (w'.heap[gb391]? = some (.cells #[.int .u64 a2_0, .int .u64 a2_1] 37 (0, 0))) ∧ (w'.heap[s_.2]? = some (.cells #[.int .u64 0, .int .u64 0] 24 (0, 0))) ∧ (w.heap.size ≤ s_.2) ∧ (w.heap.size ≤ s_.2) ∧ (gb390 ≠ s_.2) ∧ (s_.2 ≠ gb390) ∧ (gb391 ≠ s_.2) ∧ (s_.2 ≠ gb391) ∧ (Below w.heap.size w w')) ?_ ?_
      rotate_left
      ·intro hJ3_7_11_12
       refine join_ (σ := Value × Nat) 4 #[true, true, true, true, true, true, true, true, true, true, true, true, false, true, false, false, false] (fun s_ => [(15, s_.1), (19, .agg #[.int .u64 t395, .int .u64 t396]), (23, .agg #[.int .u64 t397, .int .u64 t398]), (10, .pointer (some ⟨s_.2, 0, none⟩))]) (fun s_ w' => (w'.cell? ⟨gb390, 0, none⟩ = some (.int .u64 a2_0) ∧ w'.cell? ⟨gb390, 1, none⟩ = some (.int .u64 a2_1)) ∧ (Kd.R k24 24 w' w.heap.size (fun k_ => k_ ≠ gb390 ∧ k_ ≠ s_.2) s_.1 t392) ∧ (w'.heap[gb390]? = some (.cells #[.int .u64 a2_0, .int .u64 a2_1] 24 (0, 0))) ∧ (w'.heap[gb391]? = some (.cells #[.int .u64 a2_0, .int .u64 a2_1] 37 (0, 0))) ∧ (w'.heap[s_.2]? = some (.cells #[.int .u64 0, .int .u64 0] 24 (0, 0))) ∧ (w.heap.size ≤ s_.2) ∧ (w.heap.size ≤ s_.2) ∧ (gb390 ≠ s_.2) ∧ (s_.2 ≠ gb390) ∧ (gb391 ≠ s_.2) ∧ (s_.2 ≠ gb391) ∧ (Below w.heap.size w w')) ?_ ?_
       rotate_left
       ·intro hJ3_7_11_13
        refine join_ (σ := Value × Nat × Nat) 4 #[true, true, true, true, true, true, true, true, true, true, true, false, true, true, false, false, false] (fun s_ => [(15, s_.1), (19, .agg #[.int .u64 t395, .int .u64 t396]), (9, .pointer (some ⟨s_.2.1, 0, none⟩)), (10, .pointer (some ⟨s_.2.2, 0, none⟩))]) (fun s_ w' => (w'.cell? ⟨gb390, 0, none⟩ = some (.int .u64 a2_0) ∧ w'.cell? ⟨gb390, 1, none⟩ = some (.int .u64 a2_1)) ∧ (Kd.R k24 24 w' w.heap.size (fun k_ => k_ ≠ gb390 ∧ k_ ≠ s_.2.1 ∧ k_ ≠ s_.2.2) s_.1 t392) ∧ (w'.heap[gb390]? = some (.cells #[.int .u64 a2_0, .int .u64 a2_1] 24 (0, 0))) ∧ (w'.heap[gb391]? = some (.cells #[.int .u64 a2_0, .int .u64 a2_1] 37 (0, 0))) ∧ (w'.heap[s_.2.1]? = some (.cells #[.int .u64 0, .int .u64 0] 24 (0, 0))) ∧ (w'.heap[s_.2.2]? = some (.cells #[.int .u64 0, .int .u64 0] 24 (0, 0))) ∧ (w.heap.size ≤ s_.2.1) ∧ (w.heap.size ≤ s_.2.1) ∧ (gb390 ≠ s_.2.1) ∧ (s_.2.1 ≠ gb390) ∧ (gb391 ≠ s_.2.1) ∧ (s_.2.1 ≠ gb391) ∧ (s_.2.2 ≠ s_.2.1) ∧ (s_.2.1 ≠ s_.2.2) ∧ (w.heap.size ≤ s_.2.2) ∧ (w.heap.size ≤ s_.2.2) ∧ (gb390 ≠ s_.2.2) ∧ (s_.2.2 ≠ gb390) ∧ (gb391 ≠ s_.2.2) ∧ (s_.2.2 ≠ gb391) ∧ (Below w.heap.size w w')) ?_ ?_
        rotate_left
        ·intro hJ3_7_12_13
         refine join_ (σ := Value) 5 #[true, true, true, true, true, true, true, true, true, true, true, true, false, false, false, false, false] (fun s_ => [(15, s_), (19, .agg #[.int .u64 t395, .int .u64 t396]), (23, .agg #[.int .u64 t397, .int .u64 t398])]) (fun s_ w' => (w'.cell? ⟨gb390, 0, none⟩ = some (.int .u64 a2_0) ∧ w'.cell? ⟨gb390, 1, none⟩ = some (.int .u64 a2_1)) ∧ (Kd.R k24 24 w' w.heap.size (fun k_ => k_ ≠ gb390) s_ t392) ∧ (w'.heap[gb390]? = some (.cells #[.int .u64 a2_0, .int .u64 a2_1] 24 (0, 0))) ∧ (w'.heap[gb391]? = some (.cells #[.int .u64 a2_0, .int .u64 a2_1] 37 (0, 0))) ∧ (Below w.heap.size w w')) ?_ ?_
         rotate_left
         ·intro hJ3_7_11
          refine join_ (σ := Value × Nat) 5 #[true, true, true, true, true, true, true, true, true, true, true, false, true, false, false, false, false] (fun s_ => [(15, s_.1), (19, .agg #[.int .u64 t395, .int .u64 t396]), (9, .pointer (some ⟨s_.2, 0, none⟩))]) (fun s_ w' => (w'.cell? ⟨gb390, 0, none⟩ = some (.int .u64 a2_0) ∧ w'.cell? ⟨gb390, 1, none⟩ = some (.int .u64 a2_1)) ∧ (Kd.R k24 24 w' w.heap.size (fun k_ => k_ ≠ gb390 ∧ k_ ≠ s_.2) s_.1 t392) ∧ (w'.heap[gb390]? = some (.cells #[.int .u64 a2_0, .int .u64 a2_1] 24 (0, 0))) ∧ (w'.heap[gb391]? = some (.cells #[.int .u64 a2_0, .int .u64 a2_1] 37 (0, 0))) ∧ (w'.heap[s_.2]? = some (.cells #[.int .u64 0, .int .u64 0] 24 (0, 0))) ∧ (w.heap.size ≤ s_.2) ∧ (w.heap.size ≤ s_.2) ∧ (gb390 ≠ s_.2) ∧ (s_.2 ≠ gb390) ∧ (gb391 ≠ s_.2) ∧ (s_.2 ≠ gb391) ∧ (Below w.heap.size w w')) ?_ ?_
          rotate_left
          ·intro hJ3_7_12
           refine join_ (σ := Value × Nat) 5 #[true, true, true, true, true, true, true, true, true, true, true, false, false, true, false, false, false] (fun s_ => [(15, s_.1), (19, .agg #[.int .u64 t395, .int .u64 t396]), (10, .pointer (some ⟨s_.2, 0, none⟩))]) (fun s_ w' => (w'.cell? ⟨gb390, 0, none⟩ = some (.int .u64 a2_0) ∧ w'.cell? ⟨gb390, 1, none⟩ = some (.int .u64 a2_1)) ∧ (Kd.R k24 24 w' w.heap.size (fun k_ => k_ ≠ gb390 ∧ k_ ≠ s_.2) s_.1 t392) ∧ (w'.heap[gb390]? = some (.cells #[.int .u64 a2_0, .int .u64 a2_1] 24 (0, 0))) ∧ (w'.heap[gb391]? = some (.cells #[.int .u64 a2_0, .int .u64 a2_1] 37 (0, 0))) ∧ (w'.heap[s_.2]? = some (.cells #[.int .u64 0, .int .u64 0] 24 (0, 0))) ∧ (w.heap.size ≤ s_.2) ∧ (w.heap.size ≤ s_.2) ∧ (gb390 ≠ s_.2) ∧ (s_.2 ≠ gb390) ∧ (gb391 ≠ s_.2) ∧ (s_.2 ≠ gb391) ∧ (Below w.heap.size w w')) ?_ ?_
           rotate_left
           ·intro hJ3_7_13
            refine join_ (σ := Value × Nat × Nat) 5 #[true, true, true, true, true, true, true, false, true, true, true, false, true, true, false, false, false] (fun s_ => [(15, s_.1), (9, .pointer (some ⟨s_.2.1, 0, none⟩)), (10, .pointer (some ⟨s_.2.2, 0, none⟩))]) (fun s_ w' => (w'.cell? ⟨gb390, 0, none⟩ = some (.int .u64 a2_0) ∧ w'.cell? ⟨gb390, 1, none⟩ = some (.int .u64 a2_1)) ∧ (Kd.R k24 24 w' w.heap.size (fun k_ => k_ ≠ gb390 ∧ k_ ≠ s_.2.1 ∧ k_ ≠ s_.2.2) s_.1 t392) ∧ (w'.heap[gb390]? = some (.cells #[.int .u64 a2_0, .int .u64 a2_1] 24 (0, 0))) ∧ (w'.heap[gb391]? = some (.cells #[.int .u64 a2_0, .int .u64 a2_1] 37 (0, 0))) ∧ (w'.heap[s_.2.1]? = some (.cells #[.int .u64 0, .int .u64 0] 24 (0, 0))) ∧ (w'.heap[s_.2.2]? = some (.cells #[.int .u64 0, .int .u64 0] 24 (0, 0))) ∧ (w.heap.size ≤ s_.2.1) ∧ (w.heap.size ≤ s_.2.1) ∧ (gb390 ≠ s_.2.1) ∧ (s_.2.1 ≠ gb390) ∧ (gb391 ≠ s_.2.1) ∧ (s_.2.1 ≠ gb391) ∧ (s_.2.2 ≠ s_.2.1) ∧ (s_.2.1 ≠ s_.2.2) ∧ (w.heap.size ≤ s_.2.2) ∧ (w.heap.size ≤ s_.2.2) ∧ (gb390 ≠ s_.2.2) ∧ (s_.2.2 ≠ gb390) ∧ (gb391 ≠ s_.2.2) ∧ (s_.2.2 ≠ gb391) ∧ (Below w.heap.size w w')) ?_ ?_
            rotate_left
            ·intro hJ3_12_13
             refine join_ (σ := Value) 6 #[true, true, true, true, true, true, true, true, true, true, true, false, false, false, false, false, false] (fun s_ => [(15, s_), (19, .agg #[.int .u64 t395, .int .u64 t396])]) (fun s_ w' => (w'.cell? ⟨gb390, 0, none⟩ = some (.int .u64 a2_0) ∧ w'.cell? ⟨gb390, 1, none⟩ = some (.int .u64 a2_1)) ∧ (Kd.R k24 24 w' w.heap.size (fun k_ => k_ ≠ gb390) s_ t392) ∧ (w'.heap[gb390]? = some (.cells #[.int .u64 a2_0, .int .u64 a2_1] 24 (0, 0))) ∧ (w'.heap[gb391]? = some (.cells #[.int .u64 a2_0, .int .u64 a2_1] 37 (0, 0))) ∧ (Below w.heap.size w w')) ?_ ?_
             rotate_left
             ·intro hJ3_7
              refine join_ (σ := Value × Nat) 6 #[true, true, true, true, true, true, true, false, true, true, true, false, true, false, false, false, false] (fun s_ => [(15, s_.1), (9, .pointer (some ⟨s_.2, 0, none⟩))]) (fun s_ w' => (w'.cell? ⟨gb390, 0, none⟩ = some (.int .u64 a2_0) ∧ w'.cell? ⟨gb390, 1, none⟩ = some (.int .u64 a2_1)) ∧ (Kd.R k24 24 w' w.heap.size (fun k_ => k_ ≠ gb390 ∧ k_ ≠ s_.2) s_.1 t392) ∧ (w'.heap[gb390]? = some (.cells #[.int .u64 a2_0, .int .u64 a2_1] 24 (0, 0))) ∧ (w'.heap[gb391]? = some (.cells #[.int .u64 a2_0, .int .u64 a2_1] 37 (0, 0))) ∧ (w'.heap[s_.2]? = some (.cells #[.int .u64 0, .int .u64 0] 24 (0, 0))) ∧ (w.heap.size ≤ s_.2) ∧ (w.heap.size ≤ s_.2) ∧ (gb390 ≠ s_.2) ∧ (s_.2 ≠ gb390) ∧ (gb391 ≠ s_.2) ∧ (s_.2 ≠ gb391) ∧ (Below w.heap.size w w')) ?_ ?_
              rotate_left
              ·intro hJ3_12
               refine join_ (σ := Value × Nat) 6 #[true, true, true, true, true, true, true, false, true, true, true, false, false, true, false, false, false] (fun s_ => [(15, s_.1), (10, .pointer (some ⟨s_.2, 0, none⟩))]) (fun s_ w' => (w'.cell? ⟨gb390, 0, none⟩ = some (.int .u64 a2_0) ∧ w'.cell? ⟨gb390, 1, none⟩ = some (.int .u64 a2_1)) ∧ (Kd.R k24 24 w' w.heap.size (fun k_ => k_ ≠ gb390 ∧ k_ ≠ s_.2) s_.1 t392) ∧ (w'.heap[gb390]? = some (.cells #[.int .u64 a2_0, .int .u64 a2_1] 24 (0, 0))) ∧ (w'.heap[gb391]? = some (.cells #[.int .u64 a2_0, .int .u64 a2_1] 37 (0, 0))) ∧ (w'.heap[s_.2]? = some (.cells #[.int .u64 0, .int .u64 0] 24 (0, 0))) ∧ (w.heap.size ≤ s_.2) ∧ (w.heap.size ≤ s_.2) ∧ (gb390 ≠ s_.2) ∧ (s_.2 ≠ gb390) ∧ (gb391 ≠ s_.2) ∧ (s_.2 ≠ gb391) ∧ (Below w.heap.size w w')) ?_ ?_
               rotate_left
               ·intro hJ3_13
                refine join_ (σ := Nat × Nat) 6 #[true, true, true, false, true, true, true, false, true, true, true, false, true, true, false, false, false] (fun s_ => [(9, .pointer (some ⟨s_.1, 0, none⟩)), (10, .pointer (some ⟨s_.2, 0, none⟩))]) (fun s_ w' => (w'.cell? ⟨gb390, 0, none⟩ = some (.int .u64 a2_0) ∧ w'.cell? ⟨gb390, 1, none⟩ = some (.int .u64 a2_1)) ∧ (w'.heap[gb390]? = some (.cells #[.int .u64 a2_0, .int .u64 a2_1] 24 (0, 0))) ∧ (w'.heap[gb391]? = some (.cells #[.int .u64 a2_0, .int .u64 a2_1] 37 (0, 0))) ∧ (w'.heap[s_.1]? = some (.cells #[.int .u64 0, .int .u64 0] 24 (0, 0))) ∧ (w'.heap[s_.2]? = some (.cells #[.int .u64 0, .int .u64 0] 24 (0, 0))) ∧ (w.heap.size ≤ s_.1) ∧ (w.heap.size ≤ s_.1) ∧ (gb390 ≠ s_.1) ∧ (s_.1 ≠ gb390) ∧ (gb391 ≠ s_.1) ∧ (s_.1 ≠ gb391) ∧ (s_.2 ≠ s_.1) ∧ (s_.1 ≠ s_.2) ∧ (w.heap.size ≤ s_.2) ∧ (w.heap.size ≤ s_.2) ∧ (gb390 ≠ s_.2) ∧ (s_.2 ≠ gb390) ∧ (gb391 ≠ s_.2) ∧ (s_.2 ≠ gb391) ∧ (Below w.heap.size w w')) ?_ ?_
                rotate_left
                ·intro hJ12_13
                 refine join_ (σ := Value) 7 #[true, true, true, true, true, true, true, false, true, true, true, false, false, false, false, false, false] (fun s_ => [(15, s_)]) (fun s_ w' => (w'.cell? ⟨gb390, 0, none⟩ = some (.int .u64 a2_0) ∧ w'.cell? ⟨gb390, 1, none⟩ = some (.int .u64 a2_1)) ∧ (Kd.R k24 24 w' w.heap.size (fun k_ => k_ ≠ gb390) s_ t392) ∧ (w'.heap[gb390]? = some (.cells #[.int .u64 a2_0, .int .u64 a2_1] 24 (0, 0))) ∧ (w'.heap[gb391]? = some (.cells #[.int .u64 a2_0, .int .u64 a2_1] 37 (0, 0))) ∧ (Below w.heap.size w w')) ?_ ?_
                 rotate_left
                 ·intro hJ3
                  refine join_ (σ := Nat) 7 #[true, true, true, false, true, true, true, false, true, true, true, false, true, false, false, false, false] (fun s_ => [(9, .pointer (some ⟨s_, 0, none⟩))]) (fun s_ w' => (w'.cell? ⟨gb390, 0, none⟩ = some (.int .u64 a2_0) ∧ w'.cell? ⟨gb390, 1, none⟩ = some (.int .u64 a2_1)) ∧ (w'.heap[gb390]? = some (.cells #[.int .u64 a2_0, .int .u64 a2_1] 24 (0, 0))) ∧ (w'.heap[gb391]? = some (.cells #[.int .u64 a2_0, .int .u64 a2_1] 37 (0, 0))) ∧ (w'.heap[s_]? = some (.cells #[.int .u64 0, .int .u64 0] 24 (0, 0))) ∧ (w.heap.size ≤ s_) ∧ (w.heap.size ≤ s_) ∧ (gb390 ≠ s_) ∧ (s_ ≠ gb390) ∧ (gb391 ≠ s_) ∧ (s_ ≠ gb391) ∧ (Below w.heap.size w w')) ?_ ?_
                  rotate_left
                  ·intro hJ12
                   refine join_ (σ := Nat) 7 #[true, true, true, false, true, true, true, false, true, true, true, false, false, true, false, false, false] (fun s_ => [(10, .pointer (some ⟨s_, 0, none⟩))]) (fun s_ w' => (w'.cell? ⟨gb390, 0, none⟩ = some (.int .u64 a2_0) ∧ w'.cell? ⟨gb390, 1, none⟩ = some (.int .u64 a2_1)) ∧ (w'.heap[gb390]? = some (.cells #[.int .u64 a2_0, .int .u64 a2_1] 24 (0, 0))) ∧ (w'.heap[gb391]? = some (.cells #[.int .u64 a2_0, .int .u64 a2_1] 37 (0, 0))) ∧ (w'.heap[s_]? = some (.cells #[.int .u64 0, .int .u64 0] 24 (0, 0))) ∧ (w.heap.size ≤ s_) ∧ (w.heap.size ≤ s_) ∧ (gb390 ≠ s_) ∧ (s_ ≠ gb390) ∧ (gb391 ≠ s_) ∧ (s_ ≠ gb391) ∧ (Below w.heap.size w w')) ?_ ?_
                   rotate_left
                   ·intro hJ13
                    refine three_ (i := 3) (j := 12) (k := 13) (Ni := some 15) (Nj := some 9) (Nk := some 10) #[true, true, true, true, true, true, true, false, true, true, true, false, false, false, false, false, false] #[true, true, true, false, true, true, true, false, true, true, true, false, true, false, false, false, false] #[true, true, true, false, true, true, true, false, true, true, true, false, false, true, false, false, false] rfl rfl rfl rfl rfl rfl (three_of HT_.out (by kernel_rfl)) (by decide) (by decide) (by decide) (fun K hK => ?_) (fun K hK => ?_) (fun K hK => ?_)
                    ·skip
                     refine goes_ Try.func27 (by kernel_rfl) rfl #[.int .i64 a0, .int .i64 a1, .agg #[.int .u64 a2_0, .int .u64 a2_1]] (by rfl) rfl rfl (by (try simp only [List.map_toArray, List.map_cons, List.map_nil]); first | done | rfl | (simp only [List.length_drop, List.length_take]; rfl)) ?_
                     with_reducible refine (frob_Conjugates.calls k a0 a1 a2_0 a2_1 t392 _ A4.out).mono ?_
                     rintro e w62 ⟨v393, rfl, ho0, hb⟩
                     refine ⟨_, rfl, ?_⟩
                     have HO394 := Aside0.mk (Kd.R_lower (Kd.R_newB ho0 (g := gb390) (o := .cells #[.int .u64 a2_0, .int .u64 a2_1] 24 (0, 0)) (bk BK390.out)) (below_size (bq HB.out)))
                     replace BK390 := bb BK390 hb
                     replace BK391 := bb BK391 hb
                     replace HB := bh HB hb
                     (try clear hb)
                     (try clear hb2)
                     (try clear hk)
                     (try clear hi)
                     (try clear ho0)
                     refine hK.out _ _ ⟨(blk_cell BK390.out 0).trans rfl, (blk_cell BK390.out 1).trans rfl⟩ (fun hHeld => ?_)
                     clear hK K
                     refine norm_ (a' := ?_) ?_ ?_
                     rotate_left
                     ·show Act.put _ (some 15) _ = _
                      simp only [Act.put, List.setIfInBounds_toArray, List.set_cons_zero, List.set_cons_succ, i64_w, i32_w]
                      rfl
                     exact norm_ (by first | (simp only [putAll, Act.put, List.setIfInBounds_toArray, List.set_cons_zero, List.set_cons_succ]; done) | (simp only [putAll, Act.put, List.setIfInBounds_toArray, List.set_cons_zero, List.set_cons_succ]; rfl)) (hJ3 (v393) _ ⟨hHeld, (by (with_reducible repeat refine kl ?_); exact Kd.R_mono HO394.out (fun _ hk => hk.2)), (bk BK390.out), (bk BK391.out), (bq HB.out)⟩)
                    ·skip
                     refine box_step ?hg (N := 9) ?hd (cs := #[.int .u64 0, .int .u64 0]) (t := 24) ?hr ?_; (case hd => rfl); (case hg => rfl); (case hr => first | (go_simp; done) | (go_simp; rfl))
                     intro gb399 hg w62 hbox hb
                     have BK399 := Aside0.mk hbox
                     have GW399 := ge hg HB
                     have GE399 := ge hg HB
                     have NB390_399 := nl hg BK390
                     have NB399_390 := ng hg BK390
                     have NB391_399 := nl hg BK391
                     have NB399_391 := ng hg BK391
                     replace BK390 := bb BK390 hb
                     replace BK391 := bb BK391 hb
                     replace HB := bh HB hb
                     clear hb hbox hg
                     refine hK.out _ _ ⟨(blk_cell BK390.out 0).trans rfl, (blk_cell BK390.out 1).trans rfl⟩ (fun hHeld => ?_)
                     clear hK K
                     refine norm_ (a' := ?_) ?_ ?_
                     rotate_left
                     ·show Act.put _ (some 9) _ = _
                      simp only [Act.put, List.setIfInBounds_toArray, List.set_cons_zero, List.set_cons_succ, i64_w, i32_w]
                      rfl
                     exact norm_ (by first | (simp only [putAll, Act.put, List.setIfInBounds_toArray, List.set_cons_zero, List.set_cons_succ]; done) | (simp only [putAll, Act.put, List.setIfInBounds_toArray, List.set_cons_zero, List.set_cons_succ]; rfl)) (hJ12 (gb399) _ ⟨hHeld, (bk BK390.out), (bk BK391.out), (bk BK399.out), GW399.out, GE399.out, NB390_399.out, NB399_390.out, NB391_399.out, NB399_391.out, (bq HB.out)⟩)
                    ·skip
                     refine box_step ?hg (N := 10) ?hd (cs := #[.int .u64 0, .int .u64 0]) (t := 24) ?hr ?_; (case hd => rfl); (case hg => rfl); (case hr => first | (go_simp; done) | (go_simp; rfl))
                     intro gb400 hg w62 hbox hb
                     have BK400 := Aside0.mk hbox
                     have GW400 := ge hg HB
                     have GE400 := ge hg HB
                     have NB390_400 := nl hg BK390
                     have NB400_390 := ng hg BK390
                     have NB391_400 := nl hg BK391
                     have NB400_391 := ng hg BK391
                     replace BK390 := bb BK390 hb
                     replace BK391 := bb BK391 hb
                     replace HB := bh HB hb
                     clear hb hbox hg
                     refine hK.out _ _ ⟨(blk_cell BK390.out 0).trans rfl, (blk_cell BK390.out 1).trans rfl⟩ (fun hHeld => ?_)
                     clear hK K
                     refine norm_ (a' := ?_) ?_ ?_
                     rotate_left
                     ·show Act.put _ (some 10) _ = _
                      simp only [Act.put, List.setIfInBounds_toArray, List.set_cons_zero, List.set_cons_succ, i64_w, i32_w]
                      rfl
                     exact norm_ (by first | (simp only [putAll, Act.put, List.setIfInBounds_toArray, List.set_cons_zero, List.set_cons_succ]; done) | (simp only [putAll, Act.put, List.setIfInBounds_toArray, List.set_cons_zero, List.set_cons_succ]; rfl)) (hJ13 (gb400) _ ⟨hHeld, (bk BK390.out), (bk BK391.out), (bk BK400.out), GW400.out, GE400.out, NB390_400.out, NB400_390.out, NB391_400.out, NB400_391.out, (bq HB.out)⟩)
                   ·skip
                    rintro gb400 w63 ⟨hS_, h0_, h1_, h2_, h3_, h4_, h5_, h6_, h7_, h8_, h9_⟩
                    have n0_ : Aside0 (w63.heap[gb390]? = some (.cells #[.int .u64 a2_0, .int .u64 a2_1] 24 (0, 0))) := ⟨h0_⟩
                    have n1_ : Aside0 (w63.heap[gb391]? = some (.cells #[.int .u64 a2_0, .int .u64 a2_1] 37 (0, 0))) := ⟨h1_⟩
                    have n2_ : Aside0 (w63.heap[gb400]? = some (.cells #[.int .u64 0, .int .u64 0] 24 (0, 0))) := ⟨h2_⟩
                    have n3_ : Aside0 (w.heap.size ≤ gb400) := ⟨h3_⟩
                    have n4_ : Aside0 (w.heap.size ≤ gb400) := ⟨h4_⟩
                    have n5_ : Aside0 (gb390 ≠ gb400) := ⟨h5_⟩
                    have n6_ : Aside0 (gb400 ≠ gb390) := ⟨h6_⟩
                    have n7_ : Aside0 (gb391 ≠ gb400) := ⟨h7_⟩
                    have n8_ : Aside0 (gb400 ≠ gb391) := ⟨h8_⟩
                    have n9_ : Aside0 (Below w.heap.size w w63) := ⟨h9_⟩
                    clear BK390
                    clear BK391
                    clear HB
                    clear h0_ h1_ h2_ h3_ h4_ h5_ h6_ h7_ h8_ h9_
                    have BK390 := n0_
                    have BK391 := n1_
                    have BK400 := n2_
                    have GW400 := Aside1.mk n3_.out
                    have GE400 := Aside1.mk n4_.out
                    have NB390_400 := n5_
                    have NB400_390 := n6_
                    have NB391_400 := n7_
                    have NB400_391 := n8_
                    have HB := n9_
                    clear n0_ n1_ n2_ n3_ n4_ n5_ n6_ n7_ n8_ n9_
                    have hHeld : w63.cell? ⟨gb390, 0, none⟩ = some (.int .u64 a2_0) ∧ w63.cell? ⟨gb390, 1, none⟩ = some (.int .u64 a2_1) := hS_
                    refine norm_ (a' := ?_) ?_ ?_
                    rotate_left
                    ·simp only [putAll, Act.put, List.setIfInBounds_toArray, List.set_cons_zero, List.set_cons_succ]
                     rfl
                    refine two_ (i := 3) (j := 12) (Ni := some 15) (Nj := some 9) #[true, true, true, true, true, true, true, false, true, true, true, false, false, true, false, false, false] #[true, true, true, false, true, true, true, false, true, true, true, false, true, true, false, false, false] rfl rfl rfl rfl (two_of HT_.out (by kernel_rfl)) (by decide) (by decide) (fun K hK => ?_) (fun K hK => ?_)
                    ·skip
                     refine goes_ Try.func27 (by kernel_rfl) rfl #[.int .i64 a0, .int .i64 a1, .agg #[.int .u64 a2_0, .int .u64 a2_1]] (by rfl) rfl rfl (by (try simp only [List.map_toArray, List.map_cons, List.map_nil]); first | done | rfl | (simp only [List.length_drop, List.length_take]; rfl)) ?_
                     with_reducible refine (frob_Conjugates.calls k a0 a1 a2_0 a2_1 t392 _ A4.out).mono ?_
                     rintro e w64 ⟨v393, rfl, ho0, hb⟩
                     refine ⟨_, rfl, ?_⟩
                     have HO394 := Aside0.mk (Kd.R_lower (Kd.R_newB (Kd.R_newB ho0 (g := gb390) (o := .cells #[.int .u64 a2_0, .int .u64 a2_1] 24 (0, 0)) (bk BK390.out)) (g := gb400) (o := .cells #[.int .u64 0, .int .u64 0] 24 (0, 0)) (bk BK400.out)) (below_size (bq HB.out)))
                     replace BK390 := bb BK390 hb
                     replace BK391 := bb BK391 hb
                     replace BK400 := bb BK400 hb
                     replace HB := bh HB hb
                     (try clear hb)
                     (try clear hb2)
                     (try clear hk)
                     (try clear hi)
                     (try clear ho0)
                     refine hK.out _ _ ⟨(blk_cell BK390.out 0).trans rfl, (blk_cell BK390.out 1).trans rfl⟩ (fun hHeld => ?_)
                     clear hK K
                     refine norm_ (a' := ?_) ?_ ?_
                     rotate_left
                     ·show Act.put _ (some 15) _ = _
                      simp only [Act.put, List.setIfInBounds_toArray, List.set_cons_zero, List.set_cons_succ, i64_w, i32_w]
                      rfl
                     exact norm_ (by first | (simp only [putAll, Act.put, List.setIfInBounds_toArray, List.set_cons_zero, List.set_cons_succ]; done) | (simp only [putAll, Act.put, List.setIfInBounds_toArray, List.set_cons_zero, List.set_cons_succ]; rfl)) (hJ3_13 (v393, gb400) _ ⟨hHeld, (by (with_reducible repeat refine kl ?_); exact Kd.R_mono HO394.out (fun _ hk => ⟨hk.1.2, hk.2⟩)), (bk BK390.out), (bk BK391.out), (bk BK400.out), GW400.out, GE400.out, NB390_400.out, NB400_390.out, NB391_400.out, NB400_391.out, (bq HB.out)⟩)
                    ·skip
                     refine box_step ?hg (N := 9) ?hd (cs := #[.int .u64 0, .int .u64 0]) (t := 24) ?hr ?_; (case hd => rfl); (case hg => rfl); (case hr => first | (go_simp; done) | (go_simp; rfl))
                     intro gb399 hg w64 hbox hb
                     have BK399 := Aside0.mk hbox
                     have GW399 := ge hg HB
                     have GE399 := ge hg HB
                     have NB390_399 := nl hg BK390
                     have NB399_390 := ng hg BK390
                     have NB391_399 := nl hg BK391
                     have NB399_391 := ng hg BK391
                     have NB400_399 := nl hg BK400
                     have NB399_400 := ng hg BK400
                     replace BK390 := bb BK390 hb
                     replace BK391 := bb BK391 hb
                     replace BK400 := bb BK400 hb
                     replace HB := bh HB hb
                     clear hb hbox hg
                     refine hK.out _ _ ⟨(blk_cell BK390.out 0).trans rfl, (blk_cell BK390.out 1).trans rfl⟩ (fun hHeld => ?_)
                     clear hK K
                     refine norm_ (a' := ?_) ?_ ?_
                     rotate_left
                     ·show Act.put _ (some 9) _ = _
                      simp only [Act.put, List.setIfInBounds_toArray, List.set_cons_zero, List.set_cons_succ, i64_w, i32_w]
                      rfl
                     exact norm_ (by first | (simp only [putAll, Act.put, List.setIfInBounds_toArray, List.set_cons_zero, List.set_cons_succ]; done) | (simp only [putAll, Act.put, List.setIfInBounds_toArray, List.set_cons_zero, List.set_cons_succ]; rfl)) (hJ12_13 (gb399, gb400) _ ⟨hHeld, (bk BK390.out), (bk BK391.out), (bk BK399.out), (bk BK400.out), GW399.out, GE399.out, NB390_399.out, NB399_390.out, NB391_399.out, NB399_391.out, NB400_399.out, NB399_400.out, GW400.out, GE400.out, NB390_400.out, NB400_390.out, NB391_400.out, NB400_391.out, (bq HB.out)⟩)
                  ·skip
                   rintro gb399 w63 ⟨hS_, h0_, h1_, h2_, h3_, h4_, h5_, h6_, h7_, h8_, h9_⟩
                   have n0_ : Aside0 (w63.heap[gb390]? = some (.cells #[.int .u64 a2_0, .int .u64 a2_1] 24 (0, 0))) := ⟨h0_⟩
                   have n1_ : Aside0 (w63.heap[gb391]? = some (.cells #[.int .u64 a2_0, .int .u64 a2_1] 37 (0, 0))) := ⟨h1_⟩
                   have n2_ : Aside0 (w63.heap[gb399]? = some (.cells #[.int .u64 0, .int .u64 0] 24 (0, 0))) := ⟨h2_⟩
                   have n3_ : Aside0 (w.heap.size ≤ gb399) := ⟨h3_⟩
                   have n4_ : Aside0 (w.heap.size ≤ gb399) := ⟨h4_⟩
                   have n5_ : Aside0 (gb390 ≠ gb399) := ⟨h5_⟩
                   have n6_ : Aside0 (gb399 ≠ gb390) := ⟨h6_⟩
                   have n7_ : Aside0 (gb391 ≠ gb399) := ⟨h7_⟩
                   have n8_ : Aside0 (gb399 ≠ gb391) := ⟨h8_⟩
                   have n9_ : Aside0 (Below w.heap.size w w63) := ⟨h9_⟩
                   clear BK390
                   clear BK391
                   clear HB
                   clear h0_ h1_ h2_ h3_ h4_ h5_ h6_ h7_ h8_ h9_
                   have BK390 := n0_
                   have BK391 := n1_
                   have BK399 := n2_
                   have GW399 := Aside1.mk n3_.out
                   have GE399 := Aside1.mk n4_.out
                   have NB390_399 := n5_
                   have NB399_390 := n6_
                   have NB391_399 := n7_
                   have NB399_391 := n8_
                   have HB := n9_
                   clear n0_ n1_ n2_ n3_ n4_ n5_ n6_ n7_ n8_ n9_
                   have hHeld : w63.cell? ⟨gb390, 0, none⟩ = some (.int .u64 a2_0) ∧ w63.cell? ⟨gb390, 1, none⟩ = some (.int .u64 a2_1) := hS_
                   refine norm_ (a' := ?_) ?_ ?_
                   rotate_left
                   ·simp only [putAll, Act.put, List.setIfInBounds_toArray, List.set_cons_zero, List.set_cons_succ]
                    rfl
                   refine two_ (i := 3) (j := 13) (Ni := some 15) (Nj := some 10) #[true, true, true, true, true, true, true, false, true, true, true, false, true, false, false, false, false] #[true, true, true, false, true, true, true, false, true, true, true, false, true, true, false, false, false] rfl rfl rfl rfl (two_of HT_.out (by kernel_rfl)) (by decide) (by decide) (fun K hK => ?_) (fun K hK => ?_)
                   ·skip
                    refine goes_ Try.func27 (by kernel_rfl) rfl #[.int .i64 a0, .int .i64 a1, .agg #[.int .u64 a2_0, .int .u64 a2_1]] (by rfl) rfl rfl (by (try simp only [List.map_toArray, List.map_cons, List.map_nil]); first | done | rfl | (simp only [List.length_drop, List.length_take]; rfl)) ?_
                    with_reducible refine (frob_Conjugates.calls k a0 a1 a2_0 a2_1 t392 _ A4.out).mono ?_
                    rintro e w64 ⟨v393, rfl, ho0, hb⟩
                    refine ⟨_, rfl, ?_⟩
                    have HO394 := Aside0.mk (Kd.R_lower (Kd.R_newB (Kd.R_newB ho0 (g := gb390) (o := .cells #[.int .u64 a2_0, .int .u64 a2_1] 24 (0, 0)) (bk BK390.out)) (g := gb399) (o := .cells #[.int .u64 0, .int .u64 0] 24 (0, 0)) (bk BK399.out)) (below_size (bq HB.out)))
                    replace BK390 := bb BK390 hb
                    replace BK391 := bb BK391 hb
                    replace BK399 := bb BK399 hb
                    replace HB := bh HB hb
                    (try clear hb)
                    (try clear hb2)
                    (try clear hk)
                    (try clear hi)
                    (try clear ho0)
                    refine hK.out _ _ ⟨(blk_cell BK390.out 0).trans rfl, (blk_cell BK390.out 1).trans rfl⟩ (fun hHeld => ?_)
                    clear hK K
                    refine norm_ (a' := ?_) ?_ ?_
                    rotate_left
                    ·show Act.put _ (some 15) _ = _
                     simp only [Act.put, List.setIfInBounds_toArray, List.set_cons_zero, List.set_cons_succ, i64_w, i32_w]
                     rfl
                    exact norm_ (by first | (simp only [putAll, Act.put, List.setIfInBounds_toArray, List.set_cons_zero, List.set_cons_succ]; done) | (simp only [putAll, Act.put, List.setIfInBounds_toArray, List.set_cons_zero, List.set_cons_succ]; rfl)) (hJ3_12 (v393, gb399) _ ⟨hHeld, (by (with_reducible repeat refine kl ?_); exact Kd.R_mono HO394.out (fun _ hk => ⟨hk.1.2, hk.2⟩)), (bk BK390.out), (bk BK391.out), (bk BK399.out), GW399.out, GE399.out, NB390_399.out, NB399_390.out, NB391_399.out, NB399_391.out, (bq HB.out)⟩)
                   ·skip
                    refine box_step ?hg (N := 10) ?hd (cs := #[.int .u64 0, .int .u64 0]) (t := 24) ?hr ?_; (case hd => rfl); (case hg => rfl); (case hr => first | (go_simp; done) | (go_simp; rfl))
                    intro gb400 hg w64 hbox hb
                    have BK400 := Aside0.mk hbox
                    have GW400 := ge hg HB
                    have GE400 := ge hg HB
                    have NB390_400 := nl hg BK390
                    have NB400_390 := ng hg BK390
                    have NB391_400 := nl hg BK391
                    have NB400_391 := ng hg BK391
                    have NB399_400 := nl hg BK399
                    have NB400_399 := ng hg BK399
                    replace BK390 := bb BK390 hb
                    replace BK391 := bb BK391 hb
                    replace BK399 := bb BK399 hb
                    replace HB := bh HB hb
                    clear hb hbox hg
                    refine hK.out _ _ ⟨(blk_cell BK390.out 0).trans rfl, (blk_cell BK390.out 1).trans rfl⟩ (fun hHeld => ?_)
                    clear hK K
                    refine norm_ (a' := ?_) ?_ ?_
                    rotate_left
                    ·show Act.put _ (some 10) _ = _
                     simp only [Act.put, List.setIfInBounds_toArray, List.set_cons_zero, List.set_cons_succ, i64_w, i32_w]
                     rfl
                    exact norm_ (by first | (simp only [putAll, Act.put, List.setIfInBounds_toArray, List.set_cons_zero, List.set_cons_succ]; done) | (simp only [putAll, Act.put, List.setIfInBounds_toArray, List.set_cons_zero, List.set_cons_succ]; rfl)) (hJ12_13 (gb399, gb400) _ ⟨hHeld, (bk BK390.out), (bk BK391.out), (bk BK399.out), (bk BK400.out), GW399.out, GE399.out, NB390_399.out, NB399_390.out, NB391_399.out, NB399_391.out, NB400_399.out, NB399_400.out, GW400.out, GE400.out, NB390_400.out, NB400_390.out, NB391_400.out, NB400_391.out, (bq HB.out)⟩)
                 ·skip
                  rintro v393 w63 ⟨hS_, h0_, h1_, h2_, h3_⟩
                  have n0_ : Aside0 (Kd.R k24 24 w63 w.heap.size (fun k_ => k_ ≠ gb390) v393 t392) := ⟨h0_⟩
                  have n1_ : Aside0 (w63.heap[gb390]? = some (.cells #[.int .u64 a2_0, .int .u64 a2_1] 24 (0, 0))) := ⟨h1_⟩
                  have n2_ : Aside0 (w63.heap[gb391]? = some (.cells #[.int .u64 a2_0, .int .u64 a2_1] 37 (0, 0))) := ⟨h2_⟩
                  have n3_ : Aside0 (Below w.heap.size w w63) := ⟨h3_⟩
                  clear BK390
                  clear BK391
                  clear HB
                  clear h0_ h1_ h2_ h3_
                  have HO394 := n0_
                  have BK390 := n1_
                  have BK391 := n2_
                  have HB := n3_
                  clear n0_ n1_ n2_ n3_
                  have hHeld : w63.cell? ⟨gb390, 0, none⟩ = some (.int .u64 a2_0) ∧ w63.cell? ⟨gb390, 1, none⟩ = some (.int .u64 a2_1) := hS_
                  refine norm_ (a' := ?_) ?_ ?_
                  rotate_left
                  ·simp only [putAll, Act.put, List.setIfInBounds_toArray, List.set_cons_zero, List.set_cons_succ]
                   rfl
                  refine three_ (i := 7) (j := 12) (k := 13) (Ni := some 19) (Nj := some 9) (Nk := some 10) #[true, true, true, true, true, true, true, true, true, true, true, false, false, false, false, false, false] #[true, true, true, true, true, true, true, false, true, true, true, false, true, false, false, false, false] #[true, true, true, true, true, true, true, false, true, true, true, false, false, true, false, false, false] rfl rfl rfl rfl rfl rfl (three_of HT_.out (by kernel_rfl)) (by decide) (by decide) (by decide) (fun K hK => ?_) (fun K hK => ?_) (fun K hK => ?_)
                  ·skip
                   refine goes_ Try.func11 (by kernel_rfl) rfl #[.int .i64 a0, .int .i64 a1, .agg #[.int .u64 a2_0, .int .u64 a2_1]] (by rfl) rfl rfl (by (try simp only [List.map_toArray, List.map_cons, List.map_nil]); first | done | rfl | (simp only [List.length_drop, List.length_take]; rfl)) ?_
                   with_reducible refine (frob_Trace.calls k a0 a1 a2_0 a2_1 t395 t396 _ A5.out).mono ?_
                   rintro e w64 ⟨rfl, hb⟩
                   refine ⟨_, rfl, ?_⟩
                   replace HO394 := kb HO394 hb
                   replace BK390 := bb BK390 hb
                   replace BK391 := bb BK391 hb
                   replace HB := bh HB hb
                   (try clear hb)
                   (try clear hb2)
                   (try clear hk)
                   (try clear hi)
                   refine hK.out _ _ ⟨(blk_cell BK390.out 0).trans rfl, (blk_cell BK390.out 1).trans rfl⟩ (fun hHeld => ?_)
                   clear hK K
                   refine norm_ (a' := ?_) ?_ ?_
                   rotate_left
                   ·show Act.put _ (some 19) _ = _
                    simp only [Act.put, List.setIfInBounds_toArray, List.set_cons_zero, List.set_cons_succ, i64_w, i32_w]
                    rfl
                   exact norm_ (by first | (simp only [putAll, Act.put, List.setIfInBounds_toArray, List.set_cons_zero, List.set_cons_succ]; done) | (simp only [putAll, Act.put, List.setIfInBounds_toArray, List.set_cons_zero, List.set_cons_succ]; rfl)) (hJ3_7 (v393) _ ⟨hHeld, (kr HO394.out), (bk BK390.out), (bk BK391.out), (bq HB.out)⟩)
                  ·skip
                   refine box_step ?hg (N := 9) ?hd (cs := #[.int .u64 0, .int .u64 0]) (t := 24) ?hr ?_; (case hd => rfl); (case hg => rfl); (case hr => first | (go_simp; done) | (go_simp; rfl))
                   intro gb399 hg w64 hbox hb
                   have BK399 := Aside0.mk hbox
                   have GW399 := ge hg HB
                   have GE399 := ge hg HB
                   have NB390_399 := nl hg BK390
                   have NB399_390 := ng hg BK390
                   have NB391_399 := nl hg BK391
                   have NB399_391 := ng hg BK391
                   replace HO394 := Aside0.mk (Kd.R_below (Kd.R_elderB (kr HO394.out) gb399 (Nat.le_of_eq hg.symm)) hb)
                   replace BK390 := bb BK390 hb
                   replace BK391 := bb BK391 hb
                   replace HB := bh HB hb
                   clear hb hbox hg
                   refine hK.out _ _ ⟨(blk_cell BK390.out 0).trans rfl, (blk_cell BK390.out 1).trans rfl⟩ (fun hHeld => ?_)
                   clear hK K
                   refine norm_ (a' := ?_) ?_ ?_
                   rotate_left
                   ·show Act.put _ (some 9) _ = _
                    simp only [Act.put, List.setIfInBounds_toArray, List.set_cons_zero, List.set_cons_succ, i64_w, i32_w]
                    rfl
                   exact norm_ (by first | (simp only [putAll, Act.put, List.setIfInBounds_toArray, List.set_cons_zero, List.set_cons_succ]; done) | (simp only [putAll, Act.put, List.setIfInBounds_toArray, List.set_cons_zero, List.set_cons_succ]; rfl)) (hJ3_12 (v393, gb399) _ ⟨hHeld, (kr HO394.out), (bk BK390.out), (bk BK391.out), (bk BK399.out), GW399.out, GE399.out, NB390_399.out, NB399_390.out, NB391_399.out, NB399_391.out, (bq HB.out)⟩)
                  ·skip
                   refine box_step ?hg (N := 10) ?hd (cs := #[.int .u64 0, .int .u64 0]) (t := 24) ?hr ?_; (case hd => rfl); (case hg => rfl); (case hr => first | (go_simp; done) | (go_simp; rfl))
                   intro gb400 hg w64 hbox hb
                   have BK400 := Aside0.mk hbox
                   have GW400 := ge hg HB
                   have GE400 := ge hg HB
                   have NB390_400 := nl hg BK390
                   have NB400_390 := ng hg BK390
                   have NB391_400 := nl hg BK391
                   have NB400_391 := ng hg BK391
                   replace HO394 := Aside0.mk (Kd.R_below (Kd.R_elderB (kr HO394.out) gb400 (Nat.le_of_eq hg.symm)) hb)
                   replace BK390 := bb BK390 hb
                   replace BK391 := bb BK391 hb
                   replace HB := bh HB hb
                   clear hb hbox hg
                   refine hK.out _ _ ⟨(blk_cell BK390.out 0).trans rfl, (blk_cell BK390.out 1).trans rfl⟩ (fun hHeld => ?_)
                   clear hK K
                   refine norm_ (a' := ?_) ?_ ?_
                   rotate_left
                   ·show Act.put _ (some 10) _ = _
                    simp only [Act.put, List.setIfInBounds_toArray, List.set_cons_zero, List.set_cons_succ, i64_w, i32_w]
                    rfl
                   exact norm_ (by first | (simp only [putAll, Act.put, List.setIfInBounds_toArray, List.set_cons_zero, List.set_cons_succ]; done) | (simp only [putAll, Act.put, List.setIfInBounds_toArray, List.set_cons_zero, List.set_cons_succ]; rfl)) (hJ3_13 (v393, gb400) _ ⟨hHeld, (kr HO394.out), (bk BK390.out), (bk BK391.out), (bk BK400.out), GW400.out, GE400.out, NB390_400.out, NB400_390.out, NB391_400.out, NB400_391.out, (bq HB.out)⟩)
                ·skip
                 rintro ⟨gb399, gb400⟩ w64 ⟨hS_, h0_, h1_, h2_, h3_, h4_, h5_, h6_, h7_, h8_, h9_, h10_, h11_, h12_, h13_, h14_, h15_, h16_, h17_, h18_⟩
                 have n0_ : Aside0 (w64.heap[gb390]? = some (.cells #[.int .u64 a2_0, .int .u64 a2_1] 24 (0, 0))) := ⟨h0_⟩
                 have n1_ : Aside0 (w64.heap[gb391]? = some (.cells #[.int .u64 a2_0, .int .u64 a2_1] 37 (0, 0))) := ⟨h1_⟩
                 have n2_ : Aside0 (w64.heap[gb399]? = some (.cells #[.int .u64 0, .int .u64 0] 24 (0, 0))) := ⟨h2_⟩
                 have n3_ : Aside0 (w64.heap[gb400]? = some (.cells #[.int .u64 0, .int .u64 0] 24 (0, 0))) := ⟨h3_⟩
                 have n4_ : Aside0 (w.heap.size ≤ gb399) := ⟨h4_⟩
                 have n5_ : Aside0 (w.heap.size ≤ gb399) := ⟨h5_⟩
                 have n6_ : Aside0 (gb390 ≠ gb399) := ⟨h6_⟩
                 have n7_ : Aside0 (gb399 ≠ gb390) := ⟨h7_⟩
                 have n8_ : Aside0 (gb391 ≠ gb399) := ⟨h8_⟩
                 have n9_ : Aside0 (gb399 ≠ gb391) := ⟨h9_⟩
                 have n10_ : Aside0 (gb400 ≠ gb399) := ⟨h10_⟩
                 have n11_ : Aside0 (gb399 ≠ gb400) := ⟨h11_⟩
                 have n12_ : Aside0 (w.heap.size ≤ gb400) := ⟨h12_⟩
                 have n13_ : Aside0 (w.heap.size ≤ gb400) := ⟨h13_⟩
                 have n14_ : Aside0 (gb390 ≠ gb400) := ⟨h14_⟩
                 have n15_ : Aside0 (gb400 ≠ gb390) := ⟨h15_⟩
                 have n16_ : Aside0 (gb391 ≠ gb400) := ⟨h16_⟩
                 have n17_ : Aside0 (gb400 ≠ gb391) := ⟨h17_⟩
                 have n18_ : Aside0 (Below w.heap.size w w64) := ⟨h18_⟩
                 clear BK390
                 clear BK391
                 clear HB
                 clear h0_ h1_ h2_ h3_ h4_ h5_ h6_ h7_ h8_ h9_ h10_ h11_ h12_ h13_ h14_ h15_ h16_ h17_ h18_
                 have BK390 := n0_
                 have BK391 := n1_
                 have BK399 := n2_
                 have BK400 := n3_
                 have GW399 := Aside1.mk n4_.out
                 have GE399 := Aside1.mk n5_.out
                 have NB390_399 := n6_
                 have NB399_390 := n7_
                 have NB391_399 := n8_
                 have NB399_391 := n9_
                 have NB400_399 := n10_
                 have NB399_400 := n11_
                 have GW400 := Aside1.mk n12_.out
                 have GE400 := Aside1.mk n13_.out
                 have NB390_400 := n14_
                 have NB400_390 := n15_
                 have NB391_400 := n16_
                 have NB400_391 := n17_
                 have HB := n18_
                 clear n0_ n1_ n2_ n3_ n4_ n5_ n6_ n7_ n8_ n9_ n10_ n11_ n12_ n13_ n14_ n15_ n16_ n17_ n18_
                 have hHeld : w64.cell? ⟨gb390, 0, none⟩ = some (.int .u64 a2_0) ∧ w64.cell? ⟨gb390, 1, none⟩ = some (.int .u64 a2_1) := hS_
                 refine norm_ (a' := ?_) ?_ ?_
                 rotate_left
                 ·simp only [putAll, Act.put, List.setIfInBounds_toArray, List.set_cons_zero, List.set_cons_succ]
                  rfl
                 refine one_ (i := 3) (N := some 15) #[true, true, true, true, true, true, true, false, true, true, true, false, true, true, false, false, false] rfl rfl (one_of HT_.out (by kernel_rfl)) (by decide) (fun K hK => ?_)
                 refine goes_ Try.func27 (by kernel_rfl) rfl #[.int .i64 a0, .int .i64 a1, .agg #[.int .u64 a2_0, .int .u64 a2_1]] (by rfl) rfl rfl (by (try simp only [List.map_toArray, List.map_cons, List.map_nil]); first | done | rfl | (simp only [List.length_drop, List.length_take]; rfl)) ?_
                 with_reducible refine (frob_Conjugates.calls k a0 a1 a2_0 a2_1 t392 _ A4.out).mono ?_
                 rintro e w65 ⟨v393, rfl, ho0, hb⟩
                 refine ⟨_, rfl, ?_⟩
                 have HO394 := Aside0.mk (Kd.R_lower (Kd.R_newB (Kd.R_newB (Kd.R_newB ho0 (g := gb390) (o := .cells #[.int .u64 a2_0, .int .u64 a2_1] 24 (0, 0)) (bk BK390.out)) (g := gb399) (o := .cells #[.int .u64 0, .int .u64 0] 24 (0, 0)) (bk BK399.out)) (g := gb400) (o := .cells #[.int .u64 0, .int .u64 0] 24 (0, 0)) (bk BK400.out)) (below_size (bq HB.out)))
                 replace BK390 := bb BK390 hb
                 replace BK391 := bb BK391 hb
                 replace BK399 := bb BK399 hb
                 replace BK400 := bb BK400 hb
                 replace HB := bh HB hb
                 (try clear hb)
                 (try clear hb2)
                 (try clear hk)
                 (try clear hi)
                 (try clear ho0)
                 refine hK.out _ _ ⟨(blk_cell BK390.out 0).trans rfl, (blk_cell BK390.out 1).trans rfl⟩ (fun hHeld => ?_)
                 clear hK K
                 refine norm_ (a' := ?_) ?_ ?_
                 rotate_left
                 ·show Act.put _ (some 15) _ = _
                  simp only [Act.put, List.setIfInBounds_toArray, List.set_cons_zero, List.set_cons_succ, i64_w, i32_w]
                  rfl
                 exact norm_ (by first | (simp only [putAll, Act.put, List.setIfInBounds_toArray, List.set_cons_zero, List.set_cons_succ]; done) | (simp only [putAll, Act.put, List.setIfInBounds_toArray, List.set_cons_zero, List.set_cons_succ]; rfl)) (hJ3_12_13 (v393, gb399, gb400) _ ⟨hHeld, (by (with_reducible repeat refine kl ?_); exact Kd.R_mono HO394.out (fun _ hk => ⟨hk.1.1.2, ⟨hk.1.2, hk.2⟩⟩)), (bk BK390.out), (bk BK391.out), (bk BK399.out), (bk BK400.out), GW399.out, GE399.out, NB390_399.out, NB399_390.out, NB391_399.out, NB399_391.out, NB400_399.out, NB399_400.out, GW400.out, GE400.out, NB390_400.out, NB400_390.out, NB391_400.out, NB400_391.out, (bq HB.out)⟩)
               ·skip
                rintro ⟨v393, gb400⟩ w64 ⟨hS_, h0_, h1_, h2_, h3_, h4_, h5_, h6_, h7_, h8_, h9_, h10_⟩
                have n0_ : Aside0 (Kd.R k24 24 w64 w.heap.size (fun k_ => k_ ≠ gb390 ∧ k_ ≠ gb400) v393 t392) := ⟨h0_⟩
                have n1_ : Aside0 (w64.heap[gb390]? = some (.cells #[.int .u64 a2_0, .int .u64 a2_1] 24 (0, 0))) := ⟨h1_⟩
                have n2_ : Aside0 (w64.heap[gb391]? = some (.cells #[.int .u64 a2_0, .int .u64 a2_1] 37 (0, 0))) := ⟨h2_⟩
                have n3_ : Aside0 (w64.heap[gb400]? = some (.cells #[.int .u64 0, .int .u64 0] 24 (0, 0))) := ⟨h3_⟩
                have n4_ : Aside0 (w.heap.size ≤ gb400) := ⟨h4_⟩
                have n5_ : Aside0 (w.heap.size ≤ gb400) := ⟨h5_⟩
                have n6_ : Aside0 (gb390 ≠ gb400) := ⟨h6_⟩
                have n7_ : Aside0 (gb400 ≠ gb390) := ⟨h7_⟩
                have n8_ : Aside0 (gb391 ≠ gb400) := ⟨h8_⟩
                have n9_ : Aside0 (gb400 ≠ gb391) := ⟨h9_⟩
                have n10_ : Aside0 (Below w.heap.size w w64) := ⟨h10_⟩
                clear BK390
                clear BK391
                clear HB
                clear h0_ h1_ h2_ h3_ h4_ h5_ h6_ h7_ h8_ h9_ h10_
                have HO394 := n0_
                have BK390 := n1_
                have BK391 := n2_
                have BK400 := n3_
                have GW400 := Aside1.mk n4_.out
                have GE400 := Aside1.mk n5_.out
                have NB390_400 := n6_
                have NB400_390 := n7_
                have NB391_400 := n8_
                have NB400_391 := n9_
                have HB := n10_
                clear n0_ n1_ n2_ n3_ n4_ n5_ n6_ n7_ n8_ n9_ n10_
                have hHeld : w64.cell? ⟨gb390, 0, none⟩ = some (.int .u64 a2_0) ∧ w64.cell? ⟨gb390, 1, none⟩ = some (.int .u64 a2_1) := hS_
                refine norm_ (a' := ?_) ?_ ?_
                rotate_left
                ·simp only [putAll, Act.put, List.setIfInBounds_toArray, List.set_cons_zero, List.set_cons_succ]
                 rfl
                refine two_ (i := 7) (j := 12) (Ni := some 19) (Nj := some 9) #[true, true, true, true, true, true, true, true, true, true, true, false, false, true, false, false, false] #[true, true, true, true, true, true, true, false, true, true, true, false, true, true, false, false, false] rfl rfl rfl rfl (two_of HT_.out (by kernel_rfl)) (by decide) (by decide) (fun K hK => ?_) (fun K hK => ?_)
                ·skip
                 refine goes_ Try.func11 (by kernel_rfl) rfl #[.int .i64 a0, .int .i64 a1, .agg #[.int .u64 a2_0, .int .u64 a2_1]] (by rfl) rfl rfl (by (try simp only [List.map_toArray, List.map_cons, List.map_nil]); first | done | rfl | (simp only [List.length_drop, List.length_take]; rfl)) ?_
                 with_reducible refine (frob_Trace.calls k a0 a1 a2_0 a2_1 t395 t396 _ A5.out).mono ?_
                 rintro e w65 ⟨rfl, hb⟩
                 refine ⟨_, rfl, ?_⟩
                 replace HO394 := kb HO394 hb
                 replace BK390 := bb BK390 hb
                 replace BK391 := bb BK391 hb
                 replace BK400 := bb BK400 hb
                 replace HB := bh HB hb
                 (try clear hb)
                 (try clear hb2)
                 (try clear hk)
                 (try clear hi)
                 refine hK.out _ _ ⟨(blk_cell BK390.out 0).trans rfl, (blk_cell BK390.out 1).trans rfl⟩ (fun hHeld => ?_)
                 clear hK K
                 refine norm_ (a' := ?_) ?_ ?_
                 rotate_left
                 ·show Act.put _ (some 19) _ = _
                  simp only [Act.put, List.setIfInBounds_toArray, List.set_cons_zero, List.set_cons_succ, i64_w, i32_w]
                  rfl
                 exact norm_ (by first | (simp only [putAll, Act.put, List.setIfInBounds_toArray, List.set_cons_zero, List.set_cons_succ]; done) | (simp only [putAll, Act.put, List.setIfInBounds_toArray, List.set_cons_zero, List.set_cons_succ]; rfl)) (hJ3_7_13 (v393, gb400) _ ⟨hHeld, (kr HO394.out), (bk BK390.out), (bk BK391.out), (bk BK400.out), GW400.out, GE400.out, NB390_400.out, NB400_390.out, NB391_400.out, NB400_391.out, (bq HB.out)⟩)
                ·skip
                 refine box_step ?hg (N := 9) ?hd (cs := #[.int .u64 0, .int .u64 0]) (t := 24) ?hr ?_; (case hd => rfl); (case hg => rfl); (case hr => first | (go_simp; done) | (go_simp; rfl))
                 intro gb399 hg w65 hbox hb
                 have BK399 := Aside0.mk hbox
                 have GW399 := ge hg HB
                 have GE399 := ge hg HB
                 have NB390_399 := nl hg BK390
                 have NB399_390 := ng hg BK390
                 have NB391_399 := nl hg BK391
                 have NB399_391 := ng hg BK391
                 have NB400_399 := nl hg BK400
                 have NB399_400 := ng hg BK400
                 replace HO394 := Aside0.mk (Kd.R_below (Kd.R_elderB (kr HO394.out) gb399 (Nat.le_of_eq hg.symm)) hb)
                 replace BK390 := bb BK390 hb
                 replace BK391 := bb BK391 hb
                 replace BK400 := bb BK400 hb
                 replace HB := bh HB hb
                 clear hb hbox hg
                 refine hK.out _ _ ⟨(blk_cell BK390.out 0).trans rfl, (blk_cell BK390.out 1).trans rfl⟩ (fun hHeld => ?_)
                 clear hK K
                 refine norm_ (a' := ?_) ?_ ?_
                 rotate_left
                 ·show Act.put _ (some 9) _ = _
                  simp only [Act.put, List.setIfInBounds_toArray, List.set_cons_zero, List.set_cons_succ, i64_w, i32_w]
                  rfl
                 exact norm_ (by first | (simp only [putAll, Act.put, List.setIfInBounds_toArray, List.set_cons_zero, List.set_cons_succ]; done) | (simp only [putAll, Act.put, List.setIfInBounds_toArray, List.set_cons_zero, List.set_cons_succ]; rfl)) (hJ3_12_13 (v393, gb399, gb400) _ ⟨hHeld, (by (with_reducible repeat refine kl ?_); exact Kd.R_mono HO394.out (fun _ hk => ⟨hk.1.1, ⟨hk.2, hk.1.2⟩⟩)), (bk BK390.out), (bk BK391.out), (bk BK399.out), (bk BK400.out), GW399.out, GE399.out, NB390_399.out, NB399_390.out, NB391_399.out, NB399_391.out, NB400_399.out, NB399_400.out, GW400.out, GE400.out, NB390_400.out, NB400_390.out, NB391_400.out, NB400_391.out, (bq HB.out)⟩)
              ·skip
               rintro ⟨v393, gb399⟩ w64 ⟨hS_, h0_, h1_, h2_, h3_, h4_, h5_, h6_, h7_, h8_, h9_, h10_⟩
               have n0_ : Aside0 (Kd.R k24 24 w64 w.heap.size (fun k_ => k_ ≠ gb390 ∧ k_ ≠ gb399) v393 t392) := ⟨h0_⟩
               have n1_ : Aside0 (w64.heap[gb390]? = some (.cells #[.int .u64 a2_0, .int .u64 a2_1] 24 (0, 0))) := ⟨h1_⟩
               have n2_ : Aside0 (w64.heap[gb391]? = some (.cells #[.int .u64 a2_0, .int .u64 a2_1] 37 (0, 0))) := ⟨h2_⟩
               have n3_ : Aside0 (w64.heap[gb399]? = some (.cells #[.int .u64 0, .int .u64 0] 24 (0, 0))) := ⟨h3_⟩
               have n4_ : Aside0 (w.heap.size ≤ gb399) := ⟨h4_⟩
               have n5_ : Aside0 (w.heap.size ≤ gb399) := ⟨h5_⟩
               have n6_ : Aside0 (gb390 ≠ gb399) := ⟨h6_⟩
               have n7_ : Aside0 (gb399 ≠ gb390) := ⟨h7_⟩
               have n8_ : Aside0 (gb391 ≠ gb399) := ⟨h8_⟩
               have n9_ : Aside0 (gb399 ≠ gb391) := ⟨h9_⟩
               have n10_ : Aside0 (Below w.heap.size w w64) := ⟨h10_⟩
               clear BK390
               clear BK391
               clear HB
               clear h0_ h1_ h2_ h3_ h4_ h5_ h6_ h7_ h8_ h9_ h10_
               have HO394 := n0_
               have BK390 := n1_
               have BK391 := n2_
               have BK399 := n3_
               have GW399 := Aside1.mk n4_.out
               have GE399 := Aside1.mk n5_.out
               have NB390_399 := n6_
               have NB399_390 := n7_
               have NB391_399 := n8_
               have NB399_391 := n9_
               have HB := n10_
               clear n0_ n1_ n2_ n3_ n4_ n5_ n6_ n7_ n8_ n9_ n10_
               have hHeld : w64.cell? ⟨gb390, 0, none⟩ = some (.int .u64 a2_0) ∧ w64.cell? ⟨gb390, 1, none⟩ = some (.int .u64 a2_1) := hS_
               refine norm_ (a' := ?_) ?_ ?_
               rotate_left
               ·simp only [putAll, Act.put, List.setIfInBounds_toArray, List.set_cons_zero, List.set_cons_succ]
                rfl
               refine two_ (i := 7) (j := 13) (Ni := some 19) (Nj := some 10) #[true, true, true, true, true, true, true, true, true, true, true, false, true, false, false, false, false] #[true, true, true, true, true, true, true, false, true, true, true, false, true, true, false, false, false] rfl rfl rfl rfl (two_of HT_.out (by kernel_rfl)) (by decide) (by decide) (fun K hK => ?_) (fun K hK => ?_)
               ·skip
                refine goes_ Try.func11 (by kernel_rfl) rfl #[.int .i64 a0, .int .i64 a1, .agg #[.int .u64 a2_0, .int .u64 a2_1]] (by rfl) rfl rfl (by (try simp only [List.map_toArray, List.map_cons, List.map_nil]); first | done | rfl | (simp only [List.length_drop, List.length_take]; rfl)) ?_
                with_reducible refine (frob_Trace.calls k a0 a1 a2_0 a2_1 t395 t396 _ A5.out).mono ?_
                rintro e w65 ⟨rfl, hb⟩
                refine ⟨_, rfl, ?_⟩
                replace HO394 := kb HO394 hb
                replace BK390 := bb BK390 hb
                replace BK391 := bb BK391 hb
                replace BK399 := bb BK399 hb
                replace HB := bh HB hb
                (try clear hb)
                (try clear hb2)
                (try clear hk)
                (try clear hi)
                refine hK.out _ _ ⟨(blk_cell BK390.out 0).trans rfl, (blk_cell BK390.out 1).trans rfl⟩ (fun hHeld => ?_)
                clear hK K
                refine norm_ (a' := ?_) ?_ ?_
                rotate_left
                ·show Act.put _ (some 19) _ = _
                 simp only [Act.put, List.setIfInBounds_toArray, List.set_cons_zero, List.set_cons_succ, i64_w, i32_w]
                 rfl
                exact norm_ (by first | (simp only [putAll, Act.put, List.setIfInBounds_toArray, List.set_cons_zero, List.set_cons_succ]; done) | (simp only [putAll, Act.put, List.setIfInBounds_toArray, List.set_cons_zero, List.set_cons_succ]; rfl)) (hJ3_7_12 (v393, gb399) _ ⟨hHeld, (kr HO394.out), (bk BK390.out), (bk BK391.out), (bk BK399.out), GW399.out, GE399.out, NB390_399.out, NB399_390.out, NB391_399.out, NB399_391.out, (bq HB.out)⟩)
               ·skip
                refine box_step ?hg (N := 10) ?hd (cs := #[.int .u64 0, .int .u64 0]) (t := 24) ?hr ?_; (case hd => rfl); (case hg => rfl); (case hr => first | (go_simp; done) | (go_simp; rfl))
                intro gb400 hg w65 hbox hb
                have BK400 := Aside0.mk hbox
                have GW400 := ge hg HB
                have GE400 := ge hg HB
                have NB390_400 := nl hg BK390
                have NB400_390 := ng hg BK390
                have NB391_400 := nl hg BK391
                have NB400_391 := ng hg BK391
                have NB399_400 := nl hg BK399
                have NB400_399 := ng hg BK399
                replace HO394 := Aside0.mk (Kd.R_below (Kd.R_elderB (kr HO394.out) gb400 (Nat.le_of_eq hg.symm)) hb)
                replace BK390 := bb BK390 hb
                replace BK391 := bb BK391 hb
                replace BK399 := bb BK399 hb
                replace HB := bh HB hb
                clear hb hbox hg
                refine hK.out _ _ ⟨(blk_cell BK390.out 0).trans rfl, (blk_cell BK390.out 1).trans rfl⟩ (fun hHeld => ?_)
                clear hK K
                refine norm_ (a' := ?_) ?_ ?_
                rotate_left
                ·show Act.put _ (some 10) _ = _
                 simp only [Act.put, List.setIfInBounds_toArray, List.set_cons_zero, List.set_cons_succ, i64_w, i32_w]
                 rfl
                exact norm_ (by first | (simp only [putAll, Act.put, List.setIfInBounds_toArray, List.set_cons_zero, List.set_cons_succ]; done) | (simp only [putAll, Act.put, List.setIfInBounds_toArray, List.set_cons_zero, List.set_cons_succ]; rfl)) (hJ3_12_13 (v393, gb399, gb400) _ ⟨hHeld, (by (with_reducible repeat refine kl ?_); exact Kd.R_mono HO394.out (fun _ hk => ⟨hk.1.1, ⟨hk.1.2, hk.2⟩⟩)), (bk BK390.out), (bk BK391.out), (bk BK399.out), (bk BK400.out), GW399.out, GE399.out, NB390_399.out, NB399_390.out, NB391_399.out, NB399_391.out, NB400_399.out, NB399_400.out, GW400.out, GE400.out, NB390_400.out, NB400_390.out, NB391_400.out, NB400_391.out, (bq HB.out)⟩)
             ·skip
              rintro v393 w64 ⟨hS_, h0_, h1_, h2_, h3_⟩
              have n0_ : Aside0 (Kd.R k24 24 w64 w.heap.size (fun k_ => k_ ≠ gb390) v393 t392) := ⟨h0_⟩
              have n1_ : Aside0 (w64.heap[gb390]? = some (.cells #[.int .u64 a2_0, .int .u64 a2_1] 24 (0, 0))) := ⟨h1_⟩
              have n2_ : Aside0 (w64.heap[gb391]? = some (.cells #[.int .u64 a2_0, .int .u64 a2_1] 37 (0, 0))) := ⟨h2_⟩
              have n3_ : Aside0 (Below w.heap.size w w64) := ⟨h3_⟩
              clear BK390
              clear BK391
              clear HB
              clear h0_ h1_ h2_ h3_
              have HO394 := n0_
              have BK390 := n1_
              have BK391 := n2_
              have HB := n3_
              clear n0_ n1_ n2_ n3_
              have hHeld : w64.cell? ⟨gb390, 0, none⟩ = some (.int .u64 a2_0) ∧ w64.cell? ⟨gb390, 1, none⟩ = some (.int .u64 a2_1) := hS_
              refine norm_ (a' := ?_) ?_ ?_
              rotate_left
              ·simp only [putAll, Act.put, List.setIfInBounds_toArray, List.set_cons_zero, List.set_cons_succ]
               rfl
              refine three_ (i := 11) (j := 12) (k := 13) (Ni := some 23) (Nj := some 9) (Nk := some 10) #[true, true, true, true, true, true, true, true, true, true, true, true, false, false, false, false, false] #[true, true, true, true, true, true, true, true, true, true, true, false, true, false, false, false, false] #[true, true, true, true, true, true, true, true, true, true, true, false, false, true, false, false, false] rfl rfl rfl rfl rfl rfl (three_of HT_.out (by kernel_rfl)) (by decide) (by decide) (by decide) (fun K hK => ?_) (fun K hK => ?_) (fun K hK => ?_)
              ·skip
               refine goes_ Try.func15 (by kernel_rfl) rfl #[.int .i64 a0, .int .i64 a1, .agg #[.int .u64 a2_0, .int .u64 a2_1]] (by rfl) rfl rfl (by (try simp only [List.map_toArray, List.map_cons, List.map_nil]); first | done | rfl | (simp only [List.length_drop, List.length_take]; rfl)) ?_
               with_reducible refine (frob_Norm.calls k a0 a1 a2_0 a2_1 t397 t398 _ A6.out).mono ?_
               rintro e w65 ⟨rfl, hb⟩
               refine ⟨_, rfl, ?_⟩
               replace HO394 := kb HO394 hb
               replace BK390 := bb BK390 hb
               replace BK391 := bb BK391 hb
               replace HB := bh HB hb
               (try clear hb)
               (try clear hb2)
               (try clear hk)
               (try clear hi)
               refine hK.out _ _ ⟨(blk_cell BK390.out 0).trans rfl, (blk_cell BK390.out 1).trans rfl⟩ (fun hHeld => ?_)
               clear hK K
               refine norm_ (a' := ?_) ?_ ?_
               rotate_left
               ·show Act.put _ (some 23) _ = _
                simp only [Act.put, List.setIfInBounds_toArray, List.set_cons_zero, List.set_cons_succ, i64_w, i32_w]
                rfl
               exact norm_ (by first | (simp only [putAll, Act.put, List.setIfInBounds_toArray, List.set_cons_zero, List.set_cons_succ]; done) | (simp only [putAll, Act.put, List.setIfInBounds_toArray, List.set_cons_zero, List.set_cons_succ]; rfl)) (hJ3_7_11 (v393) _ ⟨hHeld, (kr HO394.out), (bk BK390.out), (bk BK391.out), (bq HB.out)⟩)
              ·skip
               refine box_step ?hg (N := 9) ?hd (cs := #[.int .u64 0, .int .u64 0]) (t := 24) ?hr ?_; (case hd => rfl); (case hg => rfl); (case hr => first | (go_simp; done) | (go_simp; rfl))
               intro gb399 hg w65 hbox hb
               have BK399 := Aside0.mk hbox
               have GW399 := ge hg HB
               have GE399 := ge hg HB
               have NB390_399 := nl hg BK390
               have NB399_390 := ng hg BK390
               have NB391_399 := nl hg BK391
               have NB399_391 := ng hg BK391
               replace HO394 := Aside0.mk (Kd.R_below (Kd.R_elderB (kr HO394.out) gb399 (Nat.le_of_eq hg.symm)) hb)
               replace BK390 := bb BK390 hb
               replace BK391 := bb BK391 hb
               replace HB := bh HB hb
               clear hb hbox hg
               refine hK.out _ _ ⟨(blk_cell BK390.out 0).trans rfl, (blk_cell BK390.out 1).trans rfl⟩ (fun hHeld => ?_)
               clear hK K
               refine norm_ (a' := ?_) ?_ ?_
               rotate_left
               ·show Act.put _ (some 9) _ = _
                simp only [Act.put, List.setIfInBounds_toArray, List.set_cons_zero, List.set_cons_succ, i64_w, i32_w]
                rfl
               exact norm_ (by first | (simp only [putAll, Act.put, List.setIfInBounds_toArray, List.set_cons_zero, List.set_cons_succ]; done) | (simp only [putAll, Act.put, List.setIfInBounds_toArray, List.set_cons_zero, List.set_cons_succ]; rfl)) (hJ3_7_12 (v393, gb399) _ ⟨hHeld, (kr HO394.out), (bk BK390.out), (bk BK391.out), (bk BK399.out), GW399.out, GE399.out, NB390_399.out, NB399_390.out, NB391_399.out, NB399_391.out, (bq HB.out)⟩)
              ·skip
               refine box_step ?hg (N := 10) ?hd (cs := #[.int .u64 0, .int .u64 0]) (t := 24) ?hr ?_; (case hd => rfl); (case hg => rfl); (case hr => first | (go_simp; done) | (go_simp; rfl))
               intro gb400 hg w65 hbox hb
               have BK400 := Aside0.mk hbox
               have GW400 := ge hg HB
               have GE400 := ge hg HB
               have NB390_400 := nl hg BK390
               have NB400_390 := ng hg BK390
               have NB391_400 := nl hg BK391
               have NB400_391 := ng hg BK391
               replace HO394 := Aside0.mk (Kd.R_below (Kd.R_elderB (kr HO394.out) gb400 (Nat.le_of_eq hg.symm)) hb)
               replace BK390 := bb BK390 hb
               replace BK391 := bb BK391 hb
               replace HB := bh HB hb
               clear hb hbox hg
               refine hK.out _ _ ⟨(blk_cell BK390.out 0).trans rfl, (blk_cell BK390.out 1).trans rfl⟩ (fun hHeld => ?_)
               clear hK K
               refine norm_ (a' := ?_) ?_ ?_
               rotate_left
               ·show Act.put _ (some 10) _ = _
                simp only [Act.put, List.setIfInBounds_toArray, List.set_cons_zero, List.set_cons_succ, i64_w, i32_w]
                rfl
               exact norm_ (by first | (simp only [putAll, Act.put, List.setIfInBounds_toArray, List.set_cons_zero, List.set_cons_succ]; done) | (simp only [putAll, Act.put, List.setIfInBounds_toArray, List.set_cons_zero, List.set_cons_succ]; rfl)) (hJ3_7_13 (v393, gb400) _ ⟨hHeld, (kr HO394.out), (bk BK390.out), (bk BK391.out), (bk BK400.out), GW400.out, GE400.out, NB390_400.out, NB400_390.out, NB391_400.out, NB400_391.out, (bq HB.out)⟩)
            ·skip
             rintro ⟨v393, gb399, gb400⟩ w65 ⟨hS_, h0_, h1_, h2_, h3_, h4_, h5_, h6_, h7_, h8_, h9_, h10_, h11_, h12_, h13_, h14_, h15_, h16_, h17_, h18_, h19_⟩
             have n0_ : Aside0 (Kd.R k24 24 w65 w.heap.size (fun k_ => k_ ≠ gb390 ∧ k_ ≠ gb399 ∧ k_ ≠ gb400) v393 t392) := ⟨h0_⟩
             have n1_ : Aside0 (w65.heap[gb390]? = some (.cells #[.int .u64 a2_0, .int .u64 a2_1] 24 (0, 0))) := ⟨h1_⟩
             have n2_ : Aside0 (w65.heap[gb391]? = some (.cells #[.int .u64 a2_0, .int .u64 a2_1] 37 (0, 0))) := ⟨h2_⟩
             have n3_ : Aside0 (w65.heap[gb399]? = some (.cells #[.int .u64 0, .int .u64 0] 24 (0, 0))) := ⟨h3_⟩
             have n4_ : Aside0 (w65.heap[gb400]? = some (.cells #[.int .u64 0, .int .u64 0] 24 (0, 0))) := ⟨h4_⟩
             have n5_ : Aside0 (w.heap.size ≤ gb399) := ⟨h5_⟩
             have n6_ : Aside0 (w.heap.size ≤ gb399) := ⟨h6_⟩
             have n7_ : Aside0 (gb390 ≠ gb399) := ⟨h7_⟩
             have n8_ : Aside0 (gb399 ≠ gb390) := ⟨h8_⟩
             have n9_ : Aside0 (gb391 ≠ gb399) := ⟨h9_⟩
             have n10_ : Aside0 (gb399 ≠ gb391) := ⟨h10_⟩
             have n11_ : Aside0 (gb400 ≠ gb399) := ⟨h11_⟩
             have n12_ : Aside0 (gb399 ≠ gb400) := ⟨h12_⟩
             have n13_ : Aside0 (w.heap.size ≤ gb400) := ⟨h13_⟩
             have n14_ : Aside0 (w.heap.size ≤ gb400) := ⟨h14_⟩
             have n15_ : Aside0 (gb390 ≠ gb400) := ⟨h15_⟩
             have n16_ : Aside0 (gb400 ≠ gb390) := ⟨h16_⟩
             have n17_ : Aside0 (gb391 ≠ gb400) := ⟨h17_⟩
             have n18_ : Aside0 (gb400 ≠ gb391) := ⟨h18_⟩
             have n19_ : Aside0 (Below w.heap.size w w65) := ⟨h19_⟩
             clear BK390
             clear BK391
             clear HB
             clear h0_ h1_ h2_ h3_ h4_ h5_ h6_ h7_ h8_ h9_ h10_ h11_ h12_ h13_ h14_ h15_ h16_ h17_ h18_ h19_
             have HO394 := n0_
             have BK390 := n1_
             have BK391 := n2_
             have BK399 := n3_
             have BK400 := n4_
             have GW399 := Aside1.mk n5_.out
             have GE399 := Aside1.mk n6_.out
             have NB390_399 := n7_
             have NB399_390 := n8_
             have NB391_399 := n9_
             have NB399_391 := n10_
             have NB400_399 := n11_
             have NB399_400 := n12_
             have GW400 := Aside1.mk n13_.out
             have GE400 := Aside1.mk n14_.out
             have NB390_400 := n15_
             have NB400_390 := n16_
             have NB391_400 := n17_
             have NB400_391 := n18_
             have HB := n19_
             clear n0_ n1_ n2_ n3_ n4_ n5_ n6_ n7_ n8_ n9_ n10_ n11_ n12_ n13_ n14_ n15_ n16_ n17_ n18_ n19_
             have hHeld : w65.cell? ⟨gb390, 0, none⟩ = some (.int .u64 a2_0) ∧ w65.cell? ⟨gb390, 1, none⟩ = some (.int .u64 a2_1) := hS_
             refine norm_ (a' := ?_) ?_ ?_
             rotate_left
             ·simp only [putAll, Act.put, List.setIfInBounds_toArray, List.set_cons_zero, List.set_cons_succ]
              rfl
             refine one_ (i := 7) (N := some 19) #[true, true, true, true, true, true, true, true, true, true, true, false, true, true, false, false, false] rfl rfl (one_of HT_.out (by kernel_rfl)) (by decide) (fun K hK => ?_)
             refine goes_ Try.func11 (by kernel_rfl) rfl #[.int .i64 a0, .int .i64 a1, .agg #[.int .u64 a2_0, .int .u64 a2_1]] (by rfl) rfl rfl (by (try simp only [List.map_toArray, List.map_cons, List.map_nil]); first | done | rfl | (simp only [List.length_drop, List.length_take]; rfl)) ?_
             with_reducible refine (frob_Trace.calls k a0 a1 a2_0 a2_1 t395 t396 _ A5.out).mono ?_
             rintro e w66 ⟨rfl, hb⟩
             refine ⟨_, rfl, ?_⟩
             replace HO394 := kb HO394 hb
             replace BK390 := bb BK390 hb
             replace BK391 := bb BK391 hb
             replace BK399 := bb BK399 hb
             replace BK400 := bb BK400 hb
             replace HB := bh HB hb
             (try clear hb)
             (try clear hb2)
             (try clear hk)
             (try clear hi)
             refine hK.out _ _ ⟨(blk_cell BK390.out 0).trans rfl, (blk_cell BK390.out 1).trans rfl⟩ (fun hHeld => ?_)
             clear hK K
             refine norm_ (a' := ?_) ?_ ?_
             rotate_left
             ·show Act.put _ (some 19) _ = _
              simp only [Act.put, List.setIfInBounds_toArray, List.set_cons_zero, List.set_cons_succ, i64_w, i32_w]
              rfl
             exact norm_ (by first | (simp only [putAll, Act.put, List.setIfInBounds_toArray, List.set_cons_zero, List.set_cons_succ]; done) | (simp only [putAll, Act.put, List.setIfInBounds_toArray, List.set_cons_zero, List.set_cons_succ]; rfl)) (hJ3_7_12_13 (v393, gb399, gb400) _ ⟨hHeld, (kr HO394.out), (bk BK390.out), (bk BK391.out), (bk BK399.out), (bk BK400.out), GW399.out, GE399.out, NB390_399.out, NB399_390.out, NB391_399.out, NB399_391.out, NB400_399.out, NB399_400.out, GW400.out, GE400.out, NB390_400.out, NB400_390.out, NB391_400.out, NB400_391.out, (bq HB.out)⟩)
           ·skip
            rintro ⟨v393, gb400⟩ w65 ⟨hS_, h0_, h1_, h2_, h3_, h4_, h5_, h6_, h7_, h8_, h9_, h10_⟩
            have n0_ : Aside0 (Kd.R k24 24 w65 w.heap.size (fun k_ => k_ ≠ gb390 ∧ k_ ≠ gb400) v393 t392) := ⟨h0_⟩
            have n1_ : Aside0 (w65.heap[gb390]? = some (.cells #[.int .u64 a2_0, .int .u64 a2_1] 24 (0, 0))) := ⟨h1_⟩
            have n2_ : Aside0 (w65.heap[gb391]? = some (.cells #[.int .u64 a2_0, .int .u64 a2_1] 37 (0, 0))) := ⟨h2_⟩
            have n3_ : Aside0 (w65.heap[gb400]? = some (.cells #[.int .u64 0, .int .u64 0] 24 (0, 0))) := ⟨h3_⟩
            have n4_ : Aside0 (w.heap.size ≤ gb400) := ⟨h4_⟩
            have n5_ : Aside0 (w.heap.size ≤ gb400) := ⟨h5_⟩
            have n6_ : Aside0 (gb390 ≠ gb400) := ⟨h6_⟩
            have n7_ : Aside0 (gb400 ≠ gb390) := ⟨h7_⟩
            have n8_ : Aside0 (gb391 ≠ gb400) := ⟨h8_⟩
            have n9_ : Aside0 (gb400 ≠ gb391) := ⟨h9_⟩
            have n10_ : Aside0 (Below w.heap.size w w65) := ⟨h10_⟩
            clear BK390
            clear BK391
            clear HB
            clear h0_ h1_ h2_ h3_ h4_ h5_ h6_ h7_ h8_ h9_ h10_
            have HO394 := n0_
            have BK390 := n1_
            have BK391 := n2_
            have BK400 := n3_
            have GW400 := Aside1.mk n4_.out
            have GE400 := Aside1.mk n5_.out
            have NB390_400 := n6_
            have NB400_390 := n7_
            have NB391_400 := n8_
            have NB400_391 := n9_
            have HB := n10_
            clear n0_ n1_ n2_ n3_ n4_ n5_ n6_ n7_ n8_ n9_ n10_
            have hHeld : w65.cell? ⟨gb390, 0, none⟩ = some (.int .u64 a2_0) ∧ w65.cell? ⟨gb390, 1, none⟩ = some (.int .u64 a2_1) := hS_
            refine norm_ (a' := ?_) ?_ ?_
            rotate_left
            ·simp only [putAll, Act.put, List.setIfInBounds_toArray, List.set_cons_zero, List.set_cons_succ]
             rfl
            refine two_ (i := 11) (j := 12) (Ni := some 23) (Nj := some 9) #[true, true, true, true, true, true, true, true, true, true, true, true, false, true, false, false, false] #[true, true, true, true, true, true, true, true, true, true, true, false, true, true, false, false, false] rfl rfl rfl rfl (two_of HT_.out (by kernel_rfl)) (by decide) (by decide) (fun K hK => ?_) (fun K hK => ?_)
            ·skip
             refine goes_ Try.func15 (by kernel_rfl) rfl #[.int .i64 a0, .int .i64 a1, .agg #[.int .u64 a2_0, .int .u64 a2_1]] (by rfl) rfl rfl (by (try simp only [List.map_toArray, List.map_cons, List.map_nil]); first | done | rfl | (simp only [List.length_drop, List.length_take]; rfl)) ?_
             with_reducible refine (frob_Norm.calls k a0 a1 a2_0 a2_1 t397 t398 _ A6.out).mono ?_
             rintro e w66 ⟨rfl, hb⟩
             refine ⟨_, rfl, ?_⟩
             replace HO394 := kb HO394 hb
             replace BK390 := bb BK390 hb
             replace BK391 := bb BK391 hb
             replace BK400 := bb BK400 hb
             replace HB := bh HB hb
             (try clear hb)
             (try clear hb2)
             (try clear hk)
             (try clear hi)
             refine hK.out _ _ ⟨(blk_cell BK390.out 0).trans rfl, (blk_cell BK390.out 1).trans rfl⟩ (fun hHeld => ?_)
             clear hK K
             refine norm_ (a' := ?_) ?_ ?_
             rotate_left
             ·show Act.put _ (some 23) _ = _
              simp only [Act.put, List.setIfInBounds_toArray, List.set_cons_zero, List.set_cons_succ, i64_w, i32_w]
              rfl
             exact norm_ (by first | (simp only [putAll, Act.put, List.setIfInBounds_toArray, List.set_cons_zero, List.set_cons_succ]; done) | (simp only [putAll, Act.put, List.setIfInBounds_toArray, List.set_cons_zero, List.set_cons_succ]; rfl)) (hJ3_7_11_13 (v393, gb400) _ ⟨hHeld, (kr HO394.out), (bk BK390.out), (bk BK391.out), (bk BK400.out), GW400.out, GE400.out, NB390_400.out, NB400_390.out, NB391_400.out, NB400_391.out, (bq HB.out)⟩)
            ·skip
             refine box_step ?hg (N := 9) ?hd (cs := #[.int .u64 0, .int .u64 0]) (t := 24) ?hr ?_; (case hd => rfl); (case hg => rfl); (case hr => first | (go_simp; done) | (go_simp; rfl))
             intro gb399 hg w66 hbox hb
             have BK399 := Aside0.mk hbox
             have GW399 := ge hg HB
             have GE399 := ge hg HB
             have NB390_399 := nl hg BK390
             have NB399_390 := ng hg BK390
             have NB391_399 := nl hg BK391
             have NB399_391 := ng hg BK391
             have NB400_399 := nl hg BK400
             have NB399_400 := ng hg BK400
             replace HO394 := Aside0.mk (Kd.R_below (Kd.R_elderB (kr HO394.out) gb399 (Nat.le_of_eq hg.symm)) hb)
             replace BK390 := bb BK390 hb
             replace BK391 := bb BK391 hb
             replace BK400 := bb BK400 hb
             replace HB := bh HB hb
             clear hb hbox hg
             refine hK.out _ _ ⟨(blk_cell BK390.out 0).trans rfl, (blk_cell BK390.out 1).trans rfl⟩ (fun hHeld => ?_)
             clear hK K
             refine norm_ (a' := ?_) ?_ ?_
             rotate_left
             ·show Act.put _ (some 9) _ = _
              simp only [Act.put, List.setIfInBounds_toArray, List.set_cons_zero, List.set_cons_succ, i64_w, i32_w]
              rfl
             exact norm_ (by first | (simp only [putAll, Act.put, List.setIfInBounds_toArray, List.set_cons_zero, List.set_cons_succ]; done) | (simp only [putAll, Act.put, List.setIfInBounds_toArray, List.set_cons_zero, List.set_cons_succ]; rfl)) (hJ3_7_12_13 (v393, gb399, gb400) _ ⟨hHeld, (by (with_reducible repeat refine kl ?_); exact Kd.R_mono HO394.out (fun _ hk => ⟨hk.1.1, ⟨hk.2, hk.1.2⟩⟩)), (bk BK390.out), (bk BK391.out), (bk BK399.out), (bk BK400.out), GW399.out, GE399.out, NB390_399.out, NB399_390.out, NB391_399.out, NB399_391.out, NB400_399.out, NB399_400.out, GW400.out, GE400.out, NB390_400.out, NB400_390.out, NB391_400.out, NB400_391.out, (bq HB.out)⟩)
          ·skip
           rintro ⟨v393, gb399⟩ w65 ⟨hS_, h0_, h1_, h2_, h3_, h4_, h5_, h6_, h7_, h8_, h9_, h10_⟩
           have n0_ : Aside0 (Kd.R k24 24 w65 w.heap.size (fun k_ => k_ ≠ gb390 ∧ k_ ≠ gb399) v393 t392) := ⟨h0_⟩
           have n1_ : Aside0 (w65.heap[gb390]? = some (.cells #[.int .u64 a2_0, .int .u64 a2_1] 24 (0, 0))) := ⟨h1_⟩
           have n2_ : Aside0 (w65.heap[gb391]? = some (.cells #[.int .u64 a2_0, .int .u64 a2_1] 37 (0, 0))) := ⟨h2_⟩
           have n3_ : Aside0 (w65.heap[gb399]? = some (.cells #[.int .u64 0, .int .u64 0] 24 (0, 0))) := ⟨h3_⟩
           have n4_ : Aside0 (w.heap.size ≤ gb399) := ⟨h4_⟩
           have n5_ : Aside0 (w.heap.size ≤ gb399) := ⟨h5_⟩
           have n6_ : Aside0 (gb390 ≠ gb399) := ⟨h6_⟩
           have n7_ : Aside0 (gb399 ≠ gb390) := ⟨h7_⟩
           have n8_ : Aside0 (gb391 ≠ gb399) := ⟨h8_⟩
           have n9_ : Aside0 (gb399 ≠ gb391) := ⟨h9_⟩
           have n10_ : Aside0 (Below w.heap.size w w65) := ⟨h10_⟩
           clear BK390
           clear BK391
           clear HB
           clear h0_ h1_ h2_ h3_ h4_ h5_ h6_ h7_ h8_ h9_ h10_
           have HO394 := n0_
           have BK390 := n1_
           have BK391 := n2_
           have BK399 := n3_
           have GW399 := Aside1.mk n4_.out
           have GE399 := Aside1.mk n5_.out
           have NB390_399 := n6_
           have NB399_390 := n7_
           have NB391_399 := n8_
           have NB399_391 := n9_
           have HB := n10_
           clear n0_ n1_ n2_ n3_ n4_ n5_ n6_ n7_ n8_ n9_ n10_
           have hHeld : w65.cell? ⟨gb390, 0, none⟩ = some (.int .u64 a2_0) ∧ w65.cell? ⟨gb390, 1, none⟩ = some (.int .u64 a2_1) := hS_
           refine norm_ (a' := ?_) ?_ ?_
           rotate_left
           ·simp only [putAll, Act.put, List.setIfInBounds_toArray, List.set_cons_zero, List.set_cons_succ]
            rfl
           refine two_ (i := 11) (j := 13) (Ni := some 23) (Nj := some 10) #[true, true, true, true, true, true, true, true, true, true, true, true, true, false, false, false, false] #[true, true, true, true, true, true, true, true, true, true, true, false, true, true, false, false, false] rfl rfl rfl rfl (two_of HT_.out (by kernel_rfl)) (by decide) (by decide) (fun K hK => ?_) (fun K hK => ?_)
           ·skip
            refine goes_ Try.func15 (by kernel_rfl) rfl #[.int .i64 a0, .int .i64 a1, .agg #[.int .u64 a2_0, .int .u64 a2_1]] (by rfl) rfl rfl (by (try simp only [List.map_toArray, List.map_cons, List.map_nil]); first | done | rfl | (simp only [List.length_drop, List.length_take]; rfl)) ?_
            with_reducible refine (frob_Norm.calls k a0 a1 a2_0 a2_1 t397 t398 _ A6.out).mono ?_
            rintro e w66 ⟨rfl, hb⟩
            refine ⟨_, rfl, ?_⟩
            replace HO394 := kb HO394 hb
            replace BK390 := bb BK390 hb
            replace BK391 := bb BK391 hb
            replace BK399 := bb BK399 hb
            replace HB := bh HB hb
            (try clear hb)
            (try clear hb2)
            (try clear hk)
            (try clear hi)
            refine hK.out _ _ ⟨(blk_cell BK390.out 0).trans rfl, (blk_cell BK390.out 1).trans rfl⟩ (fun hHeld => ?_)
            clear hK K
            refine norm_ (a' := ?_) ?_ ?_
            rotate_left
            ·show Act.put _ (some 23) _ = _
             simp only [Act.put, List.setIfInBounds_toArray, List.set_cons_zero, List.set_cons_succ, i64_w, i32_w]
             rfl
            exact norm_ (by first | (simp only [putAll, Act.put, List.setIfInBounds_toArray, List.set_cons_zero, List.set_cons_succ]; done) | (simp only [putAll, Act.put, List.setIfInBounds_toArray, List.set_cons_zero, List.set_cons_succ]; rfl)) (hJ3_7_11_12 (v393, gb399) _ ⟨hHeld, (kr HO394.out), (bk BK390.out), (bk BK391.out), (bk BK399.out), GW399.out, GE399.out, NB390_399.out, NB399_390.out, NB391_399.out, NB399_391.out, (bq HB.out)⟩)
           ·skip
            refine box_step ?hg (N := 10) ?hd (cs := #[.int .u64 0, .int .u64 0]) (t := 24) ?hr ?_; (case hd => rfl); (case hg => rfl); (case hr => first | (go_simp; done) | (go_simp; rfl))
            intro gb400 hg w66 hbox hb
            have BK400 := Aside0.mk hbox
            have GW400 := ge hg HB
            have GE400 := ge hg HB
            have NB390_400 := nl hg BK390
            have NB400_390 := ng hg BK390
            have NB391_400 := nl hg BK391
            have NB400_391 := ng hg BK391
            have NB399_400 := nl hg BK399
            have NB400_399 := ng hg BK399
            replace HO394 := Aside0.mk (Kd.R_below (Kd.R_elderB (kr HO394.out) gb400 (Nat.le_of_eq hg.symm)) hb)
            replace BK390 := bb BK390 hb
            replace BK391 := bb BK391 hb
            replace BK399 := bb BK399 hb
            replace HB := bh HB hb
            clear hb hbox hg
            refine hK.out _ _ ⟨(blk_cell BK390.out 0).trans rfl, (blk_cell BK390.out 1).trans rfl⟩ (fun hHeld => ?_)
            clear hK K
            refine norm_ (a' := ?_) ?_ ?_
            rotate_left
            ·show Act.put _ (some 10) _ = _
             simp only [Act.put, List.setIfInBounds_toArray, List.set_cons_zero, List.set_cons_succ, i64_w, i32_w]
             rfl
            exact norm_ (by first | (simp only [putAll, Act.put, List.setIfInBounds_toArray, List.set_cons_zero, List.set_cons_succ]; done) | (simp only [putAll, Act.put, List.setIfInBounds_toArray, List.set_cons_zero, List.set_cons_succ]; rfl)) (hJ3_7_12_13 (v393, gb399, gb400) _ ⟨hHeld, (by (with_reducible repeat refine kl ?_); exact Kd.R_mono HO394.out (fun _ hk => ⟨hk.1.1, ⟨hk.1.2, hk.2⟩⟩)), (bk BK390.out), (bk BK391.out), (bk BK399.out), (bk BK400.out), GW399.out, GE399.out, NB390_399.out, NB399_390.out, NB391_399.out, NB399_391.out, NB400_399.out, NB399_400.out, GW400.out, GE400.out, NB390_400.out, NB400_390.out, NB391_400.out, NB400_391.out, (bq HB.out)⟩)
         ·skip
          rintro v393 w65 ⟨hS_, h0_, h1_, h2_, h3_⟩
          have n0_ : Aside0 (Kd.R k24 24 w65 w.heap.size (fun k_ => k_ ≠ gb390) v393 t392) := ⟨h0_⟩
          have n1_ : Aside0 (w65.heap[gb390]? = some (.cells #[.int .u64 a2_0, .int .u64 a2_1] 24 (0, 0))) := ⟨h1_⟩
          have n2_ : Aside0 (w65.heap[gb391]? = some (.cells #[.int .u64 a2_0, .int .u64 a2_1] 37 (0, 0))) := ⟨h2_⟩
          have n3_ : Aside0 (Below w.heap.size w w65) := ⟨h3_⟩
          clear BK390
          clear BK391
          clear HB
          clear h0_ h1_ h2_ h3_
          have HO394 := n0_
          have BK390 := n1_
          have BK391 := n2_
          have HB := n3_
          clear n0_ n1_ n2_ n3_
          have hHeld : w65.cell? ⟨gb390, 0, none⟩ = some (.int .u64 a2_0) ∧ w65.cell? ⟨gb390, 1, none⟩ = some (.int .u64 a2_1) := hS_
          refine norm_ (a' := ?_) ?_ ?_
          rotate_left
          ·simp only [putAll, Act.put, List.setIfInBounds_toArray, List.set_cons_zero, List.set_cons_succ]
           rfl
          refine two_ (i := 12) (j := 13) (Ni := some 9) (Nj := some 10) #[true, true, true, true, true, true, true, true, true, true, true, true, true, false, false, false, false] #[true, true, true, true, true, true, true, true, true, true, true, true, false, true, false, false, false] rfl rfl rfl rfl (two_of HT_.out (by kernel_rfl)) (by decide) (by decide) (fun K hK => ?_) (fun K hK => ?_)
          ·skip
           refine box_step ?hg (N := 9) ?hd (cs := #[.int .u64 0, .int .u64 0]) (t := 24) ?hr ?_; (case hd => rfl); (case hg => rfl); (case hr => first | (go_simp; done) | (go_simp; rfl))
           intro gb399 hg w66 hbox hb
           have BK399 := Aside0.mk hbox
           have GW399 := ge hg HB
           have GE399 := ge hg HB
           have NB390_399 := nl hg BK390
           have NB399_390 := ng hg BK390
           have NB391_399 := nl hg BK391
           have NB399_391 := ng hg BK391
           replace HO394 := Aside0.mk (Kd.R_below (Kd.R_elderB (kr HO394.out) gb399 (Nat.le_of_eq hg.symm)) hb)
           replace BK390 := bb BK390 hb
           replace BK391 := bb BK391 hb
           replace HB := bh HB hb
           clear hb hbox hg
           refine hK.out _ _ ⟨(blk_cell BK390.out 0).trans rfl, (blk_cell BK390.out 1).trans rfl⟩ (fun hHeld => ?_)
           clear hK K
           refine norm_ (a' := ?_) ?_ ?_
           rotate_left
           ·show Act.put _ (some 9) _ = _
            simp only [Act.put, List.setIfInBounds_toArray, List.set_cons_zero, List.set_cons_succ, i64_w, i32_w]
            rfl
           exact norm_ (by first | (simp only [putAll, Act.put, List.setIfInBounds_toArray, List.set_cons_zero, List.set_cons_succ]; done) | (simp only [putAll, Act.put, List.setIfInBounds_toArray, List.set_cons_zero, List.set_cons_succ]; rfl)) (hJ3_7_11_12 (v393, gb399) _ ⟨hHeld, (kr HO394.out), (bk BK390.out), (bk BK391.out), (bk BK399.out), GW399.out, GE399.out, NB390_399.out, NB399_390.out, NB391_399.out, NB399_391.out, (bq HB.out)⟩)
          ·skip
           refine box_step ?hg (N := 10) ?hd (cs := #[.int .u64 0, .int .u64 0]) (t := 24) ?hr ?_; (case hd => rfl); (case hg => rfl); (case hr => first | (go_simp; done) | (go_simp; rfl))
           intro gb400 hg w66 hbox hb
           have BK400 := Aside0.mk hbox
           have GW400 := ge hg HB
           have GE400 := ge hg HB
           have NB390_400 := nl hg BK390
           have NB400_390 := ng hg BK390
           have NB391_400 := nl hg BK391
           have NB400_391 := ng hg BK391
           replace HO394 := Aside0.mk (Kd.R_below (Kd.R_elderB (kr HO394.out) gb400 (Nat.le_of_eq hg.symm)) hb)
           replace BK390 := bb BK390 hb
           replace BK391 := bb BK391 hb
           replace HB := bh HB hb
           clear hb hbox hg
           refine hK.out _ _ ⟨(blk_cell BK390.out 0).trans rfl, (blk_cell BK390.out 1).trans rfl⟩ (fun hHeld => ?_)
           clear hK K
           refine norm_ (a' := ?_) ?_ ?_
           rotate_left
           ·show Act.put _ (some 10) _ = _
            simp only [Act.put, List.setIfInBounds_toArray, List.set_cons_zero, List.set_cons_succ, i64_w, i32_w]
            rfl
           exact norm_ (by first | (simp only [putAll, Act.put, List.setIfInBounds_toArray, List.set_cons_zero, List.set_cons_succ]; done) | (simp only [putAll, Act.put, List.setIfInBounds_toArray, List.set_cons_zero, List.set_cons_succ]; rfl)) (hJ3_7_11_13 (v393, gb400) _ ⟨hHeld, (kr HO394.out), (bk BK390.out), (bk BK391.out), (bk BK400.out), GW400.out, GE400.out, NB390_400.out, NB400_390.out, NB391_400.out, NB400_391.out, (bq HB.out)⟩)
        ·skip
         rintro ⟨v393, gb399, gb400⟩ w66 ⟨hS_, h0_, h1_, h2_, h3_, h4_, h5_, h6_, h7_, h8_, h9_, h10_, h11_, h12_, h13_, h14_, h15_, h16_, h17_, h18_, h19_⟩
         have n0_ : Aside0 (Kd.R k24 24 w66 w.heap.size (fun k_ => k_ ≠ gb390 ∧ k_ ≠ gb399 ∧ k_ ≠ gb400) v393 t392) := ⟨h0_⟩
         have n1_ : Aside0 (w66.heap[gb390]? = some (.cells #[.int .u64 a2_0, .int .u64 a2_1] 24 (0, 0))) := ⟨h1_⟩
         have n2_ : Aside0 (w66.heap[gb391]? = some (.cells #[.int .u64 a2_0, .int .u64 a2_1] 37 (0, 0))) := ⟨h2_⟩
         have n3_ : Aside0 (w66.heap[gb399]? = some (.cells #[.int .u64 0, .int .u64 0] 24 (0, 0))) := ⟨h3_⟩
         have n4_ : Aside0 (w66.heap[gb400]? = some (.cells #[.int .u64 0, .int .u64 0] 24 (0, 0))) := ⟨h4_⟩
         have n5_ : Aside0 (w.heap.size ≤ gb399) := ⟨h5_⟩
         have n6_ : Aside0 (w.heap.size ≤ gb399) := ⟨h6_⟩
         have n7_ : Aside0 (gb390 ≠ gb399) := ⟨h7_⟩
         have n8_ : Aside0 (gb399 ≠ gb390) := ⟨h8_⟩
         have n9_ : Aside0 (gb391 ≠ gb399) := ⟨h9_⟩
         have n10_ : Aside0 (gb399 ≠ gb391) := ⟨h10_⟩
         have n11_ : Aside0 (gb400 ≠ gb399) := ⟨h11_⟩
         have n12_ : Aside0 (gb399 ≠ gb400) := ⟨h12_⟩
         have n13_ : Aside0 (w.heap.size ≤ gb400) := ⟨h13_⟩
         have n14_ : Aside0 (w.heap.size ≤ gb400) := ⟨h14_⟩
         have n15_ : Aside0 (gb390 ≠ gb400) := ⟨h15_⟩
         have n16_ : Aside0 (gb400 ≠ gb390) := ⟨h16_⟩
         have n17_ : Aside0 (gb391 ≠ gb400) := ⟨h17_⟩
         have n18_ : Aside0 (gb400 ≠ gb391) := ⟨h18_⟩
         have n19_ : Aside0 (Below w.heap.size w w66) := ⟨h19_⟩
         clear BK390
         clear BK391
         clear HB
         clear h0_ h1_ h2_ h3_ h4_ h5_ h6_ h7_ h8_ h9_ h10_ h11_ h12_ h13_ h14_ h15_ h16_ h17_ h18_ h19_
         have HO394 := n0_
         have BK390 := n1_
         have BK391 := n2_
         have BK399 := n3_
         have BK400 := n4_
         have GW399 := Aside1.mk n5_.out
         have GE399 := Aside1.mk n6_.out
         have NB390_399 := n7_
         have NB399_390 := n8_
         have NB391_399 := n9_
         have NB399_391 := n10_
         have NB400_399 := n11_
         have NB399_400 := n12_
         have GW400 := Aside1.mk n13_.out
         have GE400 := Aside1.mk n14_.out
         have NB390_400 := n15_
         have NB400_390 := n16_
         have NB391_400 := n17_
         have NB400_391 := n18_
         have HB := n19_
         clear n0_ n1_ n2_ n3_ n4_ n5_ n6_ n7_ n8_ n9_ n10_ n11_ n12_ n13_ n14_ n15_ n16_ n17_ n18_ n19_
         have hHeld : w66.cell? ⟨gb390, 0, none⟩ = some (.int .u64 a2_0) ∧ w66.cell? ⟨gb390, 1, none⟩ = some (.int .u64 a2_1) := hS_
         refine norm_ (a' := ?_) ?_ ?_
         rotate_left
         ·simp only [putAll, Act.put, List.setIfInBounds_toArray, List.set_cons_zero, List.set_cons_succ]
          rfl
         refine one_ (i := 11) (N := some 23) #[true, true, true, true, true, true, true, true, true, true, true, true, true, true, false, false, false] rfl rfl (one_of HT_.out (by kernel_rfl)) (by decide) (fun K hK => ?_)
         refine goes_ Try.func15 (by kernel_rfl) rfl #[.int .i64 a0, .int .i64 a1, .agg #[.int .u64 a2_0, .int .u64 a2_1]] (by rfl) rfl rfl (by (try simp only [List.map_toArray, List.map_cons, List.map_nil]); first | done | rfl | (simp only [List.length_drop, List.length_take]; rfl)) ?_
         with_reducible refine (frob_Norm.calls k a0 a1 a2_0 a2_1 t397 t398 _ A6.out).mono ?_
         rintro e w67 ⟨rfl, hb⟩
         refine ⟨_, rfl, ?_⟩
         replace HO394 := kb HO394 hb
         replace BK390 := bb BK390 hb
         replace BK391 := bb BK391 hb
         replace BK399 := bb BK399 hb
         replace BK400 := bb BK400 hb
         replace HB := bh HB hb
         (try clear hb)
         (try clear hb2)
         (try clear hk)
         (try clear hi)
         refine hK.out _ _ ⟨(blk_cell BK390.out 0).trans rfl, (blk_cell BK390.out 1).trans rfl⟩ (fun hHeld => ?_)
         clear hK K
         refine norm_ (a' := ?_) ?_ ?_
         rotate_left
         ·show Act.put _ (some 23) _ = _
          simp only [Act.put, List.setIfInBounds_toArray, List.set_cons_zero, List.set_cons_succ, i64_w, i32_w]
          rfl
         exact norm_ (by first | (simp only [putAll, Act.put, List.setIfInBounds_toArray, List.set_cons_zero, List.set_cons_succ]; done) | (simp only [putAll, Act.put, List.setIfInBounds_toArray, List.set_cons_zero, List.set_cons_succ]; rfl)) (hJ3_7_11_12_13 (v393, gb399, gb400) _ ⟨hHeld, (kr HO394.out), (bk BK390.out), (bk BK391.out), (bk BK399.out), (bk BK400.out), GW399.out, GE399.out, NB390_399.out, NB399_390.out, NB391_399.out, NB399_391.out, NB400_399.out, NB399_400.out, GW400.out, GE400.out, NB390_400.out, NB400_390.out, NB391_400.out, NB400_391.out, (bq HB.out)⟩)
       ·skip
        rintro ⟨v393, gb400⟩ w66 ⟨hS_, h0_, h1_, h2_, h3_, h4_, h5_, h6_, h7_, h8_, h9_, h10_⟩
        have n0_ : Aside0 (Kd.R k24 24 w66 w.heap.size (fun k_ => k_ ≠ gb390 ∧ k_ ≠ gb400) v393 t392) := ⟨h0_⟩
        have n1_ : Aside0 (w66.heap[gb390]? = some (.cells #[.int .u64 a2_0, .int .u64 a2_1] 24 (0, 0))) := ⟨h1_⟩
        have n2_ : Aside0 (w66.heap[gb391]? = some (.cells #[.int .u64 a2_0, .int .u64 a2_1] 37 (0, 0))) := ⟨h2_⟩
        have n3_ : Aside0 (w66.heap[gb400]? = some (.cells #[.int .u64 0, .int .u64 0] 24 (0, 0))) := ⟨h3_⟩
        have n4_ : Aside0 (w.heap.size ≤ gb400) := ⟨h4_⟩
        have n5_ : Aside0 (w.heap.size ≤ gb400) := ⟨h5_⟩
        have n6_ : Aside0 (gb390 ≠ gb400) := ⟨h6_⟩
        have n7_ : Aside0 (gb400 ≠ gb390) := ⟨h7_⟩
        have n8_ : Aside0 (gb391 ≠ gb400) := ⟨h8_⟩
        have n9_ : Aside0 (gb400 ≠ gb391) := ⟨h9_⟩
        have n10_ : Aside0 (Below w.heap.size w w66) := ⟨h10_⟩
        clear BK390
        clear BK391
        clear HB
        clear h0_ h1_ h2_ h3_ h4_ h5_ h6_ h7_ h8_ h9_ h10_
        have HO394 := n0_
        have BK390 := n1_
        have BK391 := n2_
        have BK400 := n3_
        have GW400 := Aside1.mk n4_.out
        have GE400 := Aside1.mk n5_.out
        have NB390_400 := n6_
        have NB400_390 := n7_
        have NB391_400 := n8_
        have NB400_391 := n9_
        have HB := n10_
        clear n0_ n1_ n2_ n3_ n4_ n5_ n6_ n7_ n8_ n9_ n10_
        have hHeld : w66.cell? ⟨gb390, 0, none⟩ = some (.int .u64 a2_0) ∧ w66.cell? ⟨gb390, 1, none⟩ = some (.int .u64 a2_1) := hS_
        refine norm_ (a' := ?_) ?_ ?_
        rotate_left
        ·simp only [putAll, Act.put, List.setIfInBounds_toArray, List.set_cons_zero, List.set_cons_succ]
         rfl
        refine one_ (i := 12) (N := some 9) #[true, true, true, true, true, true, true, true, true, true, true, true, true, true, false, false, false] rfl rfl (one_of HT_.out (by kernel_rfl)) (by decide) (fun K hK => ?_)
        refine box_step ?hg (N := 9) ?hd (cs := #[.int .u64 0, .int .u64 0]) (t := 24) ?hr ?_; (case hd => rfl); (case hg => rfl); (case hr => first | (go_simp; done) | (go_simp; rfl))
        intro gb399 hg w67 hbox hb
        have BK399 := Aside0.mk hbox
        have GW399 := ge hg HB
        have GE399 := ge hg HB
        have NB390_399 := nl hg BK390
        have NB399_390 := ng hg BK390
        have NB391_399 := nl hg BK391
        have NB399_391 := ng hg BK391
        have NB400_399 := nl hg BK400
        have NB399_400 := ng hg BK400
        replace HO394 := Aside0.mk (Kd.R_below (Kd.R_elderB (kr HO394.out) gb399 (Nat.le_of_eq hg.symm)) hb)
        replace BK390 := bb BK390 hb
        replace BK391 := bb BK391 hb
        replace BK400 := bb BK400 hb
        replace HB := bh HB hb
        clear hb hbox hg
        refine hK.out _ _ ⟨(blk_cell BK390.out 0).trans rfl, (blk_cell BK390.out 1).trans rfl⟩ (fun hHeld => ?_)
        clear hK K
        refine norm_ (a' := ?_) ?_ ?_
        rotate_left
        ·show Act.put _ (some 9) _ = _
         simp only [Act.put, List.setIfInBounds_toArray, List.set_cons_zero, List.set_cons_succ, i64_w, i32_w]
         rfl
        exact norm_ (by first | (simp only [putAll, Act.put, List.setIfInBounds_toArray, List.set_cons_zero, List.set_cons_succ]; done) | (simp only [putAll, Act.put, List.setIfInBounds_toArray, List.set_cons_zero, List.set_cons_succ]; rfl)) (hJ3_7_11_12_13 (v393, gb399, gb400) _ ⟨hHeld, (by (with_reducible repeat refine kl ?_); exact Kd.R_mono HO394.out (fun _ hk => ⟨hk.1.1, ⟨hk.2, hk.1.2⟩⟩)), (bk BK390.out), (bk BK391.out), (bk BK399.out), (bk BK400.out), GW399.out, GE399.out, NB390_399.out, NB399_390.out, NB391_399.out, NB399_391.out, NB400_399.out, NB399_400.out, GW400.out, GE400.out, NB390_400.out, NB400_390.out, NB391_400.out, NB400_391.out, (bq HB.out)⟩)
      ·skip
       rintro ⟨v393, gb399⟩ w66 ⟨hS_, h0_, h1_, h2_, h3_, h4_, h5_, h6_, h7_, h8_, h9_, h10_⟩
       have n0_ : Aside0 (Kd.R k24 24 w66 w.heap.size (fun k_ => k_ ≠ gb390 ∧ k_ ≠ gb399) v393 t392) := ⟨h0_⟩
       have n1_ : Aside0 (w66.heap[gb390]? = some (.cells #[.int .u64 a2_0, .int .u64 a2_1] 24 (0, 0))) := ⟨h1_⟩
       have n2_ : Aside0 (w66.heap[gb391]? = some (.cells #[.int .u64 a2_0, .int .u64 a2_1] 37 (0, 0))) := ⟨h2_⟩
       have n3_ : Aside0 (w66.heap[gb399]? = some (.cells #[.int .u64 0, .int .u64 0] 24 (0, 0))) := ⟨h3_⟩
       have n4_ : Aside0 (w.heap.size ≤ gb399) := ⟨h4_⟩
       have n5_ : Aside0 (w.heap.size ≤ gb399) := ⟨h5_⟩
       have n6_ : Aside0 (gb390 ≠ gb399) := ⟨h6_⟩
       have n7_ : Aside0 (gb399 ≠ gb390) := ⟨h7_⟩
       have n8_ : Aside0 (gb391 ≠ gb399) := ⟨h8_⟩
       have n9_ : Aside0 (gb399 ≠ gb391) := ⟨h9_⟩
       have n10_ : Aside0 (Below w.heap.size w w66) := ⟨h10_⟩
       clear BK390
       clear BK391
       clear HB
       clear h0_ h1_ h2_ h3_ h4_ h5_ h6_ h7_ h8_ h9_ h10_
       have HO394 := n0_
       have BK390 := n1_
       have BK391 := n2_
       have BK399 := n3_
       have GW399 := Aside1.mk n4_.out
       have GE399 := Aside1.mk n5_.out
       have NB390_399 := n6_
       have NB399_390 := n7_
       have NB391_399 := n8_
       have NB399_391 := n9_
       have HB := n10_
       clear n0_ n1_ n2_ n3_ n4_ n5_ n6_ n7_ n8_ n9_ n10_
       have hHeld : w66.cell? ⟨gb390, 0, none⟩ = some (.int .u64 a2_0) ∧ w66.cell? ⟨gb390, 1, none⟩ = some (.int .u64 a2_1) := hS_
       refine norm_ (a' := ?_) ?_ ?_
       rotate_left
       ·simp only [putAll, Act.put, List.setIfInBounds_toArray, List.set_cons_zero, List.set_cons_succ]
        rfl
       refine one_ (i := 13) (N := some 10) #[true, true, true, true, true, true, true, true, true, true, true, true, true, true, false, false, false] rfl rfl (one_of HT_.out (by kernel_rfl)) (by decide) (fun K hK => ?_)
       refine box_step ?hg (N := 10) ?hd (cs := #[.int .u64 0, .int .u64 0]) (t := 24) ?hr ?_; (case hd => rfl); (case hg => rfl); (case hr => first | (go_simp; done) | (go_simp; rfl))
       intro gb400 hg w67 hbox hb
       have BK400 := Aside0.mk hbox
       have GW400 := ge hg HB
       have GE400 := ge hg HB
       have NB390_400 := nl hg BK390
       have NB400_390 := ng hg BK390
       have NB391_400 := nl hg BK391
       have NB400_391 := ng hg BK391
       have NB399_400 := nl hg BK399
       have NB400_399 := ng hg BK399
       replace HO394 := Aside0.mk (Kd.R_below (Kd.R_elderB (kr HO394.out) gb400 (Nat.le_of_eq hg.symm)) hb)
       replace BK390 := bb BK390 hb
       replace BK391 := bb BK391 hb
       replace BK399 := bb BK399 hb
       replace HB := bh HB hb
       clear hb hbox hg
       refine hK.out _ _ ⟨(blk_cell BK390.out 0).trans rfl, (blk_cell BK390.out 1).trans rfl⟩ (fun hHeld => ?_)
       clear hK K
       refine norm_ (a' := ?_) ?_ ?_
       rotate_left
       ·show Act.put _ (some 10) _ = _
        simp only [Act.put, List.setIfInBounds_toArray, List.set_cons_zero, List.set_cons_succ, i64_w, i32_w]
        rfl
       exact norm_ (by first | (simp only [putAll, Act.put, List.setIfInBounds_toArray, List.set_cons_zero, List.set_cons_succ]; done) | (simp only [putAll, Act.put, List.setIfInBounds_toArray, List.set_cons_zero, List.set_cons_succ]; rfl)) (hJ3_7_11_12_13 (v393, gb399, gb400) _ ⟨hHeld, (by (with_reducible repeat refine kl ?_); exact Kd.R_mono HO394.out (fun _ hk => ⟨hk.1.1, ⟨hk.1.2, hk.2⟩⟩)), (bk BK390.out), (bk BK391.out), (bk BK399.out), (bk BK400.out), GW399.out, GE399.out, NB390_399.out, NB399_390.out, NB391_399.out, NB399_391.out, NB400_399.out, NB399_400.out, GW400.out, GE400.out, NB390_400.out, NB400_390.out, NB391_400.out, NB400_391.out, (bq HB.out)⟩)
     rintro ⟨v393, gb399, gb400⟩ w67 ⟨hS_, h0_, h1_, h2_, h3_, h4_, h5_, h6_, h7_, h8_, h9_, h10_, h11_, h12_, h13_, h14_, h15_, h16_, h17_, h18_, h19_⟩
     have n0_ : Aside0 (Kd.R k24 24 w67 w.heap.size (fun k_ => k_ ≠ gb390 ∧ k_ ≠ gb399 ∧ k_ ≠ gb400) v393 t392) := ⟨h0_⟩
     have n1_ : Aside0 (w67.heap[gb390]? = some (.cells #[.int .u64 a2_0, .int .u64 a2_1] 24 (0, 0))) := ⟨h1_⟩
     have n2_ : Aside0 (w67.heap[gb391]? = some (.cells #[.int .u64 a2_0, .int .u64 a2_1] 37 (0, 0))) := ⟨h2_⟩
     have n3_ : Aside0 (w67.heap[gb399]? = some (.cells #[.int .u64 0, .int .u64 0] 24 (0, 0))) := ⟨h3_⟩
     have n4_ : Aside0 (w67.heap[gb400]? = some (.cells #[.int .u64 0, .int .u64 0] 24 (0, 0))) := ⟨h4_⟩
     have n5_ : Aside0 (w.heap.size ≤ gb399) := ⟨h5_⟩
     have n6_ : Aside0 (w.heap.size ≤ gb399) := ⟨h6_⟩
     have n7_ : Aside0 (gb390 ≠ gb399) := ⟨h7_⟩
     have n8_ : Aside0 (gb399 ≠ gb390) := ⟨h8_⟩
     have n9_ : Aside0 (gb391 ≠ gb399) := ⟨h9_⟩
     have n10_ : Aside0 (gb399 ≠ gb391) := ⟨h10_⟩
     have n11_ : Aside0 (gb400 ≠ gb399) := ⟨h11_⟩
     have n12_ : Aside0 (gb399 ≠ gb400) := ⟨h12_⟩
     have n13_ : Aside0 (w.heap.size ≤ gb400) := ⟨h13_⟩
     have n14_ : Aside0 (w.heap.size ≤ gb400) := ⟨h14_⟩
     have n15_ : Aside0 (gb390 ≠ gb400) := ⟨h15_⟩
     have n16_ : Aside0 (gb400 ≠ gb390) := ⟨h16_⟩
     have n17_ : Aside0 (gb391 ≠ gb400) := ⟨h17_⟩
     have n18_ : Aside0 (gb400 ≠ gb391) := ⟨h18_⟩
     have n19_ : Aside0 (Below w.heap.size w w67) := ⟨h19_⟩
     clear BK390
     clear BK391
     clear HB
     clear h0_ h1_ h2_ h3_ h4_ h5_ h6_ h7_ h8_ h9_ h10_ h11_ h12_ h13_ h14_ h15_ h16_ h17_ h18_ h19_
     have HO394 := n0_
     have BK390 := n1_
     have BK391 := n2_
     have BK399 := n3_
     have BK400 := n4_
     have GW399 := Aside1.mk n5_.out
     have GE399 := Aside1.mk n6_.out
     have NB390_399 := n7_
     have NB399_390 := n8_
     have NB391_399 := n9_
     have NB399_391 := n10_
     have NB400_399 := n11_
     have NB399_400 := n12_
     have GW400 := Aside1.mk n13_.out
     have GE400 := Aside1.mk n14_.out
     have NB390_400 := n15_
     have NB400_390 := n16_
     have NB391_400 := n17_
     have NB400_391 := n18_
     have HB := n19_
     clear n0_ n1_ n2_ n3_ n4_ n5_ n6_ n7_ n8_ n9_ n10_ n11_ n12_ n13_ n14_ n15_ n16_ n17_ n18_ n19_
     have hHeld : w67.cell? ⟨gb390, 0, none⟩ = some (.int .u64 a2_0) ∧ w67.cell? ⟨gb390, 1, none⟩ = some (.int .u64 a2_1) := hS_
     refine norm_ (a' := ?_) ?_ ?_
     rotate_left
     ·simp only [putAll, Act.put, List.setIfInBounds_toArray, List.set_cons_zero, List.set_cons_succ]
      rfl
     refine pure_ (i := 14) (N := some 8) (v := ?_) (a' := ?_) #[true, true, true, true, true, true, true, true, true, true, true, true, true, true, true, false, false] rfl rfl (any_of HT_.out (by kernel_rfl)) (fun _ _ _ h => h) (Or.inl ⟨by rfl, ?_⟩) ?_ ?_
     rotate_left
     ·intro w'
      go_simp
      with_reducible rfl
     rotate_left
     ·simp only [Act.put, List.setIfInBounds_toArray, List.set_cons_zero, List.set_cons_succ, i64_w, i32_w]
      rfl
     refine one_ (i := 15) (N := none) #[true, true, true, true, true, true, true, true, true, true, true, true, true, true, true, true, false] rfl rfl (one_of HT_.out (by kernel_rfl)) (by decide) (fun K hK => ?_)
     have hs68 : w67.cell? ⟨gb399, 0, none⟩ = some (.int .u64 0) := (blk_cell BK399.out 0).trans rfl
     have hfs68 := blk_frozen BK399.out 0
     have hns68_0 := NB390_399.out
     have hns68_1 := NB391_399.out
     have hns68_3 := NB400_399.out
     have hms68_0 := NB399_390.out
     have hms68_1 := NB399_391.out
     have hms68_3 := NB399_400.out
     have hs69 : w67.cell? ⟨gb399, 1, none⟩ = some (.int .u64 0) := (blk_cell BK399.out 1).trans rfl
     have hfs69 := blk_frozen BK399.out 1
     have hns69_0 := NB390_399.out
     have hns69_1 := NB391_399.out
     have hns69_3 := NB400_399.out
     have hms69_0 := NB399_390.out
     have hms69_1 := NB399_391.out
     have hms69_3 := NB399_400.out
     refine skip_ (w1 := ?_) (by rfl) rfl ?_ ?_
     rotate_left
     ·go_simp
      rfl
     refine hK.out _ _ ⟨((cell_far (p := ⟨gb399, _, none⟩) NB390_399.out _).trans (((cell_far (p := ⟨gb399, _, none⟩) NB390_399.out _).trans (hHeld.1)))), ((cell_far (p := ⟨gb399, _, none⟩) NB390_399.out _).trans (((cell_far (p := ⟨gb399, _, none⟩) NB390_399.out _).trans (hHeld.2))))⟩ (fun hHeld => ?_)
     clear hK K
     refine one_ (i := 16) (N := none) #[true, true, true, true, true, true, true, true, true, true, true, true, true, true, true, true, true] rfl rfl (one_of HT_.out (by kernel_rfl)) (by decide) (fun K hK => ?_)
     have hs70 : w67.cell? ⟨gb400, 0, none⟩ = some (.int .u64 0) := (blk_cell BK400.out 0).trans rfl
     have hfs70 := blk_frozen BK400.out 0
     have hns70_0 := NB390_400.out
     have hns70_1 := NB391_400.out
     have hns70_2 := NB399_400.out
     have hms70_0 := NB400_390.out
     have hms70_1 := NB400_391.out
     have hms70_2 := NB400_399.out
     have hs71 : w67.cell? ⟨gb400, 1, none⟩ = some (.int .u64 0) := (blk_cell BK400.out 1).trans rfl
     have hfs71 := blk_frozen BK400.out 1
     have hns71_0 := NB390_400.out
     have hns71_1 := NB391_400.out
     have hns71_2 := NB399_400.out
     have hms71_0 := NB400_390.out
     have hms71_1 := NB400_391.out
     have hms71_2 := NB400_399.out
     refine skip_ (w1 := ?_) (by rfl) rfl ?_ ?_
     rotate_left
     ·go_simp
      rfl
     refine hK.out _ _ ⟨((cell_far (p := ⟨gb400, _, none⟩) NB390_400.out _).trans (((cell_far (p := ⟨gb400, _, none⟩) NB390_400.out _).trans (hHeld.1)))), ((cell_far (p := ⟨gb400, _, none⟩) NB390_400.out _).trans (((cell_far (p := ⟨gb400, _, none⟩) NB390_400.out _).trans (hHeld.2))))⟩ (fun hHeld => ?_)
     clear hK K
     refine done_ (done_of HT_.out (by kernel_rfl)) ?_
     have hnb72 := NB391_399.out
     have hnc72 := NB399_391.out
     have hnb73 := NB391_400.out
     have hnc73 := NB400_391.out
     obtain ⟨hcz74_0, hcz74_1⟩ := zc2 BK391
     obtain ⟨hfz74_0, hfz74_1⟩ := zf2 BK391
     try go_wp2_with (first | ((with_reducible refine gate_callee (f := 28) rfl ?_); refine goesL_ (some 27) rfl rfl Try.func28 (by kernel_rfl) rfl #[.int .i64 a0, .int .i64 a1, .agg #[.int .u64 a2_0, .int .u64 a2_1]] rfl (by (try simp only [List.map_toArray, List.map_cons, List.map_nil]); first | done | rfl | (simp only [List.length_drop, List.length_take]; rfl)) ?_; (with_reducible refine (steepleref33_Fits.calls k a0 a1 a2_0 a2_1 false _ A7.out).mono ?_); rintro e w75 ⟨rfl, hb⟩; refine ⟨_, rfl, ?_⟩; replace HO394 := Aside0.mk (Kd.R_below (by (with_reducible repeat refine kl ?_); exact (Kd.R_mono (Kd.R_mono (Kd.R_far (p := ⟨gb400, 1, none⟩) (Kd.R_far (p := ⟨gb400, 0, none⟩) (Kd.R_far (p := ⟨gb399, 1, none⟩) (Kd.R_far (p := ⟨gb399, 0, none⟩) (Kd.R_mono (Kd.R_mono HO394.out (fun k_ hk => (⟨hk, hk.2.1⟩ : _ ∧ k_ ≠ gb399))) (fun k_ hk => (⟨hk, hk.1.2.2⟩ : _ ∧ k_ ≠ gb400))) (fun _ hk => hk.1.2) (.int .u64 t395)) (fun _ hk => hk.1.2) (.int .u64 t396)) (fun _ hk => hk.2) (.int .u64 t397)) (fun _ hk => hk.2) (.int .u64 t398)) (fun _ h_ => h_.1)) (fun _ h_ => h_.1))) hb); replace BK390 := Aside0.mk (blk_below (g := gb390) (o := .cells #[.int .u64 a2_0, .int .u64 a2_1] 24 (0, 0)) (by (with_reducible repeat refine bl ?_); refine blk_far ?_ NB390_400.out _; (with_reducible repeat refine bl ?_); refine blk_far ?_ NB390_400.out _; (with_reducible repeat refine bl ?_); refine blk_far ?_ NB390_399.out _; (with_reducible repeat refine bl ?_); refine blk_far ?_ NB390_399.out _; (with_reducible repeat refine bl ?_); exact BK390.out) hb); replace BK391 := Aside0.mk (blk_below (g := gb391) (o := .cells #[.int .u64 a2_0, .int .u64 a2_1] 37 (0, 0)) (by (with_reducible repeat refine bl ?_); refine blk_far ?_ NB391_400.out _; (with_reducible repeat refine bl ?_); refine blk_far ?_ NB391_400.out _; (with_reducible repeat refine bl ?_); refine blk_far ?_ NB391_399.out _; (with_reducible repeat refine bl ?_); refine blk_far ?_ NB391_399.out _; (with_reducible repeat refine bl ?_); exact BK391.out) hb); replace BK399 := Aside0.mk (blk_below (g := gb399) (o := .cells #[.int .u64 t395, .int .u64 t396] 24 (0, 0)) (by (with_reducible repeat refine bl ?_); refine blk_far ?_ NB399_400.out _; (with_reducible repeat refine bl ?_); refine blk_far ?_ NB399_400.out _; (with_reducible repeat refine bl ?_); refine blk_put (cs := #[.int .u64 t395, .int .u64 0]) ?_ 1 _ rfl; (with_reducible repeat refine bl ?_); refine blk_put (cs := #[.int .u64 0, .int .u64 0]) ?_ 0 _ rfl; (with_reducible repeat refine bl ?_); exact BK399.out) hb); replace BK400 := Aside0.mk (blk_below (g := gb400) (o := .cells #[.int .u64 t397, .int .u64 t398] 24 (0, 0)) (by (with_reducible repeat refine bl ?_); refine blk_put (cs := #[.int .u64 t397, .int .u64 0]) ?_ 1 _ rfl; (with_reducible repeat refine bl ?_); refine blk_put (cs := #[.int .u64 0, .int .u64 0]) ?_ 0 _ rfl; (with_reducible repeat refine bl ?_); refine blk_far ?_ NB400_399.out _; (with_reducible repeat refine bl ?_); refine blk_far ?_ NB400_399.out _; (with_reducible repeat refine bl ?_); exact BK400.out) hb); replace HB := bh HB hb; (try clear hb); (try clear hb2); (try clear hk); (try clear hi)) | ((with_reducible refine gate_callee (f := 14) rfl ?_); refine goesL_ (some 29) rfl rfl Try.func14 (by kernel_rfl) rfl #[] rfl (by (try simp only [List.map_toArray, List.map_cons, List.map_nil]); first | done | rfl | (simp only [List.length_drop, List.length_take]; rfl)) ?_; (with_reducible refine (steeplelaw33_awake.calls k  true _ A51.out).mono ?_); rintro e w76 ⟨rfl, hb⟩; refine ⟨_, rfl, ?_⟩; replace HO394 := kb HO394 hb; replace BK390 := bb BK390 hb; replace BK391 := bb BK391 hb; replace BK399 := bb BK399 hb; replace BK400 := bb BK400 hb; replace HB := bh HB hb; (try clear hb); (try clear hb2); (try clear hk); (try clear hi); obtain ⟨Ao77, co77, eo77⟩ := Kd.R_slice HO394.out; subst eo77; have hnb78 := NB399_390.out; have hnc78 := NB390_399.out; have hnb79 := NB399_400.out; have hnc79 := NB400_399.out; obtain ⟨hcz80_0, hcz80_1⟩ := zc2 BK399; obtain ⟨hfz80_0, hfz80_1⟩ := zf2 BK399; have hnb81 := NB400_390.out; have hnc81 := NB390_400.out; obtain ⟨hcz82_0, hcz82_1⟩ := zc2 BK400; obtain ⟨hfz82_0, hfz82_1⟩ := zf2 BK400))
     go_ret
     exact ⟨by first | rfl | (simp [errW_none, errW_some] <;> rfl) | (simp [*, errW_none, errW_some] <;> rfl), bq HB.out⟩
    ·rw [if_neg c54] at H
     exact absurd H (by simp)
   ·rw [if_neg c53] at H
    exact absurd H (by simp)
  ·replace c52 := Bool.eq_false_iff.mpr c52
   subst c52
   have H1 : (none) = some r := by rw [if_neg (show ¬ (false = true) by decide)] at H; exact H
   clear H
   have H := H1
   clear H1
   exact absurd H (by simp)

/-- THE ONE PURE STATEMENT of steeplelaw33_FrobTraces. -/
def steeplelaw33_FrobTraces.Pure : Prop := ∀ (x0 : Int) (x1 : Int) (x2 : S24), (Lit.int .i64 x0).wf = true → (Lit.int .i64 x1).wf = true → ((Lit.int .u64 x2.f0).wf = true ∧ (Lit.int .u64 x2.f1).wf = true) → ∃ k, steeplelaw33_FrobTraces.f k x0 x1 x2.f0 x2.f1 = some true

end Go.Proofs.Ytlegcabfgkccmaa.P
