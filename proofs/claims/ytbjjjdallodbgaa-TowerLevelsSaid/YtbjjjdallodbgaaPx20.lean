/- Written by a program of this session: functions that the law reaches, as Lean functions, and that the code comes to their answers. Conditions: those that each theorem names. -/
import Derived.Test.YtbjjjdallodbgaaPx0
import Derived.Test.YtbjjjdallodbgaaPx1
import Derived.Test.YtbjjjdallodbgaaPx3
import Derived.Test.YtbjjjdallodbgaaPx4
import Derived.Test.YtbjjjdallodbgaaPx6
import Derived.Test.YtbjjjdallodbgaaPx14
namespace Go.Proofs.Ytbjjjdallodbgaa.P
open Go.RowKit Go.Proofs.YtbjjjdallodbgaaW.PrintWords Go.Proofs.YtbjjjdallodbgaaW.PrintLast Go.Proofs.YtbjjjdallodbgaaW.PrintMore
attribute [local go_sem] max2_int min2_int max_two min_two max_three min_three max_four min_four   -- for this text's walks alone
set_option linter.unusedVariables false
set_option linter.unusedSimpArgs false

attribute [local go_sem high] eqA24
/-! ### steeplelaw02_TowerLevels: function 10 -/
def steeplelaw02_TowerLevels.f (k : Nat) (a0 : Int) (a1 : Int) (a2_0 : Int) (a2_1 : Int) (a2_2 : Int) (a2_3 : Int) (a2_4 : Int) (a2_5 : Int) : Option (Bool) := (steeplelaw02_of.f k a0 (([(⟨a2_0, a2_1⟩ : S24), (⟨a2_2, a2_3⟩ : S24)] : List (S24)))).bind fun bt590 => (if 0 < (bt590.2.length : Int) then (if 1 < (bt590.2.length : Int) then ((tower_Mul.f k bt590.1 ((rd_T24 bt590.2 0).f0) ((rd_T24 bt590.2 0).f1) ((rd_T24 bt590.2 1).f0) ((rd_T24 bt590.2 1).f1)).bind fun bt598 => ((steeplelaw02_awake.f k).bind fun t601 => (if t601 = true then ((octet_Of.f k bt590.1 bt598.1 bt598.2).bind fun t602 => (if t602 = true then ((tower_Inv.f k bt590.1 ((rd_T24 bt590.2 0).f0) ((rd_T24 bt590.2 0).f1)).bind fun bt603 => ((octet_Of.f k bt590.1 bt603.1 bt603.2).bind fun t605 => (if t605 = true then ((tower_Mul.f k (mn (wrap64 (bt590.1 + (Int.tmod (wrap64 ((Int.tmod a1 8) + 8)) 8))) 7) ((rd_T24 bt590.2 0).f0) ((rd_T24 bt590.2 0).f1) ((rd_T24 bt590.2 1).f0) ((rd_T24 bt590.2 1).f1)).bind fun bt606 => (if (bt606.1 == bt598.1 && (bt606.2 == bt598.2)) = true then ((tower_Inv.f k (mn (wrap64 (bt590.1 + (Int.tmod (wrap64 ((Int.tmod a1 8) + 8)) 8))) 7) ((rd_T24 bt590.2 0).f0) ((rd_T24 bt590.2 0).f1)).bind fun bt608 => ((tower_Inv.f k bt590.1 ((rd_T24 bt590.2 0).f0) ((rd_T24 bt590.2 0).f1)).bind fun bt610 => (if (bt608.1 == bt610.1 && (bt608.2 == bt610.2)) = true then ((tower_Square.f k (mn (wrap64 (bt590.1 + (Int.tmod (wrap64 ((Int.tmod a1 8) + 8)) 8))) 7) ((rd_T24 bt590.2 0).f0) ((rd_T24 bt590.2 0).f1)).bind fun bt612 => ((tower_Square.f k bt590.1 ((rd_T24 bt590.2 0).f0) ((rd_T24 bt590.2 0).f1)).bind fun bt614 => (some (bt612.1 == bt614.1 && (bt612.2 == bt614.2))))) else (none)))) else (none))) else (none)))) else (none))) else (none)))) else (none)) else (none))
theorem steeplelaw02_TowerLevels.mono : ∀ a0 a1 a2 a3 a4 a5 a6 a7 k, LeO (steeplelaw02_TowerLevels.f k a0 a1 a2 a3 a4 a5 a6 a7) (steeplelaw02_TowerLevels.f (k + 1) a0 a1 a2 a3 a4 a5 a6 a7) := by
 intro a0 a1 a2 a3 a4 a5 a6 a7 k
 unfold steeplelaw02_TowerLevels.f
 repeat' first
   | (with_reducible exact octet_Of.mono _ _ _ _)
   | (with_reducible exact steeplelaw02_awake.mono _)
   | (with_reducible exact steeplelaw02_of.mono _ _ _)
   | (with_reducible exact tower_Inv.mono _ _ _ _)
   | (with_reducible exact tower_Mul.mono _ _ _ _ _ _)
   | (with_reducible exact tower_Square.mono _ _ _ _)
   | (with_reducible exact LeO.refl _)
   | (with_reducible exact LeO.none _)
   | (with_reducible refine LeO.ite ?_ ?_)
   | (with_reducible refine LeO.bind ?_ (fun _ => ?_))
   | exact octet_Of.mono _ _ _ _
   | exact steeplelaw02_awake.mono _
   | exact steeplelaw02_of.mono _ _ _
   | exact tower_Inv.mono _ _ _ _
   | exact tower_Mul.mono _ _ _ _ _ _
   | exact tower_Square.mono _ _ _ _
   | exact LeO.none _
   | refine LeO.ite ?_ ?_
   | refine LeO.bind ?_ (fun _ => ?_)
def steeplelaw02_TowerLevels.T2 : Bool × List (List Nat × List Nat) := (true, [([], []), ([0], [0]), ([1], [1]), ([], []), ([3], [3]), ([4], [4]), ([], []), ([], []), ([6, 2, 0, 1, 2, 6, 7], [2, 6]), ([7, 5, 8, 0, 1, 2, 3, 4, 5, 6, 7, 8], [5, 7])])
def steeplelaw02_TowerLevels.B2 : List Nat := [0, 1, 3, 0, 8, 24, 0, 0, 199, 511]
theorem steeplelaw02_TowerLevels.tab2 : rtab .any (opsOf Try.f10 2) = steeplelaw02_TowerLevels.T2 := by kernel_rfl
theorem steeplelaw02_TowerLevels.bits2 : waitsOk steeplelaw02_TowerLevels.T2.2 steeplelaw02_TowerLevels.B2 = true := by kernel_rfl
def steeplelaw02_TowerLevels.T5 : Bool × List (List Nat × List Nat) := (true, [([], []), ([0, 0], [0]), ([1], [1]), ([1], [1]), ([2, 3, 1, 1], [1, 2, 3]), ([1, 4], [1, 4]), ([5, 4], [5]), ([6], [6]), ([6], [6]), ([6], [6]), ([8, 9, 6, 6], [6, 8, 9]), ([7, 10, 10, 6], [6, 7, 10]), ([6, 11], [6, 11]), ([12, 11], [12]), ([13], [13]), ([13], [13]), ([13], [13]), ([14, 15, 16, 13, 13], [13, 14, 15, 16]), ([13], [13]), ([17, 18, 13], [13, 17, 18]), ([13, 19], [13, 19]), ([20, 17], [20]), ([21], [21]), ([21], [21]), ([22, 23, 21, 21], [21, 22, 23]), ([21], [21]), ([21], [21]), ([25, 26, 24, 21], [21, 25, 26]), ([24, 27, 21], [21, 24, 27]), ([21, 28], [21, 28]), ([29, 27], [29]), ([30], [30]), ([30], [30]), ([31, 32, 30, 30], [30, 31, 32]), ([30], [30]), ([30], [30]), ([34, 35, 33, 30], [30, 34, 35]), ([33, 36, 30], [30, 33, 36]), ([30, 37], [30, 37]), ([38, 36, 0, 1, 2, 3, 4, 5, 6, 7, 8, 9, 10, 11, 12, 13, 14, 15, 16, 17, 18, 19, 20, 21, 22, 23, 24, 25, 26, 27, 28, 29, 30, 31, 32, 33, 34, 35, 36, 37, 38], [38])])
def steeplelaw02_TowerLevels.B5 : List Nat := [0, 1, 3, 3, 15, 31, 63, 127, 127, 127, 895, 2047, 4095, 8191, 16383, 16383, 16383, 131071, 16383, 524287, 1048575, 2097151, 4194303, 4194303, 16777215, 4194303, 4194303, 134217727, 268435455, 536870911, 1073741823, 2147483647, 2147483647, 8589934591, 2147483647, 2147483647, 68719476735, 137438953471, 274877906943, 549755813887]
theorem steeplelaw02_TowerLevels.tab5 : rtab .any (opsOf Try.f10 5) = steeplelaw02_TowerLevels.T5 := by kernel_rfl
theorem steeplelaw02_TowerLevels.bits5 : waitsOk steeplelaw02_TowerLevels.T5.2 steeplelaw02_TowerLevels.B5 = true := by kernel_rfl
set_option maxHeartbeats 8000000 in
set_option maxRecDepth 100000 in
theorem steeplelaw02_TowerLevels.calls (k : Nat) (a0 : Int) (a1 : Int) (a2_0 : Int) (a2_1 : Int) (a2_2 : Int) (a2_3 : Int) (a2_4 : Int) (a2_5 : Int) (r : Bool) (w : World) (h : steeplelaw02_TowerLevels.f k a0 a1 a2_0 a2_1 a2_2 a2_3 a2_4 a2_5 = some r) :
  Calls Try.prog 10 #[.int .i64 a0, .int .i64 a1, .agg #[.int .u64 a2_0, .int .u64 a2_1, .int .u64 a2_2, .int .u64 a2_3, .int .u64 a2_4, .int .u64 a2_5]] w fun e w' => e = .returned (.bool r) ∧ Below w.heap.size w w' := by
 have hu26 := Try.underlying26
 have hu24 := Try.underlying24
 have HB := Aside0.mk (Below.refl w.heap.size w)
 have H : ((steeplelaw02_of.f k a0 (([(⟨a2_0, a2_1⟩ : S24), (⟨a2_2, a2_3⟩ : S24)] : List (S24)))).bind fun bt590 => (if 0 < (bt590.2.length : Int) then (if 1 < (bt590.2.length : Int) then ((tower_Mul.f k bt590.1 ((rd_T24 bt590.2 0).f0) ((rd_T24 bt590.2 0).f1) ((rd_T24 bt590.2 1).f0) ((rd_T24 bt590.2 1).f1)).bind fun bt598 => ((steeplelaw02_awake.f k).bind fun t601 => (if t601 = true then ((octet_Of.f k bt590.1 bt598.1 bt598.2).bind fun t602 => (if t602 = true then ((tower_Inv.f k bt590.1 ((rd_T24 bt590.2 0).f0) ((rd_T24 bt590.2 0).f1)).bind fun bt603 => ((octet_Of.f k bt590.1 bt603.1 bt603.2).bind fun t605 => (if t605 = true then ((tower_Mul.f k (mn (wrap64 (bt590.1 + (Int.tmod (wrap64 ((Int.tmod a1 8) + 8)) 8))) 7) ((rd_T24 bt590.2 0).f0) ((rd_T24 bt590.2 0).f1) ((rd_T24 bt590.2 1).f0) ((rd_T24 bt590.2 1).f1)).bind fun bt606 => (if (bt606.1 == bt598.1 && (bt606.2 == bt598.2)) = true then ((tower_Inv.f k (mn (wrap64 (bt590.1 + (Int.tmod (wrap64 ((Int.tmod a1 8) + 8)) 8))) 7) ((rd_T24 bt590.2 0).f0) ((rd_T24 bt590.2 0).f1)).bind fun bt608 => ((tower_Inv.f k bt590.1 ((rd_T24 bt590.2 0).f0) ((rd_T24 bt590.2 0).f1)).bind fun bt610 => (if (bt608.1 == bt610.1 && (bt608.2 == bt610.2)) = true then ((tower_Square.f k (mn (wrap64 (bt590.1 + (Int.tmod (wrap64 ((Int.tmod a1 8) + 8)) 8))) 7) ((rd_T24 bt590.2 0).f0) ((rd_T24 bt590.2 0).f1)).bind fun bt612 => ((tower_Square.f k bt590.1 ((rd_T24 bt590.2 0).f0) ((rd_T24 bt590.2 0).f1)).bind fun bt614 => (some (bt612.1 == bt614.1 && (bt612.2 == bt614.2))))) else (none)))) else (none))) else (none)))) else (none))) else (none)))) else (none)) else (none))) = some r := h
 clear h
 obtain ⟨y587, hy587⟩ : ∃ y_ : List (S24), y_ = (([(⟨a2_0, a2_1⟩ : S24), (⟨a2_2, a2_3⟩ : S24)] : List (S24))) := ⟨_, rfl⟩
 replace H : ((steeplelaw02_of.f k a0 y587).bind fun bt590 => (if 0 < (bt590.2.length : Int) then (if 1 < (bt590.2.length : Int) then ((tower_Mul.f k bt590.1 ((rd_T24 bt590.2 0).f0) ((rd_T24 bt590.2 0).f1) ((rd_T24 bt590.2 1).f0) ((rd_T24 bt590.2 1).f1)).bind fun bt598 => ((steeplelaw02_awake.f k).bind fun t601 => (if t601 = true then ((octet_Of.f k bt590.1 bt598.1 bt598.2).bind fun t602 => (if t602 = true then ((tower_Inv.f k bt590.1 ((rd_T24 bt590.2 0).f0) ((rd_T24 bt590.2 0).f1)).bind fun bt603 => ((octet_Of.f k bt590.1 bt603.1 bt603.2).bind fun t605 => (if t605 = true then ((tower_Mul.f k (mn (wrap64 (bt590.1 + (Int.tmod (wrap64 ((Int.tmod a1 8) + 8)) 8))) 7) ((rd_T24 bt590.2 0).f0) ((rd_T24 bt590.2 0).f1) ((rd_T24 bt590.2 1).f0) ((rd_T24 bt590.2 1).f1)).bind fun bt606 => (if (bt606.1 == bt598.1 && (bt606.2 == bt598.2)) = true then ((tower_Inv.f k (mn (wrap64 (bt590.1 + (Int.tmod (wrap64 ((Int.tmod a1 8) + 8)) 8))) 7) ((rd_T24 bt590.2 0).f0) ((rd_T24 bt590.2 0).f1)).bind fun bt608 => ((tower_Inv.f k bt590.1 ((rd_T24 bt590.2 0).f0) ((rd_T24 bt590.2 0).f1)).bind fun bt610 => (if (bt608.1 == bt610.1 && (bt608.2 == bt610.2)) = true then ((tower_Square.f k (mn (wrap64 (bt590.1 + (Int.tmod (wrap64 ((Int.tmod a1 8) + 8)) 8))) 7) ((rd_T24 bt590.2 0).f0) ((rd_T24 bt590.2 0).f1)).bind fun bt612 => ((tower_Square.f k bt590.1 ((rd_T24 bt590.2 0).f0) ((rd_T24 bt590.2 0).f1)).bind fun bt614 => (some (bt612.1 == bt614.1 && (bt612.2 == bt614.2))))) else (none)))) else (none))) else (none)))) else (none))) else (none)))) else (none)) else (none))) = some r := by first | (rw [hy587]; with_reducible exact H) | (have H2_ := (Option.bind_some _ _).symm.trans H; rw [hy587]; with_reducible exact H2_) | (have H2_ := (Option.bind_some _ _).symm.trans H; with_reducible exact H2_) | with_reducible exact H | (rw [hy587]; exact H) | exact H
 have Ny587 := Aside0.mk hy587
 clear hy587
 replace H := Option.bind_eq_some_iff.mp H
 obtain ⟨⟨t590, t591⟩, A40, H⟩ := H
 replace H : (if 0 < (t591.length : Int) then (if 1 < (t591.length : Int) then ((tower_Mul.f k t590 ((rd_T24 t591 0).f0) ((rd_T24 t591 0).f1) ((rd_T24 t591 1).f0) ((rd_T24 t591 1).f1)).bind fun bt598 => ((steeplelaw02_awake.f k).bind fun t601 => (if t601 = true then ((octet_Of.f k t590 bt598.1 bt598.2).bind fun t602 => (if t602 = true then ((tower_Inv.f k t590 ((rd_T24 t591 0).f0) ((rd_T24 t591 0).f1)).bind fun bt603 => ((octet_Of.f k t590 bt603.1 bt603.2).bind fun t605 => (if t605 = true then ((tower_Mul.f k (mn (wrap64 (t590 + (Int.tmod (wrap64 ((Int.tmod a1 8) + 8)) 8))) 7) ((rd_T24 t591 0).f0) ((rd_T24 t591 0).f1) ((rd_T24 t591 1).f0) ((rd_T24 t591 1).f1)).bind fun bt606 => (if (bt606.1 == bt598.1 && (bt606.2 == bt598.2)) = true then ((tower_Inv.f k (mn (wrap64 (t590 + (Int.tmod (wrap64 ((Int.tmod a1 8) + 8)) 8))) 7) ((rd_T24 t591 0).f0) ((rd_T24 t591 0).f1)).bind fun bt608 => ((tower_Inv.f k t590 ((rd_T24 t591 0).f0) ((rd_T24 t591 0).f1)).bind fun bt610 => (if (bt608.1 == bt610.1 && (bt608.2 == bt610.2)) = true then ((tower_Square.f k (mn (wrap64 (t590 + (Int.tmod (wrap64 ((Int.tmod a1 8) + 8)) 8))) 7) ((rd_T24 t591 0).f0) ((rd_T24 t591 0).f1)).bind fun bt612 => ((tower_Square.f k t590 ((rd_T24 t591 0).f0) ((rd_T24 t591 0).f1)).bind fun bt614 => (some (bt612.1 == bt614.1 && (bt612.2 == bt614.2))))) else (none)))) else (none))) else (none)))) else (none))) else (none)))) else (none)) else (none)) = some r := H
 have A4 := Aside0.mk A40
 clear A40
 by_cases c5 : 0 < (t591.length : Int)
 ·rw [if_pos c5] at H
  have c5b0 : decide (0 < (t591.length : Int)) = true := decide_eq_true c5
  have c5b1 : decide (0 < t591.length) = true := decide_eq_true (by omega)
  clear c5
  by_cases c6 : 1 < (t591.length : Int)
  ·rw [if_pos c6] at H
   have c6b0 : decide (1 < (t591.length : Int)) = true := decide_eq_true c6
   have c6b1 : decide (1 < t591.length) = true := decide_eq_true (by omega)
   clear c6
   obtain ⟨ji7, hji7⟩ : ∃ j_ : Int, (mn (wrap64 (t590 + (Int.tmod (wrap64 ((Int.tmod a1 8) + 8)) 8))) 7) = j_ := ⟨_, rfl⟩
   replace H : ((tower_Mul.f k t590 ((rd_T24 t591 0).f0) ((rd_T24 t591 0).f1) ((rd_T24 t591 1).f0) ((rd_T24 t591 1).f1)).bind fun bt598 => ((steeplelaw02_awake.f k).bind fun t601 => (if t601 = true then ((octet_Of.f k t590 bt598.1 bt598.2).bind fun t602 => (if t602 = true then ((tower_Inv.f k t590 ((rd_T24 t591 0).f0) ((rd_T24 t591 0).f1)).bind fun bt603 => ((octet_Of.f k t590 bt603.1 bt603.2).bind fun t605 => (if t605 = true then ((tower_Mul.f k (ji7) ((rd_T24 t591 0).f0) ((rd_T24 t591 0).f1) ((rd_T24 t591 1).f0) ((rd_T24 t591 1).f1)).bind fun bt606 => (if (bt606.1 == bt598.1 && (bt606.2 == bt598.2)) = true then ((tower_Inv.f k (ji7) ((rd_T24 t591 0).f0) ((rd_T24 t591 0).f1)).bind fun bt608 => ((tower_Inv.f k t590 ((rd_T24 t591 0).f0) ((rd_T24 t591 0).f1)).bind fun bt610 => (if (bt608.1 == bt610.1 && (bt608.2 == bt610.2)) = true then ((tower_Square.f k (ji7) ((rd_T24 t591 0).f0) ((rd_T24 t591 0).f1)).bind fun bt612 => ((tower_Square.f k t590 ((rd_T24 t591 0).f0) ((rd_T24 t591 0).f1)).bind fun bt614 => (some (bt612.1 == bt614.1 && (bt612.2 == bt614.2))))) else (none)))) else (none))) else (none)))) else (none))) else (none)))) = some r := by first | (rw [hji7] at H; exact H) | (simp only [hji7] at H ⊢; exact H)
   (try rw [hji7] at A4)
   (try (have hji7h : ji7 ≤ 7 := by (rw [← hji7]; unfold mn; (repeat' split) <;> omega)))
   (try (have hji7g : ji7 ≤ 64 := by omega))
   have hji7_ : (if 7 < (wrap64 (t590 + (Int.tmod (wrap64 ((Int.tmod a1 8) + 8)) 8))) then 7 else (wrap64 (t590 + (Int.tmod (wrap64 ((Int.tmod a1 8) + 8)) 8)))) = ji7 := hji7
   replace H := Option.bind_eq_some_iff.mp H
   obtain ⟨⟨t598, t599⟩, A80, H⟩ := H
   replace H : ((steeplelaw02_awake.f k).bind fun t601 => (if t601 = true then ((octet_Of.f k t590 t598 t599).bind fun t602 => (if t602 = true then ((tower_Inv.f k t590 ((rd_T24 t591 0).f0) ((rd_T24 t591 0).f1)).bind fun bt603 => ((octet_Of.f k t590 bt603.1 bt603.2).bind fun t605 => (if t605 = true then ((tower_Mul.f k (ji7) ((rd_T24 t591 0).f0) ((rd_T24 t591 0).f1) ((rd_T24 t591 1).f0) ((rd_T24 t591 1).f1)).bind fun bt606 => (if (bt606.1 == t598 && (bt606.2 == t599)) = true then ((tower_Inv.f k (ji7) ((rd_T24 t591 0).f0) ((rd_T24 t591 0).f1)).bind fun bt608 => ((tower_Inv.f k t590 ((rd_T24 t591 0).f0) ((rd_T24 t591 0).f1)).bind fun bt610 => (if (bt608.1 == bt610.1 && (bt608.2 == bt610.2)) = true then ((tower_Square.f k (ji7) ((rd_T24 t591 0).f0) ((rd_T24 t591 0).f1)).bind fun bt612 => ((tower_Square.f k t590 ((rd_T24 t591 0).f0) ((rd_T24 t591 0).f1)).bind fun bt614 => (some (bt612.1 == bt614.1 && (bt612.2 == bt614.2))))) else (none)))) else (none))) else (none)))) else (none))) else (none))) = some r := H
   have A8 := Aside0.mk A80
   clear A80
   replace H := Option.bind_eq_some_iff.mp H
   obtain ⟨t601, A90, H⟩ := H
   replace H : (if t601 = true then ((octet_Of.f k t590 t598 t599).bind fun t602 => (if t602 = true then ((tower_Inv.f k t590 ((rd_T24 t591 0).f0) ((rd_T24 t591 0).f1)).bind fun bt603 => ((octet_Of.f k t590 bt603.1 bt603.2).bind fun t605 => (if t605 = true then ((tower_Mul.f k (ji7) ((rd_T24 t591 0).f0) ((rd_T24 t591 0).f1) ((rd_T24 t591 1).f0) ((rd_T24 t591 1).f1)).bind fun bt606 => (if (bt606.1 == t598 && (bt606.2 == t599)) = true then ((tower_Inv.f k (ji7) ((rd_T24 t591 0).f0) ((rd_T24 t591 0).f1)).bind fun bt608 => ((tower_Inv.f k t590 ((rd_T24 t591 0).f0) ((rd_T24 t591 0).f1)).bind fun bt610 => (if (bt608.1 == bt610.1 && (bt608.2 == bt610.2)) = true then ((tower_Square.f k (ji7) ((rd_T24 t591 0).f0) ((rd_T24 t591 0).f1)).bind fun bt612 => ((tower_Square.f k t590 ((rd_T24 t591 0).f0) ((rd_T24 t591 0).f1)).bind fun bt614 => (some (bt612.1 == bt614.1 && (bt612.2 == bt614.2))))) else (none)))) else (none))) else (none)))) else (none))) else (none)) = some r := H
   have A9 := Aside0.mk A90
   clear A90
   by_cases c10 : t601 = true
   ·subst c10
    have H1 : ((octet_Of.f k t590 t598 t599).bind fun t602 => (if t602 = true then ((tower_Inv.f k t590 ((rd_T24 t591 0).f0) ((rd_T24 t591 0).f1)).bind fun bt603 => ((octet_Of.f k t590 bt603.1 bt603.2).bind fun t605 => (if t605 = true then ((tower_Mul.f k (ji7) ((rd_T24 t591 0).f0) ((rd_T24 t591 0).f1) ((rd_T24 t591 1).f0) ((rd_T24 t591 1).f1)).bind fun bt606 => (if (bt606.1 == t598 && (bt606.2 == t599)) = true then ((tower_Inv.f k (ji7) ((rd_T24 t591 0).f0) ((rd_T24 t591 0).f1)).bind fun bt608 => ((tower_Inv.f k t590 ((rd_T24 t591 0).f0) ((rd_T24 t591 0).f1)).bind fun bt610 => (if (bt608.1 == bt610.1 && (bt608.2 == bt610.2)) = true then ((tower_Square.f k (ji7) ((rd_T24 t591 0).f0) ((rd_T24 t591 0).f1)).bind fun bt612 => ((tower_Square.f k t590 ((rd_T24 t591 0).f0) ((rd_T24 t591 0).f1)).bind fun bt614 => (some (bt612.1 == bt614.1 && (bt612.2 == bt614.2))))) else (none)))) else (none))) else (none)))) else (none))) = some r := by rw [if_pos rfl] at H; exact H
    clear H
    have H := H1
    clear H1
    replace H := Option.bind_eq_some_iff.mp H
    obtain ⟨t602, A110, H⟩ := H
    replace H : (if t602 = true then ((tower_Inv.f k t590 ((rd_T24 t591 0).f0) ((rd_T24 t591 0).f1)).bind fun bt603 => ((octet_Of.f k t590 bt603.1 bt603.2).bind fun t605 => (if t605 = true then ((tower_Mul.f k (ji7) ((rd_T24 t591 0).f0) ((rd_T24 t591 0).f1) ((rd_T24 t591 1).f0) ((rd_T24 t591 1).f1)).bind fun bt606 => (if (bt606.1 == t598 && (bt606.2 == t599)) = true then ((tower_Inv.f k (ji7) ((rd_T24 t591 0).f0) ((rd_T24 t591 0).f1)).bind fun bt608 => ((tower_Inv.f k t590 ((rd_T24 t591 0).f0) ((rd_T24 t591 0).f1)).bind fun bt610 => (if (bt608.1 == bt610.1 && (bt608.2 == bt610.2)) = true then ((tower_Square.f k (ji7) ((rd_T24 t591 0).f0) ((rd_T24 t591 0).f1)).bind fun bt612 => ((tower_Square.f k t590 ((rd_T24 t591 0).f0) ((rd_T24 t591 0).f1)).bind fun bt614 => (some (bt612.1 == bt614.1 && (bt612.2 == bt614.2))))) else (none)))) else (none))) else (none)))) else (none)) = some r := H
    have A11 := Aside0.mk A110
    clear A110
    by_cases c12 : t602 = true
    ·subst c12
     have H1 : ((tower_Inv.f k t590 ((rd_T24 t591 0).f0) ((rd_T24 t591 0).f1)).bind fun bt603 => ((octet_Of.f k t590 bt603.1 bt603.2).bind fun t605 => (if t605 = true then ((tower_Mul.f k (ji7) ((rd_T24 t591 0).f0) ((rd_T24 t591 0).f1) ((rd_T24 t591 1).f0) ((rd_T24 t591 1).f1)).bind fun bt606 => (if (bt606.1 == t598 && (bt606.2 == t599)) = true then ((tower_Inv.f k (ji7) ((rd_T24 t591 0).f0) ((rd_T24 t591 0).f1)).bind fun bt608 => ((tower_Inv.f k t590 ((rd_T24 t591 0).f0) ((rd_T24 t591 0).f1)).bind fun bt610 => (if (bt608.1 == bt610.1 && (bt608.2 == bt610.2)) = true then ((tower_Square.f k (ji7) ((rd_T24 t591 0).f0) ((rd_T24 t591 0).f1)).bind fun bt612 => ((tower_Square.f k t590 ((rd_T24 t591 0).f0) ((rd_T24 t591 0).f1)).bind fun bt614 => (some (bt612.1 == bt614.1 && (bt612.2 == bt614.2))))) else (none)))) else (none))) else (none)))) = some r := by rw [if_pos rfl] at H; exact H
     clear H
     have H := H1
     clear H1
     replace H := Option.bind_eq_some_iff.mp H
     obtain ⟨⟨t603, t604⟩, A130, H⟩ := H
     replace H : ((octet_Of.f k t590 t603 t604).bind fun t605 => (if t605 = true then ((tower_Mul.f k (ji7) ((rd_T24 t591 0).f0) ((rd_T24 t591 0).f1) ((rd_T24 t591 1).f0) ((rd_T24 t591 1).f1)).bind fun bt606 => (if (bt606.1 == t598 && (bt606.2 == t599)) = true then ((tower_Inv.f k (ji7) ((rd_T24 t591 0).f0) ((rd_T24 t591 0).f1)).bind fun bt608 => ((tower_Inv.f k t590 ((rd_T24 t591 0).f0) ((rd_T24 t591 0).f1)).bind fun bt610 => (if (bt608.1 == bt610.1 && (bt608.2 == bt610.2)) = true then ((tower_Square.f k (ji7) ((rd_T24 t591 0).f0) ((rd_T24 t591 0).f1)).bind fun bt612 => ((tower_Square.f k t590 ((rd_T24 t591 0).f0) ((rd_T24 t591 0).f1)).bind fun bt614 => (some (bt612.1 == bt614.1 && (bt612.2 == bt614.2))))) else (none)))) else (none))) else (none))) = some r := H
     have A13 := Aside0.mk A130
     clear A130
     replace H := Option.bind_eq_some_iff.mp H
     obtain ⟨t605, A140, H⟩ := H
     replace H : (if t605 = true then ((tower_Mul.f k (ji7) ((rd_T24 t591 0).f0) ((rd_T24 t591 0).f1) ((rd_T24 t591 1).f0) ((rd_T24 t591 1).f1)).bind fun bt606 => (if (bt606.1 == t598 && (bt606.2 == t599)) = true then ((tower_Inv.f k (ji7) ((rd_T24 t591 0).f0) ((rd_T24 t591 0).f1)).bind fun bt608 => ((tower_Inv.f k t590 ((rd_T24 t591 0).f0) ((rd_T24 t591 0).f1)).bind fun bt610 => (if (bt608.1 == bt610.1 && (bt608.2 == bt610.2)) = true then ((tower_Square.f k (ji7) ((rd_T24 t591 0).f0) ((rd_T24 t591 0).f1)).bind fun bt612 => ((tower_Square.f k t590 ((rd_T24 t591 0).f0) ((rd_T24 t591 0).f1)).bind fun bt614 => (some (bt612.1 == bt614.1 && (bt612.2 == bt614.2))))) else (none)))) else (none))) else (none)) = some r := H
     have A14 := Aside0.mk A140
     clear A140
     by_cases c15 : t605 = true
     ·subst c15
      have H1 : ((tower_Mul.f k (ji7) ((rd_T24 t591 0).f0) ((rd_T24 t591 0).f1) ((rd_T24 t591 1).f0) ((rd_T24 t591 1).f1)).bind fun bt606 => (if (bt606.1 == t598 && (bt606.2 == t599)) = true then ((tower_Inv.f k (ji7) ((rd_T24 t591 0).f0) ((rd_T24 t591 0).f1)).bind fun bt608 => ((tower_Inv.f k t590 ((rd_T24 t591 0).f0) ((rd_T24 t591 0).f1)).bind fun bt610 => (if (bt608.1 == bt610.1 && (bt608.2 == bt610.2)) = true then ((tower_Square.f k (ji7) ((rd_T24 t591 0).f0) ((rd_T24 t591 0).f1)).bind fun bt612 => ((tower_Square.f k t590 ((rd_T24 t591 0).f0) ((rd_T24 t591 0).f1)).bind fun bt614 => (some (bt612.1 == bt614.1 && (bt612.2 == bt614.2))))) else (none)))) else (none))) = some r := by rw [if_pos rfl] at H; exact H
      clear H
      have H := H1
      clear H1
      replace H := Option.bind_eq_some_iff.mp H
      obtain ⟨⟨t606, t607⟩, A160, H⟩ := H
      replace H : (if (t606 == t598 && (t607 == t599)) = true then ((tower_Inv.f k (ji7) ((rd_T24 t591 0).f0) ((rd_T24 t591 0).f1)).bind fun bt608 => ((tower_Inv.f k t590 ((rd_T24 t591 0).f0) ((rd_T24 t591 0).f1)).bind fun bt610 => (if (bt608.1 == bt610.1 && (bt608.2 == bt610.2)) = true then ((tower_Square.f k (ji7) ((rd_T24 t591 0).f0) ((rd_T24 t591 0).f1)).bind fun bt612 => ((tower_Square.f k t590 ((rd_T24 t591 0).f0) ((rd_T24 t591 0).f1)).bind fun bt614 => (some (bt612.1 == bt614.1 && (bt612.2 == bt614.2))))) else (none)))) else (none)) = some r := H
      have A16 := Aside0.mk A160
      clear A160
      by_cases c17 : (t606 == t598 && (t607 == t599)) = true
      ·rw [if_pos c17] at H
       have c17b0 : (t606 == t598 && (t607 == t599)) = true := c17
       (try (have c17b1 : decide (t606 = t598 && (t607 == t599)) = true := by simpa using c17))
       (try (have c17b2 : (t606 == t598 && (t607 == t599)) = true := by simpa using c17))
       clear c17
       replace H := Option.bind_eq_some_iff.mp H
       obtain ⟨⟨t608, t609⟩, A180, H⟩ := H
       replace H : ((tower_Inv.f k t590 ((rd_T24 t591 0).f0) ((rd_T24 t591 0).f1)).bind fun bt610 => (if (t608 == bt610.1 && (t609 == bt610.2)) = true then ((tower_Square.f k (ji7) ((rd_T24 t591 0).f0) ((rd_T24 t591 0).f1)).bind fun bt612 => ((tower_Square.f k t590 ((rd_T24 t591 0).f0) ((rd_T24 t591 0).f1)).bind fun bt614 => (some (bt612.1 == bt614.1 && (bt612.2 == bt614.2))))) else (none))) = some r := H
       have A18 := Aside0.mk A180
       clear A180
       replace H := Option.bind_eq_some_iff.mp H
       obtain ⟨⟨t610, t611⟩, A190, H⟩ := H
       replace H : (if (t608 == t610 && (t609 == t611)) = true then ((tower_Square.f k (ji7) ((rd_T24 t591 0).f0) ((rd_T24 t591 0).f1)).bind fun bt612 => ((tower_Square.f k t590 ((rd_T24 t591 0).f0) ((rd_T24 t591 0).f1)).bind fun bt614 => (some (bt612.1 == bt614.1 && (bt612.2 == bt614.2))))) else (none)) = some r := H
       have A19 := Aside0.mk A190
       clear A190
       by_cases c20 : (t608 == t610 && (t609 == t611)) = true
       ·rw [if_pos c20] at H
        have c20b0 : (t608 == t610 && (t609 == t611)) = true := c20
        (try (have c20b1 : decide (t608 = t610 && (t609 == t611)) = true := by simpa using c20))
        (try (have c20b2 : (t608 == t610 && (t609 == t611)) = true := by simpa using c20))
        clear c20
        replace H := Option.bind_eq_some_iff.mp H
        obtain ⟨⟨t612, t613⟩, A210, H⟩ := H
        replace H : ((tower_Square.f k t590 ((rd_T24 t591 0).f0) ((rd_T24 t591 0).f1)).bind fun bt614 => (some (t612 == bt614.1 && (t613 == bt614.2)))) = some r := H
        have A21 := Aside0.mk A210
        clear A210
        replace H := Option.bind_eq_some_iff.mp H
        obtain ⟨⟨t614, t615⟩, A220, H⟩ := H
        replace H : (some (t612 == t614 && (t613 == t615))) = some r := H
        have A22 := Aside0.mk A220
        clear A220
        obtain rfl := Option.some.inj H
        go_enter Try.func10, Try.ntmps10
        try go_wp2_with (first | ((with_reducible refine gate_dst (N := 5) rfl ?_); refine box_event ?hg (N := 5) ?hd (cs := #[.int .u64 a2_0, .int .u64 a2_1, .int .u64 a2_2, .int .u64 a2_3, .int .u64 a2_4, .int .u64 a2_5]) (t := 26) ?hr ?_; (case hd => rfl); (case hg => rfl); (case hr => first | (go_simp; done) | (go_simp; rfl)); intro gb586 hg w23 hbox hb; have n0_ := Aside0.mk (below_step (by repeat (first | (with_reducible first | exact HB.out | apply below_alloc | apply pw_below_drewN | apply below_drew1) | exact HB.out)) hb); have n1_ := Aside0.mk (hbox); have n2_ := Aside0.mk ((by rw [hg]; exact (below_size (by repeat (first | (with_reducible first | exact HB.out | apply below_alloc | apply pw_below_drewN | apply below_drew1) | exact HB.out))) : w.heap.size ≤ gb586)); have n3_ := Aside0.mk ((by rw [hg]; exact (below_size (by repeat (first | (with_reducible first | exact HB.out | apply below_alloc | apply pw_below_drewN | apply below_drew1) | exact HB.out))) : w.heap.size ≤ gb586)); clear HB; have HB := n0_; have BK586 := n1_; have GW586 := n2_; have GE586 := n3_; clear n0_ n1_ n2_ n3_; clear hb hbox hg; have hcz24_0 : w23.cell? ⟨gb586, 0, none⟩ = some (.int .u64 a2_0) := (blk_cell BK586.out 0).trans rfl; have hcz24_1 : w23.cell? ⟨gb586, 1, none⟩ = some (.int .u64 a2_1) := (blk_cell BK586.out 1).trans rfl; have hcz24_2 : w23.cell? ⟨gb586, 2, none⟩ = some (.int .u64 a2_2) := (blk_cell BK586.out 2).trans rfl; have hcz24_3 : w23.cell? ⟨gb586, 3, none⟩ = some (.int .u64 a2_3) := (blk_cell BK586.out 3).trans rfl; have hcz24_4 : w23.cell? ⟨gb586, 4, none⟩ = some (.int .u64 a2_4) := (blk_cell BK586.out 4).trans rfl; have hcz24_5 : w23.cell? ⟨gb586, 5, none⟩ = some (.int .u64 a2_5) := (blk_cell BK586.out 5).trans rfl; have hfz24_0 := blk_frozen BK586.out 0; have hfz24_1 := blk_frozen BK586.out 1; have hfz24_2 := blk_frozen BK586.out 2; have hfz24_3 := blk_frozen BK586.out 3; have hfz24_4 := blk_frozen BK586.out 4; have hfz24_5 := blk_frozen BK586.out 5) | ((with_reducible refine gate_dst (N := 19) rfl ?_); refine Kd.R_lit k24 _ 24 ?hg (N := 19) ?hd (xs := ([(⟨a2_0, a2_1⟩ : S24), (⟨a2_2, a2_3⟩ : S24)] : List (S24))) (inner := [.int .u64 a2_0, .int .u64 a2_1, .int .u64 a2_2, .int .u64 a2_3]) (ok := fun _ => True) (okp := fun _ => True) ?hr ?hp (fun _ hk => hk) trivial (Below.refl _ _) (Nat.le_refl _) (by simp) ?_; (case hd => rfl); (case hg => rfl); (case hr => first | (go_simp; done) | (go_simp; rfl)); (case hp => exact (Reps.c2 (show Kd.M k24 _ _ _ (⟨a2_0, a2_1⟩ : S24) [.int .u64 a2_0, .int .u64 a2_1] from (k24_mkM _ _ _ (⟨a2_0, a2_1⟩ : S24) )) (Reps.c2 (show Kd.M k24 _ _ _ (⟨a2_2, a2_3⟩ : S24) [.int .u64 a2_2, .int .u64 a2_3] from (k24_mkM _ _ _ (⟨a2_2, a2_3⟩ : S24) )) (Reps.none _ _)))); intro v588 w25 ho26 hb hg_ hnew_; clear hg_ hnew_; (first | rw [← Ny587.out] at ho26 | (simp only [Int.reduceToNat] at ho26; rw [← Ny587.out] at ho26)); have n0_ := Aside0.mk (Kd.R_lower ho26 (below_size (by repeat (first | (with_reducible first | exact HB.out | apply below_alloc | apply pw_below_drewN | apply below_drew1 | refine below_set ?_ GE586.out) | exact HB.out)))); have n1_ := Aside0.mk (blk_below (g := gb586) (o := .cells #[.int .u64 a2_0, .int .u64 a2_1, .int .u64 a2_2, .int .u64 a2_3, .int .u64 a2_4, .int .u64 a2_5] 26 (0, 0)) (by (with_reducible repeat (first | refine blk_drewN ?_ _ | refine blk_drew ?_ | refine blk_alloc ?_ _)); exact BK586.out) hb); have n2_ := Aside0.mk (below_step (by repeat (first | (with_reducible first | exact HB.out | apply below_alloc | apply pw_below_drewN | apply below_drew1 | refine below_set ?_ GE586.out) | exact HB.out)) hb); clear BK586; clear HB; have HO589 := n0_; have BK586 := n1_; have HB := n2_; clear n0_ n1_ n2_; clear hb ho26; obtain ⟨Ao27, co27, eo27⟩ := Kd.R_slice HO589.out; subst eo27) | ((with_reducible refine gate_callee (f := 12) rfl ?_); refine goesL_ (some 20) rfl rfl Try.func12 (by kernel_rfl) rfl #[.int .i64 a0, .slice Ao27 y587.length co27] rfl (by (try simp only [List.map_toArray, List.map_cons, List.map_nil]); first | done | rfl | (simp only [List.length_drop, List.length_take]; rfl)) ?_; (with_reducible refine (steeplelaw02_of.calls k a0 _ _ y587 t590 t591 _ ?side1 ?side2 A4.out).mono ?_); (case side1 => repeat (first | exact (Kd.R_reads' HO589.out).2.2 | (with_reducible refine Kd.C_alloc ?_ _) | (with_reducible refine Kd.C_drewN ?_ _) | (with_reducible refine Kd.C_drew ?_))); (case side2 => exact (Kd.R_reads' HO589.out).2.1); rintro e w28 ⟨v592, rfl, ho0, hb⟩; refine ⟨_, rfl, ?_⟩; have n0_ := Aside0.mk (Kd.R_elder' (by (with_reducible repeat (first | apply Kd.R_alloc | apply Kd.R_drewN | apply Kd.R_drew)); exact HO589.out) (Kd.R_base ho0) hb); have n1_ := Aside0.mk (Kd.R_lower (Kd.R_new' ho0 (Kd.R_lt (by (with_reducible repeat (first | apply Kd.R_alloc | apply Kd.R_drewN | apply Kd.R_drew)); exact HO589.out))) (below_size (by repeat (first | (with_reducible first | exact HB.out | apply below_alloc | apply pw_below_drewN | apply below_drew1 | refine below_set ?_ GE586.out) | exact HB.out)))); have n2_ := Aside0.mk (blk_below (g := gb586) (o := .cells #[.int .u64 a2_0, .int .u64 a2_1, .int .u64 a2_2, .int .u64 a2_3, .int .u64 a2_4, .int .u64 a2_5] 26 (0, 0)) (by (with_reducible repeat (first | refine blk_drewN ?_ _ | refine blk_drew ?_ | refine blk_alloc ?_ _)); exact BK586.out) hb); have n3_ := Aside0.mk (below_step (by repeat (first | (with_reducible first | exact HB.out | apply below_alloc | apply pw_below_drewN | apply below_drew1 | refine below_set ?_ GE586.out) | exact HB.out)) hb); clear HO589; clear BK586; clear HB; have HO589 := n0_; have HO593 := n1_; have BK586 := n2_; have HB := n3_; clear n0_ n1_ n2_ n3_; (try clear hb); (try clear hb2); (try clear hk); (try clear hi); (try clear ho0)))
        have n0_ := Aside0.mk (Kd.R_drew HO589.out)
        have n1_ := Aside0.mk (Kd.R_drew HO593.out)
        have n2_ := Aside0.mk (blk_drew BK586.out)
        have n3_ := Aside0.mk (below_drew1 HB.out)
        clear HO589
        clear HO593
        clear BK586
        clear HB
        have HO589 := n0_
        have HO593 := n1_
        have BK586 := n2_
        have HB := n3_
        clear n0_ n1_ n2_ n3_
        obtain ⟨Ao30, co30, eo30⟩ := Kd.R_slice HO593.out
        (first | subst eo30 | (injection eo30 with f1_ f2_ f3_; have f4_ := f1_.symm; have f5_ := f3_.symm; clear f1_ f2_ f3_; subst f4_; subst f5_))
        have p594 : 0 ≤ (0 : Int) := (by omega)
        have q594 : 0 < (t591.length : Int) := of_decide_eq_true (by first | (with_reducible assumption) | assumption)
        obtain ⟨ad594, e594, hx594_0, hx594_1⟩ := at_T24 (Kd.R_reads' HO593.out).2.2 0 p594 q594
        cases e594
        have qi594 : (0 < t591.length) = True := eq_true (by omega)
        (try rw [show ((0 : Int)).toNat = 0 from rfl] at hx594_0)
        (try rw [show 0 * 2 = 0 from rfl] at hx594_0)
        (try rw [Addr.add_zero'] at hx594_0)
        (try rw [show ((0 : Int)).toNat = 0 from rfl] at hx594_1)
        (try rw [show 0 * 2 = 0 from rfl] at hx594_1)
        (try rw [Addr.add_zero'] at hx594_1)
        replace p594 := eq_true p594
        replace q594 := eq_true q594
        have p595 : 0 ≤ (1 : Int) := (by omega)
        have q595 : 1 < (t591.length : Int) := of_decide_eq_true (by first | (with_reducible assumption) | assumption)
        obtain ⟨ad595, e595, hx595_0, hx595_1⟩ := at_T24 (Kd.R_reads' HO593.out).2.2 1 p595 q595
        obtain rfl : ad594 = ad595 := (by injection e595)
        (try simp only [show (1 : Int).toNat = 1 from rfl, Nat.reduceMul, Nat.reduceEqDiff, Go.Addr.add, ↓reduceIte] at hx595_0)
        (try simp only [show (1 : Int).toNat = 1 from rfl, Nat.reduceMul, Nat.reduceEqDiff, Go.Addr.add, ↓reduceIte] at hx595_1)
        have qi595 : (1 < t591.length) = True := eq_true (by omega)
        (try rw [show ((1 : Int)).toNat = 1 from rfl] at hx595_0)
        (try rw [show 1 * 2 = 2 from rfl] at hx595_0)
        (try rw [show ((1 : Int)).toNat = 1 from rfl] at hx595_1)
        (try rw [show 1 * 2 = 2 from rfl] at hx595_1)
        replace p595 := eq_true p595
        replace q595 := eq_true q595
        refine start_ (n := 10) (S := fun w' => w'.cell? ad594 = some (.int .u64 ((rd_T24 t591 0).f0)) ∧ w'.cell? ⟨ad594.block, ad594.off + 1, none⟩ = some (.int .u64 ((rd_T24 t591 0).f1)) ∧ w'.cell? ⟨ad594.block, ad594.off + 2, none⟩ = some (.int .u64 ((rd_T24 t591 1).f0)) ∧ w'.cell? ⟨ad594.block, ad594.off + 2 + 1, none⟩ = some (.int .u64 ((rd_T24 t591 1).f1))) (ds := []) #[false, false, false, false, false, false, false, false, false, false] (by kernel_rfl) rfl rfl ⟨hx594_0, hx594_1, hx595_0, hx595_1⟩ (fun hHeld => ?_); refine with_tabW steeplelaw02_TowerLevels.tab2 steeplelaw02_TowerLevels.bits2 (fun HT_ HW_ => ?_)
        generalize w28.drew = w29 at HO589 HO593 BK586 HB hx594_0 hx594_1 hx595_0 hx595_1 hHeld ⊢
        refine pure_ (i := 0) (N := some 23) (v := ?_) (a' := ?_) #[true, false, false, false, false, false, false, false, false, false] rfl rfl (any_of HT_.out (by kernel_rfl)) (fun _ _ _ h => h) (Or.inl ⟨by rfl, ?_⟩) ?_ ?_
        rotate_left
        ·intro w'
         go_simp
         with_reducible rfl
        rotate_left
        ·simp only [Act.put, List.setIfInBounds_toArray, List.set_cons_zero, List.set_cons_succ, i64_w, i32_w]
         rfl
        refine pure_ (i := 1) (N := some 24) (v := ?_) (a' := ?_) #[true, true, false, false, false, false, false, false, false, false] rfl rfl (any_of HT_.out (by kernel_rfl)) (fun _ _ _ h => h) (Or.inl ⟨by rfl, ?_⟩) ?_ ?_
        rotate_left
        ·intro w'
         go_simp
         with_reducible rfl
        rotate_left
        ·simp only [Act.put, List.setIfInBounds_toArray, List.set_cons_zero, List.set_cons_succ, i64_w, i32_w]
         rfl
        refine pure_ (i := 3) (N := some 26) (v := ?_) (a' := ?_) #[true, true, false, true, false, false, false, false, false, false] rfl rfl (any_of HT_.out (by kernel_rfl)) (fun _ _ _ h => h) (Or.inl ⟨by rfl, ?_⟩) ?_ ?_
        rotate_left
        ·intro w'
         go_simp
         with_reducible rfl
        rotate_left
        ·simp only [Act.put, List.setIfInBounds_toArray, List.set_cons_zero, List.set_cons_succ, i64_w, i32_w]
         rfl
        refine pure_ (i := 4) (N := some 27) (v := ?_) (a' := ?_) #[true, true, false, true, true, false, false, false, false, false] rfl rfl (any_of HT_.out (by kernel_rfl)) (fun _ _ _ h => h) (Or.inl ⟨by rfl, ?_⟩) ?_ ?_
        rotate_left
        ·intro w'
         go_simp
         with_reducible rfl
        rotate_left
        ·simp only [Act.put, List.setIfInBounds_toArray, List.set_cons_zero, List.set_cons_succ, i64_w, i32_w]
         rfl
        refine take_ (i := 2) (N := some 25) (v := ?_) (a' := ?_) #[true, true, true, true, true, false, false, false, false, false] rfl rfl (take_ofW HT_.out HW_.out (by kernel_rfl)) (fun _ _ _ h => h) (Or.inl ⟨by rfl, ?_⟩) hHeld ?_ ?_
        rotate_left
        ·rintro w' ⟨s0, s1, s2, s3⟩
         go_simp
         with_reducible rfl
        rotate_left
        ·simp only [Act.put, List.setIfInBounds_toArray, List.set_cons_zero, List.set_cons_succ, i64_w, i32_w]
         rfl
        refine take_ (i := 5) (N := some 28) (v := ?_) (a' := ?_) #[true, true, true, true, true, true, false, false, false, false] rfl rfl (take_ofW HT_.out HW_.out (by kernel_rfl)) (fun _ _ _ h => h) (Or.inl ⟨by rfl, ?_⟩) hHeld ?_ ?_
        rotate_left
        ·rintro w' ⟨s0, s1, s2, s3⟩
         go_simp
         with_reducible rfl
        rotate_left
        ·simp only [Act.put, List.setIfInBounds_toArray, List.set_cons_zero, List.set_cons_succ, i64_w, i32_w]
         rfl
        refine join_ (σ := Nat × Nat) 2 #[true, true, true, true, true, true, true, true, false, false] (fun s_ => [(9, .pointer (some ⟨s_.1, 0, none⟩)), (10, .pointer (some ⟨s_.2, 0, none⟩))]) (fun s_ w' => (w'.cell? ad594 = some (.int .u64 ((rd_T24 t591 0).f0)) ∧ w'.cell? ⟨ad594.block, ad594.off + 1, none⟩ = some (.int .u64 ((rd_T24 t591 0).f1)) ∧ w'.cell? ⟨ad594.block, ad594.off + 2, none⟩ = some (.int .u64 ((rd_T24 t591 1).f0)) ∧ w'.cell? ⟨ad594.block, ad594.off + 2 + 1, none⟩ = some (.int .u64 ((rd_T24 t591 1).f1))) ∧ (Kd.R k24 24 w' w.heap.size (fun k_ => some k_ ≠ (.slice (some ad594) t591.length co30 : Value).ownBlock ∧ k_ ≠ s_.1 ∧ k_ ≠ s_.2) (.slice Ao27 y587.length co27) y587) ∧ (Kd.R k24 24 w' w.heap.size (fun k_ => some k_ ≠ (.slice Ao27 y587.length co27 : Value).ownBlock ∧ k_ ≠ s_.1 ∧ k_ ≠ s_.2) (.slice (some ad594) t591.length co30) t591) ∧ (w'.heap[gb586]? = some (.cells #[.int .u64 a2_0, .int .u64 a2_1, .int .u64 a2_2, .int .u64 a2_3, .int .u64 a2_4, .int .u64 a2_5] 26 (0, 0))) ∧ (w'.heap[s_.1]? = some (.cells #[.int .u64 0, .int .u64 0] 24 (0, 0))) ∧ (w'.heap[s_.2]? = some (.cells #[.int .u64 0, .int .u64 0] 24 (0, 0))) ∧ (w.heap.size ≤ s_.1) ∧ (w.heap.size ≤ s_.1) ∧ (gb586 ≠ s_.1) ∧ (s_.1 ≠ gb586) ∧ (s_.2 ≠ s_.1) ∧ (s_.1 ≠ s_.2) ∧ (w.heap.size ≤ s_.2) ∧ (w.heap.size ≤ s_.2) ∧ (gb586 ≠ s_.2) ∧ (s_.2 ≠ gb586) ∧ (Below w.heap.size w w')) ?_ ?_
        rotate_left
        ·intro hCont
         refine two_ (i := 6) (j := 7) (Ni := some 9) (Nj := some 10) #[true, true, true, true, true, true, true, false, false, false] #[true, true, true, true, true, true, false, true, false, false] rfl rfl rfl rfl (two_of HT_.out (by kernel_rfl)) (by decide) (by decide) (fun K hK => ?_) (fun K hK => ?_)
         ·skip
          refine box_step ?hg (N := 9) ?hd (cs := #[.int .u64 0, .int .u64 0]) (t := 24) ?hr ?_; (case hd => rfl); (case hg => rfl); (case hr => first | (go_simp; done) | (go_simp; rfl))
          intro gb596 hg w31 hbox hb
          have HS0_ := (hb.cell (World.block_lt_of_cell? _ _ (hHeld.1))).trans (hHeld.1)
          have HS1_ := (hb.cell (World.block_lt_of_cell? _ _ (hHeld.2.1))).trans (hHeld.2.1)
          have HS2_ := (hb.cell (World.block_lt_of_cell? _ _ (hHeld.2.2.1))).trans (hHeld.2.2.1)
          have HS3_ := (hb.cell (World.block_lt_of_cell? _ _ (hHeld.2.2.2))).trans (hHeld.2.2.2)
          have n0_ := Aside0.mk (Kd.R_below (Kd.R_elderB (by (with_reducible repeat (first | apply Kd.R_alloc | apply Kd.R_drewN | apply Kd.R_drew)); exact HO589.out) gb596 (Nat.le_of_eq hg.symm)) hb)
          have n1_ := Aside0.mk (Kd.R_below (Kd.R_elderB (by (with_reducible repeat (first | apply Kd.R_alloc | apply Kd.R_drewN | apply Kd.R_drew)); exact HO593.out) gb596 (Nat.le_of_eq hg.symm)) hb)
          have n2_ := Aside0.mk (blk_below (g := gb586) (o := .cells #[.int .u64 a2_0, .int .u64 a2_1, .int .u64 a2_2, .int .u64 a2_3, .int .u64 a2_4, .int .u64 a2_5] 26 (0, 0)) (by (with_reducible repeat (first | refine blk_drewN ?_ _ | refine blk_drew ?_ | refine blk_alloc ?_ _)); exact BK586.out) hb)
          have n3_ := Aside0.mk (below_step (by repeat (first | (with_reducible first | exact HB.out | apply below_alloc | apply pw_below_drewN | apply below_drew1 | refine below_set ?_ GE586.out) | exact HB.out)) hb)
          have n4_ := Aside0.mk (hbox)
          have n5_ := Aside0.mk ((by rw [hg]; exact (below_size (by repeat (first | (with_reducible first | exact HB.out | apply below_alloc | apply pw_below_drewN | apply below_drew1 | refine below_set ?_ GE586.out) | exact HB.out))) : w.heap.size ≤ gb596))
          have n6_ := Aside0.mk ((by rw [hg]; exact (below_size (by repeat (first | (with_reducible first | exact HB.out | apply below_alloc | apply pw_below_drewN | apply below_drew1 | refine below_set ?_ GE586.out) | exact HB.out))) : w.heap.size ≤ gb596))
          have n7_ := Aside0.mk ((by rw [hg]; exact Nat.ne_of_lt (blk_lt (g := gb586) (o := .cells #[.int .u64 a2_0, .int .u64 a2_1, .int .u64 a2_2, .int .u64 a2_3, .int .u64 a2_4, .int .u64 a2_5] 26 (0, 0)) (by (with_reducible repeat (first | refine blk_drewN ?_ _ | refine blk_drew ?_ | refine blk_alloc ?_ _)); exact BK586.out)) : gb586 ≠ gb596))
          have n8_ := Aside0.mk ((by rw [hg]; exact Nat.ne_of_gt (blk_lt (g := gb586) (o := .cells #[.int .u64 a2_0, .int .u64 a2_1, .int .u64 a2_2, .int .u64 a2_3, .int .u64 a2_4, .int .u64 a2_5] 26 (0, 0)) (by (with_reducible repeat (first | refine blk_drewN ?_ _ | refine blk_drew ?_ | refine blk_alloc ?_ _)); exact BK586.out)) : gb596 ≠ gb586))
          clear HO589
          clear HO593
          clear BK586
          clear HB
          have HO589 := n0_
          have HO593 := n1_
          have BK586 := n2_
          have HB := n3_
          have BK596 := n4_
          have GW596 := n5_
          have GE596 := n6_
          have NB586_596 := n7_
          have NB596_586 := n8_
          clear n0_ n1_ n2_ n3_ n4_ n5_ n6_ n7_ n8_
          clear hb hbox hg
          refine hK.out _ _ ⟨HS0_, HS1_, HS2_, HS3_⟩ (fun hHeld => ?_)
          clear hK K
          refine norm_ (a' := ?_) ?_ ?_
          rotate_left
          ·show Act.put _ (some 9) _ = _
           simp only [Act.put, List.setIfInBounds_toArray, List.set_cons_zero, List.set_cons_succ, i64_w, i32_w]
           rfl
          refine one_ (i := 7) (N := some 10) #[true, true, true, true, true, true, true, true, false, false] rfl rfl (one_of HT_.out (by kernel_rfl)) (by decide) (fun K hK => ?_)
          refine box_step ?hg (N := 10) ?hd (cs := #[.int .u64 0, .int .u64 0]) (t := 24) ?hr ?_; (case hd => rfl); (case hg => rfl); (case hr => first | (go_simp; done) | (go_simp; rfl))
          intro gb597 hg w32 hbox hb
          have HS0_ := (hb.cell (World.block_lt_of_cell? _ _ (hHeld.1))).trans (hHeld.1)
          have HS1_ := (hb.cell (World.block_lt_of_cell? _ _ (hHeld.2.1))).trans (hHeld.2.1)
          have HS2_ := (hb.cell (World.block_lt_of_cell? _ _ (hHeld.2.2.1))).trans (hHeld.2.2.1)
          have HS3_ := (hb.cell (World.block_lt_of_cell? _ _ (hHeld.2.2.2))).trans (hHeld.2.2.2)
          have n0_ := Aside0.mk (Kd.R_below (Kd.R_elderB (by (with_reducible repeat (first | apply Kd.R_alloc | apply Kd.R_drewN | apply Kd.R_drew)); exact HO589.out) gb597 (Nat.le_of_eq hg.symm)) hb)
          have n1_ := Aside0.mk (Kd.R_below (Kd.R_elderB (by (with_reducible repeat (first | apply Kd.R_alloc | apply Kd.R_drewN | apply Kd.R_drew)); exact HO593.out) gb597 (Nat.le_of_eq hg.symm)) hb)
          have n2_ := Aside0.mk (blk_below (g := gb586) (o := .cells #[.int .u64 a2_0, .int .u64 a2_1, .int .u64 a2_2, .int .u64 a2_3, .int .u64 a2_4, .int .u64 a2_5] 26 (0, 0)) (by (with_reducible repeat (first | refine blk_drewN ?_ _ | refine blk_drew ?_ | refine blk_alloc ?_ _)); exact BK586.out) hb)
          have n3_ := Aside0.mk (blk_below (g := gb596) (o := .cells #[.int .u64 0, .int .u64 0] 24 (0, 0)) (by (with_reducible repeat (first | refine blk_drewN ?_ _ | refine blk_drew ?_ | refine blk_alloc ?_ _)); exact BK596.out) hb)
          have n4_ := Aside0.mk (below_step (by repeat (first | (with_reducible first | exact HB.out | apply below_alloc | apply pw_below_drewN | apply below_drew1 | refine below_set ?_ GE586.out | refine below_set ?_ GE596.out) | exact HB.out)) hb)
          have n5_ := Aside0.mk (hbox)
          have n6_ := Aside0.mk ((by rw [hg]; exact (below_size (by repeat (first | (with_reducible first | exact HB.out | apply below_alloc | apply pw_below_drewN | apply below_drew1 | refine below_set ?_ GE586.out | refine below_set ?_ GE596.out) | exact HB.out))) : w.heap.size ≤ gb597))
          have n7_ := Aside0.mk ((by rw [hg]; exact (below_size (by repeat (first | (with_reducible first | exact HB.out | apply below_alloc | apply pw_below_drewN | apply below_drew1 | refine below_set ?_ GE586.out | refine below_set ?_ GE596.out) | exact HB.out))) : w.heap.size ≤ gb597))
          have n8_ := Aside0.mk ((by rw [hg]; exact Nat.ne_of_lt (blk_lt (g := gb586) (o := .cells #[.int .u64 a2_0, .int .u64 a2_1, .int .u64 a2_2, .int .u64 a2_3, .int .u64 a2_4, .int .u64 a2_5] 26 (0, 0)) (by (with_reducible repeat (first | refine blk_drewN ?_ _ | refine blk_drew ?_ | refine blk_alloc ?_ _)); exact BK586.out)) : gb586 ≠ gb597))
          have n9_ := Aside0.mk ((by rw [hg]; exact Nat.ne_of_gt (blk_lt (g := gb586) (o := .cells #[.int .u64 a2_0, .int .u64 a2_1, .int .u64 a2_2, .int .u64 a2_3, .int .u64 a2_4, .int .u64 a2_5] 26 (0, 0)) (by (with_reducible repeat (first | refine blk_drewN ?_ _ | refine blk_drew ?_ | refine blk_alloc ?_ _)); exact BK586.out)) : gb597 ≠ gb586))
          have n10_ := Aside0.mk ((by rw [hg]; exact Nat.ne_of_lt (blk_lt (g := gb596) (o := .cells #[.int .u64 0, .int .u64 0] 24 (0, 0)) (by (with_reducible repeat (first | refine blk_drewN ?_ _ | refine blk_drew ?_ | refine blk_alloc ?_ _)); exact BK596.out)) : gb596 ≠ gb597))
          have n11_ := Aside0.mk ((by rw [hg]; exact Nat.ne_of_gt (blk_lt (g := gb596) (o := .cells #[.int .u64 0, .int .u64 0] 24 (0, 0)) (by (with_reducible repeat (first | refine blk_drewN ?_ _ | refine blk_drew ?_ | refine blk_alloc ?_ _)); exact BK596.out)) : gb597 ≠ gb596))
          clear HO589
          clear HO593
          clear BK586
          clear BK596
          clear HB
          have HO589 := n0_
          have HO593 := n1_
          have BK586 := n2_
          have BK596 := n3_
          have HB := n4_
          have BK597 := n5_
          have GW597 := n6_
          have GE597 := n7_
          have NB586_597 := n8_
          have NB597_586 := n9_
          have NB596_597 := n10_
          have NB597_596 := n11_
          clear n0_ n1_ n2_ n3_ n4_ n5_ n6_ n7_ n8_ n9_ n10_ n11_
          clear hb hbox hg
          refine hK.out _ _ ⟨HS0_, HS1_, HS2_, HS3_⟩ (fun hHeld => ?_)
          clear hK K
          refine norm_ (a' := ?_) ?_ ?_
          rotate_left
          ·show Act.put _ (some 10) _ = _
           simp only [Act.put, List.setIfInBounds_toArray, List.set_cons_zero, List.set_cons_succ, i64_w, i32_w]
           rfl
          exact norm_ (by simp only [putAll, Act.put, List.setIfInBounds_toArray, List.set_cons_zero, List.set_cons_succ]) (hCont (gb596, gb597) _ ⟨hHeld, (by (with_reducible repeat (first | apply Kd.R_alloc | apply Kd.R_drewN | apply Kd.R_drew)); exact Kd.R_mono HO589.out (fun _ hk => ⟨hk.1.1.2, ⟨hk.1.2, hk.2⟩⟩)), (by (with_reducible repeat (first | apply Kd.R_alloc | apply Kd.R_drewN | apply Kd.R_drew)); exact Kd.R_mono HO593.out (fun _ hk => ⟨hk.1.1.2, ⟨hk.1.2, hk.2⟩⟩)), (by (with_reducible repeat (first | refine blk_drewN ?_ _ | refine blk_drew ?_ | refine blk_alloc ?_ _)); exact BK586.out), (by (with_reducible repeat (first | refine blk_drewN ?_ _ | refine blk_drew ?_ | refine blk_alloc ?_ _)); exact BK596.out), (by (with_reducible repeat (first | refine blk_drewN ?_ _ | refine blk_drew ?_ | refine blk_alloc ?_ _)); exact BK597.out), GW596.out, GE596.out, NB586_596.out, NB596_586.out, NB597_596.out, NB596_597.out, GW597.out, GE597.out, NB586_597.out, NB597_586.out, (by repeat (first | (with_reducible first | exact HB.out | apply below_alloc | apply pw_below_drewN | apply below_drew1 | refine below_set ?_ GE586.out | refine below_set ?_ GE596.out | refine below_set ?_ GE597.out) | exact HB.out))⟩)
         ·skip
          refine box_step ?hg (N := 10) ?hd (cs := #[.int .u64 0, .int .u64 0]) (t := 24) ?hr ?_; (case hd => rfl); (case hg => rfl); (case hr => first | (go_simp; done) | (go_simp; rfl))
          intro gb597 hg w31 hbox hb
          have HS0_ := (hb.cell (World.block_lt_of_cell? _ _ (hHeld.1))).trans (hHeld.1)
          have HS1_ := (hb.cell (World.block_lt_of_cell? _ _ (hHeld.2.1))).trans (hHeld.2.1)
          have HS2_ := (hb.cell (World.block_lt_of_cell? _ _ (hHeld.2.2.1))).trans (hHeld.2.2.1)
          have HS3_ := (hb.cell (World.block_lt_of_cell? _ _ (hHeld.2.2.2))).trans (hHeld.2.2.2)
          have n0_ := Aside0.mk (Kd.R_below (Kd.R_elderB (by (with_reducible repeat (first | apply Kd.R_alloc | apply Kd.R_drewN | apply Kd.R_drew)); exact HO589.out) gb597 (Nat.le_of_eq hg.symm)) hb)
          have n1_ := Aside0.mk (Kd.R_below (Kd.R_elderB (by (with_reducible repeat (first | apply Kd.R_alloc | apply Kd.R_drewN | apply Kd.R_drew)); exact HO593.out) gb597 (Nat.le_of_eq hg.symm)) hb)
          have n2_ := Aside0.mk (blk_below (g := gb586) (o := .cells #[.int .u64 a2_0, .int .u64 a2_1, .int .u64 a2_2, .int .u64 a2_3, .int .u64 a2_4, .int .u64 a2_5] 26 (0, 0)) (by (with_reducible repeat (first | refine blk_drewN ?_ _ | refine blk_drew ?_ | refine blk_alloc ?_ _)); exact BK586.out) hb)
          have n3_ := Aside0.mk (below_step (by repeat (first | (with_reducible first | exact HB.out | apply below_alloc | apply pw_below_drewN | apply below_drew1 | refine below_set ?_ GE586.out) | exact HB.out)) hb)
          have n4_ := Aside0.mk (hbox)
          have n5_ := Aside0.mk ((by rw [hg]; exact (below_size (by repeat (first | (with_reducible first | exact HB.out | apply below_alloc | apply pw_below_drewN | apply below_drew1 | refine below_set ?_ GE586.out) | exact HB.out))) : w.heap.size ≤ gb597))
          have n6_ := Aside0.mk ((by rw [hg]; exact (below_size (by repeat (first | (with_reducible first | exact HB.out | apply below_alloc | apply pw_below_drewN | apply below_drew1 | refine below_set ?_ GE586.out) | exact HB.out))) : w.heap.size ≤ gb597))
          have n7_ := Aside0.mk ((by rw [hg]; exact Nat.ne_of_lt (blk_lt (g := gb586) (o := .cells #[.int .u64 a2_0, .int .u64 a2_1, .int .u64 a2_2, .int .u64 a2_3, .int .u64 a2_4, .int .u64 a2_5] 26 (0, 0)) (by (with_reducible repeat (first | refine blk_drewN ?_ _ | refine blk_drew ?_ | refine blk_alloc ?_ _)); exact BK586.out)) : gb586 ≠ gb597))
          have n8_ := Aside0.mk ((by rw [hg]; exact Nat.ne_of_gt (blk_lt (g := gb586) (o := .cells #[.int .u64 a2_0, .int .u64 a2_1, .int .u64 a2_2, .int .u64 a2_3, .int .u64 a2_4, .int .u64 a2_5] 26 (0, 0)) (by (with_reducible repeat (first | refine blk_drewN ?_ _ | refine blk_drew ?_ | refine blk_alloc ?_ _)); exact BK586.out)) : gb597 ≠ gb586))
          clear HO589
          clear HO593
          clear BK586
          clear HB
          have HO589 := n0_
          have HO593 := n1_
          have BK586 := n2_
          have HB := n3_
          have BK597 := n4_
          have GW597 := n5_
          have GE597 := n6_
          have NB586_597 := n7_
          have NB597_586 := n8_
          clear n0_ n1_ n2_ n3_ n4_ n5_ n6_ n7_ n8_
          clear hb hbox hg
          refine hK.out _ _ ⟨HS0_, HS1_, HS2_, HS3_⟩ (fun hHeld => ?_)
          clear hK K
          refine norm_ (a' := ?_) ?_ ?_
          rotate_left
          ·show Act.put _ (some 10) _ = _
           simp only [Act.put, List.setIfInBounds_toArray, List.set_cons_zero, List.set_cons_succ, i64_w, i32_w]
           rfl
          refine one_ (i := 6) (N := some 9) #[true, true, true, true, true, true, true, true, false, false] rfl rfl (one_of HT_.out (by kernel_rfl)) (by decide) (fun K hK => ?_)
          refine box_step ?hg (N := 9) ?hd (cs := #[.int .u64 0, .int .u64 0]) (t := 24) ?hr ?_; (case hd => rfl); (case hg => rfl); (case hr => first | (go_simp; done) | (go_simp; rfl))
          intro gb596 hg w32 hbox hb
          have HS0_ := (hb.cell (World.block_lt_of_cell? _ _ (hHeld.1))).trans (hHeld.1)
          have HS1_ := (hb.cell (World.block_lt_of_cell? _ _ (hHeld.2.1))).trans (hHeld.2.1)
          have HS2_ := (hb.cell (World.block_lt_of_cell? _ _ (hHeld.2.2.1))).trans (hHeld.2.2.1)
          have HS3_ := (hb.cell (World.block_lt_of_cell? _ _ (hHeld.2.2.2))).trans (hHeld.2.2.2)
          have n0_ := Aside0.mk (Kd.R_below (Kd.R_elderB (by (with_reducible repeat (first | apply Kd.R_alloc | apply Kd.R_drewN | apply Kd.R_drew)); exact HO589.out) gb596 (Nat.le_of_eq hg.symm)) hb)
          have n1_ := Aside0.mk (Kd.R_below (Kd.R_elderB (by (with_reducible repeat (first | apply Kd.R_alloc | apply Kd.R_drewN | apply Kd.R_drew)); exact HO593.out) gb596 (Nat.le_of_eq hg.symm)) hb)
          have n2_ := Aside0.mk (blk_below (g := gb586) (o := .cells #[.int .u64 a2_0, .int .u64 a2_1, .int .u64 a2_2, .int .u64 a2_3, .int .u64 a2_4, .int .u64 a2_5] 26 (0, 0)) (by (with_reducible repeat (first | refine blk_drewN ?_ _ | refine blk_drew ?_ | refine blk_alloc ?_ _)); exact BK586.out) hb)
          have n3_ := Aside0.mk (blk_below (g := gb597) (o := .cells #[.int .u64 0, .int .u64 0] 24 (0, 0)) (by (with_reducible repeat (first | refine blk_drewN ?_ _ | refine blk_drew ?_ | refine blk_alloc ?_ _)); exact BK597.out) hb)
          have n4_ := Aside0.mk (below_step (by repeat (first | (with_reducible first | exact HB.out | apply below_alloc | apply pw_below_drewN | apply below_drew1 | refine below_set ?_ GE586.out | refine below_set ?_ GE597.out) | exact HB.out)) hb)
          have n5_ := Aside0.mk (hbox)
          have n6_ := Aside0.mk ((by rw [hg]; exact (below_size (by repeat (first | (with_reducible first | exact HB.out | apply below_alloc | apply pw_below_drewN | apply below_drew1 | refine below_set ?_ GE586.out | refine below_set ?_ GE597.out) | exact HB.out))) : w.heap.size ≤ gb596))
          have n7_ := Aside0.mk ((by rw [hg]; exact (below_size (by repeat (first | (with_reducible first | exact HB.out | apply below_alloc | apply pw_below_drewN | apply below_drew1 | refine below_set ?_ GE586.out | refine below_set ?_ GE597.out) | exact HB.out))) : w.heap.size ≤ gb596))
          have n8_ := Aside0.mk ((by rw [hg]; exact Nat.ne_of_lt (blk_lt (g := gb586) (o := .cells #[.int .u64 a2_0, .int .u64 a2_1, .int .u64 a2_2, .int .u64 a2_3, .int .u64 a2_4, .int .u64 a2_5] 26 (0, 0)) (by (with_reducible repeat (first | refine blk_drewN ?_ _ | refine blk_drew ?_ | refine blk_alloc ?_ _)); exact BK586.out)) : gb586 ≠ gb596))
          have n9_ := Aside0.mk ((by rw [hg]; exact Nat.ne_of_gt (blk_lt (g := gb586) (o := .cells #[.int .u64 a2_0, .int .u64 a2_1, .int .u64 a2_2, .int .u64 a2_3, .int .u64 a2_4, .int .u64 a2_5] 26 (0, 0)) (by (with_reducible repeat (first | refine blk_drewN ?_ _ | refine blk_drew ?_ | refine blk_alloc ?_ _)); exact BK586.out)) : gb596 ≠ gb586))
          have n10_ := Aside0.mk ((by rw [hg]; exact Nat.ne_of_lt (blk_lt (g := gb597) (o := .cells #[.int .u64 0, .int .u64 0] 24 (0, 0)) (by (with_reducible repeat (first | refine blk_drewN ?_ _ | refine blk_drew ?_ | refine blk_alloc ?_ _)); exact BK597.out)) : gb597 ≠ gb596))
          have n11_ := Aside0.mk ((by rw [hg]; exact Nat.ne_of_gt (blk_lt (g := gb597) (o := .cells #[.int .u64 0, .int .u64 0] 24 (0, 0)) (by (with_reducible repeat (first | refine blk_drewN ?_ _ | refine blk_drew ?_ | refine blk_alloc ?_ _)); exact BK597.out)) : gb596 ≠ gb597))
          clear HO589
          clear HO593
          clear BK586
          clear BK597
          clear HB
          have HO589 := n0_
          have HO593 := n1_
          have BK586 := n2_
          have BK597 := n3_
          have HB := n4_
          have BK596 := n5_
          have GW596 := n6_
          have GE596 := n7_
          have NB586_596 := n8_
          have NB596_586 := n9_
          have NB597_596 := n10_
          have NB596_597 := n11_
          clear n0_ n1_ n2_ n3_ n4_ n5_ n6_ n7_ n8_ n9_ n10_ n11_
          clear hb hbox hg
          refine hK.out _ _ ⟨HS0_, HS1_, HS2_, HS3_⟩ (fun hHeld => ?_)
          clear hK K
          refine norm_ (a' := ?_) ?_ ?_
          rotate_left
          ·show Act.put _ (some 9) _ = _
           simp only [Act.put, List.setIfInBounds_toArray, List.set_cons_zero, List.set_cons_succ, i64_w, i32_w]
           rfl
          exact norm_ (by simp only [putAll, Act.put, List.setIfInBounds_toArray, List.set_cons_zero, List.set_cons_succ]) (hCont (gb596, gb597) _ ⟨hHeld, (by (with_reducible repeat (first | apply Kd.R_alloc | apply Kd.R_drewN | apply Kd.R_drew)); exact Kd.R_mono HO589.out (fun _ hk => ⟨hk.1.1.2, ⟨hk.2, hk.1.2⟩⟩)), (by (with_reducible repeat (first | apply Kd.R_alloc | apply Kd.R_drewN | apply Kd.R_drew)); exact Kd.R_mono HO593.out (fun _ hk => ⟨hk.1.1.2, ⟨hk.2, hk.1.2⟩⟩)), (by (with_reducible repeat (first | refine blk_drewN ?_ _ | refine blk_drew ?_ | refine blk_alloc ?_ _)); exact BK586.out), (by (with_reducible repeat (first | refine blk_drewN ?_ _ | refine blk_drew ?_ | refine blk_alloc ?_ _)); exact BK596.out), (by (with_reducible repeat (first | refine blk_drewN ?_ _ | refine blk_drew ?_ | refine blk_alloc ?_ _)); exact BK597.out), GW596.out, GE596.out, NB586_596.out, NB596_586.out, NB597_596.out, NB596_597.out, GW597.out, GE597.out, NB586_597.out, NB597_586.out, (by repeat (first | (with_reducible first | exact HB.out | apply below_alloc | apply pw_below_drewN | apply below_drew1 | refine below_set ?_ GE586.out | refine below_set ?_ GE597.out | refine below_set ?_ GE596.out) | exact HB.out))⟩)
        rintro ⟨gb596, gb597⟩ w33 ⟨hS_, h0_, h1_, h2_, h3_, h4_, h5_, h6_, h7_, h8_, h9_, h10_, h11_, h12_, h13_, h14_, h15_⟩
        have n0_ : Aside0 (Kd.R k24 24 w33 w.heap.size (fun k_ => some k_ ≠ (.slice (some ad594) t591.length co30 : Value).ownBlock ∧ k_ ≠ gb596 ∧ k_ ≠ gb597) (.slice Ao27 y587.length co27) y587) := ⟨h0_⟩
        have n1_ : Aside0 (Kd.R k24 24 w33 w.heap.size (fun k_ => some k_ ≠ (.slice Ao27 y587.length co27 : Value).ownBlock ∧ k_ ≠ gb596 ∧ k_ ≠ gb597) (.slice (some ad594) t591.length co30) t591) := ⟨h1_⟩
        have n2_ : Aside0 (w33.heap[gb586]? = some (.cells #[.int .u64 a2_0, .int .u64 a2_1, .int .u64 a2_2, .int .u64 a2_3, .int .u64 a2_4, .int .u64 a2_5] 26 (0, 0))) := ⟨h2_⟩
        have n3_ : Aside0 (w33.heap[gb596]? = some (.cells #[.int .u64 0, .int .u64 0] 24 (0, 0))) := ⟨h3_⟩
        have n4_ : Aside0 (w33.heap[gb597]? = some (.cells #[.int .u64 0, .int .u64 0] 24 (0, 0))) := ⟨h4_⟩
        have n5_ : Aside0 (w.heap.size ≤ gb596) := ⟨h5_⟩
        have n6_ : Aside0 (w.heap.size ≤ gb596) := ⟨h6_⟩
        have n7_ : Aside0 (gb586 ≠ gb596) := ⟨h7_⟩
        have n8_ : Aside0 (gb596 ≠ gb586) := ⟨h8_⟩
        have n9_ : Aside0 (gb597 ≠ gb596) := ⟨h9_⟩
        have n10_ : Aside0 (gb596 ≠ gb597) := ⟨h10_⟩
        have n11_ : Aside0 (w.heap.size ≤ gb597) := ⟨h11_⟩
        have n12_ : Aside0 (w.heap.size ≤ gb597) := ⟨h12_⟩
        have n13_ : Aside0 (gb586 ≠ gb597) := ⟨h13_⟩
        have n14_ : Aside0 (gb597 ≠ gb586) := ⟨h14_⟩
        have n15_ : Aside0 (Below w.heap.size w w33) := ⟨h15_⟩
        clear HO589
        clear HO593
        clear BK586
        clear HB
        clear h0_ h1_ h2_ h3_ h4_ h5_ h6_ h7_ h8_ h9_ h10_ h11_ h12_ h13_ h14_ h15_
        have HO589 := n0_
        have HO593 := n1_
        have BK586 := n2_
        have BK596 := n3_
        have BK597 := n4_
        have GW596 := n5_
        have GE596 := n6_
        have NB586_596 := n7_
        have NB596_586 := n8_
        have NB597_596 := n9_
        have NB596_597 := n10_
        have GW597 := n11_
        have GE597 := n12_
        have NB586_597 := n13_
        have NB597_586 := n14_
        have HB := n15_
        clear n0_ n1_ n2_ n3_ n4_ n5_ n6_ n7_ n8_ n9_ n10_ n11_ n12_ n13_ n14_ n15_
        have hHeld : w33.cell? ad594 = some (.int .u64 ((rd_T24 t591 0).f0)) ∧ w33.cell? ⟨ad594.block, ad594.off + 1, none⟩ = some (.int .u64 ((rd_T24 t591 0).f1)) ∧ w33.cell? ⟨ad594.block, ad594.off + 2, none⟩ = some (.int .u64 ((rd_T24 t591 1).f0)) ∧ w33.cell? ⟨ad594.block, ad594.off + 2 + 1, none⟩ = some (.int .u64 ((rd_T24 t591 1).f1)) := hS_
        refine norm_ (a' := ?_) ?_ ?_
        rotate_left
        ·simp only [putAll, Act.put, List.setIfInBounds_toArray, List.set_cons_zero, List.set_cons_succ]
         rfl
        refine one_ (i := 8) (N := none) #[true, true, true, true, true, true, true, true, true, false] rfl rfl (one_of HT_.out (by kernel_rfl)) (by decide) (fun K hK => ?_)
        have hs34 : w33.cell? ⟨gb596, 0, none⟩ = some (.int .u64 0) := (blk_cell BK596.out 0).trans rfl
        have hfs34 := blk_frozen BK596.out 0
        have hns34_0 := NB586_596.out
        have hns34_2 := NB597_596.out
        have hms34_0 := NB596_586.out
        have hms34_2 := NB596_597.out
        have hs35 : w33.cell? ⟨gb596, 1, none⟩ = some (.int .u64 0) := (blk_cell BK596.out 1).trans rfl
        have hfs35 := blk_frozen BK596.out 1
        have hns35_0 := NB586_596.out
        have hns35_2 := NB597_596.out
        have hms35_0 := NB596_586.out
        have hms35_2 := NB596_597.out
        refine skip_ (w1 := ?_) (by rfl) rfl ?_ ?_
        rotate_left
        ·go_simp
         rfl
        refine hK.out _ _ ⟨((cell_far (p := ⟨gb596, _, none⟩) (by first | exact Kd.own_blk (Kd.R_away HO593.out (fun _ hk => hk.2.1)) | (rw [add_block]; exact Kd.own_blk (Kd.R_away HO593.out (fun _ hk => hk.2.1))) | (show (Addr.add _ _).block ≠ _; rw [add_block]; exact Kd.own_blk (Kd.R_away HO593.out (fun _ hk => hk.2.1))) | (dsimp only; exact Kd.own_blk (Kd.R_away HO593.out (fun _ hk => hk.2.1)))) _).trans (((cell_far (p := ⟨gb596, _, none⟩) (by first | exact Kd.own_blk (Kd.R_away HO593.out (fun _ hk => hk.2.1)) | (rw [add_block]; exact Kd.own_blk (Kd.R_away HO593.out (fun _ hk => hk.2.1))) | (show (Addr.add _ _).block ≠ _; rw [add_block]; exact Kd.own_blk (Kd.R_away HO593.out (fun _ hk => hk.2.1))) | (dsimp only; exact Kd.own_blk (Kd.R_away HO593.out (fun _ hk => hk.2.1)))) _).trans (hHeld.1)))), ((cell_far (p := ⟨gb596, _, none⟩) (by first | exact Kd.own_blk (Kd.R_away HO593.out (fun _ hk => hk.2.1)) | (rw [add_block]; exact Kd.own_blk (Kd.R_away HO593.out (fun _ hk => hk.2.1))) | (show (Addr.add _ _).block ≠ _; rw [add_block]; exact Kd.own_blk (Kd.R_away HO593.out (fun _ hk => hk.2.1))) | (dsimp only; exact Kd.own_blk (Kd.R_away HO593.out (fun _ hk => hk.2.1)))) _).trans (((cell_far (p := ⟨gb596, _, none⟩) (by first | exact Kd.own_blk (Kd.R_away HO593.out (fun _ hk => hk.2.1)) | (rw [add_block]; exact Kd.own_blk (Kd.R_away HO593.out (fun _ hk => hk.2.1))) | (show (Addr.add _ _).block ≠ _; rw [add_block]; exact Kd.own_blk (Kd.R_away HO593.out (fun _ hk => hk.2.1))) | (dsimp only; exact Kd.own_blk (Kd.R_away HO593.out (fun _ hk => hk.2.1)))) _).trans (hHeld.2.1)))), ((cell_far (p := ⟨gb596, _, none⟩) (by first | exact Kd.own_blk (Kd.R_away HO593.out (fun _ hk => hk.2.1)) | (rw [add_block]; exact Kd.own_blk (Kd.R_away HO593.out (fun _ hk => hk.2.1))) | (show (Addr.add _ _).block ≠ _; rw [add_block]; exact Kd.own_blk (Kd.R_away HO593.out (fun _ hk => hk.2.1))) | (dsimp only; exact Kd.own_blk (Kd.R_away HO593.out (fun _ hk => hk.2.1)))) _).trans (((cell_far (p := ⟨gb596, _, none⟩) (by first | exact Kd.own_blk (Kd.R_away HO593.out (fun _ hk => hk.2.1)) | (rw [add_block]; exact Kd.own_blk (Kd.R_away HO593.out (fun _ hk => hk.2.1))) | (show (Addr.add _ _).block ≠ _; rw [add_block]; exact Kd.own_blk (Kd.R_away HO593.out (fun _ hk => hk.2.1))) | (dsimp only; exact Kd.own_blk (Kd.R_away HO593.out (fun _ hk => hk.2.1)))) _).trans (hHeld.2.2.1)))), ((cell_far (p := ⟨gb596, _, none⟩) (by first | exact Kd.own_blk (Kd.R_away HO593.out (fun _ hk => hk.2.1)) | (rw [add_block]; exact Kd.own_blk (Kd.R_away HO593.out (fun _ hk => hk.2.1))) | (show (Addr.add _ _).block ≠ _; rw [add_block]; exact Kd.own_blk (Kd.R_away HO593.out (fun _ hk => hk.2.1))) | (dsimp only; exact Kd.own_blk (Kd.R_away HO593.out (fun _ hk => hk.2.1)))) _).trans (((cell_far (p := ⟨gb596, _, none⟩) (by first | exact Kd.own_blk (Kd.R_away HO593.out (fun _ hk => hk.2.1)) | (rw [add_block]; exact Kd.own_blk (Kd.R_away HO593.out (fun _ hk => hk.2.1))) | (show (Addr.add _ _).block ≠ _; rw [add_block]; exact Kd.own_blk (Kd.R_away HO593.out (fun _ hk => hk.2.1))) | (dsimp only; exact Kd.own_blk (Kd.R_away HO593.out (fun _ hk => hk.2.1)))) _).trans (hHeld.2.2.2))))⟩ (fun hHeld => ?_)
        clear hK K
        refine one_ (i := 9) (N := none) #[true, true, true, true, true, true, true, true, true, true] rfl rfl (one_of HT_.out (by kernel_rfl)) (by decide) (fun K hK => ?_)
        have hs36 : w33.cell? ⟨gb597, 0, none⟩ = some (.int .u64 0) := (blk_cell BK597.out 0).trans rfl
        have hfs36 := blk_frozen BK597.out 0
        have hns36_0 := NB586_597.out
        have hns36_1 := NB596_597.out
        have hms36_0 := NB597_586.out
        have hms36_1 := NB597_596.out
        have hs37 : w33.cell? ⟨gb597, 1, none⟩ = some (.int .u64 0) := (blk_cell BK597.out 1).trans rfl
        have hfs37 := blk_frozen BK597.out 1
        have hns37_0 := NB586_597.out
        have hns37_1 := NB596_597.out
        have hms37_0 := NB597_586.out
        have hms37_1 := NB597_596.out
        refine skip_ (w1 := ?_) (by rfl) rfl ?_ ?_
        rotate_left
        ·go_simp
         rfl
        refine hK.out _ _ ⟨((cell_far (p := ⟨gb597, _, none⟩) (by first | exact Kd.own_blk (Kd.R_away HO593.out (fun _ hk => hk.2.2)) | (rw [add_block]; exact Kd.own_blk (Kd.R_away HO593.out (fun _ hk => hk.2.2))) | (show (Addr.add _ _).block ≠ _; rw [add_block]; exact Kd.own_blk (Kd.R_away HO593.out (fun _ hk => hk.2.2))) | (dsimp only; exact Kd.own_blk (Kd.R_away HO593.out (fun _ hk => hk.2.2)))) _).trans (((cell_far (p := ⟨gb597, _, none⟩) (by first | exact Kd.own_blk (Kd.R_away HO593.out (fun _ hk => hk.2.2)) | (rw [add_block]; exact Kd.own_blk (Kd.R_away HO593.out (fun _ hk => hk.2.2))) | (show (Addr.add _ _).block ≠ _; rw [add_block]; exact Kd.own_blk (Kd.R_away HO593.out (fun _ hk => hk.2.2))) | (dsimp only; exact Kd.own_blk (Kd.R_away HO593.out (fun _ hk => hk.2.2)))) _).trans (hHeld.1)))), ((cell_far (p := ⟨gb597, _, none⟩) (by first | exact Kd.own_blk (Kd.R_away HO593.out (fun _ hk => hk.2.2)) | (rw [add_block]; exact Kd.own_blk (Kd.R_away HO593.out (fun _ hk => hk.2.2))) | (show (Addr.add _ _).block ≠ _; rw [add_block]; exact Kd.own_blk (Kd.R_away HO593.out (fun _ hk => hk.2.2))) | (dsimp only; exact Kd.own_blk (Kd.R_away HO593.out (fun _ hk => hk.2.2)))) _).trans (((cell_far (p := ⟨gb597, _, none⟩) (by first | exact Kd.own_blk (Kd.R_away HO593.out (fun _ hk => hk.2.2)) | (rw [add_block]; exact Kd.own_blk (Kd.R_away HO593.out (fun _ hk => hk.2.2))) | (show (Addr.add _ _).block ≠ _; rw [add_block]; exact Kd.own_blk (Kd.R_away HO593.out (fun _ hk => hk.2.2))) | (dsimp only; exact Kd.own_blk (Kd.R_away HO593.out (fun _ hk => hk.2.2)))) _).trans (hHeld.2.1)))), ((cell_far (p := ⟨gb597, _, none⟩) (by first | exact Kd.own_blk (Kd.R_away HO593.out (fun _ hk => hk.2.2)) | (rw [add_block]; exact Kd.own_blk (Kd.R_away HO593.out (fun _ hk => hk.2.2))) | (show (Addr.add _ _).block ≠ _; rw [add_block]; exact Kd.own_blk (Kd.R_away HO593.out (fun _ hk => hk.2.2))) | (dsimp only; exact Kd.own_blk (Kd.R_away HO593.out (fun _ hk => hk.2.2)))) _).trans (((cell_far (p := ⟨gb597, _, none⟩) (by first | exact Kd.own_blk (Kd.R_away HO593.out (fun _ hk => hk.2.2)) | (rw [add_block]; exact Kd.own_blk (Kd.R_away HO593.out (fun _ hk => hk.2.2))) | (show (Addr.add _ _).block ≠ _; rw [add_block]; exact Kd.own_blk (Kd.R_away HO593.out (fun _ hk => hk.2.2))) | (dsimp only; exact Kd.own_blk (Kd.R_away HO593.out (fun _ hk => hk.2.2)))) _).trans (hHeld.2.2.1)))), ((cell_far (p := ⟨gb597, _, none⟩) (by first | exact Kd.own_blk (Kd.R_away HO593.out (fun _ hk => hk.2.2)) | (rw [add_block]; exact Kd.own_blk (Kd.R_away HO593.out (fun _ hk => hk.2.2))) | (show (Addr.add _ _).block ≠ _; rw [add_block]; exact Kd.own_blk (Kd.R_away HO593.out (fun _ hk => hk.2.2))) | (dsimp only; exact Kd.own_blk (Kd.R_away HO593.out (fun _ hk => hk.2.2)))) _).trans (((cell_far (p := ⟨gb597, _, none⟩) (by first | exact Kd.own_blk (Kd.R_away HO593.out (fun _ hk => hk.2.2)) | (rw [add_block]; exact Kd.own_blk (Kd.R_away HO593.out (fun _ hk => hk.2.2))) | (show (Addr.add _ _).block ≠ _; rw [add_block]; exact Kd.own_blk (Kd.R_away HO593.out (fun _ hk => hk.2.2))) | (dsimp only; exact Kd.own_blk (Kd.R_away HO593.out (fun _ hk => hk.2.2)))) _).trans (hHeld.2.2.2))))⟩ (fun hHeld => ?_)
        clear hK K
        refine done_ (done_of HT_.out (by kernel_rfl)) ?_
        have hnb38 := NB596_586.out
        have hnc38 := NB586_596.out
        have hnb39 := NB596_597.out
        have hnc39 := NB597_596.out
        have hcz40_0 : w33.cell? ⟨gb596, 0, none⟩ = some (.int .u64 0) := (blk_cell BK596.out 0).trans rfl
        have hcz40_1 : w33.cell? ⟨gb596, 1, none⟩ = some (.int .u64 0) := (blk_cell BK596.out 1).trans rfl
        have hfz40_0 := blk_frozen BK596.out 0
        have hfz40_1 := blk_frozen BK596.out 1
        have hnb41 := NB597_586.out
        have hnc41 := NB586_597.out
        have hcz42_0 : w33.cell? ⟨gb597, 0, none⟩ = some (.int .u64 0) := (blk_cell BK597.out 0).trans rfl
        have hcz42_1 : w33.cell? ⟨gb597, 1, none⟩ = some (.int .u64 0) := (blk_cell BK597.out 1).trans rfl
        have hfz42_0 := blk_frozen BK597.out 0
        have hfz42_1 := blk_frozen BK597.out 1
        try go_wp2_with (first | ((with_reducible refine gate_callee (f := 13) rfl ?_); refine goesL_ (some 39) rfl rfl Try.func13 (by kernel_rfl) rfl #[.int .i64 t590, .agg #[.int .u64 ((rd_T24 t591 0).f0), .int .u64 ((rd_T24 t591 0).f1)], .agg #[.int .u64 ((rd_T24 t591 1).f0), .int .u64 ((rd_T24 t591 1).f1)]] rfl (by (try simp only [List.map_toArray, List.map_cons, List.map_nil]); first | done | rfl | (simp only [List.length_drop, List.length_take]; rfl)) ?_; (with_reducible refine (tower_Mul.calls k t590 ((rd_T24 t591 0).f0) ((rd_T24 t591 0).f1) ((rd_T24 t591 1).f0) ((rd_T24 t591 1).f1) t598 t599 _ A8.out).mono ?_); rintro e w43 ⟨rfl, hb⟩; refine ⟨_, rfl, ?_⟩; have n0_ := Aside0.mk (Kd.R_below (by (with_reducible repeat (first | apply Kd.R_alloc | apply Kd.R_drewN | apply Kd.R_drew)); exact (Kd.R_mono (Kd.R_mono (Kd.R_far (p := ⟨gb597, 1, none⟩) (Kd.R_far (p := ⟨gb597, 0, none⟩) (Kd.R_far (p := ⟨gb596, 1, none⟩) (Kd.R_far (p := ⟨gb596, 0, none⟩) (Kd.R_mono (Kd.R_mono HO589.out (fun k_ hk => (⟨hk, hk.2.1⟩ : _ ∧ k_ ≠ gb596))) (fun k_ hk => (⟨hk, hk.1.2.2⟩ : _ ∧ k_ ≠ gb597))) (fun _ hk => hk.1.2) (.int .u64 ((rd_T24 t591 0).f0))) (fun _ hk => hk.1.2) (.int .u64 ((rd_T24 t591 0).f1))) (fun _ hk => hk.2) (.int .u64 ((rd_T24 t591 1).f0))) (fun _ hk => hk.2) (.int .u64 ((rd_T24 t591 1).f1))) (fun _ h_ => h_.1)) (fun _ h_ => h_.1))) hb); have n1_ := Aside0.mk (Kd.R_below (by (with_reducible repeat (first | apply Kd.R_alloc | apply Kd.R_drewN | apply Kd.R_drew)); exact (Kd.R_mono (Kd.R_mono (Kd.R_far (p := ⟨gb597, 1, none⟩) (Kd.R_far (p := ⟨gb597, 0, none⟩) (Kd.R_far (p := ⟨gb596, 1, none⟩) (Kd.R_far (p := ⟨gb596, 0, none⟩) (Kd.R_mono (Kd.R_mono HO593.out (fun k_ hk => (⟨hk, hk.2.1⟩ : _ ∧ k_ ≠ gb596))) (fun k_ hk => (⟨hk, hk.1.2.2⟩ : _ ∧ k_ ≠ gb597))) (fun _ hk => hk.1.2) (.int .u64 ((rd_T24 t591 0).f0))) (fun _ hk => hk.1.2) (.int .u64 ((rd_T24 t591 0).f1))) (fun _ hk => hk.2) (.int .u64 ((rd_T24 t591 1).f0))) (fun _ hk => hk.2) (.int .u64 ((rd_T24 t591 1).f1))) (fun _ h_ => h_.1)) (fun _ h_ => h_.1))) hb); have n2_ := Aside0.mk (blk_below (g := gb586) (o := .cells #[.int .u64 a2_0, .int .u64 a2_1, .int .u64 a2_2, .int .u64 a2_3, .int .u64 a2_4, .int .u64 a2_5] 26 (0, 0)) (by (with_reducible repeat (first | refine blk_drewN ?_ _ | refine blk_drew ?_ | refine blk_alloc ?_ _)); refine blk_far ?_ NB586_597.out _; (with_reducible repeat (first | refine blk_drewN ?_ _ | refine blk_drew ?_ | refine blk_alloc ?_ _)); refine blk_far ?_ NB586_597.out _; (with_reducible repeat (first | refine blk_drewN ?_ _ | refine blk_drew ?_ | refine blk_alloc ?_ _)); refine blk_far ?_ NB586_596.out _; (with_reducible repeat (first | refine blk_drewN ?_ _ | refine blk_drew ?_ | refine blk_alloc ?_ _)); refine blk_far ?_ NB586_596.out _; (with_reducible repeat (first | refine blk_drewN ?_ _ | refine blk_drew ?_ | refine blk_alloc ?_ _)); exact BK586.out) hb); have n3_ := Aside0.mk (blk_below (g := gb596) (o := .cells #[.int .u64 ((rd_T24 t591 0).f0), .int .u64 ((rd_T24 t591 0).f1)] 24 (0, 0)) (by (with_reducible repeat (first | refine blk_drewN ?_ _ | refine blk_drew ?_ | refine blk_alloc ?_ _)); refine blk_far ?_ NB596_597.out _; (with_reducible repeat (first | refine blk_drewN ?_ _ | refine blk_drew ?_ | refine blk_alloc ?_ _)); refine blk_far ?_ NB596_597.out _; (with_reducible repeat (first | refine blk_drewN ?_ _ | refine blk_drew ?_ | refine blk_alloc ?_ _)); refine blk_put (cs := #[.int .u64 ((rd_T24 t591 0).f0), .int .u64 0]) ?_ 1 _ rfl; (with_reducible repeat (first | refine blk_drewN ?_ _ | refine blk_drew ?_ | refine blk_alloc ?_ _)); refine blk_put (cs := #[.int .u64 0, .int .u64 0]) ?_ 0 _ rfl; (with_reducible repeat (first | refine blk_drewN ?_ _ | refine blk_drew ?_ | refine blk_alloc ?_ _)); exact BK596.out) hb); have n4_ := Aside0.mk (blk_below (g := gb597) (o := .cells #[.int .u64 ((rd_T24 t591 1).f0), .int .u64 ((rd_T24 t591 1).f1)] 24 (0, 0)) (by (with_reducible repeat (first | refine blk_drewN ?_ _ | refine blk_drew ?_ | refine blk_alloc ?_ _)); refine blk_put (cs := #[.int .u64 ((rd_T24 t591 1).f0), .int .u64 0]) ?_ 1 _ rfl; (with_reducible repeat (first | refine blk_drewN ?_ _ | refine blk_drew ?_ | refine blk_alloc ?_ _)); refine blk_put (cs := #[.int .u64 0, .int .u64 0]) ?_ 0 _ rfl; (with_reducible repeat (first | refine blk_drewN ?_ _ | refine blk_drew ?_ | refine blk_alloc ?_ _)); refine blk_far ?_ NB597_596.out _; (with_reducible repeat (first | refine blk_drewN ?_ _ | refine blk_drew ?_ | refine blk_alloc ?_ _)); refine blk_far ?_ NB597_596.out _; (with_reducible repeat (first | refine blk_drewN ?_ _ | refine blk_drew ?_ | refine blk_alloc ?_ _)); exact BK597.out) hb); have n5_ := Aside0.mk (below_step (by repeat (first | (with_reducible first | exact HB.out | apply below_alloc | apply pw_below_drewN | apply below_drew1 | refine below_set ?_ GE586.out | refine below_set ?_ GE596.out | refine below_set ?_ GE597.out) | exact HB.out)) hb); clear HO589; clear HO593; clear BK586; clear BK596; clear BK597; clear HB; have HO589 := n0_; have HO593 := n1_; have BK586 := n2_; have BK596 := n3_; have BK597 := n4_; have HB := n5_; clear n0_ n1_ n2_ n3_ n4_ n5_; (try clear hb); (try clear hb2); (try clear hk); (try clear hi)) | ((with_reducible refine gate_dst (N := 12) rfl ?_); refine box_event ?hg (N := 12) ?hd (cs := #[.int .u64 0, .int .u64 0]) (t := 24) ?hr ?_; (case hd => rfl); (case hg => rfl); (case hr => first | (go_simp; done) | (go_simp; rfl)); intro gb600 hg w44 hbox hb; have n0_ := Aside0.mk (Kd.R_below (Kd.R_elderB (by (with_reducible repeat (first | apply Kd.R_alloc | apply Kd.R_drewN | apply Kd.R_drew)); exact HO589.out) gb600 (Nat.le_of_eq hg.symm)) hb); have n1_ := Aside0.mk (Kd.R_below (Kd.R_elderB (by (with_reducible repeat (first | apply Kd.R_alloc | apply Kd.R_drewN | apply Kd.R_drew)); exact HO593.out) gb600 (Nat.le_of_eq hg.symm)) hb); have n2_ := Aside0.mk (blk_below (g := gb586) (o := .cells #[.int .u64 a2_0, .int .u64 a2_1, .int .u64 a2_2, .int .u64 a2_3, .int .u64 a2_4, .int .u64 a2_5] 26 (0, 0)) (by (with_reducible repeat (first | refine blk_drewN ?_ _ | refine blk_drew ?_ | refine blk_alloc ?_ _)); exact BK586.out) hb); have n3_ := Aside0.mk (blk_below (g := gb596) (o := .cells #[.int .u64 ((rd_T24 t591 0).f0), .int .u64 ((rd_T24 t591 0).f1)] 24 (0, 0)) (by (with_reducible repeat (first | refine blk_drewN ?_ _ | refine blk_drew ?_ | refine blk_alloc ?_ _)); exact BK596.out) hb); have n4_ := Aside0.mk (blk_below (g := gb597) (o := .cells #[.int .u64 ((rd_T24 t591 1).f0), .int .u64 ((rd_T24 t591 1).f1)] 24 (0, 0)) (by (with_reducible repeat (first | refine blk_drewN ?_ _ | refine blk_drew ?_ | refine blk_alloc ?_ _)); exact BK597.out) hb); have n5_ := Aside0.mk (below_step (by repeat (first | (with_reducible first | exact HB.out | apply below_alloc | apply pw_below_drewN | apply below_drew1 | refine below_set ?_ GE586.out | refine below_set ?_ GE596.out | refine below_set ?_ GE597.out) | exact HB.out)) hb); have n6_ := Aside0.mk (hbox); have n7_ := Aside0.mk ((by rw [hg]; exact (below_size (by repeat (first | (with_reducible first | exact HB.out | apply below_alloc | apply pw_below_drewN | apply below_drew1 | refine below_set ?_ GE586.out | refine below_set ?_ GE596.out | refine below_set ?_ GE597.out) | exact HB.out))) : w.heap.size ≤ gb600)); have n8_ := Aside0.mk ((by rw [hg]; exact (below_size (by repeat (first | (with_reducible first | exact HB.out | apply below_alloc | apply pw_below_drewN | apply below_drew1 | refine below_set ?_ GE586.out | refine below_set ?_ GE596.out | refine below_set ?_ GE597.out) | exact HB.out))) : w.heap.size ≤ gb600)); have n9_ := Aside0.mk ((by rw [hg]; exact Nat.ne_of_lt (blk_lt (g := gb586) (o := .cells #[.int .u64 a2_0, .int .u64 a2_1, .int .u64 a2_2, .int .u64 a2_3, .int .u64 a2_4, .int .u64 a2_5] 26 (0, 0)) (by (with_reducible repeat (first | refine blk_drewN ?_ _ | refine blk_drew ?_ | refine blk_alloc ?_ _)); exact BK586.out)) : gb586 ≠ gb600)); have n10_ := Aside0.mk ((by rw [hg]; exact Nat.ne_of_gt (blk_lt (g := gb586) (o := .cells #[.int .u64 a2_0, .int .u64 a2_1, .int .u64 a2_2, .int .u64 a2_3, .int .u64 a2_4, .int .u64 a2_5] 26 (0, 0)) (by (with_reducible repeat (first | refine blk_drewN ?_ _ | refine blk_drew ?_ | refine blk_alloc ?_ _)); exact BK586.out)) : gb600 ≠ gb586)); have n11_ := Aside0.mk ((by rw [hg]; exact Nat.ne_of_lt (blk_lt (g := gb596) (o := .cells #[.int .u64 ((rd_T24 t591 0).f0), .int .u64 ((rd_T24 t591 0).f1)] 24 (0, 0)) (by (with_reducible repeat (first | refine blk_drewN ?_ _ | refine blk_drew ?_ | refine blk_alloc ?_ _)); exact BK596.out)) : gb596 ≠ gb600)); have n12_ := Aside0.mk ((by rw [hg]; exact Nat.ne_of_gt (blk_lt (g := gb596) (o := .cells #[.int .u64 ((rd_T24 t591 0).f0), .int .u64 ((rd_T24 t591 0).f1)] 24 (0, 0)) (by (with_reducible repeat (first | refine blk_drewN ?_ _ | refine blk_drew ?_ | refine blk_alloc ?_ _)); exact BK596.out)) : gb600 ≠ gb596)); have n13_ := Aside0.mk ((by rw [hg]; exact Nat.ne_of_lt (blk_lt (g := gb597) (o := .cells #[.int .u64 ((rd_T24 t591 1).f0), .int .u64 ((rd_T24 t591 1).f1)] 24 (0, 0)) (by (with_reducible repeat (first | refine blk_drewN ?_ _ | refine blk_drew ?_ | refine blk_alloc ?_ _)); exact BK597.out)) : gb597 ≠ gb600)); have n14_ := Aside0.mk ((by rw [hg]; exact Nat.ne_of_gt (blk_lt (g := gb597) (o := .cells #[.int .u64 ((rd_T24 t591 1).f0), .int .u64 ((rd_T24 t591 1).f1)] 24 (0, 0)) (by (with_reducible repeat (first | refine blk_drewN ?_ _ | refine blk_drew ?_ | refine blk_alloc ?_ _)); exact BK597.out)) : gb600 ≠ gb597)); clear HO589; clear HO593; clear BK586; clear BK596; clear BK597; clear HB; have HO589 := n0_; have HO593 := n1_; have BK586 := n2_; have BK596 := n3_; have BK597 := n4_; have HB := n5_; have BK600 := n6_; have GW600 := n7_; have GE600 := n8_; have NB586_600 := n9_; have NB600_586 := n10_; have NB596_600 := n11_; have NB600_596 := n12_; have NB597_600 := n13_; have NB600_597 := n14_; clear n0_ n1_ n2_ n3_ n4_ n5_ n6_ n7_ n8_ n9_ n10_ n11_ n12_ n13_ n14_; clear hb hbox hg; have hnb45 := NB600_586.out; have hnc45 := NB586_600.out; have hnb46 := NB600_596.out; have hnc46 := NB596_600.out; have hnb47 := NB600_597.out; have hnc47 := NB597_600.out; have hcz48_0 : w44.cell? ⟨gb600, 0, none⟩ = some (.int .u64 0) := (blk_cell BK600.out 0).trans rfl; have hcz48_1 : w44.cell? ⟨gb600, 1, none⟩ = some (.int .u64 0) := (blk_cell BK600.out 1).trans rfl; have hfz48_0 := blk_frozen BK600.out 0; have hfz48_1 := blk_frozen BK600.out 1))
        have n0_ : Aside0 (Kd.R k24 24 ((w44.setCell ⟨gb600, 0, none⟩ (.int .u64 t598)).setCell ⟨gb600, 1, none⟩ (.int .u64 t599)) w.heap.size (fun k_ => some k_ ≠ (.slice (some ad594) t591.length co30 : Value).ownBlock ∧ k_ ≠ gb596 ∧ k_ ≠ gb597 ∧ k_ ≠ gb600) (.slice Ao27 y587.length co27) y587) := ⟨by (with_reducible repeat (first | apply Kd.R_alloc | apply Kd.R_drewN | apply Kd.R_drew)); exact Kd.R_mono (Kd.R_far (p := ⟨gb600, 1, none⟩) (Kd.R_far (p := ⟨gb600, 0, none⟩) (Kd.R_mono HO589.out (fun k_ hk => (⟨hk, hk.2⟩ : _ ∧ k_ ≠ gb600))) (fun _ hk => hk.2) (.int .u64 t598)) (fun _ hk => hk.2) (.int .u64 t599)) (fun _ hk => ⟨hk.1.1.1, ⟨hk.1.1.2.1, ⟨hk.1.1.2.2, hk.1.2⟩⟩⟩)⟩
        have n1_ : Aside0 (Kd.R k24 24 ((w44.setCell ⟨gb600, 0, none⟩ (.int .u64 t598)).setCell ⟨gb600, 1, none⟩ (.int .u64 t599)) w.heap.size (fun k_ => some k_ ≠ (.slice Ao27 y587.length co27 : Value).ownBlock ∧ k_ ≠ gb596 ∧ k_ ≠ gb597 ∧ k_ ≠ gb600) (.slice (some ad594) t591.length co30) t591) := ⟨by (with_reducible repeat (first | apply Kd.R_alloc | apply Kd.R_drewN | apply Kd.R_drew)); exact Kd.R_mono (Kd.R_far (p := ⟨gb600, 1, none⟩) (Kd.R_far (p := ⟨gb600, 0, none⟩) (Kd.R_mono HO593.out (fun k_ hk => (⟨hk, hk.2⟩ : _ ∧ k_ ≠ gb600))) (fun _ hk => hk.2) (.int .u64 t598)) (fun _ hk => hk.2) (.int .u64 t599)) (fun _ hk => ⟨hk.1.1.1, ⟨hk.1.1.2.1, ⟨hk.1.1.2.2, hk.1.2⟩⟩⟩)⟩
        have n2_ : Aside0 (((w44.setCell ⟨gb600, 0, none⟩ (.int .u64 t598)).setCell ⟨gb600, 1, none⟩ (.int .u64 t599)).heap[gb586]? = some (.cells #[.int .u64 a2_0, .int .u64 a2_1, .int .u64 a2_2, .int .u64 a2_3, .int .u64 a2_4, .int .u64 a2_5] 26 (0, 0))) := ⟨by (with_reducible repeat (first | refine blk_drewN ?_ _ | refine blk_drew ?_ | refine blk_alloc ?_ _)); refine blk_far ?_ NB586_600.out _; (with_reducible repeat (first | refine blk_drewN ?_ _ | refine blk_drew ?_ | refine blk_alloc ?_ _)); refine blk_far ?_ NB586_600.out _; (with_reducible repeat (first | refine blk_drewN ?_ _ | refine blk_drew ?_ | refine blk_alloc ?_ _)); exact BK586.out⟩
        have n3_ : Aside0 (((w44.setCell ⟨gb600, 0, none⟩ (.int .u64 t598)).setCell ⟨gb600, 1, none⟩ (.int .u64 t599)).heap[gb596]? = some (.cells #[.int .u64 ((rd_T24 t591 0).f0), .int .u64 ((rd_T24 t591 0).f1)] 24 (0, 0))) := ⟨by (with_reducible repeat (first | refine blk_drewN ?_ _ | refine blk_drew ?_ | refine blk_alloc ?_ _)); refine blk_far ?_ NB596_600.out _; (with_reducible repeat (first | refine blk_drewN ?_ _ | refine blk_drew ?_ | refine blk_alloc ?_ _)); refine blk_far ?_ NB596_600.out _; (with_reducible repeat (first | refine blk_drewN ?_ _ | refine blk_drew ?_ | refine blk_alloc ?_ _)); exact BK596.out⟩
        have n4_ : Aside0 (((w44.setCell ⟨gb600, 0, none⟩ (.int .u64 t598)).setCell ⟨gb600, 1, none⟩ (.int .u64 t599)).heap[gb597]? = some (.cells #[.int .u64 ((rd_T24 t591 1).f0), .int .u64 ((rd_T24 t591 1).f1)] 24 (0, 0))) := ⟨by (with_reducible repeat (first | refine blk_drewN ?_ _ | refine blk_drew ?_ | refine blk_alloc ?_ _)); refine blk_far ?_ NB597_600.out _; (with_reducible repeat (first | refine blk_drewN ?_ _ | refine blk_drew ?_ | refine blk_alloc ?_ _)); refine blk_far ?_ NB597_600.out _; (with_reducible repeat (first | refine blk_drewN ?_ _ | refine blk_drew ?_ | refine blk_alloc ?_ _)); exact BK597.out⟩
        have n5_ : Aside0 (((w44.setCell ⟨gb600, 0, none⟩ (.int .u64 t598)).setCell ⟨gb600, 1, none⟩ (.int .u64 t599)).heap[gb600]? = some (.cells #[.int .u64 t598, .int .u64 t599] 24 (0, 0))) := ⟨by (with_reducible repeat (first | refine blk_drewN ?_ _ | refine blk_drew ?_ | refine blk_alloc ?_ _)); refine blk_put (cs := #[.int .u64 t598, .int .u64 0]) ?_ 1 _ rfl; (with_reducible repeat (first | refine blk_drewN ?_ _ | refine blk_drew ?_ | refine blk_alloc ?_ _)); refine blk_put (cs := #[.int .u64 0, .int .u64 0]) ?_ 0 _ rfl; (with_reducible repeat (first | refine blk_drewN ?_ _ | refine blk_drew ?_ | refine blk_alloc ?_ _)); exact BK600.out⟩
        have n6_ : Aside0 (Below w.heap.size w ((w44.setCell ⟨gb600, 0, none⟩ (.int .u64 t598)).setCell ⟨gb600, 1, none⟩ (.int .u64 t599))) := ⟨by repeat (first | (with_reducible first | exact HB.out | apply below_alloc | apply pw_below_drewN | apply below_drew1 | refine below_set ?_ GE586.out | refine below_set ?_ GE596.out | refine below_set ?_ GE597.out | refine below_set ?_ GE600.out) | exact HB.out)⟩
        (try clear HO589)
        (try clear HO593)
        (try clear BK586)
        (try clear BK596)
        (try clear BK597)
        (try clear BK600)
        (try clear HB)
        generalize ((w44.setCell ⟨gb600, 0, none⟩ (.int .u64 t598)).setCell ⟨gb600, 1, none⟩ (.int .u64 t599)) = w49 at n0_ n1_ n2_ n3_ n4_ n5_ n6_ ⊢
        have HO589 := n0_
        have HO593 := n1_
        have BK586 := n2_
        have BK596 := n3_
        have BK597 := n4_
        have BK600 := n5_
        have HB := n6_
        clear n0_ n1_ n2_ n3_ n4_ n5_ n6_
        have n0_ := Aside0.mk (Kd.R_drew HO589.out)
        have n1_ := Aside0.mk (Kd.R_drew HO593.out)
        have n2_ := Aside0.mk (blk_drew BK586.out)
        have n3_ := Aside0.mk (blk_drew BK596.out)
        have n4_ := Aside0.mk (blk_drew BK597.out)
        have n5_ := Aside0.mk (blk_drew BK600.out)
        have n6_ := Aside0.mk (below_drew1 HB.out)
        clear HO589
        clear HO593
        clear BK586
        clear BK596
        clear BK597
        clear BK600
        clear HB
        have HO589 := n0_
        have HO593 := n1_
        have BK586 := n2_
        have BK596 := n3_
        have BK597 := n4_
        have BK600 := n5_
        have HB := n6_
        clear n0_ n1_ n2_ n3_ n4_ n5_ n6_
        refine start_ (n := 40) (S := fun w' => w'.cell? ⟨gb600, 0, none⟩ = some (.int .u64 t598) ∧ w'.cell? ⟨gb600, 1, none⟩ = some (.int .u64 t599) ∧ w'.cell? ⟨gb596, 0, none⟩ = some (.int .u64 ((rd_T24 t591 0).f0)) ∧ w'.cell? ⟨gb596, 1, none⟩ = some (.int .u64 ((rd_T24 t591 0).f1)) ∧ w'.cell? ⟨gb597, 0, none⟩ = some (.int .u64 ((rd_T24 t591 1).f0)) ∧ w'.cell? ⟨gb597, 1, none⟩ = some (.int .u64 ((rd_T24 t591 1).f1))) (ds := []) #[false, false, false, false, false, false, false, false, false, false, false, false, false, false, false, false, false, false, false, false, false, false, false, false, false, false, false, false, false, false, false, false, false, false, false, false, false, false, false, false] (by kernel_rfl) rfl rfl ⟨(blk_cell BK600.out 0).trans rfl, (blk_cell BK600.out 1).trans rfl, (blk_cell BK596.out 0).trans rfl, (blk_cell BK596.out 1).trans rfl, (blk_cell BK597.out 0).trans rfl, (blk_cell BK597.out 1).trans rfl⟩ (fun hHeld => ?_); refine with_tabW steeplelaw02_TowerLevels.tab5 steeplelaw02_TowerLevels.bits5 (fun HT_ HW_ => ?_)
        generalize w49.drew = w50 at HO589 HO593 BK586 BK596 BK597 BK600 HB hHeld ⊢
        refine one_ (i := 0) (N := some 40) #[true, false, false, false, false, false, false, false, false, false, false, false, false, false, false, false, false, false, false, false, false, false, false, false, false, false, false, false, false, false, false, false, false, false, false, false, false, false, false, false] rfl rfl (one_of HT_.out (by kernel_rfl)) (by decide) (fun K hK => ?_)
        refine goes_ Try.func15 (by kernel_rfl) rfl #[] (by rfl) rfl rfl (by (try simp only [List.map_toArray, List.map_cons, List.map_nil]); first | done | rfl | (simp only [List.length_drop, List.length_take]; rfl)) ?_
        with_reducible refine (steeplelaw02_awake.calls k  true _ A9.out).mono ?_
        rintro e w51 ⟨rfl, hb⟩
        refine ⟨_, rfl, ?_⟩
        have n0_ := Aside0.mk (Kd.R_below (by (with_reducible repeat (first | apply Kd.R_alloc | apply Kd.R_drewN | apply Kd.R_drew)); exact HO589.out) hb)
        have n1_ := Aside0.mk (Kd.R_below (by (with_reducible repeat (first | apply Kd.R_alloc | apply Kd.R_drewN | apply Kd.R_drew)); exact HO593.out) hb)
        have n2_ := Aside0.mk (blk_below (g := gb586) (o := .cells #[.int .u64 a2_0, .int .u64 a2_1, .int .u64 a2_2, .int .u64 a2_3, .int .u64 a2_4, .int .u64 a2_5] 26 (0, 0)) (by (with_reducible repeat (first | refine blk_drewN ?_ _ | refine blk_drew ?_ | refine blk_alloc ?_ _)); exact BK586.out) hb)
        have n3_ := Aside0.mk (blk_below (g := gb596) (o := .cells #[.int .u64 ((rd_T24 t591 0).f0), .int .u64 ((rd_T24 t591 0).f1)] 24 (0, 0)) (by (with_reducible repeat (first | refine blk_drewN ?_ _ | refine blk_drew ?_ | refine blk_alloc ?_ _)); exact BK596.out) hb)
        have n4_ := Aside0.mk (blk_below (g := gb597) (o := .cells #[.int .u64 ((rd_T24 t591 1).f0), .int .u64 ((rd_T24 t591 1).f1)] 24 (0, 0)) (by (with_reducible repeat (first | refine blk_drewN ?_ _ | refine blk_drew ?_ | refine blk_alloc ?_ _)); exact BK597.out) hb)
        have n5_ := Aside0.mk (blk_below (g := gb600) (o := .cells #[.int .u64 t598, .int .u64 t599] 24 (0, 0)) (by (with_reducible repeat (first | refine blk_drewN ?_ _ | refine blk_drew ?_ | refine blk_alloc ?_ _)); exact BK600.out) hb)
        have n6_ := Aside0.mk (below_step (by repeat (first | (with_reducible first | exact HB.out | apply below_alloc | apply pw_below_drewN | apply below_drew1 | refine below_set ?_ GE586.out | refine below_set ?_ GE596.out | refine below_set ?_ GE597.out | refine below_set ?_ GE600.out) | exact HB.out)) hb)
        clear HO589
        clear HO593
        clear BK586
        clear BK596
        clear BK597
        clear BK600
        clear HB
        have HO589 := n0_
        have HO593 := n1_
        have BK586 := n2_
        have BK596 := n3_
        have BK597 := n4_
        have BK600 := n5_
        have HB := n6_
        clear n0_ n1_ n2_ n3_ n4_ n5_ n6_
        (try clear hb)
        (try clear hb2)
        (try clear hk)
        (try clear hi)
        refine hK.out _ _ ⟨(blk_cell BK600.out 0).trans rfl, (blk_cell BK600.out 1).trans rfl, (blk_cell BK596.out 0).trans rfl, (blk_cell BK596.out 1).trans rfl, (blk_cell BK597.out 0).trans rfl, (blk_cell BK597.out 1).trans rfl⟩ (fun hHeld => ?_)
        clear hK K
        refine norm_ (a' := ?_) ?_ ?_
        rotate_left
        ·show Act.put _ (some 40) _ = _
         simp only [Act.put, List.setIfInBounds_toArray, List.set_cons_zero, List.set_cons_succ, i64_w, i32_w]
         rfl
        refine pure_ (i := 1) (N := some 41) (v := ?_) (a' := ?_) #[true, true, false, false, false, false, false, false, false, false, false, false, false, false, false, false, false, false, false, false, false, false, false, false, false, false, false, false, false, false, false, false, false, false, false, false, false, false, false, false] rfl rfl (any_of HT_.out (by kernel_rfl)) (fun _ _ _ h => h) (Or.inl ⟨by rfl, ?_⟩) ?_ ?_
        rotate_left
        ·intro w'
         go_simp
         with_reducible rfl
        rotate_left
        ·simp only [Act.put, List.setIfInBounds_toArray, List.set_cons_zero, List.set_cons_succ, i64_w, i32_w]
         rfl
        refine pure_ (i := 2) (N := some 42) (v := ?_) (a' := ?_) #[true, true, true, false, false, false, false, false, false, false, false, false, false, false, false, false, false, false, false, false, false, false, false, false, false, false, false, false, false, false, false, false, false, false, false, false, false, false, false, false] rfl rfl (any_of HT_.out (by kernel_rfl)) (fun _ _ _ h => h) (Or.inl ⟨by rfl, ?_⟩) ?_ ?_
        rotate_left
        ·intro w'
         go_simp
         with_reducible rfl
        rotate_left
        ·simp only [Act.put, List.setIfInBounds_toArray, List.set_cons_zero, List.set_cons_succ, i64_w, i32_w]
         rfl
        refine take_ (i := 3) (N := some 43) (v := ?_) (a' := ?_) #[true, true, true, true, false, false, false, false, false, false, false, false, false, false, false, false, false, false, false, false, false, false, false, false, false, false, false, false, false, false, false, false, false, false, false, false, false, false, false, false] rfl rfl (take_ofW HT_.out HW_.out (by kernel_rfl)) (fun _ _ _ h => h) (Or.inl ⟨by rfl, ?_⟩) hHeld ?_ ?_
        rotate_left
        ·rintro w' ⟨s0, s1, s2, s3, s4, s5⟩
         go_simp
         with_reducible rfl
        rotate_left
        ·simp only [Act.put, List.setIfInBounds_toArray, List.set_cons_zero, List.set_cons_succ, i64_w, i32_w]
         rfl
        refine one_ (i := 4) (N := some 44) #[true, true, true, true, true, false, false, false, false, false, false, false, false, false, false, false, false, false, false, false, false, false, false, false, false, false, false, false, false, false, false, false, false, false, false, false, false, false, false, false] rfl rfl (one_of HT_.out (by kernel_rfl)) (by decide) (fun K hK => ?_)
        refine goes_ Try.func41 (by kernel_rfl) rfl #[.int .i64 t590, .agg #[.int .u64 t598, .int .u64 t599]] (by rfl) rfl rfl (by (try simp only [List.map_toArray, List.map_cons, List.map_nil]); first | done | rfl | (simp only [List.length_drop, List.length_take]; rfl)) ?_
        with_reducible refine (octet_Of.calls k t590 t598 t599 true _ A11.out).mono ?_
        rintro e w52 ⟨rfl, hb⟩
        refine ⟨_, rfl, ?_⟩
        have n0_ := Aside0.mk (Kd.R_below (by (with_reducible repeat (first | apply Kd.R_alloc | apply Kd.R_drewN | apply Kd.R_drew)); exact HO589.out) hb)
        have n1_ := Aside0.mk (Kd.R_below (by (with_reducible repeat (first | apply Kd.R_alloc | apply Kd.R_drewN | apply Kd.R_drew)); exact HO593.out) hb)
        have n2_ := Aside0.mk (blk_below (g := gb586) (o := .cells #[.int .u64 a2_0, .int .u64 a2_1, .int .u64 a2_2, .int .u64 a2_3, .int .u64 a2_4, .int .u64 a2_5] 26 (0, 0)) (by (with_reducible repeat (first | refine blk_drewN ?_ _ | refine blk_drew ?_ | refine blk_alloc ?_ _)); exact BK586.out) hb)
        have n3_ := Aside0.mk (blk_below (g := gb596) (o := .cells #[.int .u64 ((rd_T24 t591 0).f0), .int .u64 ((rd_T24 t591 0).f1)] 24 (0, 0)) (by (with_reducible repeat (first | refine blk_drewN ?_ _ | refine blk_drew ?_ | refine blk_alloc ?_ _)); exact BK596.out) hb)
        have n4_ := Aside0.mk (blk_below (g := gb597) (o := .cells #[.int .u64 ((rd_T24 t591 1).f0), .int .u64 ((rd_T24 t591 1).f1)] 24 (0, 0)) (by (with_reducible repeat (first | refine blk_drewN ?_ _ | refine blk_drew ?_ | refine blk_alloc ?_ _)); exact BK597.out) hb)
        have n5_ := Aside0.mk (blk_below (g := gb600) (o := .cells #[.int .u64 t598, .int .u64 t599] 24 (0, 0)) (by (with_reducible repeat (first | refine blk_drewN ?_ _ | refine blk_drew ?_ | refine blk_alloc ?_ _)); exact BK600.out) hb)
        have n6_ := Aside0.mk (below_step (by repeat (first | (with_reducible first | exact HB.out | apply below_alloc | apply pw_below_drewN | apply below_drew1 | refine below_set ?_ GE586.out | refine below_set ?_ GE596.out | refine below_set ?_ GE597.out | refine below_set ?_ GE600.out) | exact HB.out)) hb)
        clear HO589
        clear HO593
        clear BK586
        clear BK596
        clear BK597
        clear BK600
        clear HB
        have HO589 := n0_
        have HO593 := n1_
        have BK586 := n2_
        have BK596 := n3_
        have BK597 := n4_
        have BK600 := n5_
        have HB := n6_
        clear n0_ n1_ n2_ n3_ n4_ n5_ n6_
        (try clear hb)
        (try clear hb2)
        (try clear hk)
        (try clear hi)
        refine hK.out _ _ ⟨(blk_cell BK600.out 0).trans rfl, (blk_cell BK600.out 1).trans rfl, (blk_cell BK596.out 0).trans rfl, (blk_cell BK596.out 1).trans rfl, (blk_cell BK597.out 0).trans rfl, (blk_cell BK597.out 1).trans rfl⟩ (fun hHeld => ?_)
        clear hK K
        refine norm_ (a' := ?_) ?_ ?_
        rotate_left
        ·show Act.put _ (some 44) _ = _
         simp only [Act.put, List.setIfInBounds_toArray, List.set_cons_zero, List.set_cons_succ, i64_w, i32_w]
         rfl
        refine pure_ (i := 5) (N := some 45) (v := ?_) (a' := ?_) #[true, true, true, true, true, true, false, false, false, false, false, false, false, false, false, false, false, false, false, false, false, false, false, false, false, false, false, false, false, false, false, false, false, false, false, false, false, false, false, false] rfl rfl (any_of HT_.out (by kernel_rfl)) (fun _ _ _ h => h) (Or.inl ⟨by rfl, ?_⟩) ?_ ?_
        rotate_left
        ·intro w'
         go_simp
         with_reducible rfl
        rotate_left
        ·simp only [Act.put, List.setIfInBounds_toArray, List.set_cons_zero, List.set_cons_succ, i64_w, i32_w]
         rfl
        refine pure_ (i := 6) (N := some 46) (v := ?_) (a' := ?_) #[true, true, true, true, true, true, true, false, false, false, false, false, false, false, false, false, false, false, false, false, false, false, false, false, false, false, false, false, false, false, false, false, false, false, false, false, false, false, false, false] rfl rfl (any_of HT_.out (by kernel_rfl)) (fun _ _ _ h => h) (Or.inl ⟨by rfl, ?_⟩) ?_ ?_
        rotate_left
        ·intro w'
         go_simp
         with_reducible rfl
        rotate_left
        ·simp only [Act.put, List.setIfInBounds_toArray, List.set_cons_zero, List.set_cons_succ, i64_w, i32_w]
         rfl
        refine pure_ (i := 7) (N := some 47) (v := ?_) (a' := ?_) #[true, true, true, true, true, true, true, true, false, false, false, false, false, false, false, false, false, false, false, false, false, false, false, false, false, false, false, false, false, false, false, false, false, false, false, false, false, false, false, false] rfl rfl (any_of HT_.out (by kernel_rfl)) (fun _ _ _ h => h) (Or.inl ⟨by rfl, ?_⟩) ?_ ?_
        rotate_left
        ·intro w'
         go_simp
         with_reducible rfl
        rotate_left
        ·simp only [Act.put, List.setIfInBounds_toArray, List.set_cons_zero, List.set_cons_succ, i64_w, i32_w]
         rfl
        refine pure_ (i := 8) (N := some 48) (v := ?_) (a' := ?_) #[true, true, true, true, true, true, true, true, true, false, false, false, false, false, false, false, false, false, false, false, false, false, false, false, false, false, false, false, false, false, false, false, false, false, false, false, false, false, false, false] rfl rfl (any_of HT_.out (by kernel_rfl)) (fun _ _ _ h => h) (Or.inl ⟨by rfl, ?_⟩) ?_ ?_
        rotate_left
        ·intro w'
         go_simp
         with_reducible rfl
        rotate_left
        ·simp only [Act.put, List.setIfInBounds_toArray, List.set_cons_zero, List.set_cons_succ, i64_w, i32_w]
         rfl
        refine take_ (i := 9) (N := some 49) (v := ?_) (a' := ?_) #[true, true, true, true, true, true, true, true, true, true, false, false, false, false, false, false, false, false, false, false, false, false, false, false, false, false, false, false, false, false, false, false, false, false, false, false, false, false, false, false] rfl rfl (take_ofW HT_.out HW_.out (by kernel_rfl)) (fun _ _ _ h => h) (Or.inl ⟨by rfl, ?_⟩) hHeld ?_ ?_
        rotate_left
        ·rintro w' ⟨s0, s1, s2, s3, s4, s5⟩
         go_simp
         with_reducible rfl
        rotate_left
        ·simp only [Act.put, List.setIfInBounds_toArray, List.set_cons_zero, List.set_cons_succ, i64_w, i32_w]
         rfl
        refine one_ (i := 10) (N := some 50) #[true, true, true, true, true, true, true, true, true, true, true, false, false, false, false, false, false, false, false, false, false, false, false, false, false, false, false, false, false, false, false, false, false, false, false, false, false, false, false, false] rfl rfl (one_of HT_.out (by kernel_rfl)) (by decide) (fun K hK => ?_)
        refine goes_ Try.func29 (by kernel_rfl) rfl #[.int .i64 t590, .agg #[.int .u64 ((rd_T24 t591 0).f0), .int .u64 ((rd_T24 t591 0).f1)]] (by rfl) rfl rfl (by (try simp only [List.map_toArray, List.map_cons, List.map_nil]); first | done | rfl | (simp only [List.length_drop, List.length_take]; rfl)) ?_
        with_reducible refine (tower_Inv.calls k t590 ((rd_T24 t591 0).f0) ((rd_T24 t591 0).f1) t603 t604 _ A13.out).mono ?_
        rintro e w53 ⟨rfl, hb⟩
        refine ⟨_, rfl, ?_⟩
        have n0_ := Aside0.mk (Kd.R_below (by (with_reducible repeat (first | apply Kd.R_alloc | apply Kd.R_drewN | apply Kd.R_drew)); exact HO589.out) hb)
        have n1_ := Aside0.mk (Kd.R_below (by (with_reducible repeat (first | apply Kd.R_alloc | apply Kd.R_drewN | apply Kd.R_drew)); exact HO593.out) hb)
        have n2_ := Aside0.mk (blk_below (g := gb586) (o := .cells #[.int .u64 a2_0, .int .u64 a2_1, .int .u64 a2_2, .int .u64 a2_3, .int .u64 a2_4, .int .u64 a2_5] 26 (0, 0)) (by (with_reducible repeat (first | refine blk_drewN ?_ _ | refine blk_drew ?_ | refine blk_alloc ?_ _)); exact BK586.out) hb)
        have n3_ := Aside0.mk (blk_below (g := gb596) (o := .cells #[.int .u64 ((rd_T24 t591 0).f0), .int .u64 ((rd_T24 t591 0).f1)] 24 (0, 0)) (by (with_reducible repeat (first | refine blk_drewN ?_ _ | refine blk_drew ?_ | refine blk_alloc ?_ _)); exact BK596.out) hb)
        have n4_ := Aside0.mk (blk_below (g := gb597) (o := .cells #[.int .u64 ((rd_T24 t591 1).f0), .int .u64 ((rd_T24 t591 1).f1)] 24 (0, 0)) (by (with_reducible repeat (first | refine blk_drewN ?_ _ | refine blk_drew ?_ | refine blk_alloc ?_ _)); exact BK597.out) hb)
        have n5_ := Aside0.mk (blk_below (g := gb600) (o := .cells #[.int .u64 t598, .int .u64 t599] 24 (0, 0)) (by (with_reducible repeat (first | refine blk_drewN ?_ _ | refine blk_drew ?_ | refine blk_alloc ?_ _)); exact BK600.out) hb)
        have n6_ := Aside0.mk (below_step (by repeat (first | (with_reducible first | exact HB.out | apply below_alloc | apply pw_below_drewN | apply below_drew1 | refine below_set ?_ GE586.out | refine below_set ?_ GE596.out | refine below_set ?_ GE597.out | refine below_set ?_ GE600.out) | exact HB.out)) hb)
        clear HO589
        clear HO593
        clear BK586
        clear BK596
        clear BK597
        clear BK600
        clear HB
        have HO589 := n0_
        have HO593 := n1_
        have BK586 := n2_
        have BK596 := n3_
        have BK597 := n4_
        have BK600 := n5_
        have HB := n6_
        clear n0_ n1_ n2_ n3_ n4_ n5_ n6_
        (try clear hb)
        (try clear hb2)
        (try clear hk)
        (try clear hi)
        refine hK.out _ _ ⟨(blk_cell BK600.out 0).trans rfl, (blk_cell BK600.out 1).trans rfl, (blk_cell BK596.out 0).trans rfl, (blk_cell BK596.out 1).trans rfl, (blk_cell BK597.out 0).trans rfl, (blk_cell BK597.out 1).trans rfl⟩ (fun hHeld => ?_)
        clear hK K
        refine norm_ (a' := ?_) ?_ ?_
        rotate_left
        ·show Act.put _ (some 50) _ = _
         simp only [Act.put, List.setIfInBounds_toArray, List.set_cons_zero, List.set_cons_succ, i64_w, i32_w]
         rfl
        refine one_ (i := 11) (N := some 51) #[true, true, true, true, true, true, true, true, true, true, true, true, false, false, false, false, false, false, false, false, false, false, false, false, false, false, false, false, false, false, false, false, false, false, false, false, false, false, false, false] rfl rfl (one_of HT_.out (by kernel_rfl)) (by decide) (fun K hK => ?_)
        refine goes_ Try.func41 (by kernel_rfl) rfl #[.int .i64 t590, .agg #[.int .u64 t603, .int .u64 t604]] (by rfl) rfl rfl (by (try simp only [List.map_toArray, List.map_cons, List.map_nil]); first | done | rfl | (simp only [List.length_drop, List.length_take]; rfl)) ?_
        with_reducible refine (octet_Of.calls k t590 t603 t604 true _ A14.out).mono ?_
        rintro e w54 ⟨rfl, hb⟩
        refine ⟨_, rfl, ?_⟩
        have n0_ := Aside0.mk (Kd.R_below (by (with_reducible repeat (first | apply Kd.R_alloc | apply Kd.R_drewN | apply Kd.R_drew)); exact HO589.out) hb)
        have n1_ := Aside0.mk (Kd.R_below (by (with_reducible repeat (first | apply Kd.R_alloc | apply Kd.R_drewN | apply Kd.R_drew)); exact HO593.out) hb)
        have n2_ := Aside0.mk (blk_below (g := gb586) (o := .cells #[.int .u64 a2_0, .int .u64 a2_1, .int .u64 a2_2, .int .u64 a2_3, .int .u64 a2_4, .int .u64 a2_5] 26 (0, 0)) (by (with_reducible repeat (first | refine blk_drewN ?_ _ | refine blk_drew ?_ | refine blk_alloc ?_ _)); exact BK586.out) hb)
        have n3_ := Aside0.mk (blk_below (g := gb596) (o := .cells #[.int .u64 ((rd_T24 t591 0).f0), .int .u64 ((rd_T24 t591 0).f1)] 24 (0, 0)) (by (with_reducible repeat (first | refine blk_drewN ?_ _ | refine blk_drew ?_ | refine blk_alloc ?_ _)); exact BK596.out) hb)
        have n4_ := Aside0.mk (blk_below (g := gb597) (o := .cells #[.int .u64 ((rd_T24 t591 1).f0), .int .u64 ((rd_T24 t591 1).f1)] 24 (0, 0)) (by (with_reducible repeat (first | refine blk_drewN ?_ _ | refine blk_drew ?_ | refine blk_alloc ?_ _)); exact BK597.out) hb)
        have n5_ := Aside0.mk (blk_below (g := gb600) (o := .cells #[.int .u64 t598, .int .u64 t599] 24 (0, 0)) (by (with_reducible repeat (first | refine blk_drewN ?_ _ | refine blk_drew ?_ | refine blk_alloc ?_ _)); exact BK600.out) hb)
        have n6_ := Aside0.mk (below_step (by repeat (first | (with_reducible first | exact HB.out | apply below_alloc | apply pw_below_drewN | apply below_drew1 | refine below_set ?_ GE586.out | refine below_set ?_ GE596.out | refine below_set ?_ GE597.out | refine below_set ?_ GE600.out) | exact HB.out)) hb)
        clear HO589
        clear HO593
        clear BK586
        clear BK596
        clear BK597
        clear BK600
        clear HB
        have HO589 := n0_
        have HO593 := n1_
        have BK586 := n2_
        have BK596 := n3_
        have BK597 := n4_
        have BK600 := n5_
        have HB := n6_
        clear n0_ n1_ n2_ n3_ n4_ n5_ n6_
        (try clear hb)
        (try clear hb2)
        (try clear hk)
        (try clear hi)
        refine hK.out _ _ ⟨(blk_cell BK600.out 0).trans rfl, (blk_cell BK600.out 1).trans rfl, (blk_cell BK596.out 0).trans rfl, (blk_cell BK596.out 1).trans rfl, (blk_cell BK597.out 0).trans rfl, (blk_cell BK597.out 1).trans rfl⟩ (fun hHeld => ?_)
        clear hK K
        refine norm_ (a' := ?_) ?_ ?_
        rotate_left
        ·show Act.put _ (some 51) _ = _
         simp only [Act.put, List.setIfInBounds_toArray, List.set_cons_zero, List.set_cons_succ, i64_w, i32_w]
         rfl
        refine pure_ (i := 12) (N := some 52) (v := ?_) (a' := ?_) #[true, true, true, true, true, true, true, true, true, true, true, true, true, false, false, false, false, false, false, false, false, false, false, false, false, false, false, false, false, false, false, false, false, false, false, false, false, false, false, false] rfl rfl (any_of HT_.out (by kernel_rfl)) (fun _ _ _ h => h) (Or.inl ⟨by rfl, ?_⟩) ?_ ?_
        rotate_left
        ·intro w'
         go_simp
         with_reducible rfl
        rotate_left
        ·simp only [Act.put, List.setIfInBounds_toArray, List.set_cons_zero, List.set_cons_succ, i64_w, i32_w]
         rfl
        refine pure_ (i := 13) (N := some 53) (v := ?_) (a' := ?_) #[true, true, true, true, true, true, true, true, true, true, true, true, true, true, false, false, false, false, false, false, false, false, false, false, false, false, false, false, false, false, false, false, false, false, false, false, false, false, false, false] rfl rfl (any_of HT_.out (by kernel_rfl)) (fun _ _ _ h => h) (Or.inl ⟨by rfl, ?_⟩) ?_ ?_
        rotate_left
        ·intro w'
         go_simp
         with_reducible rfl
        rotate_left
        ·simp only [Act.put, List.setIfInBounds_toArray, List.set_cons_zero, List.set_cons_succ, i64_w, i32_w]
         rfl
        refine pure_ (i := 14) (N := some 54) (v := ?_) (a' := ?_) #[true, true, true, true, true, true, true, true, true, true, true, true, true, true, true, false, false, false, false, false, false, false, false, false, false, false, false, false, false, false, false, false, false, false, false, false, false, false, false, false] rfl rfl (any_of HT_.out (by kernel_rfl)) (fun _ _ _ h => h) (Or.inl ⟨by rfl, ?_⟩) ?_ ?_
        rotate_left
        ·intro w'
         go_simp
         with_reducible rfl
        rotate_left
        ·simp only [Act.put, List.setIfInBounds_toArray, List.set_cons_zero, List.set_cons_succ, i64_w, i32_w]
         rfl
        refine take_ (i := 15) (N := some 55) (v := ?_) (a' := ?_) #[true, true, true, true, true, true, true, true, true, true, true, true, true, true, true, true, false, false, false, false, false, false, false, false, false, false, false, false, false, false, false, false, false, false, false, false, false, false, false, false] rfl rfl (take_ofW HT_.out HW_.out (by kernel_rfl)) (fun _ _ _ h => h) (Or.inl ⟨by rfl, ?_⟩) hHeld ?_ ?_
        rotate_left
        ·rintro w' ⟨s0, s1, s2, s3, s4, s5⟩
         go_simp
         with_reducible rfl
        rotate_left
        ·simp only [Act.put, List.setIfInBounds_toArray, List.set_cons_zero, List.set_cons_succ, i64_w, i32_w]
         rfl
        refine take_ (i := 16) (N := some 56) (v := ?_) (a' := ?_) #[true, true, true, true, true, true, true, true, true, true, true, true, true, true, true, true, true, false, false, false, false, false, false, false, false, false, false, false, false, false, false, false, false, false, false, false, false, false, false, false] rfl rfl (take_ofW HT_.out HW_.out (by kernel_rfl)) (fun _ _ _ h => h) (Or.inl ⟨by rfl, ?_⟩) hHeld ?_ ?_
        rotate_left
        ·rintro w' ⟨s0, s1, s2, s3, s4, s5⟩
         go_simp
         with_reducible rfl
        rotate_left
        ·simp only [Act.put, List.setIfInBounds_toArray, List.set_cons_zero, List.set_cons_succ, i64_w, i32_w]
         rfl
        refine take_ (i := 18) (N := some 58) (v := ?_) (a' := ?_) #[true, true, true, true, true, true, true, true, true, true, true, true, true, true, true, true, true, false, true, false, false, false, false, false, false, false, false, false, false, false, false, false, false, false, false, false, false, false, false, false] rfl rfl (take_ofW HT_.out HW_.out (by kernel_rfl)) (fun _ _ _ h => h) (Or.inl ⟨by rfl, ?_⟩) hHeld ?_ ?_
        rotate_left
        ·rintro w' ⟨s0, s1, s2, s3, s4, s5⟩
         go_simp
         with_reducible rfl
        rotate_left
        ·simp only [Act.put, List.setIfInBounds_toArray, List.set_cons_zero, List.set_cons_succ, i64_w, i32_w]
         rfl
        refine one_ (i := 17) (N := some 57) #[true, true, true, true, true, true, true, true, true, true, true, true, true, true, true, true, true, true, true, false, false, false, false, false, false, false, false, false, false, false, false, false, false, false, false, false, false, false, false, false] rfl rfl (one_of HT_.out (by kernel_rfl)) (by decide) (fun K hK => ?_)
        refine goes_ Try.func13 (by kernel_rfl) rfl #[.int .i64 ji7, .agg #[.int .u64 ((rd_T24 t591 0).f0), .int .u64 ((rd_T24 t591 0).f1)], .agg #[.int .u64 ((rd_T24 t591 1).f0), .int .u64 ((rd_T24 t591 1).f1)]] (by rfl) rfl rfl (by (try simp only [List.map_toArray, List.map_cons, List.map_nil]); first | done | (simp only [hji7]; rfl) | rfl | (simp only [List.length_drop, List.length_take]; rfl)) ?_
        with_reducible refine (tower_Mul.calls k ji7 ((rd_T24 t591 0).f0) ((rd_T24 t591 0).f1) ((rd_T24 t591 1).f0) ((rd_T24 t591 1).f1) t606 t607 _ A16.out).mono ?_
        rintro e w55 ⟨rfl, hb⟩
        refine ⟨_, rfl, ?_⟩
        have n0_ := Aside0.mk (Kd.R_below (by (with_reducible repeat (first | apply Kd.R_alloc | apply Kd.R_drewN | apply Kd.R_drew)); exact HO589.out) hb)
        have n1_ := Aside0.mk (Kd.R_below (by (with_reducible repeat (first | apply Kd.R_alloc | apply Kd.R_drewN | apply Kd.R_drew)); exact HO593.out) hb)
        have n2_ := Aside0.mk (blk_below (g := gb586) (o := .cells #[.int .u64 a2_0, .int .u64 a2_1, .int .u64 a2_2, .int .u64 a2_3, .int .u64 a2_4, .int .u64 a2_5] 26 (0, 0)) (by (with_reducible repeat (first | refine blk_drewN ?_ _ | refine blk_drew ?_ | refine blk_alloc ?_ _)); exact BK586.out) hb)
        have n3_ := Aside0.mk (blk_below (g := gb596) (o := .cells #[.int .u64 ((rd_T24 t591 0).f0), .int .u64 ((rd_T24 t591 0).f1)] 24 (0, 0)) (by (with_reducible repeat (first | refine blk_drewN ?_ _ | refine blk_drew ?_ | refine blk_alloc ?_ _)); exact BK596.out) hb)
        have n4_ := Aside0.mk (blk_below (g := gb597) (o := .cells #[.int .u64 ((rd_T24 t591 1).f0), .int .u64 ((rd_T24 t591 1).f1)] 24 (0, 0)) (by (with_reducible repeat (first | refine blk_drewN ?_ _ | refine blk_drew ?_ | refine blk_alloc ?_ _)); exact BK597.out) hb)
        have n5_ := Aside0.mk (blk_below (g := gb600) (o := .cells #[.int .u64 t598, .int .u64 t599] 24 (0, 0)) (by (with_reducible repeat (first | refine blk_drewN ?_ _ | refine blk_drew ?_ | refine blk_alloc ?_ _)); exact BK600.out) hb)
        have n6_ := Aside0.mk (below_step (by repeat (first | (with_reducible first | exact HB.out | apply below_alloc | apply pw_below_drewN | apply below_drew1 | refine below_set ?_ GE586.out | refine below_set ?_ GE596.out | refine below_set ?_ GE597.out | refine below_set ?_ GE600.out) | exact HB.out)) hb)
        clear HO589
        clear HO593
        clear BK586
        clear BK596
        clear BK597
        clear BK600
        clear HB
        have HO589 := n0_
        have HO593 := n1_
        have BK586 := n2_
        have BK596 := n3_
        have BK597 := n4_
        have BK600 := n5_
        have HB := n6_
        clear n0_ n1_ n2_ n3_ n4_ n5_ n6_
        (try clear hb)
        (try clear hb2)
        (try clear hk)
        (try clear hi)
        refine hK.out _ _ ⟨(blk_cell BK600.out 0).trans rfl, (blk_cell BK600.out 1).trans rfl, (blk_cell BK596.out 0).trans rfl, (blk_cell BK596.out 1).trans rfl, (blk_cell BK597.out 0).trans rfl, (blk_cell BK597.out 1).trans rfl⟩ (fun hHeld => ?_)
        clear hK K
        refine norm_ (a' := ?_) ?_ ?_
        rotate_left
        ·show Act.put _ (some 57) _ = _
         simp only [Act.put, List.setIfInBounds_toArray, List.set_cons_zero, List.set_cons_succ, i64_w, i32_w]
         rfl
        refine pure_ (i := 19) (N := some 59) (v := ?_) (a' := ?_) #[true, true, true, true, true, true, true, true, true, true, true, true, true, true, true, true, true, true, true, true, false, false, false, false, false, false, false, false, false, false, false, false, false, false, false, false, false, false, false, false] rfl rfl (any_of HT_.out (by kernel_rfl)) (fun _ _ _ h => h) (Or.inl ⟨by rfl, ?_⟩) ?_ ?_
        rotate_left
        ·intro w'
         go_simp
         with_reducible rfl
        rotate_left
        ·simp only [Act.put, List.setIfInBounds_toArray, List.set_cons_zero, List.set_cons_succ, i64_w, i32_w]
         rfl
        refine pure_ (i := 20) (N := some 60) (v := ?_) (a' := ?_) #[true, true, true, true, true, true, true, true, true, true, true, true, true, true, true, true, true, true, true, true, true, false, false, false, false, false, false, false, false, false, false, false, false, false, false, false, false, false, false, false] rfl rfl (any_of HT_.out (by kernel_rfl)) (fun _ _ _ h => h) (Or.inl ⟨by rfl, ?_⟩) ?_ ?_
        rotate_left
        ·intro w'
         go_simp
         with_reducible rfl
        rotate_left
        ·simp only [Act.put, List.setIfInBounds_toArray, List.set_cons_zero, List.set_cons_succ, i64_w, i32_w]
         rfl
        refine pure_ (i := 21) (N := some 61) (v := ?_) (a' := ?_) #[true, true, true, true, true, true, true, true, true, true, true, true, true, true, true, true, true, true, true, true, true, true, false, false, false, false, false, false, false, false, false, false, false, false, false, false, false, false, false, false] rfl rfl (any_of HT_.out (by kernel_rfl)) (fun _ _ _ h => h) (Or.inl ⟨by rfl, ?_⟩) ?_ ?_
        rotate_left
        ·intro w'
         go_simp
         with_reducible rfl
        rotate_left
        ·simp only [Act.put, List.setIfInBounds_toArray, List.set_cons_zero, List.set_cons_succ, i64_w, i32_w]
         rfl
        refine pure_ (i := 22) (N := some 62) (v := ?_) (a' := ?_) #[true, true, true, true, true, true, true, true, true, true, true, true, true, true, true, true, true, true, true, true, true, true, true, false, false, false, false, false, false, false, false, false, false, false, false, false, false, false, false, false] rfl rfl (any_of HT_.out (by kernel_rfl)) (fun _ _ _ h => h) (Or.inl ⟨by rfl, ?_⟩) ?_ ?_
        rotate_left
        ·intro w'
         go_simp
         with_reducible rfl
        rotate_left
        ·simp only [Act.put, List.setIfInBounds_toArray, List.set_cons_zero, List.set_cons_succ, i64_w, i32_w]
         rfl
        refine pure_ (i := 25) (N := some 65) (v := ?_) (a' := ?_) #[true, true, true, true, true, true, true, true, true, true, true, true, true, true, true, true, true, true, true, true, true, true, true, false, false, true, false, false, false, false, false, false, false, false, false, false, false, false, false, false] rfl rfl (any_of HT_.out (by kernel_rfl)) (fun _ _ _ h => h) (Or.inl ⟨by rfl, ?_⟩) ?_ ?_
        rotate_left
        ·intro w'
         go_simp
         with_reducible rfl
        rotate_left
        ·simp only [Act.put, List.setIfInBounds_toArray, List.set_cons_zero, List.set_cons_succ, i64_w, i32_w]
         rfl
        refine take_ (i := 23) (N := some 63) (v := ?_) (a' := ?_) #[true, true, true, true, true, true, true, true, true, true, true, true, true, true, true, true, true, true, true, true, true, true, true, true, false, true, false, false, false, false, false, false, false, false, false, false, false, false, false, false] rfl rfl (take_ofW HT_.out HW_.out (by kernel_rfl)) (fun _ _ _ h => h) (Or.inl ⟨by rfl, ?_⟩) hHeld ?_ ?_
        rotate_left
        ·rintro w' ⟨s0, s1, s2, s3, s4, s5⟩
         go_simp
         with_reducible rfl
        rotate_left
        ·simp only [Act.put, List.setIfInBounds_toArray, List.set_cons_zero, List.set_cons_succ, i64_w, i32_w]
         rfl
        refine take_ (i := 26) (N := some 66) (v := ?_) (a' := ?_) #[true, true, true, true, true, true, true, true, true, true, true, true, true, true, true, true, true, true, true, true, true, true, true, true, false, true, true, false, false, false, false, false, false, false, false, false, false, false, false, false] rfl rfl (take_ofW HT_.out HW_.out (by kernel_rfl)) (fun _ _ _ h => h) (Or.inl ⟨by rfl, ?_⟩) hHeld ?_ ?_
        rotate_left
        ·rintro w' ⟨s0, s1, s2, s3, s4, s5⟩
         go_simp
         with_reducible rfl
        rotate_left
        ·simp only [Act.put, List.setIfInBounds_toArray, List.set_cons_zero, List.set_cons_succ, i64_w, i32_w]
         rfl
        refine one_ (i := 24) (N := some 64) #[true, true, true, true, true, true, true, true, true, true, true, true, true, true, true, true, true, true, true, true, true, true, true, true, true, true, true, false, false, false, false, false, false, false, false, false, false, false, false, false] rfl rfl (one_of HT_.out (by kernel_rfl)) (by decide) (fun K hK => ?_)
        refine goes_ Try.func29 (by kernel_rfl) rfl #[.int .i64 ji7, .agg #[.int .u64 ((rd_T24 t591 0).f0), .int .u64 ((rd_T24 t591 0).f1)]] (by rfl) rfl rfl (by (try simp only [List.map_toArray, List.map_cons, List.map_nil]); first | done | (simp only [hji7]; rfl) | rfl | (simp only [List.length_drop, List.length_take]; rfl)) ?_
        with_reducible refine (tower_Inv.calls k ji7 ((rd_T24 t591 0).f0) ((rd_T24 t591 0).f1) t608 t609 _ A18.out).mono ?_
        rintro e w56 ⟨rfl, hb⟩
        refine ⟨_, rfl, ?_⟩
        have n0_ := Aside0.mk (Kd.R_below (by (with_reducible repeat (first | apply Kd.R_alloc | apply Kd.R_drewN | apply Kd.R_drew)); exact HO589.out) hb)
        have n1_ := Aside0.mk (Kd.R_below (by (with_reducible repeat (first | apply Kd.R_alloc | apply Kd.R_drewN | apply Kd.R_drew)); exact HO593.out) hb)
        have n2_ := Aside0.mk (blk_below (g := gb586) (o := .cells #[.int .u64 a2_0, .int .u64 a2_1, .int .u64 a2_2, .int .u64 a2_3, .int .u64 a2_4, .int .u64 a2_5] 26 (0, 0)) (by (with_reducible repeat (first | refine blk_drewN ?_ _ | refine blk_drew ?_ | refine blk_alloc ?_ _)); exact BK586.out) hb)
        have n3_ := Aside0.mk (blk_below (g := gb596) (o := .cells #[.int .u64 ((rd_T24 t591 0).f0), .int .u64 ((rd_T24 t591 0).f1)] 24 (0, 0)) (by (with_reducible repeat (first | refine blk_drewN ?_ _ | refine blk_drew ?_ | refine blk_alloc ?_ _)); exact BK596.out) hb)
        have n4_ := Aside0.mk (blk_below (g := gb597) (o := .cells #[.int .u64 ((rd_T24 t591 1).f0), .int .u64 ((rd_T24 t591 1).f1)] 24 (0, 0)) (by (with_reducible repeat (first | refine blk_drewN ?_ _ | refine blk_drew ?_ | refine blk_alloc ?_ _)); exact BK597.out) hb)
        have n5_ := Aside0.mk (blk_below (g := gb600) (o := .cells #[.int .u64 t598, .int .u64 t599] 24 (0, 0)) (by (with_reducible repeat (first | refine blk_drewN ?_ _ | refine blk_drew ?_ | refine blk_alloc ?_ _)); exact BK600.out) hb)
        have n6_ := Aside0.mk (below_step (by repeat (first | (with_reducible first | exact HB.out | apply below_alloc | apply pw_below_drewN | apply below_drew1 | refine below_set ?_ GE586.out | refine below_set ?_ GE596.out | refine below_set ?_ GE597.out | refine below_set ?_ GE600.out) | exact HB.out)) hb)
        clear HO589
        clear HO593
        clear BK586
        clear BK596
        clear BK597
        clear BK600
        clear HB
        have HO589 := n0_
        have HO593 := n1_
        have BK586 := n2_
        have BK596 := n3_
        have BK597 := n4_
        have BK600 := n5_
        have HB := n6_
        clear n0_ n1_ n2_ n3_ n4_ n5_ n6_
        (try clear hb)
        (try clear hb2)
        (try clear hk)
        (try clear hi)
        refine hK.out _ _ ⟨(blk_cell BK600.out 0).trans rfl, (blk_cell BK600.out 1).trans rfl, (blk_cell BK596.out 0).trans rfl, (blk_cell BK596.out 1).trans rfl, (blk_cell BK597.out 0).trans rfl, (blk_cell BK597.out 1).trans rfl⟩ (fun hHeld => ?_)
        clear hK K
        refine norm_ (a' := ?_) ?_ ?_
        rotate_left
        ·show Act.put _ (some 64) _ = _
         simp only [Act.put, List.setIfInBounds_toArray, List.set_cons_zero, List.set_cons_succ, i64_w, i32_w]
         rfl
        refine one_ (i := 27) (N := some 67) #[true, true, true, true, true, true, true, true, true, true, true, true, true, true, true, true, true, true, true, true, true, true, true, true, true, true, true, true, false, false, false, false, false, false, false, false, false, false, false, false] rfl rfl (one_of HT_.out (by kernel_rfl)) (by decide) (fun K hK => ?_)
        refine goes_ Try.func29 (by kernel_rfl) rfl #[.int .i64 t590, .agg #[.int .u64 ((rd_T24 t591 0).f0), .int .u64 ((rd_T24 t591 0).f1)]] (by rfl) rfl rfl (by (try simp only [List.map_toArray, List.map_cons, List.map_nil]); first | done | rfl | (simp only [List.length_drop, List.length_take]; rfl)) ?_
        with_reducible refine (tower_Inv.calls k t590 ((rd_T24 t591 0).f0) ((rd_T24 t591 0).f1) t610 t611 _ A19.out).mono ?_
        rintro e w57 ⟨rfl, hb⟩
        refine ⟨_, rfl, ?_⟩
        have n0_ := Aside0.mk (Kd.R_below (by (with_reducible repeat (first | apply Kd.R_alloc | apply Kd.R_drewN | apply Kd.R_drew)); exact HO589.out) hb)
        have n1_ := Aside0.mk (Kd.R_below (by (with_reducible repeat (first | apply Kd.R_alloc | apply Kd.R_drewN | apply Kd.R_drew)); exact HO593.out) hb)
        have n2_ := Aside0.mk (blk_below (g := gb586) (o := .cells #[.int .u64 a2_0, .int .u64 a2_1, .int .u64 a2_2, .int .u64 a2_3, .int .u64 a2_4, .int .u64 a2_5] 26 (0, 0)) (by (with_reducible repeat (first | refine blk_drewN ?_ _ | refine blk_drew ?_ | refine blk_alloc ?_ _)); exact BK586.out) hb)
        have n3_ := Aside0.mk (blk_below (g := gb596) (o := .cells #[.int .u64 ((rd_T24 t591 0).f0), .int .u64 ((rd_T24 t591 0).f1)] 24 (0, 0)) (by (with_reducible repeat (first | refine blk_drewN ?_ _ | refine blk_drew ?_ | refine blk_alloc ?_ _)); exact BK596.out) hb)
        have n4_ := Aside0.mk (blk_below (g := gb597) (o := .cells #[.int .u64 ((rd_T24 t591 1).f0), .int .u64 ((rd_T24 t591 1).f1)] 24 (0, 0)) (by (with_reducible repeat (first | refine blk_drewN ?_ _ | refine blk_drew ?_ | refine blk_alloc ?_ _)); exact BK597.out) hb)
        have n5_ := Aside0.mk (blk_below (g := gb600) (o := .cells #[.int .u64 t598, .int .u64 t599] 24 (0, 0)) (by (with_reducible repeat (first | refine blk_drewN ?_ _ | refine blk_drew ?_ | refine blk_alloc ?_ _)); exact BK600.out) hb)
        have n6_ := Aside0.mk (below_step (by repeat (first | (with_reducible first | exact HB.out | apply below_alloc | apply pw_below_drewN | apply below_drew1 | refine below_set ?_ GE586.out | refine below_set ?_ GE596.out | refine below_set ?_ GE597.out | refine below_set ?_ GE600.out) | exact HB.out)) hb)
        clear HO589
        clear HO593
        clear BK586
        clear BK596
        clear BK597
        clear BK600
        clear HB
        have HO589 := n0_
        have HO593 := n1_
        have BK586 := n2_
        have BK596 := n3_
        have BK597 := n4_
        have BK600 := n5_
        have HB := n6_
        clear n0_ n1_ n2_ n3_ n4_ n5_ n6_
        (try clear hb)
        (try clear hb2)
        (try clear hk)
        (try clear hi)
        refine hK.out _ _ ⟨(blk_cell BK600.out 0).trans rfl, (blk_cell BK600.out 1).trans rfl, (blk_cell BK596.out 0).trans rfl, (blk_cell BK596.out 1).trans rfl, (blk_cell BK597.out 0).trans rfl, (blk_cell BK597.out 1).trans rfl⟩ (fun hHeld => ?_)
        clear hK K
        refine norm_ (a' := ?_) ?_ ?_
        rotate_left
        ·show Act.put _ (some 67) _ = _
         simp only [Act.put, List.setIfInBounds_toArray, List.set_cons_zero, List.set_cons_succ, i64_w, i32_w]
         rfl
        refine pure_ (i := 28) (N := some 68) (v := ?_) (a' := ?_) #[true, true, true, true, true, true, true, true, true, true, true, true, true, true, true, true, true, true, true, true, true, true, true, true, true, true, true, true, true, false, false, false, false, false, false, false, false, false, false, false] rfl rfl (any_of HT_.out (by kernel_rfl)) (fun _ _ _ h => h) (Or.inl ⟨by rfl, ?_⟩) ?_ ?_
        rotate_left
        ·intro w'
         go_simp
         with_reducible rfl
        rotate_left
        ·simp only [Act.put, List.setIfInBounds_toArray, List.set_cons_zero, List.set_cons_succ, i64_w, i32_w]
         rfl
        refine pure_ (i := 29) (N := some 69) (v := ?_) (a' := ?_) #[true, true, true, true, true, true, true, true, true, true, true, true, true, true, true, true, true, true, true, true, true, true, true, true, true, true, true, true, true, true, false, false, false, false, false, false, false, false, false, false] rfl rfl (any_of HT_.out (by kernel_rfl)) (fun _ _ _ h => h) (Or.inl ⟨by rfl, ?_⟩) ?_ ?_
        rotate_left
        ·intro w'
         go_simp
         with_reducible rfl
        rotate_left
        ·simp only [Act.put, List.setIfInBounds_toArray, List.set_cons_zero, List.set_cons_succ, i64_w, i32_w]
         rfl
        refine pure_ (i := 30) (N := some 70) (v := ?_) (a' := ?_) #[true, true, true, true, true, true, true, true, true, true, true, true, true, true, true, true, true, true, true, true, true, true, true, true, true, true, true, true, true, true, true, false, false, false, false, false, false, false, false, false] rfl rfl (any_of HT_.out (by kernel_rfl)) (fun _ _ _ h => h) (Or.inl ⟨by rfl, ?_⟩) ?_ ?_
        rotate_left
        ·intro w'
         go_simp
         with_reducible rfl
        rotate_left
        ·simp only [Act.put, List.setIfInBounds_toArray, List.set_cons_zero, List.set_cons_succ, i64_w, i32_w]
         rfl
        refine pure_ (i := 31) (N := some 71) (v := ?_) (a' := ?_) #[true, true, true, true, true, true, true, true, true, true, true, true, true, true, true, true, true, true, true, true, true, true, true, true, true, true, true, true, true, true, true, true, false, false, false, false, false, false, false, false] rfl rfl (any_of HT_.out (by kernel_rfl)) (fun _ _ _ h => h) (Or.inl ⟨by rfl, ?_⟩) ?_ ?_
        rotate_left
        ·intro w'
         go_simp
         with_reducible rfl
        rotate_left
        ·simp only [Act.put, List.setIfInBounds_toArray, List.set_cons_zero, List.set_cons_succ, i64_w, i32_w]
         rfl
        refine pure_ (i := 34) (N := some 74) (v := ?_) (a' := ?_) #[true, true, true, true, true, true, true, true, true, true, true, true, true, true, true, true, true, true, true, true, true, true, true, true, true, true, true, true, true, true, true, true, false, false, true, false, false, false, false, false] rfl rfl (any_of HT_.out (by kernel_rfl)) (fun _ _ _ h => h) (Or.inl ⟨by rfl, ?_⟩) ?_ ?_
        rotate_left
        ·intro w'
         go_simp
         with_reducible rfl
        rotate_left
        ·simp only [Act.put, List.setIfInBounds_toArray, List.set_cons_zero, List.set_cons_succ, i64_w, i32_w]
         rfl
        refine take_ (i := 32) (N := some 72) (v := ?_) (a' := ?_) #[true, true, true, true, true, true, true, true, true, true, true, true, true, true, true, true, true, true, true, true, true, true, true, true, true, true, true, true, true, true, true, true, true, false, true, false, false, false, false, false] rfl rfl (take_ofW HT_.out HW_.out (by kernel_rfl)) (fun _ _ _ h => h) (Or.inl ⟨by rfl, ?_⟩) hHeld ?_ ?_
        rotate_left
        ·rintro w' ⟨s0, s1, s2, s3, s4, s5⟩
         go_simp
         with_reducible rfl
        rotate_left
        ·simp only [Act.put, List.setIfInBounds_toArray, List.set_cons_zero, List.set_cons_succ, i64_w, i32_w]
         rfl
        refine take_ (i := 35) (N := some 75) (v := ?_) (a' := ?_) #[true, true, true, true, true, true, true, true, true, true, true, true, true, true, true, true, true, true, true, true, true, true, true, true, true, true, true, true, true, true, true, true, true, false, true, true, false, false, false, false] rfl rfl (take_ofW HT_.out HW_.out (by kernel_rfl)) (fun _ _ _ h => h) (Or.inl ⟨by rfl, ?_⟩) hHeld ?_ ?_
        rotate_left
        ·rintro w' ⟨s0, s1, s2, s3, s4, s5⟩
         go_simp
         with_reducible rfl
        rotate_left
        ·simp only [Act.put, List.setIfInBounds_toArray, List.set_cons_zero, List.set_cons_succ, i64_w, i32_w]
         rfl
        refine one_ (i := 33) (N := some 73) #[true, true, true, true, true, true, true, true, true, true, true, true, true, true, true, true, true, true, true, true, true, true, true, true, true, true, true, true, true, true, true, true, true, true, true, true, false, false, false, false] rfl rfl (one_of HT_.out (by kernel_rfl)) (by decide) (fun K hK => ?_)
        refine goes_ Try.func18 (by kernel_rfl) rfl #[.int .i64 ji7, .agg #[.int .u64 ((rd_T24 t591 0).f0), .int .u64 ((rd_T24 t591 0).f1)]] (by rfl) rfl rfl (by (try simp only [List.map_toArray, List.map_cons, List.map_nil]); first | done | (simp only [hji7]; rfl) | rfl | (simp only [List.length_drop, List.length_take]; rfl)) ?_
        with_reducible refine (tower_Square.calls k ji7 ((rd_T24 t591 0).f0) ((rd_T24 t591 0).f1) t612 t613 _ A21.out).mono ?_
        rintro e w58 ⟨rfl, hb⟩
        refine ⟨_, rfl, ?_⟩
        have n0_ := Aside0.mk (Kd.R_below (by (with_reducible repeat (first | apply Kd.R_alloc | apply Kd.R_drewN | apply Kd.R_drew)); exact HO589.out) hb)
        have n1_ := Aside0.mk (Kd.R_below (by (with_reducible repeat (first | apply Kd.R_alloc | apply Kd.R_drewN | apply Kd.R_drew)); exact HO593.out) hb)
        have n2_ := Aside0.mk (blk_below (g := gb586) (o := .cells #[.int .u64 a2_0, .int .u64 a2_1, .int .u64 a2_2, .int .u64 a2_3, .int .u64 a2_4, .int .u64 a2_5] 26 (0, 0)) (by (with_reducible repeat (first | refine blk_drewN ?_ _ | refine blk_drew ?_ | refine blk_alloc ?_ _)); exact BK586.out) hb)
        have n3_ := Aside0.mk (blk_below (g := gb596) (o := .cells #[.int .u64 ((rd_T24 t591 0).f0), .int .u64 ((rd_T24 t591 0).f1)] 24 (0, 0)) (by (with_reducible repeat (first | refine blk_drewN ?_ _ | refine blk_drew ?_ | refine blk_alloc ?_ _)); exact BK596.out) hb)
        have n4_ := Aside0.mk (blk_below (g := gb597) (o := .cells #[.int .u64 ((rd_T24 t591 1).f0), .int .u64 ((rd_T24 t591 1).f1)] 24 (0, 0)) (by (with_reducible repeat (first | refine blk_drewN ?_ _ | refine blk_drew ?_ | refine blk_alloc ?_ _)); exact BK597.out) hb)
        have n5_ := Aside0.mk (blk_below (g := gb600) (o := .cells #[.int .u64 t598, .int .u64 t599] 24 (0, 0)) (by (with_reducible repeat (first | refine blk_drewN ?_ _ | refine blk_drew ?_ | refine blk_alloc ?_ _)); exact BK600.out) hb)
        have n6_ := Aside0.mk (below_step (by repeat (first | (with_reducible first | exact HB.out | apply below_alloc | apply pw_below_drewN | apply below_drew1 | refine below_set ?_ GE586.out | refine below_set ?_ GE596.out | refine below_set ?_ GE597.out | refine below_set ?_ GE600.out) | exact HB.out)) hb)
        clear HO589
        clear HO593
        clear BK586
        clear BK596
        clear BK597
        clear BK600
        clear HB
        have HO589 := n0_
        have HO593 := n1_
        have BK586 := n2_
        have BK596 := n3_
        have BK597 := n4_
        have BK600 := n5_
        have HB := n6_
        clear n0_ n1_ n2_ n3_ n4_ n5_ n6_
        (try clear hb)
        (try clear hb2)
        (try clear hk)
        (try clear hi)
        refine hK.out _ _ ⟨(blk_cell BK600.out 0).trans rfl, (blk_cell BK600.out 1).trans rfl, (blk_cell BK596.out 0).trans rfl, (blk_cell BK596.out 1).trans rfl, (blk_cell BK597.out 0).trans rfl, (blk_cell BK597.out 1).trans rfl⟩ (fun hHeld => ?_)
        clear hK K
        refine norm_ (a' := ?_) ?_ ?_
        rotate_left
        ·show Act.put _ (some 73) _ = _
         simp only [Act.put, List.setIfInBounds_toArray, List.set_cons_zero, List.set_cons_succ, i64_w, i32_w]
         rfl
        refine one_ (i := 36) (N := some 76) #[true, true, true, true, true, true, true, true, true, true, true, true, true, true, true, true, true, true, true, true, true, true, true, true, true, true, true, true, true, true, true, true, true, true, true, true, true, false, false, false] rfl rfl (one_of HT_.out (by kernel_rfl)) (by decide) (fun K hK => ?_)
        refine goes_ Try.func18 (by kernel_rfl) rfl #[.int .i64 t590, .agg #[.int .u64 ((rd_T24 t591 0).f0), .int .u64 ((rd_T24 t591 0).f1)]] (by rfl) rfl rfl (by (try simp only [List.map_toArray, List.map_cons, List.map_nil]); first | done | rfl | (simp only [List.length_drop, List.length_take]; rfl)) ?_
        with_reducible refine (tower_Square.calls k t590 ((rd_T24 t591 0).f0) ((rd_T24 t591 0).f1) t614 t615 _ A22.out).mono ?_
        rintro e w59 ⟨rfl, hb⟩
        refine ⟨_, rfl, ?_⟩
        have n0_ := Aside0.mk (Kd.R_below (by (with_reducible repeat (first | apply Kd.R_alloc | apply Kd.R_drewN | apply Kd.R_drew)); exact HO589.out) hb)
        have n1_ := Aside0.mk (Kd.R_below (by (with_reducible repeat (first | apply Kd.R_alloc | apply Kd.R_drewN | apply Kd.R_drew)); exact HO593.out) hb)
        have n2_ := Aside0.mk (blk_below (g := gb586) (o := .cells #[.int .u64 a2_0, .int .u64 a2_1, .int .u64 a2_2, .int .u64 a2_3, .int .u64 a2_4, .int .u64 a2_5] 26 (0, 0)) (by (with_reducible repeat (first | refine blk_drewN ?_ _ | refine blk_drew ?_ | refine blk_alloc ?_ _)); exact BK586.out) hb)
        have n3_ := Aside0.mk (blk_below (g := gb596) (o := .cells #[.int .u64 ((rd_T24 t591 0).f0), .int .u64 ((rd_T24 t591 0).f1)] 24 (0, 0)) (by (with_reducible repeat (first | refine blk_drewN ?_ _ | refine blk_drew ?_ | refine blk_alloc ?_ _)); exact BK596.out) hb)
        have n4_ := Aside0.mk (blk_below (g := gb597) (o := .cells #[.int .u64 ((rd_T24 t591 1).f0), .int .u64 ((rd_T24 t591 1).f1)] 24 (0, 0)) (by (with_reducible repeat (first | refine blk_drewN ?_ _ | refine blk_drew ?_ | refine blk_alloc ?_ _)); exact BK597.out) hb)
        have n5_ := Aside0.mk (blk_below (g := gb600) (o := .cells #[.int .u64 t598, .int .u64 t599] 24 (0, 0)) (by (with_reducible repeat (first | refine blk_drewN ?_ _ | refine blk_drew ?_ | refine blk_alloc ?_ _)); exact BK600.out) hb)
        have n6_ := Aside0.mk (below_step (by repeat (first | (with_reducible first | exact HB.out | apply below_alloc | apply pw_below_drewN | apply below_drew1 | refine below_set ?_ GE586.out | refine below_set ?_ GE596.out | refine below_set ?_ GE597.out | refine below_set ?_ GE600.out) | exact HB.out)) hb)
        clear HO589
        clear HO593
        clear BK586
        clear BK596
        clear BK597
        clear BK600
        clear HB
        have HO589 := n0_
        have HO593 := n1_
        have BK586 := n2_
        have BK596 := n3_
        have BK597 := n4_
        have BK600 := n5_
        have HB := n6_
        clear n0_ n1_ n2_ n3_ n4_ n5_ n6_
        (try clear hb)
        (try clear hb2)
        (try clear hk)
        (try clear hi)
        refine hK.out _ _ ⟨(blk_cell BK600.out 0).trans rfl, (blk_cell BK600.out 1).trans rfl, (blk_cell BK596.out 0).trans rfl, (blk_cell BK596.out 1).trans rfl, (blk_cell BK597.out 0).trans rfl, (blk_cell BK597.out 1).trans rfl⟩ (fun hHeld => ?_)
        clear hK K
        refine norm_ (a' := ?_) ?_ ?_
        rotate_left
        ·show Act.put _ (some 76) _ = _
         simp only [Act.put, List.setIfInBounds_toArray, List.set_cons_zero, List.set_cons_succ, i64_w, i32_w]
         rfl
        refine pure_ (i := 37) (N := some 77) (v := ?_) (a' := ?_) #[true, true, true, true, true, true, true, true, true, true, true, true, true, true, true, true, true, true, true, true, true, true, true, true, true, true, true, true, true, true, true, true, true, true, true, true, true, true, false, false] rfl rfl (any_of HT_.out (by kernel_rfl)) (fun _ _ _ h => h) (Or.inl ⟨by rfl, ?_⟩) ?_ ?_
        rotate_left
        ·intro w'
         go_simp
         with_reducible rfl
        rotate_left
        ·simp only [Act.put, List.setIfInBounds_toArray, List.set_cons_zero, List.set_cons_succ, i64_w, i32_w]
         rfl
        refine pure_ (i := 38) (N := some 78) (v := ?_) (a' := ?_) #[true, true, true, true, true, true, true, true, true, true, true, true, true, true, true, true, true, true, true, true, true, true, true, true, true, true, true, true, true, true, true, true, true, true, true, true, true, true, true, false] rfl rfl (any_of HT_.out (by kernel_rfl)) (fun _ _ _ h => h) (Or.inl ⟨by rfl, ?_⟩) ?_ ?_
        rotate_left
        ·intro w'
         go_simp
         with_reducible rfl
        rotate_left
        ·simp only [Act.put, List.setIfInBounds_toArray, List.set_cons_zero, List.set_cons_succ, i64_w, i32_w]
         rfl
        refine pure_ (i := 39) (N := some 6) (v := ?_) (a' := ?_) #[true, true, true, true, true, true, true, true, true, true, true, true, true, true, true, true, true, true, true, true, true, true, true, true, true, true, true, true, true, true, true, true, true, true, true, true, true, true, true, true] rfl rfl (any_of HT_.out (by kernel_rfl)) (fun _ _ _ h => h) (Or.inl ⟨by rfl, ?_⟩) ?_ ?_
        rotate_left
        ·intro w'
         go_simp
         with_reducible rfl
        rotate_left
        ·simp only [Act.put, List.setIfInBounds_toArray, List.set_cons_zero, List.set_cons_succ, i64_w, i32_w]
         rfl
        refine done_ (done_of HT_.out (by kernel_rfl)) ?_
        try go_wp2
        go_ret
        exact ⟨by first | rfl | (simp [errW_none, errW_some] <;> rfl) | (simp only [← hji7]; first | rfl | (simp [errW_none, errW_some] <;> rfl)) | (simp [*, errW_none, errW_some] <;> rfl), by repeat (first | (with_reducible first | exact HB.out | apply below_alloc | apply pw_below_drewN | apply below_drew1 | refine below_set ?_ GE586.out | refine below_set ?_ GE596.out | refine below_set ?_ GE597.out | refine below_set ?_ GE600.out) | exact HB.out)⟩
       ·rw [if_neg c20] at H
        have c20b0 : (t608 == t610 && (t609 == t611)) = false := by simpa using c20
        (try (have c20b1 : decide (t608 = t610 && (t609 == t611)) = false := by simpa using c20))
        (try (have c20b2 : (t608 == t610 && (t609 == t611)) = false := by simpa using c20))
        (try (have c20b3 : ¬ (t608 = t610 && (t609 == t611)) := by simpa using c20))
        clear c20
        exact absurd H (by simp)
      ·rw [if_neg c17] at H
       have c17b0 : (t606 == t598 && (t607 == t599)) = false := by simpa using c17
       (try (have c17b1 : decide (t606 = t598 && (t607 == t599)) = false := by simpa using c17))
       (try (have c17b2 : (t606 == t598 && (t607 == t599)) = false := by simpa using c17))
       (try (have c17b3 : ¬ (t606 = t598 && (t607 == t599)) := by simpa using c17))
       clear c17
       exact absurd H (by simp)
     ·replace c15 := Bool.eq_false_iff.mpr c15
      subst c15
      have H1 : (none) = some r := by rw [if_neg (show ¬ (false = true) by decide)] at H; exact H
      clear H
      have H := H1
      clear H1
      exact absurd H (by simp)
    ·replace c12 := Bool.eq_false_iff.mpr c12
     subst c12
     have H1 : (none) = some r := by rw [if_neg (show ¬ (false = true) by decide)] at H; exact H
     clear H
     have H := H1
     clear H1
     exact absurd H (by simp)
   ·replace c10 := Bool.eq_false_iff.mpr c10
    subst c10
    have H1 : (none) = some r := by rw [if_neg (show ¬ (false = true) by decide)] at H; exact H
    clear H
    have H := H1
    clear H1
    exact absurd H (by simp)
  ·rw [if_neg c6] at H
   exact absurd H (by simp)
 ·rw [if_neg c5] at H
  exact absurd H (by simp)

/-- THE ONE PURE STATEMENT of steeplelaw02_TowerLevels. -/
def steeplelaw02_TowerLevels.Pure : Prop := ∀ (x0 : Int) (x1 : Int) (x2 : S26), (Lit.int .i64 x0).wf = true → (Lit.int .i64 x1).wf = true → (((Lit.int .u64 x2.f0.f0).wf = true ∧ (Lit.int .u64 x2.f0.f1).wf = true) ∧ ((Lit.int .u64 x2.f1.f0).wf = true ∧ (Lit.int .u64 x2.f1.f1).wf = true) ∧ ((Lit.int .u64 x2.f2.f0).wf = true ∧ (Lit.int .u64 x2.f2.f1).wf = true)) → ∃ k, steeplelaw02_TowerLevels.f k x0 x1 x2.f0.f0 x2.f0.f1 x2.f1.f0 x2.f1.f1 x2.f2.f0 x2.f2.f1 = some true

end Go.Proofs.Ytbjjjdallodbgaa.P
