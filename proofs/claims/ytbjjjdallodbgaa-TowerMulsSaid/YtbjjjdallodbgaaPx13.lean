/- Written by a program of this session: functions that the law reaches, as Lean functions, and that the code comes to their answers. Conditions: those that each theorem names. -/
import Derived.Test.YtbjjjdallodbgaaPx0
import Derived.Test.YtbjjjdallodbgaaPx4
import Derived.Test.YtbjjjdallodbgaaPx6
import Derived.Test.YtbjjjdallodbgaaPx8
import Derived.Test.YtbjjjdallodbgaaPx11
import Derived.Test.YtbjjjdallodbgaaPx12
namespace Go.Proofs.Ytbjjjdallodbgaa.P
open Go.RowKit Go.Proofs.YtbjjjdallodbgaaW.PrintWords Go.Proofs.YtbjjjdallodbgaaW.PrintLast Go.Proofs.YtbjjjdallodbgaaW.PrintMore
attribute [local go_sem] max2_int min2_int max_two min_two max_three min_three max_four min_four   -- for this text's walks alone
set_option linter.unusedVariables false
set_option linter.unusedSimpArgs false

/-! ### steeplelaw02_TowerMuls: function 6 -/
def steeplelaw02_TowerMuls.f (k : Nat) (a0 : Int) (a1_0 : Int) (a1_1 : Int) (a2_0 : Int) (a2_1 : Int) : Option (Bool) := (steepleref02_X.f k a0).bind fun bt368 => ((steeplelaw02_awake.f k).bind fun t371 => (if t371 = true then ((tower_Add.f a1_0 a1_1 a2_0 a2_1).bind fun bt372 => ((steeplelaw02_ref.f a1_0 a1_1).bind fun bt374 => ((steeplelaw02_ref.f a2_0 a2_1).bind fun bt376 => ((steepleref02_Add.f bt374.1 bt374.2 bt376.1 bt376.2).bind fun bt378 => ((steeplelaw02_same.f bt372.1 bt372.2 bt378.1 bt378.2).bind fun t380 => (if t380 = true then ((tower_Mul.f k a0 a1_0 a1_1 a2_0 a2_1).bind fun bt381 => ((steeplelaw02_ref.f a1_0 a1_1).bind fun bt383 => ((steeplelaw02_ref.f a2_0 a2_1).bind fun bt385 => ((steepleref02_Mul.f k a0 bt383.1 bt383.2 bt385.1 bt385.2).bind fun bt387 => ((steeplelaw02_same.f bt381.1 bt381.2 bt387.1 bt387.2).bind fun t389 => (if t389 = true then ((tower_Square.f k a0 a1_0 a1_1).bind fun bt390 => ((steeplelaw02_ref.f a1_0 a1_1).bind fun bt392 => ((steeplelaw02_ref.f a1_0 a1_1).bind fun bt394 => ((steepleref02_Mul.f k a0 bt392.1 bt392.2 bt394.1 bt394.2).bind fun bt396 => ((steeplelaw02_same.f bt390.1 bt390.2 bt396.1 bt396.2).bind fun t398 => (if t398 = true then ((tower_MulX.f k a0 a1_0 a1_1).bind fun bt399 => ((steeplelaw02_ref.f a1_0 a1_1).bind fun bt401 => ((steepleref02_Mul.f k a0 bt401.1 bt401.2 bt368.1 bt368.2).bind fun bt403 => ((steeplelaw02_same.f bt399.1 bt399.2 bt403.1 bt403.2).bind fun t405 => (if t405 = true then ((tower_X.f k a0).bind fun bt406 => ((steeplelaw02_same.f bt406.1 bt406.2 bt368.1 bt368.2).bind fun t408 => (some t408))) else (none)))))) else (none))))))) else (none))))))) else (none))))))) else (none)))
theorem steeplelaw02_TowerMuls.mono : ∀ a0 a1 a2 a3 a4 k, LeO (steeplelaw02_TowerMuls.f k a0 a1 a2 a3 a4) (steeplelaw02_TowerMuls.f (k + 1) a0 a1 a2 a3 a4) := by
 intro a0 a1 a2 a3 a4 k
 unfold steeplelaw02_TowerMuls.f
 repeat' first
   | (with_reducible exact steeplelaw02_awake.mono _)
   | (with_reducible exact steepleref02_Mul.mono _ _ _ _ _ _)
   | (with_reducible exact steepleref02_X.mono _ _)
   | (with_reducible exact tower_Mul.mono _ _ _ _ _ _)
   | (with_reducible exact tower_MulX.mono _ _ _ _)
   | (with_reducible exact tower_Square.mono _ _ _ _)
   | (with_reducible exact tower_X.mono _ _)
   | (with_reducible exact LeO.refl _)
   | (with_reducible exact LeO.none _)
   | (with_reducible refine LeO.ite ?_ ?_)
   | (with_reducible refine LeO.bind ?_ (fun _ => ?_))
   | exact steeplelaw02_awake.mono _
   | exact steepleref02_Mul.mono _ _ _ _ _ _
   | exact steepleref02_X.mono _ _
   | exact tower_Mul.mono _ _ _ _ _ _
   | exact tower_MulX.mono _ _ _ _
   | exact tower_Square.mono _ _ _ _
   | exact tower_X.mono _ _
   | exact LeO.none _
   | refine LeO.ite ?_ ?_
   | refine LeO.bind ?_ (fun _ => ?_)
def steeplelaw02_TowerMuls.T2 : Bool × List (List Nat × List Nat) := (true, [([], []), ([0, 0], [0]), ([1], [1]), ([1], [1]), ([2, 3, 1, 1], [1, 2, 3]), ([1], [1]), ([5, 4, 1], [1, 5]), ([1], [1]), ([7, 6, 1], [1, 7]), ([6, 8, 8, 1], [1, 6, 8]), ([4, 9, 9, 1], [1, 4, 9]), ([1, 10], [1, 10]), ([11, 10], [11]), ([12], [12]), ([12], [12]), ([12], [12]), ([13, 14, 15, 12, 12], [12, 13, 14, 15]), ([12], [12]), ([12], [12]), ([18, 16, 12], [12, 18]), ([12], [12]), ([20, 19, 12], [12, 20]), ([17, 19, 21, 21, 12], [12, 17, 19, 21]), ([16, 22, 22, 12], [12, 16, 22]), ([12, 23], [12, 23]), ([24, 23], [24]), ([25], [25]), ([25], [25]), ([26, 27, 25, 25], [25, 26, 27]), ([25], [25]), ([25], [25]), ([30, 28, 25], [25, 30]), ([25], [25]), ([32, 31, 25], [25, 32]), ([29, 31, 33, 33, 25], [25, 29, 31, 33]), ([28, 34, 34, 25], [25, 28, 34]), ([25, 35], [25, 35]), ([36, 35], [36]), ([37], [37]), ([37], [37]), ([38, 39, 37, 37], [37, 38, 39]), ([37], [37]), ([37], [37]), ([42, 40, 37], [37, 42]), ([37], [37]), ([41, 43, 44, 43, 37], [37, 41, 43, 44]), ([40, 45, 45, 37], [37, 40, 45]), ([37, 46], [37, 46]), ([47, 46], [47]), ([48], [48]), ([49, 48, 48], [48, 49]), ([48], [48]), ([50, 51, 50, 48], [48, 50, 51]), ([48, 52], [48, 52]), ([53, 52, 0, 1, 2, 3, 4, 5, 6, 7, 8, 9, 10, 11, 12, 13, 14, 15, 16, 17, 18, 19, 20, 21, 22, 23, 24, 25, 26, 27, 28, 29, 30, 31, 32, 33, 34, 35, 36, 37, 38, 39, 40, 41, 42, 43, 44, 45, 46, 47, 48, 49, 50, 51, 52, 53], [53])])
def steeplelaw02_TowerMuls.B2 : List Nat := [0, 1, 3, 3, 15, 3, 63, 3, 255, 511, 1023, 2047, 4095, 8191, 8191, 8191, 65535, 8191, 8191, 393215, 8191, 1966079, 4194303, 8388607, 16777215, 33554431, 67108863, 67108863, 268435455, 67108863, 67108863, 1610612735, 67108863, 8053063679, 17179869183, 34359738367, 68719476735, 137438953471, 274877906943, 274877906943, 1099511627775, 274877906943, 274877906943, 6597069766655, 274877906943, 35184372088831, 70368744177663, 140737488355327, 281474976710655, 562949953421311, 1125899906842623, 562949953421311, 4503599627370495, 9007199254740991, 18014398509481983]
theorem steeplelaw02_TowerMuls.tab2 : rtab .any (opsOf Try.f6 2) = steeplelaw02_TowerMuls.T2 := by kernel_rfl
theorem steeplelaw02_TowerMuls.bits2 : waitsOk steeplelaw02_TowerMuls.T2.2 steeplelaw02_TowerMuls.B2 = true := by kernel_rfl
set_option maxHeartbeats 8000000 in
set_option maxRecDepth 100000 in
theorem steeplelaw02_TowerMuls.calls (k : Nat) (a0 : Int) (a1_0 : Int) (a1_1 : Int) (a2_0 : Int) (a2_1 : Int) (r : Bool) (w : World) (h : steeplelaw02_TowerMuls.f k a0 a1_0 a1_1 a2_0 a2_1 = some r) :
  Calls Try.prog 6 #[.int .i64 a0, .agg #[.int .u64 a1_0, .int .u64 a1_1], .agg #[.int .u64 a2_0, .int .u64 a2_1]] w fun e w' => e = .returned (.bool r) ∧ Below w.heap.size w w' := by
 have hu24 := Try.underlying24
 have hu39 := Try.underlying39
 have HB := Aside0.mk (Below.refl w.heap.size w)
 have H : ((steepleref02_X.f k a0).bind fun bt368 => ((steeplelaw02_awake.f k).bind fun t371 => (if t371 = true then ((tower_Add.f a1_0 a1_1 a2_0 a2_1).bind fun bt372 => ((steeplelaw02_ref.f a1_0 a1_1).bind fun bt374 => ((steeplelaw02_ref.f a2_0 a2_1).bind fun bt376 => ((steepleref02_Add.f bt374.1 bt374.2 bt376.1 bt376.2).bind fun bt378 => ((steeplelaw02_same.f bt372.1 bt372.2 bt378.1 bt378.2).bind fun t380 => (if t380 = true then ((tower_Mul.f k a0 a1_0 a1_1 a2_0 a2_1).bind fun bt381 => ((steeplelaw02_ref.f a1_0 a1_1).bind fun bt383 => ((steeplelaw02_ref.f a2_0 a2_1).bind fun bt385 => ((steepleref02_Mul.f k a0 bt383.1 bt383.2 bt385.1 bt385.2).bind fun bt387 => ((steeplelaw02_same.f bt381.1 bt381.2 bt387.1 bt387.2).bind fun t389 => (if t389 = true then ((tower_Square.f k a0 a1_0 a1_1).bind fun bt390 => ((steeplelaw02_ref.f a1_0 a1_1).bind fun bt392 => ((steeplelaw02_ref.f a1_0 a1_1).bind fun bt394 => ((steepleref02_Mul.f k a0 bt392.1 bt392.2 bt394.1 bt394.2).bind fun bt396 => ((steeplelaw02_same.f bt390.1 bt390.2 bt396.1 bt396.2).bind fun t398 => (if t398 = true then ((tower_MulX.f k a0 a1_0 a1_1).bind fun bt399 => ((steeplelaw02_ref.f a1_0 a1_1).bind fun bt401 => ((steepleref02_Mul.f k a0 bt401.1 bt401.2 bt368.1 bt368.2).bind fun bt403 => ((steeplelaw02_same.f bt399.1 bt399.2 bt403.1 bt403.2).bind fun t405 => (if t405 = true then ((tower_X.f k a0).bind fun bt406 => ((steeplelaw02_same.f bt406.1 bt406.2 bt368.1 bt368.2).bind fun t408 => (some t408))) else (none)))))) else (none))))))) else (none))))))) else (none))))))) else (none)))) = some r := h
 clear h
 replace H := Option.bind_eq_some_iff.mp H
 obtain ⟨⟨t368, t369⟩, A40, H⟩ := H
 replace H : ((steeplelaw02_awake.f k).bind fun t371 => (if t371 = true then ((tower_Add.f a1_0 a1_1 a2_0 a2_1).bind fun bt372 => ((steeplelaw02_ref.f a1_0 a1_1).bind fun bt374 => ((steeplelaw02_ref.f a2_0 a2_1).bind fun bt376 => ((steepleref02_Add.f bt374.1 bt374.2 bt376.1 bt376.2).bind fun bt378 => ((steeplelaw02_same.f bt372.1 bt372.2 bt378.1 bt378.2).bind fun t380 => (if t380 = true then ((tower_Mul.f k a0 a1_0 a1_1 a2_0 a2_1).bind fun bt381 => ((steeplelaw02_ref.f a1_0 a1_1).bind fun bt383 => ((steeplelaw02_ref.f a2_0 a2_1).bind fun bt385 => ((steepleref02_Mul.f k a0 bt383.1 bt383.2 bt385.1 bt385.2).bind fun bt387 => ((steeplelaw02_same.f bt381.1 bt381.2 bt387.1 bt387.2).bind fun t389 => (if t389 = true then ((tower_Square.f k a0 a1_0 a1_1).bind fun bt390 => ((steeplelaw02_ref.f a1_0 a1_1).bind fun bt392 => ((steeplelaw02_ref.f a1_0 a1_1).bind fun bt394 => ((steepleref02_Mul.f k a0 bt392.1 bt392.2 bt394.1 bt394.2).bind fun bt396 => ((steeplelaw02_same.f bt390.1 bt390.2 bt396.1 bt396.2).bind fun t398 => (if t398 = true then ((tower_MulX.f k a0 a1_0 a1_1).bind fun bt399 => ((steeplelaw02_ref.f a1_0 a1_1).bind fun bt401 => ((steepleref02_Mul.f k a0 bt401.1 bt401.2 t368 t369).bind fun bt403 => ((steeplelaw02_same.f bt399.1 bt399.2 bt403.1 bt403.2).bind fun t405 => (if t405 = true then ((tower_X.f k a0).bind fun bt406 => ((steeplelaw02_same.f bt406.1 bt406.2 t368 t369).bind fun t408 => (some t408))) else (none)))))) else (none))))))) else (none))))))) else (none))))))) else (none))) = some r := H
 have A4 := Aside0.mk A40
 clear A40
 replace H := Option.bind_eq_some_iff.mp H
 obtain ⟨t371, A50, H⟩ := H
 replace H : (if t371 = true then ((tower_Add.f a1_0 a1_1 a2_0 a2_1).bind fun bt372 => ((steeplelaw02_ref.f a1_0 a1_1).bind fun bt374 => ((steeplelaw02_ref.f a2_0 a2_1).bind fun bt376 => ((steepleref02_Add.f bt374.1 bt374.2 bt376.1 bt376.2).bind fun bt378 => ((steeplelaw02_same.f bt372.1 bt372.2 bt378.1 bt378.2).bind fun t380 => (if t380 = true then ((tower_Mul.f k a0 a1_0 a1_1 a2_0 a2_1).bind fun bt381 => ((steeplelaw02_ref.f a1_0 a1_1).bind fun bt383 => ((steeplelaw02_ref.f a2_0 a2_1).bind fun bt385 => ((steepleref02_Mul.f k a0 bt383.1 bt383.2 bt385.1 bt385.2).bind fun bt387 => ((steeplelaw02_same.f bt381.1 bt381.2 bt387.1 bt387.2).bind fun t389 => (if t389 = true then ((tower_Square.f k a0 a1_0 a1_1).bind fun bt390 => ((steeplelaw02_ref.f a1_0 a1_1).bind fun bt392 => ((steeplelaw02_ref.f a1_0 a1_1).bind fun bt394 => ((steepleref02_Mul.f k a0 bt392.1 bt392.2 bt394.1 bt394.2).bind fun bt396 => ((steeplelaw02_same.f bt390.1 bt390.2 bt396.1 bt396.2).bind fun t398 => (if t398 = true then ((tower_MulX.f k a0 a1_0 a1_1).bind fun bt399 => ((steeplelaw02_ref.f a1_0 a1_1).bind fun bt401 => ((steepleref02_Mul.f k a0 bt401.1 bt401.2 t368 t369).bind fun bt403 => ((steeplelaw02_same.f bt399.1 bt399.2 bt403.1 bt403.2).bind fun t405 => (if t405 = true then ((tower_X.f k a0).bind fun bt406 => ((steeplelaw02_same.f bt406.1 bt406.2 t368 t369).bind fun t408 => (some t408))) else (none)))))) else (none))))))) else (none))))))) else (none))))))) else (none)) = some r := H
 have A5 := Aside0.mk A50
 clear A50
 by_cases c6 : t371 = true
 ·subst c6
  have H1 : ((tower_Add.f a1_0 a1_1 a2_0 a2_1).bind fun bt372 => ((steeplelaw02_ref.f a1_0 a1_1).bind fun bt374 => ((steeplelaw02_ref.f a2_0 a2_1).bind fun bt376 => ((steepleref02_Add.f bt374.1 bt374.2 bt376.1 bt376.2).bind fun bt378 => ((steeplelaw02_same.f bt372.1 bt372.2 bt378.1 bt378.2).bind fun t380 => (if t380 = true then ((tower_Mul.f k a0 a1_0 a1_1 a2_0 a2_1).bind fun bt381 => ((steeplelaw02_ref.f a1_0 a1_1).bind fun bt383 => ((steeplelaw02_ref.f a2_0 a2_1).bind fun bt385 => ((steepleref02_Mul.f k a0 bt383.1 bt383.2 bt385.1 bt385.2).bind fun bt387 => ((steeplelaw02_same.f bt381.1 bt381.2 bt387.1 bt387.2).bind fun t389 => (if t389 = true then ((tower_Square.f k a0 a1_0 a1_1).bind fun bt390 => ((steeplelaw02_ref.f a1_0 a1_1).bind fun bt392 => ((steeplelaw02_ref.f a1_0 a1_1).bind fun bt394 => ((steepleref02_Mul.f k a0 bt392.1 bt392.2 bt394.1 bt394.2).bind fun bt396 => ((steeplelaw02_same.f bt390.1 bt390.2 bt396.1 bt396.2).bind fun t398 => (if t398 = true then ((tower_MulX.f k a0 a1_0 a1_1).bind fun bt399 => ((steeplelaw02_ref.f a1_0 a1_1).bind fun bt401 => ((steepleref02_Mul.f k a0 bt401.1 bt401.2 t368 t369).bind fun bt403 => ((steeplelaw02_same.f bt399.1 bt399.2 bt403.1 bt403.2).bind fun t405 => (if t405 = true then ((tower_X.f k a0).bind fun bt406 => ((steeplelaw02_same.f bt406.1 bt406.2 t368 t369).bind fun t408 => (some t408))) else (none)))))) else (none))))))) else (none))))))) else (none))))))) = some r := by rw [if_pos rfl] at H; exact H
  clear H
  have H := H1
  clear H1
  replace H := Option.bind_eq_some_iff.mp H
  obtain ⟨⟨t372, t373⟩, A70, H⟩ := H
  replace H : ((steeplelaw02_ref.f a1_0 a1_1).bind fun bt374 => ((steeplelaw02_ref.f a2_0 a2_1).bind fun bt376 => ((steepleref02_Add.f bt374.1 bt374.2 bt376.1 bt376.2).bind fun bt378 => ((steeplelaw02_same.f t372 t373 bt378.1 bt378.2).bind fun t380 => (if t380 = true then ((tower_Mul.f k a0 a1_0 a1_1 a2_0 a2_1).bind fun bt381 => ((steeplelaw02_ref.f a1_0 a1_1).bind fun bt383 => ((steeplelaw02_ref.f a2_0 a2_1).bind fun bt385 => ((steepleref02_Mul.f k a0 bt383.1 bt383.2 bt385.1 bt385.2).bind fun bt387 => ((steeplelaw02_same.f bt381.1 bt381.2 bt387.1 bt387.2).bind fun t389 => (if t389 = true then ((tower_Square.f k a0 a1_0 a1_1).bind fun bt390 => ((steeplelaw02_ref.f a1_0 a1_1).bind fun bt392 => ((steeplelaw02_ref.f a1_0 a1_1).bind fun bt394 => ((steepleref02_Mul.f k a0 bt392.1 bt392.2 bt394.1 bt394.2).bind fun bt396 => ((steeplelaw02_same.f bt390.1 bt390.2 bt396.1 bt396.2).bind fun t398 => (if t398 = true then ((tower_MulX.f k a0 a1_0 a1_1).bind fun bt399 => ((steeplelaw02_ref.f a1_0 a1_1).bind fun bt401 => ((steepleref02_Mul.f k a0 bt401.1 bt401.2 t368 t369).bind fun bt403 => ((steeplelaw02_same.f bt399.1 bt399.2 bt403.1 bt403.2).bind fun t405 => (if t405 = true then ((tower_X.f k a0).bind fun bt406 => ((steeplelaw02_same.f bt406.1 bt406.2 t368 t369).bind fun t408 => (some t408))) else (none)))))) else (none))))))) else (none))))))) else (none)))))) = some r := H
  have A7 := Aside0.mk A70
  clear A70
  replace H := Option.bind_eq_some_iff.mp H
  obtain ⟨⟨t374, t375⟩, A80, H⟩ := H
  replace H : ((steeplelaw02_ref.f a2_0 a2_1).bind fun bt376 => ((steepleref02_Add.f t374 t375 bt376.1 bt376.2).bind fun bt378 => ((steeplelaw02_same.f t372 t373 bt378.1 bt378.2).bind fun t380 => (if t380 = true then ((tower_Mul.f k a0 a1_0 a1_1 a2_0 a2_1).bind fun bt381 => ((steeplelaw02_ref.f a1_0 a1_1).bind fun bt383 => ((steeplelaw02_ref.f a2_0 a2_1).bind fun bt385 => ((steepleref02_Mul.f k a0 bt383.1 bt383.2 bt385.1 bt385.2).bind fun bt387 => ((steeplelaw02_same.f bt381.1 bt381.2 bt387.1 bt387.2).bind fun t389 => (if t389 = true then ((tower_Square.f k a0 a1_0 a1_1).bind fun bt390 => ((steeplelaw02_ref.f a1_0 a1_1).bind fun bt392 => ((steeplelaw02_ref.f a1_0 a1_1).bind fun bt394 => ((steepleref02_Mul.f k a0 bt392.1 bt392.2 bt394.1 bt394.2).bind fun bt396 => ((steeplelaw02_same.f bt390.1 bt390.2 bt396.1 bt396.2).bind fun t398 => (if t398 = true then ((tower_MulX.f k a0 a1_0 a1_1).bind fun bt399 => ((steeplelaw02_ref.f a1_0 a1_1).bind fun bt401 => ((steepleref02_Mul.f k a0 bt401.1 bt401.2 t368 t369).bind fun bt403 => ((steeplelaw02_same.f bt399.1 bt399.2 bt403.1 bt403.2).bind fun t405 => (if t405 = true then ((tower_X.f k a0).bind fun bt406 => ((steeplelaw02_same.f bt406.1 bt406.2 t368 t369).bind fun t408 => (some t408))) else (none)))))) else (none))))))) else (none))))))) else (none))))) = some r := H
  have A8 := Aside0.mk A80
  clear A80
  replace H := Option.bind_eq_some_iff.mp H
  obtain ⟨⟨t376, t377⟩, A90, H⟩ := H
  replace H : ((steepleref02_Add.f t374 t375 t376 t377).bind fun bt378 => ((steeplelaw02_same.f t372 t373 bt378.1 bt378.2).bind fun t380 => (if t380 = true then ((tower_Mul.f k a0 a1_0 a1_1 a2_0 a2_1).bind fun bt381 => ((steeplelaw02_ref.f a1_0 a1_1).bind fun bt383 => ((steeplelaw02_ref.f a2_0 a2_1).bind fun bt385 => ((steepleref02_Mul.f k a0 bt383.1 bt383.2 bt385.1 bt385.2).bind fun bt387 => ((steeplelaw02_same.f bt381.1 bt381.2 bt387.1 bt387.2).bind fun t389 => (if t389 = true then ((tower_Square.f k a0 a1_0 a1_1).bind fun bt390 => ((steeplelaw02_ref.f a1_0 a1_1).bind fun bt392 => ((steeplelaw02_ref.f a1_0 a1_1).bind fun bt394 => ((steepleref02_Mul.f k a0 bt392.1 bt392.2 bt394.1 bt394.2).bind fun bt396 => ((steeplelaw02_same.f bt390.1 bt390.2 bt396.1 bt396.2).bind fun t398 => (if t398 = true then ((tower_MulX.f k a0 a1_0 a1_1).bind fun bt399 => ((steeplelaw02_ref.f a1_0 a1_1).bind fun bt401 => ((steepleref02_Mul.f k a0 bt401.1 bt401.2 t368 t369).bind fun bt403 => ((steeplelaw02_same.f bt399.1 bt399.2 bt403.1 bt403.2).bind fun t405 => (if t405 = true then ((tower_X.f k a0).bind fun bt406 => ((steeplelaw02_same.f bt406.1 bt406.2 t368 t369).bind fun t408 => (some t408))) else (none)))))) else (none))))))) else (none))))))) else (none)))) = some r := H
  have A9 := Aside0.mk A90
  clear A90
  replace H := Option.bind_eq_some_iff.mp H
  obtain ⟨⟨t378, t379⟩, A100, H⟩ := H
  replace H : ((steeplelaw02_same.f t372 t373 t378 t379).bind fun t380 => (if t380 = true then ((tower_Mul.f k a0 a1_0 a1_1 a2_0 a2_1).bind fun bt381 => ((steeplelaw02_ref.f a1_0 a1_1).bind fun bt383 => ((steeplelaw02_ref.f a2_0 a2_1).bind fun bt385 => ((steepleref02_Mul.f k a0 bt383.1 bt383.2 bt385.1 bt385.2).bind fun bt387 => ((steeplelaw02_same.f bt381.1 bt381.2 bt387.1 bt387.2).bind fun t389 => (if t389 = true then ((tower_Square.f k a0 a1_0 a1_1).bind fun bt390 => ((steeplelaw02_ref.f a1_0 a1_1).bind fun bt392 => ((steeplelaw02_ref.f a1_0 a1_1).bind fun bt394 => ((steepleref02_Mul.f k a0 bt392.1 bt392.2 bt394.1 bt394.2).bind fun bt396 => ((steeplelaw02_same.f bt390.1 bt390.2 bt396.1 bt396.2).bind fun t398 => (if t398 = true then ((tower_MulX.f k a0 a1_0 a1_1).bind fun bt399 => ((steeplelaw02_ref.f a1_0 a1_1).bind fun bt401 => ((steepleref02_Mul.f k a0 bt401.1 bt401.2 t368 t369).bind fun bt403 => ((steeplelaw02_same.f bt399.1 bt399.2 bt403.1 bt403.2).bind fun t405 => (if t405 = true then ((tower_X.f k a0).bind fun bt406 => ((steeplelaw02_same.f bt406.1 bt406.2 t368 t369).bind fun t408 => (some t408))) else (none)))))) else (none))))))) else (none))))))) else (none))) = some r := H
  have A10 := Aside0.mk A100
  clear A100
  replace H := Option.bind_eq_some_iff.mp H
  obtain ⟨t380, A110, H⟩ := H
  replace H : (if t380 = true then ((tower_Mul.f k a0 a1_0 a1_1 a2_0 a2_1).bind fun bt381 => ((steeplelaw02_ref.f a1_0 a1_1).bind fun bt383 => ((steeplelaw02_ref.f a2_0 a2_1).bind fun bt385 => ((steepleref02_Mul.f k a0 bt383.1 bt383.2 bt385.1 bt385.2).bind fun bt387 => ((steeplelaw02_same.f bt381.1 bt381.2 bt387.1 bt387.2).bind fun t389 => (if t389 = true then ((tower_Square.f k a0 a1_0 a1_1).bind fun bt390 => ((steeplelaw02_ref.f a1_0 a1_1).bind fun bt392 => ((steeplelaw02_ref.f a1_0 a1_1).bind fun bt394 => ((steepleref02_Mul.f k a0 bt392.1 bt392.2 bt394.1 bt394.2).bind fun bt396 => ((steeplelaw02_same.f bt390.1 bt390.2 bt396.1 bt396.2).bind fun t398 => (if t398 = true then ((tower_MulX.f k a0 a1_0 a1_1).bind fun bt399 => ((steeplelaw02_ref.f a1_0 a1_1).bind fun bt401 => ((steepleref02_Mul.f k a0 bt401.1 bt401.2 t368 t369).bind fun bt403 => ((steeplelaw02_same.f bt399.1 bt399.2 bt403.1 bt403.2).bind fun t405 => (if t405 = true then ((tower_X.f k a0).bind fun bt406 => ((steeplelaw02_same.f bt406.1 bt406.2 t368 t369).bind fun t408 => (some t408))) else (none)))))) else (none))))))) else (none))))))) else (none)) = some r := H
  have A11 := Aside0.mk A110
  clear A110
  by_cases c12 : t380 = true
  ·subst c12
   have H1 : ((tower_Mul.f k a0 a1_0 a1_1 a2_0 a2_1).bind fun bt381 => ((steeplelaw02_ref.f a1_0 a1_1).bind fun bt383 => ((steeplelaw02_ref.f a2_0 a2_1).bind fun bt385 => ((steepleref02_Mul.f k a0 bt383.1 bt383.2 bt385.1 bt385.2).bind fun bt387 => ((steeplelaw02_same.f bt381.1 bt381.2 bt387.1 bt387.2).bind fun t389 => (if t389 = true then ((tower_Square.f k a0 a1_0 a1_1).bind fun bt390 => ((steeplelaw02_ref.f a1_0 a1_1).bind fun bt392 => ((steeplelaw02_ref.f a1_0 a1_1).bind fun bt394 => ((steepleref02_Mul.f k a0 bt392.1 bt392.2 bt394.1 bt394.2).bind fun bt396 => ((steeplelaw02_same.f bt390.1 bt390.2 bt396.1 bt396.2).bind fun t398 => (if t398 = true then ((tower_MulX.f k a0 a1_0 a1_1).bind fun bt399 => ((steeplelaw02_ref.f a1_0 a1_1).bind fun bt401 => ((steepleref02_Mul.f k a0 bt401.1 bt401.2 t368 t369).bind fun bt403 => ((steeplelaw02_same.f bt399.1 bt399.2 bt403.1 bt403.2).bind fun t405 => (if t405 = true then ((tower_X.f k a0).bind fun bt406 => ((steeplelaw02_same.f bt406.1 bt406.2 t368 t369).bind fun t408 => (some t408))) else (none)))))) else (none))))))) else (none))))))) = some r := by rw [if_pos rfl] at H; exact H
   clear H
   have H := H1
   clear H1
   replace H := Option.bind_eq_some_iff.mp H
   obtain ⟨⟨t381, t382⟩, A130, H⟩ := H
   replace H : ((steeplelaw02_ref.f a1_0 a1_1).bind fun bt383 => ((steeplelaw02_ref.f a2_0 a2_1).bind fun bt385 => ((steepleref02_Mul.f k a0 bt383.1 bt383.2 bt385.1 bt385.2).bind fun bt387 => ((steeplelaw02_same.f t381 t382 bt387.1 bt387.2).bind fun t389 => (if t389 = true then ((tower_Square.f k a0 a1_0 a1_1).bind fun bt390 => ((steeplelaw02_ref.f a1_0 a1_1).bind fun bt392 => ((steeplelaw02_ref.f a1_0 a1_1).bind fun bt394 => ((steepleref02_Mul.f k a0 bt392.1 bt392.2 bt394.1 bt394.2).bind fun bt396 => ((steeplelaw02_same.f bt390.1 bt390.2 bt396.1 bt396.2).bind fun t398 => (if t398 = true then ((tower_MulX.f k a0 a1_0 a1_1).bind fun bt399 => ((steeplelaw02_ref.f a1_0 a1_1).bind fun bt401 => ((steepleref02_Mul.f k a0 bt401.1 bt401.2 t368 t369).bind fun bt403 => ((steeplelaw02_same.f bt399.1 bt399.2 bt403.1 bt403.2).bind fun t405 => (if t405 = true then ((tower_X.f k a0).bind fun bt406 => ((steeplelaw02_same.f bt406.1 bt406.2 t368 t369).bind fun t408 => (some t408))) else (none)))))) else (none))))))) else (none)))))) = some r := H
   have A13 := Aside0.mk A130
   clear A130
   replace H := Option.bind_eq_some_iff.mp H
   obtain ⟨⟨t383, t384⟩, A140, H⟩ := H
   replace H : ((steeplelaw02_ref.f a2_0 a2_1).bind fun bt385 => ((steepleref02_Mul.f k a0 t383 t384 bt385.1 bt385.2).bind fun bt387 => ((steeplelaw02_same.f t381 t382 bt387.1 bt387.2).bind fun t389 => (if t389 = true then ((tower_Square.f k a0 a1_0 a1_1).bind fun bt390 => ((steeplelaw02_ref.f a1_0 a1_1).bind fun bt392 => ((steeplelaw02_ref.f a1_0 a1_1).bind fun bt394 => ((steepleref02_Mul.f k a0 bt392.1 bt392.2 bt394.1 bt394.2).bind fun bt396 => ((steeplelaw02_same.f bt390.1 bt390.2 bt396.1 bt396.2).bind fun t398 => (if t398 = true then ((tower_MulX.f k a0 a1_0 a1_1).bind fun bt399 => ((steeplelaw02_ref.f a1_0 a1_1).bind fun bt401 => ((steepleref02_Mul.f k a0 bt401.1 bt401.2 t368 t369).bind fun bt403 => ((steeplelaw02_same.f bt399.1 bt399.2 bt403.1 bt403.2).bind fun t405 => (if t405 = true then ((tower_X.f k a0).bind fun bt406 => ((steeplelaw02_same.f bt406.1 bt406.2 t368 t369).bind fun t408 => (some t408))) else (none)))))) else (none))))))) else (none))))) = some r := H
   have A14 := Aside0.mk A140
   clear A140
   replace H := Option.bind_eq_some_iff.mp H
   obtain ⟨⟨t385, t386⟩, A150, H⟩ := H
   replace H : ((steepleref02_Mul.f k a0 t383 t384 t385 t386).bind fun bt387 => ((steeplelaw02_same.f t381 t382 bt387.1 bt387.2).bind fun t389 => (if t389 = true then ((tower_Square.f k a0 a1_0 a1_1).bind fun bt390 => ((steeplelaw02_ref.f a1_0 a1_1).bind fun bt392 => ((steeplelaw02_ref.f a1_0 a1_1).bind fun bt394 => ((steepleref02_Mul.f k a0 bt392.1 bt392.2 bt394.1 bt394.2).bind fun bt396 => ((steeplelaw02_same.f bt390.1 bt390.2 bt396.1 bt396.2).bind fun t398 => (if t398 = true then ((tower_MulX.f k a0 a1_0 a1_1).bind fun bt399 => ((steeplelaw02_ref.f a1_0 a1_1).bind fun bt401 => ((steepleref02_Mul.f k a0 bt401.1 bt401.2 t368 t369).bind fun bt403 => ((steeplelaw02_same.f bt399.1 bt399.2 bt403.1 bt403.2).bind fun t405 => (if t405 = true then ((tower_X.f k a0).bind fun bt406 => ((steeplelaw02_same.f bt406.1 bt406.2 t368 t369).bind fun t408 => (some t408))) else (none)))))) else (none))))))) else (none)))) = some r := H
   have A15 := Aside0.mk A150
   clear A150
   replace H := Option.bind_eq_some_iff.mp H
   obtain ⟨⟨t387, t388⟩, A160, H⟩ := H
   replace H : ((steeplelaw02_same.f t381 t382 t387 t388).bind fun t389 => (if t389 = true then ((tower_Square.f k a0 a1_0 a1_1).bind fun bt390 => ((steeplelaw02_ref.f a1_0 a1_1).bind fun bt392 => ((steeplelaw02_ref.f a1_0 a1_1).bind fun bt394 => ((steepleref02_Mul.f k a0 bt392.1 bt392.2 bt394.1 bt394.2).bind fun bt396 => ((steeplelaw02_same.f bt390.1 bt390.2 bt396.1 bt396.2).bind fun t398 => (if t398 = true then ((tower_MulX.f k a0 a1_0 a1_1).bind fun bt399 => ((steeplelaw02_ref.f a1_0 a1_1).bind fun bt401 => ((steepleref02_Mul.f k a0 bt401.1 bt401.2 t368 t369).bind fun bt403 => ((steeplelaw02_same.f bt399.1 bt399.2 bt403.1 bt403.2).bind fun t405 => (if t405 = true then ((tower_X.f k a0).bind fun bt406 => ((steeplelaw02_same.f bt406.1 bt406.2 t368 t369).bind fun t408 => (some t408))) else (none)))))) else (none))))))) else (none))) = some r := H
   have A16 := Aside0.mk A160
   clear A160
   replace H := Option.bind_eq_some_iff.mp H
   obtain ⟨t389, A170, H⟩ := H
   replace H : (if t389 = true then ((tower_Square.f k a0 a1_0 a1_1).bind fun bt390 => ((steeplelaw02_ref.f a1_0 a1_1).bind fun bt392 => ((steeplelaw02_ref.f a1_0 a1_1).bind fun bt394 => ((steepleref02_Mul.f k a0 bt392.1 bt392.2 bt394.1 bt394.2).bind fun bt396 => ((steeplelaw02_same.f bt390.1 bt390.2 bt396.1 bt396.2).bind fun t398 => (if t398 = true then ((tower_MulX.f k a0 a1_0 a1_1).bind fun bt399 => ((steeplelaw02_ref.f a1_0 a1_1).bind fun bt401 => ((steepleref02_Mul.f k a0 bt401.1 bt401.2 t368 t369).bind fun bt403 => ((steeplelaw02_same.f bt399.1 bt399.2 bt403.1 bt403.2).bind fun t405 => (if t405 = true then ((tower_X.f k a0).bind fun bt406 => ((steeplelaw02_same.f bt406.1 bt406.2 t368 t369).bind fun t408 => (some t408))) else (none)))))) else (none))))))) else (none)) = some r := H
   have A17 := Aside0.mk A170
   clear A170
   by_cases c18 : t389 = true
   ·subst c18
    have H1 : ((tower_Square.f k a0 a1_0 a1_1).bind fun bt390 => ((steeplelaw02_ref.f a1_0 a1_1).bind fun bt392 => ((steeplelaw02_ref.f a1_0 a1_1).bind fun bt394 => ((steepleref02_Mul.f k a0 bt392.1 bt392.2 bt394.1 bt394.2).bind fun bt396 => ((steeplelaw02_same.f bt390.1 bt390.2 bt396.1 bt396.2).bind fun t398 => (if t398 = true then ((tower_MulX.f k a0 a1_0 a1_1).bind fun bt399 => ((steeplelaw02_ref.f a1_0 a1_1).bind fun bt401 => ((steepleref02_Mul.f k a0 bt401.1 bt401.2 t368 t369).bind fun bt403 => ((steeplelaw02_same.f bt399.1 bt399.2 bt403.1 bt403.2).bind fun t405 => (if t405 = true then ((tower_X.f k a0).bind fun bt406 => ((steeplelaw02_same.f bt406.1 bt406.2 t368 t369).bind fun t408 => (some t408))) else (none)))))) else (none))))))) = some r := by rw [if_pos rfl] at H; exact H
    clear H
    have H := H1
    clear H1
    replace H := Option.bind_eq_some_iff.mp H
    obtain ⟨⟨t390, t391⟩, A190, H⟩ := H
    replace H : ((steeplelaw02_ref.f a1_0 a1_1).bind fun bt392 => ((steeplelaw02_ref.f a1_0 a1_1).bind fun bt394 => ((steepleref02_Mul.f k a0 bt392.1 bt392.2 bt394.1 bt394.2).bind fun bt396 => ((steeplelaw02_same.f t390 t391 bt396.1 bt396.2).bind fun t398 => (if t398 = true then ((tower_MulX.f k a0 a1_0 a1_1).bind fun bt399 => ((steeplelaw02_ref.f a1_0 a1_1).bind fun bt401 => ((steepleref02_Mul.f k a0 bt401.1 bt401.2 t368 t369).bind fun bt403 => ((steeplelaw02_same.f bt399.1 bt399.2 bt403.1 bt403.2).bind fun t405 => (if t405 = true then ((tower_X.f k a0).bind fun bt406 => ((steeplelaw02_same.f bt406.1 bt406.2 t368 t369).bind fun t408 => (some t408))) else (none)))))) else (none)))))) = some r := H
    have A19 := Aside0.mk A190
    clear A190
    replace H := Option.bind_eq_some_iff.mp H
    obtain ⟨⟨t392, t393⟩, A200, H⟩ := H
    replace H : ((steeplelaw02_ref.f a1_0 a1_1).bind fun bt394 => ((steepleref02_Mul.f k a0 t392 t393 bt394.1 bt394.2).bind fun bt396 => ((steeplelaw02_same.f t390 t391 bt396.1 bt396.2).bind fun t398 => (if t398 = true then ((tower_MulX.f k a0 a1_0 a1_1).bind fun bt399 => ((steeplelaw02_ref.f a1_0 a1_1).bind fun bt401 => ((steepleref02_Mul.f k a0 bt401.1 bt401.2 t368 t369).bind fun bt403 => ((steeplelaw02_same.f bt399.1 bt399.2 bt403.1 bt403.2).bind fun t405 => (if t405 = true then ((tower_X.f k a0).bind fun bt406 => ((steeplelaw02_same.f bt406.1 bt406.2 t368 t369).bind fun t408 => (some t408))) else (none)))))) else (none))))) = some r := H
    have A20 := Aside0.mk A200
    clear A200
    replace H := Option.bind_eq_some_iff.mp H
    obtain ⟨⟨t394, t395⟩, A210, H⟩ := H
    replace H : ((steepleref02_Mul.f k a0 t392 t393 t394 t395).bind fun bt396 => ((steeplelaw02_same.f t390 t391 bt396.1 bt396.2).bind fun t398 => (if t398 = true then ((tower_MulX.f k a0 a1_0 a1_1).bind fun bt399 => ((steeplelaw02_ref.f a1_0 a1_1).bind fun bt401 => ((steepleref02_Mul.f k a0 bt401.1 bt401.2 t368 t369).bind fun bt403 => ((steeplelaw02_same.f bt399.1 bt399.2 bt403.1 bt403.2).bind fun t405 => (if t405 = true then ((tower_X.f k a0).bind fun bt406 => ((steeplelaw02_same.f bt406.1 bt406.2 t368 t369).bind fun t408 => (some t408))) else (none)))))) else (none)))) = some r := H
    have A21 := Aside0.mk A210
    clear A210
    replace H := Option.bind_eq_some_iff.mp H
    obtain ⟨⟨t396, t397⟩, A220, H⟩ := H
    replace H : ((steeplelaw02_same.f t390 t391 t396 t397).bind fun t398 => (if t398 = true then ((tower_MulX.f k a0 a1_0 a1_1).bind fun bt399 => ((steeplelaw02_ref.f a1_0 a1_1).bind fun bt401 => ((steepleref02_Mul.f k a0 bt401.1 bt401.2 t368 t369).bind fun bt403 => ((steeplelaw02_same.f bt399.1 bt399.2 bt403.1 bt403.2).bind fun t405 => (if t405 = true then ((tower_X.f k a0).bind fun bt406 => ((steeplelaw02_same.f bt406.1 bt406.2 t368 t369).bind fun t408 => (some t408))) else (none)))))) else (none))) = some r := H
    have A22 := Aside0.mk A220
    clear A220
    replace H := Option.bind_eq_some_iff.mp H
    obtain ⟨t398, A230, H⟩ := H
    replace H : (if t398 = true then ((tower_MulX.f k a0 a1_0 a1_1).bind fun bt399 => ((steeplelaw02_ref.f a1_0 a1_1).bind fun bt401 => ((steepleref02_Mul.f k a0 bt401.1 bt401.2 t368 t369).bind fun bt403 => ((steeplelaw02_same.f bt399.1 bt399.2 bt403.1 bt403.2).bind fun t405 => (if t405 = true then ((tower_X.f k a0).bind fun bt406 => ((steeplelaw02_same.f bt406.1 bt406.2 t368 t369).bind fun t408 => (some t408))) else (none)))))) else (none)) = some r := H
    have A23 := Aside0.mk A230
    clear A230
    by_cases c24 : t398 = true
    ·subst c24
     have H1 : ((tower_MulX.f k a0 a1_0 a1_1).bind fun bt399 => ((steeplelaw02_ref.f a1_0 a1_1).bind fun bt401 => ((steepleref02_Mul.f k a0 bt401.1 bt401.2 t368 t369).bind fun bt403 => ((steeplelaw02_same.f bt399.1 bt399.2 bt403.1 bt403.2).bind fun t405 => (if t405 = true then ((tower_X.f k a0).bind fun bt406 => ((steeplelaw02_same.f bt406.1 bt406.2 t368 t369).bind fun t408 => (some t408))) else (none)))))) = some r := by rw [if_pos rfl] at H; exact H
     clear H
     have H := H1
     clear H1
     replace H := Option.bind_eq_some_iff.mp H
     obtain ⟨⟨t399, t400⟩, A250, H⟩ := H
     replace H : ((steeplelaw02_ref.f a1_0 a1_1).bind fun bt401 => ((steepleref02_Mul.f k a0 bt401.1 bt401.2 t368 t369).bind fun bt403 => ((steeplelaw02_same.f t399 t400 bt403.1 bt403.2).bind fun t405 => (if t405 = true then ((tower_X.f k a0).bind fun bt406 => ((steeplelaw02_same.f bt406.1 bt406.2 t368 t369).bind fun t408 => (some t408))) else (none))))) = some r := H
     have A25 := Aside0.mk A250
     clear A250
     replace H := Option.bind_eq_some_iff.mp H
     obtain ⟨⟨t401, t402⟩, A260, H⟩ := H
     replace H : ((steepleref02_Mul.f k a0 t401 t402 t368 t369).bind fun bt403 => ((steeplelaw02_same.f t399 t400 bt403.1 bt403.2).bind fun t405 => (if t405 = true then ((tower_X.f k a0).bind fun bt406 => ((steeplelaw02_same.f bt406.1 bt406.2 t368 t369).bind fun t408 => (some t408))) else (none)))) = some r := H
     have A26 := Aside0.mk A260
     clear A260
     replace H := Option.bind_eq_some_iff.mp H
     obtain ⟨⟨t403, t404⟩, A270, H⟩ := H
     replace H : ((steeplelaw02_same.f t399 t400 t403 t404).bind fun t405 => (if t405 = true then ((tower_X.f k a0).bind fun bt406 => ((steeplelaw02_same.f bt406.1 bt406.2 t368 t369).bind fun t408 => (some t408))) else (none))) = some r := H
     have A27 := Aside0.mk A270
     clear A270
     replace H := Option.bind_eq_some_iff.mp H
     obtain ⟨t405, A280, H⟩ := H
     replace H : (if t405 = true then ((tower_X.f k a0).bind fun bt406 => ((steeplelaw02_same.f bt406.1 bt406.2 t368 t369).bind fun t408 => (some t408))) else (none)) = some r := H
     have A28 := Aside0.mk A280
     clear A280
     by_cases c29 : t405 = true
     ·subst c29
      have H1 : ((tower_X.f k a0).bind fun bt406 => ((steeplelaw02_same.f bt406.1 bt406.2 t368 t369).bind fun t408 => (some t408))) = some r := by rw [if_pos rfl] at H; exact H
      clear H
      have H := H1
      clear H1
      replace H := Option.bind_eq_some_iff.mp H
      obtain ⟨⟨t406, t407⟩, A300, H⟩ := H
      replace H : ((steeplelaw02_same.f t406 t407 t368 t369).bind fun t408 => (some t408)) = some r := H
      have A30 := Aside0.mk A300
      clear A300
      replace H := Option.bind_eq_some_iff.mp H
      obtain ⟨t408, A310, H⟩ := H
      replace H : (some t408) = some r := H
      have A31 := Aside0.mk A310
      clear A310
      obtain rfl := Option.some.inj H
      go_enter Try.func6, Try.ntmps6
      try go_wp2_with (first | ((with_reducible refine gate_dst (N := 4) rfl ?_); refine box_event ?hg (N := 4) ?hd (cs := #[.int .u64 a1_0, .int .u64 a1_1]) (t := 24) ?hr ?_; (case hd => rfl); (case hg => rfl); (case hr => first | (go_simp; done) | (go_simp; rfl)); intro gb366 hg w32 hbox hb; have n0_ := Aside0.mk (below_step (by repeat (first | (with_reducible first | exact HB.out | apply below_alloc | apply pw_below_drewN | apply below_drew1) | exact HB.out)) hb); have n1_ := Aside0.mk (hbox); have n2_ := Aside0.mk ((by rw [hg]; exact (below_size (by repeat (first | (with_reducible first | exact HB.out | apply below_alloc | apply pw_below_drewN | apply below_drew1) | exact HB.out))) : w.heap.size ≤ gb366)); have n3_ := Aside0.mk ((by rw [hg]; exact (below_size (by repeat (first | (with_reducible first | exact HB.out | apply below_alloc | apply pw_below_drewN | apply below_drew1) | exact HB.out))) : w.heap.size ≤ gb366)); clear HB; have HB := n0_; have BK366 := n1_; have GW366 := n2_; have GE366 := n3_; clear n0_ n1_ n2_ n3_; clear hb hbox hg) | ((with_reducible refine gate_dst (N := 5) rfl ?_); refine box_event ?hg (N := 5) ?hd (cs := #[.int .u64 a2_0, .int .u64 a2_1]) (t := 24) ?hr ?_; (case hd => rfl); (case hg => rfl); (case hr => first | (go_simp; done) | (go_simp; rfl)); intro gb367 hg w33 hbox hb; have n0_ := Aside0.mk (blk_below (g := gb366) (o := .cells #[.int .u64 a1_0, .int .u64 a1_1] 24 (0, 0)) (by (with_reducible repeat (first | refine blk_drewN ?_ _ | refine blk_drew ?_ | refine blk_alloc ?_ _)); exact BK366.out) hb); have n1_ := Aside0.mk (below_step (by repeat (first | (with_reducible first | exact HB.out | apply below_alloc | apply pw_below_drewN | apply below_drew1 | refine below_set ?_ GE366.out) | exact HB.out)) hb); have n2_ := Aside0.mk (hbox); have n3_ := Aside0.mk ((by rw [hg]; exact (below_size (by repeat (first | (with_reducible first | exact HB.out | apply below_alloc | apply pw_below_drewN | apply below_drew1 | refine below_set ?_ GE366.out) | exact HB.out))) : w.heap.size ≤ gb367)); have n4_ := Aside0.mk ((by rw [hg]; exact (below_size (by repeat (first | (with_reducible first | exact HB.out | apply below_alloc | apply pw_below_drewN | apply below_drew1 | refine below_set ?_ GE366.out) | exact HB.out))) : w.heap.size ≤ gb367)); have n5_ := Aside0.mk ((by rw [hg]; exact Nat.ne_of_lt (blk_lt (g := gb366) (o := .cells #[.int .u64 a1_0, .int .u64 a1_1] 24 (0, 0)) (by (with_reducible repeat (first | refine blk_drewN ?_ _ | refine blk_drew ?_ | refine blk_alloc ?_ _)); exact BK366.out)) : gb366 ≠ gb367)); have n6_ := Aside0.mk ((by rw [hg]; exact Nat.ne_of_gt (blk_lt (g := gb366) (o := .cells #[.int .u64 a1_0, .int .u64 a1_1] 24 (0, 0)) (by (with_reducible repeat (first | refine blk_drewN ?_ _ | refine blk_drew ?_ | refine blk_alloc ?_ _)); exact BK366.out)) : gb367 ≠ gb366)); clear BK366; clear HB; have BK366 := n0_; have HB := n1_; have BK367 := n2_; have GW367 := n3_; have GE367 := n4_; have NB366_367 := n5_; have NB367_366 := n6_; clear n0_ n1_ n2_ n3_ n4_ n5_ n6_; clear hb hbox hg) | ((with_reducible refine gate_callee (f := 25) rfl ?_); refine goesL_ (some 9) rfl rfl Try.func25 (by kernel_rfl) rfl #[.int .i64 a0] rfl (by (try simp only [List.map_toArray, List.map_cons, List.map_nil]); first | done | rfl | (simp only [List.length_drop, List.length_take]; rfl)) ?_; (with_reducible refine (steepleref02_X.calls k a0 t368 t369 _ A4.out).mono ?_); rintro e w34 ⟨rfl, hb⟩; refine ⟨_, rfl, ?_⟩; have n0_ := Aside0.mk (blk_below (g := gb366) (o := .cells #[.int .u64 a1_0, .int .u64 a1_1] 24 (0, 0)) (by (with_reducible repeat (first | refine blk_drewN ?_ _ | refine blk_drew ?_ | refine blk_alloc ?_ _)); exact BK366.out) hb); have n1_ := Aside0.mk (blk_below (g := gb367) (o := .cells #[.int .u64 a2_0, .int .u64 a2_1] 24 (0, 0)) (by (with_reducible repeat (first | refine blk_drewN ?_ _ | refine blk_drew ?_ | refine blk_alloc ?_ _)); exact BK367.out) hb); have n2_ := Aside0.mk (below_step (by repeat (first | (with_reducible first | exact HB.out | apply below_alloc | apply pw_below_drewN | apply below_drew1 | refine below_set ?_ GE366.out | refine below_set ?_ GE367.out) | exact HB.out)) hb); clear BK366; clear BK367; clear HB; have BK366 := n0_; have BK367 := n1_; have HB := n2_; clear n0_ n1_ n2_; (try clear hb); (try clear hb2); (try clear hk); (try clear hi)) | ((with_reducible refine gate_dst (N := 7) rfl ?_); refine box_event ?hg (N := 7) ?hd (cs := #[.int .u64 0, .int .u64 0]) (t := 39) ?hr ?_; (case hd => rfl); (case hg => rfl); (case hr => first | (go_simp; done) | (go_simp; rfl)); intro gb370 hg w35 hbox hb; have n0_ := Aside0.mk (blk_below (g := gb366) (o := .cells #[.int .u64 a1_0, .int .u64 a1_1] 24 (0, 0)) (by (with_reducible repeat (first | refine blk_drewN ?_ _ | refine blk_drew ?_ | refine blk_alloc ?_ _)); exact BK366.out) hb); have n1_ := Aside0.mk (blk_below (g := gb367) (o := .cells #[.int .u64 a2_0, .int .u64 a2_1] 24 (0, 0)) (by (with_reducible repeat (first | refine blk_drewN ?_ _ | refine blk_drew ?_ | refine blk_alloc ?_ _)); exact BK367.out) hb); have n2_ := Aside0.mk (below_step (by repeat (first | (with_reducible first | exact HB.out | apply below_alloc | apply pw_below_drewN | apply below_drew1 | refine below_set ?_ GE366.out | refine below_set ?_ GE367.out) | exact HB.out)) hb); have n3_ := Aside0.mk (hbox); have n4_ := Aside0.mk ((by rw [hg]; exact (below_size (by repeat (first | (with_reducible first | exact HB.out | apply below_alloc | apply pw_below_drewN | apply below_drew1 | refine below_set ?_ GE366.out | refine below_set ?_ GE367.out) | exact HB.out))) : w.heap.size ≤ gb370)); have n5_ := Aside0.mk ((by rw [hg]; exact (below_size (by repeat (first | (with_reducible first | exact HB.out | apply below_alloc | apply pw_below_drewN | apply below_drew1 | refine below_set ?_ GE366.out | refine below_set ?_ GE367.out) | exact HB.out))) : w.heap.size ≤ gb370)); have n6_ := Aside0.mk ((by rw [hg]; exact Nat.ne_of_lt (blk_lt (g := gb366) (o := .cells #[.int .u64 a1_0, .int .u64 a1_1] 24 (0, 0)) (by (with_reducible repeat (first | refine blk_drewN ?_ _ | refine blk_drew ?_ | refine blk_alloc ?_ _)); exact BK366.out)) : gb366 ≠ gb370)); have n7_ := Aside0.mk ((by rw [hg]; exact Nat.ne_of_gt (blk_lt (g := gb366) (o := .cells #[.int .u64 a1_0, .int .u64 a1_1] 24 (0, 0)) (by (with_reducible repeat (first | refine blk_drewN ?_ _ | refine blk_drew ?_ | refine blk_alloc ?_ _)); exact BK366.out)) : gb370 ≠ gb366)); have n8_ := Aside0.mk ((by rw [hg]; exact Nat.ne_of_lt (blk_lt (g := gb367) (o := .cells #[.int .u64 a2_0, .int .u64 a2_1] 24 (0, 0)) (by (with_reducible repeat (first | refine blk_drewN ?_ _ | refine blk_drew ?_ | refine blk_alloc ?_ _)); exact BK367.out)) : gb367 ≠ gb370)); have n9_ := Aside0.mk ((by rw [hg]; exact Nat.ne_of_gt (blk_lt (g := gb367) (o := .cells #[.int .u64 a2_0, .int .u64 a2_1] 24 (0, 0)) (by (with_reducible repeat (first | refine blk_drewN ?_ _ | refine blk_drew ?_ | refine blk_alloc ?_ _)); exact BK367.out)) : gb370 ≠ gb367)); clear BK366; clear BK367; clear HB; have BK366 := n0_; have BK367 := n1_; have HB := n2_; have BK370 := n3_; have GW370 := n4_; have GE370 := n5_; have NB366_370 := n6_; have NB370_366 := n7_; have NB367_370 := n8_; have NB370_367 := n9_; clear n0_ n1_ n2_ n3_ n4_ n5_ n6_ n7_ n8_ n9_; clear hb hbox hg; have hnb36 := NB370_366.out; have hnc36 := NB366_370.out; have hnb37 := NB370_367.out; have hnc37 := NB367_370.out; have hcz38_0 : w35.cell? ⟨gb370, 0, none⟩ = some (.int .u64 0) := (blk_cell BK370.out 0).trans rfl; have hcz38_1 : w35.cell? ⟨gb370, 1, none⟩ = some (.int .u64 0) := (blk_cell BK370.out 1).trans rfl; have hfz38_0 := blk_frozen BK370.out 0; have hfz38_1 := blk_frozen BK370.out 1))
      have n0_ : Aside0 (((w35.setCell ⟨gb370, 0, none⟩ (.int .u64 t368)).setCell ⟨gb370, 1, none⟩ (.int .u64 t369)).heap[gb366]? = some (.cells #[.int .u64 a1_0, .int .u64 a1_1] 24 (0, 0))) := ⟨by (with_reducible repeat (first | refine blk_drewN ?_ _ | refine blk_drew ?_ | refine blk_alloc ?_ _)); refine blk_far ?_ NB366_370.out _; (with_reducible repeat (first | refine blk_drewN ?_ _ | refine blk_drew ?_ | refine blk_alloc ?_ _)); refine blk_far ?_ NB366_370.out _; (with_reducible repeat (first | refine blk_drewN ?_ _ | refine blk_drew ?_ | refine blk_alloc ?_ _)); exact BK366.out⟩
      have n1_ : Aside0 (((w35.setCell ⟨gb370, 0, none⟩ (.int .u64 t368)).setCell ⟨gb370, 1, none⟩ (.int .u64 t369)).heap[gb367]? = some (.cells #[.int .u64 a2_0, .int .u64 a2_1] 24 (0, 0))) := ⟨by (with_reducible repeat (first | refine blk_drewN ?_ _ | refine blk_drew ?_ | refine blk_alloc ?_ _)); refine blk_far ?_ NB367_370.out _; (with_reducible repeat (first | refine blk_drewN ?_ _ | refine blk_drew ?_ | refine blk_alloc ?_ _)); refine blk_far ?_ NB367_370.out _; (with_reducible repeat (first | refine blk_drewN ?_ _ | refine blk_drew ?_ | refine blk_alloc ?_ _)); exact BK367.out⟩
      have n2_ : Aside0 (((w35.setCell ⟨gb370, 0, none⟩ (.int .u64 t368)).setCell ⟨gb370, 1, none⟩ (.int .u64 t369)).heap[gb370]? = some (.cells #[.int .u64 t368, .int .u64 t369] 39 (0, 0))) := ⟨by (with_reducible repeat (first | refine blk_drewN ?_ _ | refine blk_drew ?_ | refine blk_alloc ?_ _)); refine blk_put (cs := #[.int .u64 t368, .int .u64 0]) ?_ 1 _ rfl; (with_reducible repeat (first | refine blk_drewN ?_ _ | refine blk_drew ?_ | refine blk_alloc ?_ _)); refine blk_put (cs := #[.int .u64 0, .int .u64 0]) ?_ 0 _ rfl; (with_reducible repeat (first | refine blk_drewN ?_ _ | refine blk_drew ?_ | refine blk_alloc ?_ _)); exact BK370.out⟩
      have n3_ : Aside0 (Below w.heap.size w ((w35.setCell ⟨gb370, 0, none⟩ (.int .u64 t368)).setCell ⟨gb370, 1, none⟩ (.int .u64 t369))) := ⟨by repeat (first | (with_reducible first | exact HB.out | apply below_alloc | apply pw_below_drewN | apply below_drew1 | refine below_set ?_ GE366.out | refine below_set ?_ GE367.out | refine below_set ?_ GE370.out) | exact HB.out)⟩
      (try clear BK366)
      (try clear BK367)
      (try clear BK370)
      (try clear HB)
      generalize ((w35.setCell ⟨gb370, 0, none⟩ (.int .u64 t368)).setCell ⟨gb370, 1, none⟩ (.int .u64 t369)) = w39 at n0_ n1_ n2_ n3_ ⊢
      have BK366 := n0_
      have BK367 := n1_
      have BK370 := n2_
      have HB := n3_
      clear n0_ n1_ n2_ n3_
      have n0_ := Aside0.mk (blk_drew BK366.out)
      have n1_ := Aside0.mk (blk_drew BK367.out)
      have n2_ := Aside0.mk (blk_drew BK370.out)
      have n3_ := Aside0.mk (below_drew1 HB.out)
      clear BK366
      clear BK367
      clear BK370
      clear HB
      have BK366 := n0_
      have BK367 := n1_
      have BK370 := n2_
      have HB := n3_
      clear n0_ n1_ n2_ n3_
      refine start_ (n := 55) (S := fun w' => w'.cell? ⟨gb366, 0, none⟩ = some (.int .u64 a1_0) ∧ w'.cell? ⟨gb366, 1, none⟩ = some (.int .u64 a1_1) ∧ w'.cell? ⟨gb367, 0, none⟩ = some (.int .u64 a2_0) ∧ w'.cell? ⟨gb367, 1, none⟩ = some (.int .u64 a2_1) ∧ w'.cell? ⟨gb370, 0, none⟩ = some (.int .u64 t368) ∧ w'.cell? ⟨gb370, 1, none⟩ = some (.int .u64 t369)) (ds := []) #[false, false, false, false, false, false, false, false, false, false, false, false, false, false, false, false, false, false, false, false, false, false, false, false, false, false, false, false, false, false, false, false, false, false, false, false, false, false, false, false, false, false, false, false, false, false, false, false, false, false, false, false, false, false, false] (by kernel_rfl) rfl rfl ⟨(blk_cell BK366.out 0).trans rfl, (blk_cell BK366.out 1).trans rfl, (blk_cell BK367.out 0).trans rfl, (blk_cell BK367.out 1).trans rfl, (blk_cell BK370.out 0).trans rfl, (blk_cell BK370.out 1).trans rfl⟩ (fun hHeld => ?_); refine with_tabW steeplelaw02_TowerMuls.tab2 steeplelaw02_TowerMuls.bits2 (fun HT_ HW_ => ?_)
      generalize w39.drew = w40 at BK366 BK367 BK370 HB hHeld ⊢
      refine one_ (i := 0) (N := some 10) #[true, false, false, false, false, false, false, false, false, false, false, false, false, false, false, false, false, false, false, false, false, false, false, false, false, false, false, false, false, false, false, false, false, false, false, false, false, false, false, false, false, false, false, false, false, false, false, false, false, false, false, false, false, false, false] rfl rfl (one_of HT_.out (by kernel_rfl)) (by decide) (fun K hK => ?_)
      refine goes_ Try.func15 (by kernel_rfl) rfl #[] (by rfl) rfl rfl (by (try simp only [List.map_toArray, List.map_cons, List.map_nil]); first | done | rfl | (simp only [List.length_drop, List.length_take]; rfl)) ?_
      with_reducible refine (steeplelaw02_awake.calls k  true _ A5.out).mono ?_
      rintro e w41 ⟨rfl, hb⟩
      refine ⟨_, rfl, ?_⟩
      have n0_ := Aside0.mk (blk_below (g := gb366) (o := .cells #[.int .u64 a1_0, .int .u64 a1_1] 24 (0, 0)) (by (with_reducible repeat (first | refine blk_drewN ?_ _ | refine blk_drew ?_ | refine blk_alloc ?_ _)); exact BK366.out) hb)
      have n1_ := Aside0.mk (blk_below (g := gb367) (o := .cells #[.int .u64 a2_0, .int .u64 a2_1] 24 (0, 0)) (by (with_reducible repeat (first | refine blk_drewN ?_ _ | refine blk_drew ?_ | refine blk_alloc ?_ _)); exact BK367.out) hb)
      have n2_ := Aside0.mk (blk_below (g := gb370) (o := .cells #[.int .u64 t368, .int .u64 t369] 39 (0, 0)) (by (with_reducible repeat (first | refine blk_drewN ?_ _ | refine blk_drew ?_ | refine blk_alloc ?_ _)); exact BK370.out) hb)
      have n3_ := Aside0.mk (below_step (by repeat (first | (with_reducible first | exact HB.out | apply below_alloc | apply pw_below_drewN | apply below_drew1 | refine below_set ?_ GE366.out | refine below_set ?_ GE367.out | refine below_set ?_ GE370.out) | exact HB.out)) hb)
      clear BK366
      clear BK367
      clear BK370
      clear HB
      have BK366 := n0_
      have BK367 := n1_
      have BK370 := n2_
      have HB := n3_
      clear n0_ n1_ n2_ n3_
      (try clear hb)
      (try clear hb2)
      (try clear hk)
      (try clear hi)
      refine hK.out _ _ ⟨(blk_cell BK366.out 0).trans rfl, (blk_cell BK366.out 1).trans rfl, (blk_cell BK367.out 0).trans rfl, (blk_cell BK367.out 1).trans rfl, (blk_cell BK370.out 0).trans rfl, (blk_cell BK370.out 1).trans rfl⟩ (fun hHeld => ?_)
      clear hK K
      refine norm_ (a' := ?_) ?_ ?_
      rotate_left
      ·show Act.put _ (some 10) _ = _
       simp only [Act.put, List.setIfInBounds_toArray, List.set_cons_zero, List.set_cons_succ, i64_w, i32_w]
       rfl
      refine pure_ (i := 1) (N := some 11) (v := ?_) (a' := ?_) #[true, true, false, false, false, false, false, false, false, false, false, false, false, false, false, false, false, false, false, false, false, false, false, false, false, false, false, false, false, false, false, false, false, false, false, false, false, false, false, false, false, false, false, false, false, false, false, false, false, false, false, false, false, false, false] rfl rfl (any_of HT_.out (by kernel_rfl)) (fun _ _ _ h => h) (Or.inl ⟨by rfl, ?_⟩) ?_ ?_
      rotate_left
      ·intro w'
       go_simp
       with_reducible rfl
      rotate_left
      ·simp only [Act.put, List.setIfInBounds_toArray, List.set_cons_zero, List.set_cons_succ, i64_w, i32_w]
       rfl
      refine take_ (i := 2) (N := some 12) (v := ?_) (a' := ?_) #[true, true, true, false, false, false, false, false, false, false, false, false, false, false, false, false, false, false, false, false, false, false, false, false, false, false, false, false, false, false, false, false, false, false, false, false, false, false, false, false, false, false, false, false, false, false, false, false, false, false, false, false, false, false, false] rfl rfl (take_ofW HT_.out HW_.out (by kernel_rfl)) (fun _ _ _ h => h) (Or.inl ⟨by rfl, ?_⟩) hHeld ?_ ?_
      rotate_left
      ·rintro w' ⟨s0, s1, s2, s3, s4, s5⟩
       go_simp
       with_reducible rfl
      rotate_left
      ·simp only [Act.put, List.setIfInBounds_toArray, List.set_cons_zero, List.set_cons_succ, i64_w, i32_w]
       rfl
      refine take_ (i := 3) (N := some 13) (v := ?_) (a' := ?_) #[true, true, true, true, false, false, false, false, false, false, false, false, false, false, false, false, false, false, false, false, false, false, false, false, false, false, false, false, false, false, false, false, false, false, false, false, false, false, false, false, false, false, false, false, false, false, false, false, false, false, false, false, false, false, false] rfl rfl (take_ofW HT_.out HW_.out (by kernel_rfl)) (fun _ _ _ h => h) (Or.inl ⟨by rfl, ?_⟩) hHeld ?_ ?_
      rotate_left
      ·rintro w' ⟨s0, s1, s2, s3, s4, s5⟩
       go_simp
       with_reducible rfl
      rotate_left
      ·simp only [Act.put, List.setIfInBounds_toArray, List.set_cons_zero, List.set_cons_succ, i64_w, i32_w]
       rfl
      refine take_ (i := 5) (N := some 15) (v := ?_) (a' := ?_) #[true, true, true, true, false, true, false, false, false, false, false, false, false, false, false, false, false, false, false, false, false, false, false, false, false, false, false, false, false, false, false, false, false, false, false, false, false, false, false, false, false, false, false, false, false, false, false, false, false, false, false, false, false, false, false] rfl rfl (take_ofW HT_.out HW_.out (by kernel_rfl)) (fun _ _ _ h => h) (Or.inl ⟨by rfl, ?_⟩) hHeld ?_ ?_
      rotate_left
      ·rintro w' ⟨s0, s1, s2, s3, s4, s5⟩
       go_simp
       with_reducible rfl
      rotate_left
      ·simp only [Act.put, List.setIfInBounds_toArray, List.set_cons_zero, List.set_cons_succ, i64_w, i32_w]
       rfl
      refine take_ (i := 7) (N := some 17) (v := ?_) (a' := ?_) #[true, true, true, true, false, true, false, true, false, false, false, false, false, false, false, false, false, false, false, false, false, false, false, false, false, false, false, false, false, false, false, false, false, false, false, false, false, false, false, false, false, false, false, false, false, false, false, false, false, false, false, false, false, false, false] rfl rfl (take_ofW HT_.out HW_.out (by kernel_rfl)) (fun _ _ _ h => h) (Or.inl ⟨by rfl, ?_⟩) hHeld ?_ ?_
      rotate_left
      ·rintro w' ⟨s0, s1, s2, s3, s4, s5⟩
       go_simp
       with_reducible rfl
      rotate_left
      ·simp only [Act.put, List.setIfInBounds_toArray, List.set_cons_zero, List.set_cons_succ, i64_w, i32_w]
       rfl
      refine one_ (i := 4) (N := some 14) #[true, true, true, true, true, true, false, true, false, false, false, false, false, false, false, false, false, false, false, false, false, false, false, false, false, false, false, false, false, false, false, false, false, false, false, false, false, false, false, false, false, false, false, false, false, false, false, false, false, false, false, false, false, false, false] rfl rfl (one_of HT_.out (by kernel_rfl)) (by decide) (fun K hK => ?_)
      refine goes_ Try.func14 (by kernel_rfl) rfl #[.agg #[.int .u64 a1_0, .int .u64 a1_1], .agg #[.int .u64 a2_0, .int .u64 a2_1]] (by rfl) rfl rfl (by (try simp only [List.map_toArray, List.map_cons, List.map_nil]); first | done | rfl | (simp only [List.length_drop, List.length_take]; rfl)) ?_
      with_reducible refine (tower_Add.calls a1_0 a1_1 a2_0 a2_1 t372 t373 _ A7.out).mono ?_
      rintro e w42 ⟨rfl, hb⟩
      refine ⟨_, rfl, ?_⟩
      have n0_ := Aside0.mk (blk_below (g := gb366) (o := .cells #[.int .u64 a1_0, .int .u64 a1_1] 24 (0, 0)) (by (with_reducible repeat (first | refine blk_drewN ?_ _ | refine blk_drew ?_ | refine blk_alloc ?_ _)); exact BK366.out) hb)
      have n1_ := Aside0.mk (blk_below (g := gb367) (o := .cells #[.int .u64 a2_0, .int .u64 a2_1] 24 (0, 0)) (by (with_reducible repeat (first | refine blk_drewN ?_ _ | refine blk_drew ?_ | refine blk_alloc ?_ _)); exact BK367.out) hb)
      have n2_ := Aside0.mk (blk_below (g := gb370) (o := .cells #[.int .u64 t368, .int .u64 t369] 39 (0, 0)) (by (with_reducible repeat (first | refine blk_drewN ?_ _ | refine blk_drew ?_ | refine blk_alloc ?_ _)); exact BK370.out) hb)
      have n3_ := Aside0.mk (below_step (by repeat (first | (with_reducible first | exact HB.out | apply below_alloc | apply pw_below_drewN | apply below_drew1 | refine below_set ?_ GE366.out | refine below_set ?_ GE367.out | refine below_set ?_ GE370.out) | exact HB.out)) hb)
      clear BK366
      clear BK367
      clear BK370
      clear HB
      have BK366 := n0_
      have BK367 := n1_
      have BK370 := n2_
      have HB := n3_
      clear n0_ n1_ n2_ n3_
      (try clear hb)
      (try clear hb2)
      (try clear hk)
      (try clear hi)
      refine hK.out _ _ ⟨(blk_cell BK366.out 0).trans rfl, (blk_cell BK366.out 1).trans rfl, (blk_cell BK367.out 0).trans rfl, (blk_cell BK367.out 1).trans rfl, (blk_cell BK370.out 0).trans rfl, (blk_cell BK370.out 1).trans rfl⟩ (fun hHeld => ?_)
      clear hK K
      refine norm_ (a' := ?_) ?_ ?_
      rotate_left
      ·show Act.put _ (some 14) _ = _
       simp only [Act.put, List.setIfInBounds_toArray, List.set_cons_zero, List.set_cons_succ, i64_w, i32_w]
       rfl
      refine one_ (i := 6) (N := some 16) #[true, true, true, true, true, true, true, true, false, false, false, false, false, false, false, false, false, false, false, false, false, false, false, false, false, false, false, false, false, false, false, false, false, false, false, false, false, false, false, false, false, false, false, false, false, false, false, false, false, false, false, false, false, false, false] rfl rfl (one_of HT_.out (by kernel_rfl)) (by decide) (fun K hK => ?_)
      refine goes_ Try.func20 (by kernel_rfl) rfl #[.agg #[.int .u64 a1_0, .int .u64 a1_1]] (by rfl) rfl rfl (by (try simp only [List.map_toArray, List.map_cons, List.map_nil]); first | done | rfl | (simp only [List.length_drop, List.length_take]; rfl)) ?_
      with_reducible refine (steeplelaw02_ref.calls a1_0 a1_1 t374 t375 _ A8.out).mono ?_
      rintro e w43 ⟨rfl, hb⟩
      refine ⟨_, rfl, ?_⟩
      have n0_ := Aside0.mk (blk_below (g := gb366) (o := .cells #[.int .u64 a1_0, .int .u64 a1_1] 24 (0, 0)) (by (with_reducible repeat (first | refine blk_drewN ?_ _ | refine blk_drew ?_ | refine blk_alloc ?_ _)); exact BK366.out) hb)
      have n1_ := Aside0.mk (blk_below (g := gb367) (o := .cells #[.int .u64 a2_0, .int .u64 a2_1] 24 (0, 0)) (by (with_reducible repeat (first | refine blk_drewN ?_ _ | refine blk_drew ?_ | refine blk_alloc ?_ _)); exact BK367.out) hb)
      have n2_ := Aside0.mk (blk_below (g := gb370) (o := .cells #[.int .u64 t368, .int .u64 t369] 39 (0, 0)) (by (with_reducible repeat (first | refine blk_drewN ?_ _ | refine blk_drew ?_ | refine blk_alloc ?_ _)); exact BK370.out) hb)
      have n3_ := Aside0.mk (below_step (by repeat (first | (with_reducible first | exact HB.out | apply below_alloc | apply pw_below_drewN | apply below_drew1 | refine below_set ?_ GE366.out | refine below_set ?_ GE367.out | refine below_set ?_ GE370.out) | exact HB.out)) hb)
      clear BK366
      clear BK367
      clear BK370
      clear HB
      have BK366 := n0_
      have BK367 := n1_
      have BK370 := n2_
      have HB := n3_
      clear n0_ n1_ n2_ n3_
      (try clear hb)
      (try clear hb2)
      (try clear hk)
      (try clear hi)
      refine hK.out _ _ ⟨(blk_cell BK366.out 0).trans rfl, (blk_cell BK366.out 1).trans rfl, (blk_cell BK367.out 0).trans rfl, (blk_cell BK367.out 1).trans rfl, (blk_cell BK370.out 0).trans rfl, (blk_cell BK370.out 1).trans rfl⟩ (fun hHeld => ?_)
      clear hK K
      refine norm_ (a' := ?_) ?_ ?_
      rotate_left
      ·show Act.put _ (some 16) _ = _
       simp only [Act.put, List.setIfInBounds_toArray, List.set_cons_zero, List.set_cons_succ, i64_w, i32_w]
       rfl
      refine one_ (i := 8) (N := some 18) #[true, true, true, true, true, true, true, true, true, false, false, false, false, false, false, false, false, false, false, false, false, false, false, false, false, false, false, false, false, false, false, false, false, false, false, false, false, false, false, false, false, false, false, false, false, false, false, false, false, false, false, false, false, false, false] rfl rfl (one_of HT_.out (by kernel_rfl)) (by decide) (fun K hK => ?_)
      refine goes_ Try.func20 (by kernel_rfl) rfl #[.agg #[.int .u64 a2_0, .int .u64 a2_1]] (by rfl) rfl rfl (by (try simp only [List.map_toArray, List.map_cons, List.map_nil]); first | done | rfl | (simp only [List.length_drop, List.length_take]; rfl)) ?_
      with_reducible refine (steeplelaw02_ref.calls a2_0 a2_1 t376 t377 _ A9.out).mono ?_
      rintro e w44 ⟨rfl, hb⟩
      refine ⟨_, rfl, ?_⟩
      have n0_ := Aside0.mk (blk_below (g := gb366) (o := .cells #[.int .u64 a1_0, .int .u64 a1_1] 24 (0, 0)) (by (with_reducible repeat (first | refine blk_drewN ?_ _ | refine blk_drew ?_ | refine blk_alloc ?_ _)); exact BK366.out) hb)
      have n1_ := Aside0.mk (blk_below (g := gb367) (o := .cells #[.int .u64 a2_0, .int .u64 a2_1] 24 (0, 0)) (by (with_reducible repeat (first | refine blk_drewN ?_ _ | refine blk_drew ?_ | refine blk_alloc ?_ _)); exact BK367.out) hb)
      have n2_ := Aside0.mk (blk_below (g := gb370) (o := .cells #[.int .u64 t368, .int .u64 t369] 39 (0, 0)) (by (with_reducible repeat (first | refine blk_drewN ?_ _ | refine blk_drew ?_ | refine blk_alloc ?_ _)); exact BK370.out) hb)
      have n3_ := Aside0.mk (below_step (by repeat (first | (with_reducible first | exact HB.out | apply below_alloc | apply pw_below_drewN | apply below_drew1 | refine below_set ?_ GE366.out | refine below_set ?_ GE367.out | refine below_set ?_ GE370.out) | exact HB.out)) hb)
      clear BK366
      clear BK367
      clear BK370
      clear HB
      have BK366 := n0_
      have BK367 := n1_
      have BK370 := n2_
      have HB := n3_
      clear n0_ n1_ n2_ n3_
      (try clear hb)
      (try clear hb2)
      (try clear hk)
      (try clear hi)
      refine hK.out _ _ ⟨(blk_cell BK366.out 0).trans rfl, (blk_cell BK366.out 1).trans rfl, (blk_cell BK367.out 0).trans rfl, (blk_cell BK367.out 1).trans rfl, (blk_cell BK370.out 0).trans rfl, (blk_cell BK370.out 1).trans rfl⟩ (fun hHeld => ?_)
      clear hK K
      refine norm_ (a' := ?_) ?_ ?_
      rotate_left
      ·show Act.put _ (some 18) _ = _
       simp only [Act.put, List.setIfInBounds_toArray, List.set_cons_zero, List.set_cons_succ, i64_w, i32_w]
       rfl
      refine one_ (i := 9) (N := some 19) #[true, true, true, true, true, true, true, true, true, true, false, false, false, false, false, false, false, false, false, false, false, false, false, false, false, false, false, false, false, false, false, false, false, false, false, false, false, false, false, false, false, false, false, false, false, false, false, false, false, false, false, false, false, false, false] rfl rfl (one_of HT_.out (by kernel_rfl)) (by decide) (fun K hK => ?_)
      refine goes_ Try.func19 (by kernel_rfl) rfl #[.agg #[.int .u64 t374, .int .u64 t375], .agg #[.int .u64 t376, .int .u64 t377]] (by rfl) rfl rfl (by (try simp only [List.map_toArray, List.map_cons, List.map_nil]); first | done | rfl | (simp only [List.length_drop, List.length_take]; rfl)) ?_
      with_reducible refine (steepleref02_Add.calls t374 t375 t376 t377 t378 t379 _ A10.out).mono ?_
      rintro e w45 ⟨rfl, hb⟩
      refine ⟨_, rfl, ?_⟩
      have n0_ := Aside0.mk (blk_below (g := gb366) (o := .cells #[.int .u64 a1_0, .int .u64 a1_1] 24 (0, 0)) (by (with_reducible repeat (first | refine blk_drewN ?_ _ | refine blk_drew ?_ | refine blk_alloc ?_ _)); exact BK366.out) hb)
      have n1_ := Aside0.mk (blk_below (g := gb367) (o := .cells #[.int .u64 a2_0, .int .u64 a2_1] 24 (0, 0)) (by (with_reducible repeat (first | refine blk_drewN ?_ _ | refine blk_drew ?_ | refine blk_alloc ?_ _)); exact BK367.out) hb)
      have n2_ := Aside0.mk (blk_below (g := gb370) (o := .cells #[.int .u64 t368, .int .u64 t369] 39 (0, 0)) (by (with_reducible repeat (first | refine blk_drewN ?_ _ | refine blk_drew ?_ | refine blk_alloc ?_ _)); exact BK370.out) hb)
      have n3_ := Aside0.mk (below_step (by repeat (first | (with_reducible first | exact HB.out | apply below_alloc | apply pw_below_drewN | apply below_drew1 | refine below_set ?_ GE366.out | refine below_set ?_ GE367.out | refine below_set ?_ GE370.out) | exact HB.out)) hb)
      clear BK366
      clear BK367
      clear BK370
      clear HB
      have BK366 := n0_
      have BK367 := n1_
      have BK370 := n2_
      have HB := n3_
      clear n0_ n1_ n2_ n3_
      (try clear hb)
      (try clear hb2)
      (try clear hk)
      (try clear hi)
      refine hK.out _ _ ⟨(blk_cell BK366.out 0).trans rfl, (blk_cell BK366.out 1).trans rfl, (blk_cell BK367.out 0).trans rfl, (blk_cell BK367.out 1).trans rfl, (blk_cell BK370.out 0).trans rfl, (blk_cell BK370.out 1).trans rfl⟩ (fun hHeld => ?_)
      clear hK K
      refine norm_ (a' := ?_) ?_ ?_
      rotate_left
      ·show Act.put _ (some 19) _ = _
       simp only [Act.put, List.setIfInBounds_toArray, List.set_cons_zero, List.set_cons_succ, i64_w, i32_w]
       rfl
      refine one_ (i := 10) (N := some 20) #[true, true, true, true, true, true, true, true, true, true, true, false, false, false, false, false, false, false, false, false, false, false, false, false, false, false, false, false, false, false, false, false, false, false, false, false, false, false, false, false, false, false, false, false, false, false, false, false, false, false, false, false, false, false, false] rfl rfl (one_of HT_.out (by kernel_rfl)) (by decide) (fun K hK => ?_)
      refine goes_ Try.func21 (by kernel_rfl) rfl #[.agg #[.int .u64 t372, .int .u64 t373], .agg #[.int .u64 t378, .int .u64 t379]] (by rfl) rfl rfl (by (try simp only [List.map_toArray, List.map_cons, List.map_nil]); first | done | rfl | (simp only [List.length_drop, List.length_take]; rfl)) ?_
      with_reducible refine (steeplelaw02_same.calls t372 t373 t378 t379 true _ A11.out).mono ?_
      rintro e w46 ⟨rfl, hb⟩
      refine ⟨_, rfl, ?_⟩
      have n0_ := Aside0.mk (blk_below (g := gb366) (o := .cells #[.int .u64 a1_0, .int .u64 a1_1] 24 (0, 0)) (by (with_reducible repeat (first | refine blk_drewN ?_ _ | refine blk_drew ?_ | refine blk_alloc ?_ _)); exact BK366.out) hb)
      have n1_ := Aside0.mk (blk_below (g := gb367) (o := .cells #[.int .u64 a2_0, .int .u64 a2_1] 24 (0, 0)) (by (with_reducible repeat (first | refine blk_drewN ?_ _ | refine blk_drew ?_ | refine blk_alloc ?_ _)); exact BK367.out) hb)
      have n2_ := Aside0.mk (blk_below (g := gb370) (o := .cells #[.int .u64 t368, .int .u64 t369] 39 (0, 0)) (by (with_reducible repeat (first | refine blk_drewN ?_ _ | refine blk_drew ?_ | refine blk_alloc ?_ _)); exact BK370.out) hb)
      have n3_ := Aside0.mk (below_step (by repeat (first | (with_reducible first | exact HB.out | apply below_alloc | apply pw_below_drewN | apply below_drew1 | refine below_set ?_ GE366.out | refine below_set ?_ GE367.out | refine below_set ?_ GE370.out) | exact HB.out)) hb)
      clear BK366
      clear BK367
      clear BK370
      clear HB
      have BK366 := n0_
      have BK367 := n1_
      have BK370 := n2_
      have HB := n3_
      clear n0_ n1_ n2_ n3_
      (try clear hb)
      (try clear hb2)
      (try clear hk)
      (try clear hi)
      refine hK.out _ _ ⟨(blk_cell BK366.out 0).trans rfl, (blk_cell BK366.out 1).trans rfl, (blk_cell BK367.out 0).trans rfl, (blk_cell BK367.out 1).trans rfl, (blk_cell BK370.out 0).trans rfl, (blk_cell BK370.out 1).trans rfl⟩ (fun hHeld => ?_)
      clear hK K
      refine norm_ (a' := ?_) ?_ ?_
      rotate_left
      ·show Act.put _ (some 20) _ = _
       simp only [Act.put, List.setIfInBounds_toArray, List.set_cons_zero, List.set_cons_succ, i64_w, i32_w]
       rfl
      refine pure_ (i := 11) (N := some 21) (v := ?_) (a' := ?_) #[true, true, true, true, true, true, true, true, true, true, true, true, false, false, false, false, false, false, false, false, false, false, false, false, false, false, false, false, false, false, false, false, false, false, false, false, false, false, false, false, false, false, false, false, false, false, false, false, false, false, false, false, false, false, false] rfl rfl (any_of HT_.out (by kernel_rfl)) (fun _ _ _ h => h) (Or.inl ⟨by rfl, ?_⟩) ?_ ?_
      rotate_left
      ·intro w'
       go_simp
       with_reducible rfl
      rotate_left
      ·simp only [Act.put, List.setIfInBounds_toArray, List.set_cons_zero, List.set_cons_succ, i64_w, i32_w]
       rfl
      refine pure_ (i := 12) (N := some 22) (v := ?_) (a' := ?_) #[true, true, true, true, true, true, true, true, true, true, true, true, true, false, false, false, false, false, false, false, false, false, false, false, false, false, false, false, false, false, false, false, false, false, false, false, false, false, false, false, false, false, false, false, false, false, false, false, false, false, false, false, false, false, false] rfl rfl (any_of HT_.out (by kernel_rfl)) (fun _ _ _ h => h) (Or.inl ⟨by rfl, ?_⟩) ?_ ?_
      rotate_left
      ·intro w'
       go_simp
       with_reducible rfl
      rotate_left
      ·simp only [Act.put, List.setIfInBounds_toArray, List.set_cons_zero, List.set_cons_succ, i64_w, i32_w]
       rfl
      refine pure_ (i := 13) (N := some 23) (v := ?_) (a' := ?_) #[true, true, true, true, true, true, true, true, true, true, true, true, true, true, false, false, false, false, false, false, false, false, false, false, false, false, false, false, false, false, false, false, false, false, false, false, false, false, false, false, false, false, false, false, false, false, false, false, false, false, false, false, false, false, false] rfl rfl (any_of HT_.out (by kernel_rfl)) (fun _ _ _ h => h) (Or.inl ⟨by rfl, ?_⟩) ?_ ?_
      rotate_left
      ·intro w'
       go_simp
       with_reducible rfl
      rotate_left
      ·simp only [Act.put, List.setIfInBounds_toArray, List.set_cons_zero, List.set_cons_succ, i64_w, i32_w]
       rfl
      refine pure_ (i := 17) (N := some 27) (v := ?_) (a' := ?_) #[true, true, true, true, true, true, true, true, true, true, true, true, true, true, false, false, false, true, false, false, false, false, false, false, false, false, false, false, false, false, false, false, false, false, false, false, false, false, false, false, false, false, false, false, false, false, false, false, false, false, false, false, false, false, false] rfl rfl (any_of HT_.out (by kernel_rfl)) (fun _ _ _ h => h) (Or.inl ⟨by rfl, ?_⟩) ?_ ?_
      rotate_left
      ·intro w'
       go_simp
       with_reducible rfl
      rotate_left
      ·simp only [Act.put, List.setIfInBounds_toArray, List.set_cons_zero, List.set_cons_succ, i64_w, i32_w]
       rfl
      refine take_ (i := 14) (N := some 24) (v := ?_) (a' := ?_) #[true, true, true, true, true, true, true, true, true, true, true, true, true, true, true, false, false, true, false, false, false, false, false, false, false, false, false, false, false, false, false, false, false, false, false, false, false, false, false, false, false, false, false, false, false, false, false, false, false, false, false, false, false, false, false] rfl rfl (take_ofW HT_.out HW_.out (by kernel_rfl)) (fun _ _ _ h => h) (Or.inl ⟨by rfl, ?_⟩) hHeld ?_ ?_
      rotate_left
      ·rintro w' ⟨s0, s1, s2, s3, s4, s5⟩
       go_simp
       with_reducible rfl
      rotate_left
      ·simp only [Act.put, List.setIfInBounds_toArray, List.set_cons_zero, List.set_cons_succ, i64_w, i32_w]
       rfl
      refine take_ (i := 15) (N := some 25) (v := ?_) (a' := ?_) #[true, true, true, true, true, true, true, true, true, true, true, true, true, true, true, true, false, true, false, false, false, false, false, false, false, false, false, false, false, false, false, false, false, false, false, false, false, false, false, false, false, false, false, false, false, false, false, false, false, false, false, false, false, false, false] rfl rfl (take_ofW HT_.out HW_.out (by kernel_rfl)) (fun _ _ _ h => h) (Or.inl ⟨by rfl, ?_⟩) hHeld ?_ ?_
      rotate_left
      ·rintro w' ⟨s0, s1, s2, s3, s4, s5⟩
       go_simp
       with_reducible rfl
      rotate_left
      ·simp only [Act.put, List.setIfInBounds_toArray, List.set_cons_zero, List.set_cons_succ, i64_w, i32_w]
       rfl
      refine take_ (i := 18) (N := some 28) (v := ?_) (a' := ?_) #[true, true, true, true, true, true, true, true, true, true, true, true, true, true, true, true, false, true, true, false, false, false, false, false, false, false, false, false, false, false, false, false, false, false, false, false, false, false, false, false, false, false, false, false, false, false, false, false, false, false, false, false, false, false, false] rfl rfl (take_ofW HT_.out HW_.out (by kernel_rfl)) (fun _ _ _ h => h) (Or.inl ⟨by rfl, ?_⟩) hHeld ?_ ?_
      rotate_left
      ·rintro w' ⟨s0, s1, s2, s3, s4, s5⟩
       go_simp
       with_reducible rfl
      rotate_left
      ·simp only [Act.put, List.setIfInBounds_toArray, List.set_cons_zero, List.set_cons_succ, i64_w, i32_w]
       rfl
      refine take_ (i := 20) (N := some 30) (v := ?_) (a' := ?_) #[true, true, true, true, true, true, true, true, true, true, true, true, true, true, true, true, false, true, true, false, true, false, false, false, false, false, false, false, false, false, false, false, false, false, false, false, false, false, false, false, false, false, false, false, false, false, false, false, false, false, false, false, false, false, false] rfl rfl (take_ofW HT_.out HW_.out (by kernel_rfl)) (fun _ _ _ h => h) (Or.inl ⟨by rfl, ?_⟩) hHeld ?_ ?_
      rotate_left
      ·rintro w' ⟨s0, s1, s2, s3, s4, s5⟩
       go_simp
       with_reducible rfl
      rotate_left
      ·simp only [Act.put, List.setIfInBounds_toArray, List.set_cons_zero, List.set_cons_succ, i64_w, i32_w]
       rfl
      refine one_ (i := 16) (N := some 26) #[true, true, true, true, true, true, true, true, true, true, true, true, true, true, true, true, true, true, true, false, true, false, false, false, false, false, false, false, false, false, false, false, false, false, false, false, false, false, false, false, false, false, false, false, false, false, false, false, false, false, false, false, false, false, false] rfl rfl (one_of HT_.out (by kernel_rfl)) (by decide) (fun K hK => ?_)
      refine goes_ Try.func13 (by kernel_rfl) rfl #[.int .i64 a0, .agg #[.int .u64 a1_0, .int .u64 a1_1], .agg #[.int .u64 a2_0, .int .u64 a2_1]] (by rfl) rfl rfl (by (try simp only [List.map_toArray, List.map_cons, List.map_nil]); first | done | rfl | (simp only [List.length_drop, List.length_take]; rfl)) ?_
      with_reducible refine (tower_Mul.calls k a0 a1_0 a1_1 a2_0 a2_1 t381 t382 _ A13.out).mono ?_
      rintro e w47 ⟨rfl, hb⟩
      refine ⟨_, rfl, ?_⟩
      have n0_ := Aside0.mk (blk_below (g := gb366) (o := .cells #[.int .u64 a1_0, .int .u64 a1_1] 24 (0, 0)) (by (with_reducible repeat (first | refine blk_drewN ?_ _ | refine blk_drew ?_ | refine blk_alloc ?_ _)); exact BK366.out) hb)
      have n1_ := Aside0.mk (blk_below (g := gb367) (o := .cells #[.int .u64 a2_0, .int .u64 a2_1] 24 (0, 0)) (by (with_reducible repeat (first | refine blk_drewN ?_ _ | refine blk_drew ?_ | refine blk_alloc ?_ _)); exact BK367.out) hb)
      have n2_ := Aside0.mk (blk_below (g := gb370) (o := .cells #[.int .u64 t368, .int .u64 t369] 39 (0, 0)) (by (with_reducible repeat (first | refine blk_drewN ?_ _ | refine blk_drew ?_ | refine blk_alloc ?_ _)); exact BK370.out) hb)
      have n3_ := Aside0.mk (below_step (by repeat (first | (with_reducible first | exact HB.out | apply below_alloc | apply pw_below_drewN | apply below_drew1 | refine below_set ?_ GE366.out | refine below_set ?_ GE367.out | refine below_set ?_ GE370.out) | exact HB.out)) hb)
      clear BK366
      clear BK367
      clear BK370
      clear HB
      have BK366 := n0_
      have BK367 := n1_
      have BK370 := n2_
      have HB := n3_
      clear n0_ n1_ n2_ n3_
      (try clear hb)
      (try clear hb2)
      (try clear hk)
      (try clear hi)
      refine hK.out _ _ ⟨(blk_cell BK366.out 0).trans rfl, (blk_cell BK366.out 1).trans rfl, (blk_cell BK367.out 0).trans rfl, (blk_cell BK367.out 1).trans rfl, (blk_cell BK370.out 0).trans rfl, (blk_cell BK370.out 1).trans rfl⟩ (fun hHeld => ?_)
      clear hK K
      refine norm_ (a' := ?_) ?_ ?_
      rotate_left
      ·show Act.put _ (some 26) _ = _
       simp only [Act.put, List.setIfInBounds_toArray, List.set_cons_zero, List.set_cons_succ, i64_w, i32_w]
       rfl
      refine one_ (i := 19) (N := some 29) #[true, true, true, true, true, true, true, true, true, true, true, true, true, true, true, true, true, true, true, true, true, false, false, false, false, false, false, false, false, false, false, false, false, false, false, false, false, false, false, false, false, false, false, false, false, false, false, false, false, false, false, false, false, false, false] rfl rfl (one_of HT_.out (by kernel_rfl)) (by decide) (fun K hK => ?_)
      refine goes_ Try.func20 (by kernel_rfl) rfl #[.agg #[.int .u64 a1_0, .int .u64 a1_1]] (by rfl) rfl rfl (by (try simp only [List.map_toArray, List.map_cons, List.map_nil]); first | done | rfl | (simp only [List.length_drop, List.length_take]; rfl)) ?_
      with_reducible refine (steeplelaw02_ref.calls a1_0 a1_1 t383 t384 _ A14.out).mono ?_
      rintro e w48 ⟨rfl, hb⟩
      refine ⟨_, rfl, ?_⟩
      have n0_ := Aside0.mk (blk_below (g := gb366) (o := .cells #[.int .u64 a1_0, .int .u64 a1_1] 24 (0, 0)) (by (with_reducible repeat (first | refine blk_drewN ?_ _ | refine blk_drew ?_ | refine blk_alloc ?_ _)); exact BK366.out) hb)
      have n1_ := Aside0.mk (blk_below (g := gb367) (o := .cells #[.int .u64 a2_0, .int .u64 a2_1] 24 (0, 0)) (by (with_reducible repeat (first | refine blk_drewN ?_ _ | refine blk_drew ?_ | refine blk_alloc ?_ _)); exact BK367.out) hb)
      have n2_ := Aside0.mk (blk_below (g := gb370) (o := .cells #[.int .u64 t368, .int .u64 t369] 39 (0, 0)) (by (with_reducible repeat (first | refine blk_drewN ?_ _ | refine blk_drew ?_ | refine blk_alloc ?_ _)); exact BK370.out) hb)
      have n3_ := Aside0.mk (below_step (by repeat (first | (with_reducible first | exact HB.out | apply below_alloc | apply pw_below_drewN | apply below_drew1 | refine below_set ?_ GE366.out | refine below_set ?_ GE367.out | refine below_set ?_ GE370.out) | exact HB.out)) hb)
      clear BK366
      clear BK367
      clear BK370
      clear HB
      have BK366 := n0_
      have BK367 := n1_
      have BK370 := n2_
      have HB := n3_
      clear n0_ n1_ n2_ n3_
      (try clear hb)
      (try clear hb2)
      (try clear hk)
      (try clear hi)
      refine hK.out _ _ ⟨(blk_cell BK366.out 0).trans rfl, (blk_cell BK366.out 1).trans rfl, (blk_cell BK367.out 0).trans rfl, (blk_cell BK367.out 1).trans rfl, (blk_cell BK370.out 0).trans rfl, (blk_cell BK370.out 1).trans rfl⟩ (fun hHeld => ?_)
      clear hK K
      refine norm_ (a' := ?_) ?_ ?_
      rotate_left
      ·show Act.put _ (some 29) _ = _
       simp only [Act.put, List.setIfInBounds_toArray, List.set_cons_zero, List.set_cons_succ, i64_w, i32_w]
       rfl
      refine one_ (i := 21) (N := some 31) #[true, true, true, true, true, true, true, true, true, true, true, true, true, true, true, true, true, true, true, true, true, true, false, false, false, false, false, false, false, false, false, false, false, false, false, false, false, false, false, false, false, false, false, false, false, false, false, false, false, false, false, false, false, false, false] rfl rfl (one_of HT_.out (by kernel_rfl)) (by decide) (fun K hK => ?_)
      refine goes_ Try.func20 (by kernel_rfl) rfl #[.agg #[.int .u64 a2_0, .int .u64 a2_1]] (by rfl) rfl rfl (by (try simp only [List.map_toArray, List.map_cons, List.map_nil]); first | done | rfl | (simp only [List.length_drop, List.length_take]; rfl)) ?_
      with_reducible refine (steeplelaw02_ref.calls a2_0 a2_1 t385 t386 _ A15.out).mono ?_
      rintro e w49 ⟨rfl, hb⟩
      refine ⟨_, rfl, ?_⟩
      have n0_ := Aside0.mk (blk_below (g := gb366) (o := .cells #[.int .u64 a1_0, .int .u64 a1_1] 24 (0, 0)) (by (with_reducible repeat (first | refine blk_drewN ?_ _ | refine blk_drew ?_ | refine blk_alloc ?_ _)); exact BK366.out) hb)
      have n1_ := Aside0.mk (blk_below (g := gb367) (o := .cells #[.int .u64 a2_0, .int .u64 a2_1] 24 (0, 0)) (by (with_reducible repeat (first | refine blk_drewN ?_ _ | refine blk_drew ?_ | refine blk_alloc ?_ _)); exact BK367.out) hb)
      have n2_ := Aside0.mk (blk_below (g := gb370) (o := .cells #[.int .u64 t368, .int .u64 t369] 39 (0, 0)) (by (with_reducible repeat (first | refine blk_drewN ?_ _ | refine blk_drew ?_ | refine blk_alloc ?_ _)); exact BK370.out) hb)
      have n3_ := Aside0.mk (below_step (by repeat (first | (with_reducible first | exact HB.out | apply below_alloc | apply pw_below_drewN | apply below_drew1 | refine below_set ?_ GE366.out | refine below_set ?_ GE367.out | refine below_set ?_ GE370.out) | exact HB.out)) hb)
      clear BK366
      clear BK367
      clear BK370
      clear HB
      have BK366 := n0_
      have BK367 := n1_
      have BK370 := n2_
      have HB := n3_
      clear n0_ n1_ n2_ n3_
      (try clear hb)
      (try clear hb2)
      (try clear hk)
      (try clear hi)
      refine hK.out _ _ ⟨(blk_cell BK366.out 0).trans rfl, (blk_cell BK366.out 1).trans rfl, (blk_cell BK367.out 0).trans rfl, (blk_cell BK367.out 1).trans rfl, (blk_cell BK370.out 0).trans rfl, (blk_cell BK370.out 1).trans rfl⟩ (fun hHeld => ?_)
      clear hK K
      refine norm_ (a' := ?_) ?_ ?_
      rotate_left
      ·show Act.put _ (some 31) _ = _
       simp only [Act.put, List.setIfInBounds_toArray, List.set_cons_zero, List.set_cons_succ, i64_w, i32_w]
       rfl
      refine one_ (i := 22) (N := some 32) #[true, true, true, true, true, true, true, true, true, true, true, true, true, true, true, true, true, true, true, true, true, true, true, false, false, false, false, false, false, false, false, false, false, false, false, false, false, false, false, false, false, false, false, false, false, false, false, false, false, false, false, false, false, false, false] rfl rfl (one_of HT_.out (by kernel_rfl)) (by decide) (fun K hK => ?_)
      refine goes_ Try.func26 (by kernel_rfl) rfl #[.int .i64 a0, .agg #[.int .u64 t383, .int .u64 t384], .agg #[.int .u64 t385, .int .u64 t386]] (by rfl) rfl rfl (by (try simp only [List.map_toArray, List.map_cons, List.map_nil]); first | done | rfl | (simp only [List.length_drop, List.length_take]; rfl)) ?_
      with_reducible refine (steepleref02_Mul.calls k a0 t383 t384 t385 t386 t387 t388 _ A16.out).mono ?_
      rintro e w50 ⟨rfl, hb⟩
      refine ⟨_, rfl, ?_⟩
      have n0_ := Aside0.mk (blk_below (g := gb366) (o := .cells #[.int .u64 a1_0, .int .u64 a1_1] 24 (0, 0)) (by (with_reducible repeat (first | refine blk_drewN ?_ _ | refine blk_drew ?_ | refine blk_alloc ?_ _)); exact BK366.out) hb)
      have n1_ := Aside0.mk (blk_below (g := gb367) (o := .cells #[.int .u64 a2_0, .int .u64 a2_1] 24 (0, 0)) (by (with_reducible repeat (first | refine blk_drewN ?_ _ | refine blk_drew ?_ | refine blk_alloc ?_ _)); exact BK367.out) hb)
      have n2_ := Aside0.mk (blk_below (g := gb370) (o := .cells #[.int .u64 t368, .int .u64 t369] 39 (0, 0)) (by (with_reducible repeat (first | refine blk_drewN ?_ _ | refine blk_drew ?_ | refine blk_alloc ?_ _)); exact BK370.out) hb)
      have n3_ := Aside0.mk (below_step (by repeat (first | (with_reducible first | exact HB.out | apply below_alloc | apply pw_below_drewN | apply below_drew1 | refine below_set ?_ GE366.out | refine below_set ?_ GE367.out | refine below_set ?_ GE370.out) | exact HB.out)) hb)
      clear BK366
      clear BK367
      clear BK370
      clear HB
      have BK366 := n0_
      have BK367 := n1_
      have BK370 := n2_
      have HB := n3_
      clear n0_ n1_ n2_ n3_
      (try clear hb)
      (try clear hb2)
      (try clear hk)
      (try clear hi)
      refine hK.out _ _ ⟨(blk_cell BK366.out 0).trans rfl, (blk_cell BK366.out 1).trans rfl, (blk_cell BK367.out 0).trans rfl, (blk_cell BK367.out 1).trans rfl, (blk_cell BK370.out 0).trans rfl, (blk_cell BK370.out 1).trans rfl⟩ (fun hHeld => ?_)
      clear hK K
      refine norm_ (a' := ?_) ?_ ?_
      rotate_left
      ·show Act.put _ (some 32) _ = _
       simp only [Act.put, List.setIfInBounds_toArray, List.set_cons_zero, List.set_cons_succ, i64_w, i32_w]
       rfl
      refine one_ (i := 23) (N := some 33) #[true, true, true, true, true, true, true, true, true, true, true, true, true, true, true, true, true, true, true, true, true, true, true, true, false, false, false, false, false, false, false, false, false, false, false, false, false, false, false, false, false, false, false, false, false, false, false, false, false, false, false, false, false, false, false] rfl rfl (one_of HT_.out (by kernel_rfl)) (by decide) (fun K hK => ?_)
      refine goes_ Try.func21 (by kernel_rfl) rfl #[.agg #[.int .u64 t381, .int .u64 t382], .agg #[.int .u64 t387, .int .u64 t388]] (by rfl) rfl rfl (by (try simp only [List.map_toArray, List.map_cons, List.map_nil]); first | done | rfl | (simp only [List.length_drop, List.length_take]; rfl)) ?_
      with_reducible refine (steeplelaw02_same.calls t381 t382 t387 t388 true _ A17.out).mono ?_
      rintro e w51 ⟨rfl, hb⟩
      refine ⟨_, rfl, ?_⟩
      have n0_ := Aside0.mk (blk_below (g := gb366) (o := .cells #[.int .u64 a1_0, .int .u64 a1_1] 24 (0, 0)) (by (with_reducible repeat (first | refine blk_drewN ?_ _ | refine blk_drew ?_ | refine blk_alloc ?_ _)); exact BK366.out) hb)
      have n1_ := Aside0.mk (blk_below (g := gb367) (o := .cells #[.int .u64 a2_0, .int .u64 a2_1] 24 (0, 0)) (by (with_reducible repeat (first | refine blk_drewN ?_ _ | refine blk_drew ?_ | refine blk_alloc ?_ _)); exact BK367.out) hb)
      have n2_ := Aside0.mk (blk_below (g := gb370) (o := .cells #[.int .u64 t368, .int .u64 t369] 39 (0, 0)) (by (with_reducible repeat (first | refine blk_drewN ?_ _ | refine blk_drew ?_ | refine blk_alloc ?_ _)); exact BK370.out) hb)
      have n3_ := Aside0.mk (below_step (by repeat (first | (with_reducible first | exact HB.out | apply below_alloc | apply pw_below_drewN | apply below_drew1 | refine below_set ?_ GE366.out | refine below_set ?_ GE367.out | refine below_set ?_ GE370.out) | exact HB.out)) hb)
      clear BK366
      clear BK367
      clear BK370
      clear HB
      have BK366 := n0_
      have BK367 := n1_
      have BK370 := n2_
      have HB := n3_
      clear n0_ n1_ n2_ n3_
      (try clear hb)
      (try clear hb2)
      (try clear hk)
      (try clear hi)
      refine hK.out _ _ ⟨(blk_cell BK366.out 0).trans rfl, (blk_cell BK366.out 1).trans rfl, (blk_cell BK367.out 0).trans rfl, (blk_cell BK367.out 1).trans rfl, (blk_cell BK370.out 0).trans rfl, (blk_cell BK370.out 1).trans rfl⟩ (fun hHeld => ?_)
      clear hK K
      refine norm_ (a' := ?_) ?_ ?_
      rotate_left
      ·show Act.put _ (some 33) _ = _
       simp only [Act.put, List.setIfInBounds_toArray, List.set_cons_zero, List.set_cons_succ, i64_w, i32_w]
       rfl
      refine pure_ (i := 24) (N := some 34) (v := ?_) (a' := ?_) #[true, true, true, true, true, true, true, true, true, true, true, true, true, true, true, true, true, true, true, true, true, true, true, true, true, false, false, false, false, false, false, false, false, false, false, false, false, false, false, false, false, false, false, false, false, false, false, false, false, false, false, false, false, false, false] rfl rfl (any_of HT_.out (by kernel_rfl)) (fun _ _ _ h => h) (Or.inl ⟨by rfl, ?_⟩) ?_ ?_
      rotate_left
      ·intro w'
       go_simp
       with_reducible rfl
      rotate_left
      ·simp only [Act.put, List.setIfInBounds_toArray, List.set_cons_zero, List.set_cons_succ, i64_w, i32_w]
       rfl
      refine pure_ (i := 25) (N := some 35) (v := ?_) (a' := ?_) #[true, true, true, true, true, true, true, true, true, true, true, true, true, true, true, true, true, true, true, true, true, true, true, true, true, true, false, false, false, false, false, false, false, false, false, false, false, false, false, false, false, false, false, false, false, false, false, false, false, false, false, false, false, false, false] rfl rfl (any_of HT_.out (by kernel_rfl)) (fun _ _ _ h => h) (Or.inl ⟨by rfl, ?_⟩) ?_ ?_
      rotate_left
      ·intro w'
       go_simp
       with_reducible rfl
      rotate_left
      ·simp only [Act.put, List.setIfInBounds_toArray, List.set_cons_zero, List.set_cons_succ, i64_w, i32_w]
       rfl
      refine pure_ (i := 26) (N := some 36) (v := ?_) (a' := ?_) #[true, true, true, true, true, true, true, true, true, true, true, true, true, true, true, true, true, true, true, true, true, true, true, true, true, true, true, false, false, false, false, false, false, false, false, false, false, false, false, false, false, false, false, false, false, false, false, false, false, false, false, false, false, false, false] rfl rfl (any_of HT_.out (by kernel_rfl)) (fun _ _ _ h => h) (Or.inl ⟨by rfl, ?_⟩) ?_ ?_
      rotate_left
      ·intro w'
       go_simp
       with_reducible rfl
      rotate_left
      ·simp only [Act.put, List.setIfInBounds_toArray, List.set_cons_zero, List.set_cons_succ, i64_w, i32_w]
       rfl
      refine pure_ (i := 29) (N := some 39) (v := ?_) (a' := ?_) #[true, true, true, true, true, true, true, true, true, true, true, true, true, true, true, true, true, true, true, true, true, true, true, true, true, true, true, false, false, true, false, false, false, false, false, false, false, false, false, false, false, false, false, false, false, false, false, false, false, false, false, false, false, false, false] rfl rfl (any_of HT_.out (by kernel_rfl)) (fun _ _ _ h => h) (Or.inl ⟨by rfl, ?_⟩) ?_ ?_
      rotate_left
      ·intro w'
       go_simp
       with_reducible rfl
      rotate_left
      ·simp only [Act.put, List.setIfInBounds_toArray, List.set_cons_zero, List.set_cons_succ, i64_w, i32_w]
       rfl
      refine take_ (i := 27) (N := some 37) (v := ?_) (a' := ?_) #[true, true, true, true, true, true, true, true, true, true, true, true, true, true, true, true, true, true, true, true, true, true, true, true, true, true, true, true, false, true, false, false, false, false, false, false, false, false, false, false, false, false, false, false, false, false, false, false, false, false, false, false, false, false, false] rfl rfl (take_ofW HT_.out HW_.out (by kernel_rfl)) (fun _ _ _ h => h) (Or.inl ⟨by rfl, ?_⟩) hHeld ?_ ?_
      rotate_left
      ·rintro w' ⟨s0, s1, s2, s3, s4, s5⟩
       go_simp
       with_reducible rfl
      rotate_left
      ·simp only [Act.put, List.setIfInBounds_toArray, List.set_cons_zero, List.set_cons_succ, i64_w, i32_w]
       rfl
      refine take_ (i := 30) (N := some 40) (v := ?_) (a' := ?_) #[true, true, true, true, true, true, true, true, true, true, true, true, true, true, true, true, true, true, true, true, true, true, true, true, true, true, true, true, false, true, true, false, false, false, false, false, false, false, false, false, false, false, false, false, false, false, false, false, false, false, false, false, false, false, false] rfl rfl (take_ofW HT_.out HW_.out (by kernel_rfl)) (fun _ _ _ h => h) (Or.inl ⟨by rfl, ?_⟩) hHeld ?_ ?_
      rotate_left
      ·rintro w' ⟨s0, s1, s2, s3, s4, s5⟩
       go_simp
       with_reducible rfl
      rotate_left
      ·simp only [Act.put, List.setIfInBounds_toArray, List.set_cons_zero, List.set_cons_succ, i64_w, i32_w]
       rfl
      refine take_ (i := 32) (N := some 42) (v := ?_) (a' := ?_) #[true, true, true, true, true, true, true, true, true, true, true, true, true, true, true, true, true, true, true, true, true, true, true, true, true, true, true, true, false, true, true, false, true, false, false, false, false, false, false, false, false, false, false, false, false, false, false, false, false, false, false, false, false, false, false] rfl rfl (take_ofW HT_.out HW_.out (by kernel_rfl)) (fun _ _ _ h => h) (Or.inl ⟨by rfl, ?_⟩) hHeld ?_ ?_
      rotate_left
      ·rintro w' ⟨s0, s1, s2, s3, s4, s5⟩
       go_simp
       with_reducible rfl
      rotate_left
      ·simp only [Act.put, List.setIfInBounds_toArray, List.set_cons_zero, List.set_cons_succ, i64_w, i32_w]
       rfl
      refine one_ (i := 28) (N := some 38) #[true, true, true, true, true, true, true, true, true, true, true, true, true, true, true, true, true, true, true, true, true, true, true, true, true, true, true, true, true, true, true, false, true, false, false, false, false, false, false, false, false, false, false, false, false, false, false, false, false, false, false, false, false, false, false] rfl rfl (one_of HT_.out (by kernel_rfl)) (by decide) (fun K hK => ?_)
      refine goes_ Try.func18 (by kernel_rfl) rfl #[.int .i64 a0, .agg #[.int .u64 a1_0, .int .u64 a1_1]] (by rfl) rfl rfl (by (try simp only [List.map_toArray, List.map_cons, List.map_nil]); first | done | rfl | (simp only [List.length_drop, List.length_take]; rfl)) ?_
      with_reducible refine (tower_Square.calls k a0 a1_0 a1_1 t390 t391 _ A19.out).mono ?_
      rintro e w52 ⟨rfl, hb⟩
      refine ⟨_, rfl, ?_⟩
      have n0_ := Aside0.mk (blk_below (g := gb366) (o := .cells #[.int .u64 a1_0, .int .u64 a1_1] 24 (0, 0)) (by (with_reducible repeat (first | refine blk_drewN ?_ _ | refine blk_drew ?_ | refine blk_alloc ?_ _)); exact BK366.out) hb)
      have n1_ := Aside0.mk (blk_below (g := gb367) (o := .cells #[.int .u64 a2_0, .int .u64 a2_1] 24 (0, 0)) (by (with_reducible repeat (first | refine blk_drewN ?_ _ | refine blk_drew ?_ | refine blk_alloc ?_ _)); exact BK367.out) hb)
      have n2_ := Aside0.mk (blk_below (g := gb370) (o := .cells #[.int .u64 t368, .int .u64 t369] 39 (0, 0)) (by (with_reducible repeat (first | refine blk_drewN ?_ _ | refine blk_drew ?_ | refine blk_alloc ?_ _)); exact BK370.out) hb)
      have n3_ := Aside0.mk (below_step (by repeat (first | (with_reducible first | exact HB.out | apply below_alloc | apply pw_below_drewN | apply below_drew1 | refine below_set ?_ GE366.out | refine below_set ?_ GE367.out | refine below_set ?_ GE370.out) | exact HB.out)) hb)
      clear BK366
      clear BK367
      clear BK370
      clear HB
      have BK366 := n0_
      have BK367 := n1_
      have BK370 := n2_
      have HB := n3_
      clear n0_ n1_ n2_ n3_
      (try clear hb)
      (try clear hb2)
      (try clear hk)
      (try clear hi)
      refine hK.out _ _ ⟨(blk_cell BK366.out 0).trans rfl, (blk_cell BK366.out 1).trans rfl, (blk_cell BK367.out 0).trans rfl, (blk_cell BK367.out 1).trans rfl, (blk_cell BK370.out 0).trans rfl, (blk_cell BK370.out 1).trans rfl⟩ (fun hHeld => ?_)
      clear hK K
      refine norm_ (a' := ?_) ?_ ?_
      rotate_left
      ·show Act.put _ (some 38) _ = _
       simp only [Act.put, List.setIfInBounds_toArray, List.set_cons_zero, List.set_cons_succ, i64_w, i32_w]
       rfl
      refine one_ (i := 31) (N := some 41) #[true, true, true, true, true, true, true, true, true, true, true, true, true, true, true, true, true, true, true, true, true, true, true, true, true, true, true, true, true, true, true, true, true, false, false, false, false, false, false, false, false, false, false, false, false, false, false, false, false, false, false, false, false, false, false] rfl rfl (one_of HT_.out (by kernel_rfl)) (by decide) (fun K hK => ?_)
      refine goes_ Try.func20 (by kernel_rfl) rfl #[.agg #[.int .u64 a1_0, .int .u64 a1_1]] (by rfl) rfl rfl (by (try simp only [List.map_toArray, List.map_cons, List.map_nil]); first | done | rfl | (simp only [List.length_drop, List.length_take]; rfl)) ?_
      with_reducible refine (steeplelaw02_ref.calls a1_0 a1_1 t392 t393 _ A20.out).mono ?_
      rintro e w53 ⟨rfl, hb⟩
      refine ⟨_, rfl, ?_⟩
      have n0_ := Aside0.mk (blk_below (g := gb366) (o := .cells #[.int .u64 a1_0, .int .u64 a1_1] 24 (0, 0)) (by (with_reducible repeat (first | refine blk_drewN ?_ _ | refine blk_drew ?_ | refine blk_alloc ?_ _)); exact BK366.out) hb)
      have n1_ := Aside0.mk (blk_below (g := gb367) (o := .cells #[.int .u64 a2_0, .int .u64 a2_1] 24 (0, 0)) (by (with_reducible repeat (first | refine blk_drewN ?_ _ | refine blk_drew ?_ | refine blk_alloc ?_ _)); exact BK367.out) hb)
      have n2_ := Aside0.mk (blk_below (g := gb370) (o := .cells #[.int .u64 t368, .int .u64 t369] 39 (0, 0)) (by (with_reducible repeat (first | refine blk_drewN ?_ _ | refine blk_drew ?_ | refine blk_alloc ?_ _)); exact BK370.out) hb)
      have n3_ := Aside0.mk (below_step (by repeat (first | (with_reducible first | exact HB.out | apply below_alloc | apply pw_below_drewN | apply below_drew1 | refine below_set ?_ GE366.out | refine below_set ?_ GE367.out | refine below_set ?_ GE370.out) | exact HB.out)) hb)
      clear BK366
      clear BK367
      clear BK370
      clear HB
      have BK366 := n0_
      have BK367 := n1_
      have BK370 := n2_
      have HB := n3_
      clear n0_ n1_ n2_ n3_
      (try clear hb)
      (try clear hb2)
      (try clear hk)
      (try clear hi)
      refine hK.out _ _ ⟨(blk_cell BK366.out 0).trans rfl, (blk_cell BK366.out 1).trans rfl, (blk_cell BK367.out 0).trans rfl, (blk_cell BK367.out 1).trans rfl, (blk_cell BK370.out 0).trans rfl, (blk_cell BK370.out 1).trans rfl⟩ (fun hHeld => ?_)
      clear hK K
      refine norm_ (a' := ?_) ?_ ?_
      rotate_left
      ·show Act.put _ (some 41) _ = _
       simp only [Act.put, List.setIfInBounds_toArray, List.set_cons_zero, List.set_cons_succ, i64_w, i32_w]
       rfl
      refine one_ (i := 33) (N := some 43) #[true, true, true, true, true, true, true, true, true, true, true, true, true, true, true, true, true, true, true, true, true, true, true, true, true, true, true, true, true, true, true, true, true, true, false, false, false, false, false, false, false, false, false, false, false, false, false, false, false, false, false, false, false, false, false] rfl rfl (one_of HT_.out (by kernel_rfl)) (by decide) (fun K hK => ?_)
      refine goes_ Try.func20 (by kernel_rfl) rfl #[.agg #[.int .u64 a1_0, .int .u64 a1_1]] (by rfl) rfl rfl (by (try simp only [List.map_toArray, List.map_cons, List.map_nil]); first | done | rfl | (simp only [List.length_drop, List.length_take]; rfl)) ?_
      with_reducible refine (steeplelaw02_ref.calls a1_0 a1_1 t394 t395 _ A21.out).mono ?_
      rintro e w54 ⟨rfl, hb⟩
      refine ⟨_, rfl, ?_⟩
      have n0_ := Aside0.mk (blk_below (g := gb366) (o := .cells #[.int .u64 a1_0, .int .u64 a1_1] 24 (0, 0)) (by (with_reducible repeat (first | refine blk_drewN ?_ _ | refine blk_drew ?_ | refine blk_alloc ?_ _)); exact BK366.out) hb)
      have n1_ := Aside0.mk (blk_below (g := gb367) (o := .cells #[.int .u64 a2_0, .int .u64 a2_1] 24 (0, 0)) (by (with_reducible repeat (first | refine blk_drewN ?_ _ | refine blk_drew ?_ | refine blk_alloc ?_ _)); exact BK367.out) hb)
      have n2_ := Aside0.mk (blk_below (g := gb370) (o := .cells #[.int .u64 t368, .int .u64 t369] 39 (0, 0)) (by (with_reducible repeat (first | refine blk_drewN ?_ _ | refine blk_drew ?_ | refine blk_alloc ?_ _)); exact BK370.out) hb)
      have n3_ := Aside0.mk (below_step (by repeat (first | (with_reducible first | exact HB.out | apply below_alloc | apply pw_below_drewN | apply below_drew1 | refine below_set ?_ GE366.out | refine below_set ?_ GE367.out | refine below_set ?_ GE370.out) | exact HB.out)) hb)
      clear BK366
      clear BK367
      clear BK370
      clear HB
      have BK366 := n0_
      have BK367 := n1_
      have BK370 := n2_
      have HB := n3_
      clear n0_ n1_ n2_ n3_
      (try clear hb)
      (try clear hb2)
      (try clear hk)
      (try clear hi)
      refine hK.out _ _ ⟨(blk_cell BK366.out 0).trans rfl, (blk_cell BK366.out 1).trans rfl, (blk_cell BK367.out 0).trans rfl, (blk_cell BK367.out 1).trans rfl, (blk_cell BK370.out 0).trans rfl, (blk_cell BK370.out 1).trans rfl⟩ (fun hHeld => ?_)
      clear hK K
      refine norm_ (a' := ?_) ?_ ?_
      rotate_left
      ·show Act.put _ (some 43) _ = _
       simp only [Act.put, List.setIfInBounds_toArray, List.set_cons_zero, List.set_cons_succ, i64_w, i32_w]
       rfl
      refine one_ (i := 34) (N := some 44) #[true, true, true, true, true, true, true, true, true, true, true, true, true, true, true, true, true, true, true, true, true, true, true, true, true, true, true, true, true, true, true, true, true, true, true, false, false, false, false, false, false, false, false, false, false, false, false, false, false, false, false, false, false, false, false] rfl rfl (one_of HT_.out (by kernel_rfl)) (by decide) (fun K hK => ?_)
      refine goes_ Try.func26 (by kernel_rfl) rfl #[.int .i64 a0, .agg #[.int .u64 t392, .int .u64 t393], .agg #[.int .u64 t394, .int .u64 t395]] (by rfl) rfl rfl (by (try simp only [List.map_toArray, List.map_cons, List.map_nil]); first | done | rfl | (simp only [List.length_drop, List.length_take]; rfl)) ?_
      with_reducible refine (steepleref02_Mul.calls k a0 t392 t393 t394 t395 t396 t397 _ A22.out).mono ?_
      rintro e w55 ⟨rfl, hb⟩
      refine ⟨_, rfl, ?_⟩
      have n0_ := Aside0.mk (blk_below (g := gb366) (o := .cells #[.int .u64 a1_0, .int .u64 a1_1] 24 (0, 0)) (by (with_reducible repeat (first | refine blk_drewN ?_ _ | refine blk_drew ?_ | refine blk_alloc ?_ _)); exact BK366.out) hb)
      have n1_ := Aside0.mk (blk_below (g := gb367) (o := .cells #[.int .u64 a2_0, .int .u64 a2_1] 24 (0, 0)) (by (with_reducible repeat (first | refine blk_drewN ?_ _ | refine blk_drew ?_ | refine blk_alloc ?_ _)); exact BK367.out) hb)
      have n2_ := Aside0.mk (blk_below (g := gb370) (o := .cells #[.int .u64 t368, .int .u64 t369] 39 (0, 0)) (by (with_reducible repeat (first | refine blk_drewN ?_ _ | refine blk_drew ?_ | refine blk_alloc ?_ _)); exact BK370.out) hb)
      have n3_ := Aside0.mk (below_step (by repeat (first | (with_reducible first | exact HB.out | apply below_alloc | apply pw_below_drewN | apply below_drew1 | refine below_set ?_ GE366.out | refine below_set ?_ GE367.out | refine below_set ?_ GE370.out) | exact HB.out)) hb)
      clear BK366
      clear BK367
      clear BK370
      clear HB
      have BK366 := n0_
      have BK367 := n1_
      have BK370 := n2_
      have HB := n3_
      clear n0_ n1_ n2_ n3_
      (try clear hb)
      (try clear hb2)
      (try clear hk)
      (try clear hi)
      refine hK.out _ _ ⟨(blk_cell BK366.out 0).trans rfl, (blk_cell BK366.out 1).trans rfl, (blk_cell BK367.out 0).trans rfl, (blk_cell BK367.out 1).trans rfl, (blk_cell BK370.out 0).trans rfl, (blk_cell BK370.out 1).trans rfl⟩ (fun hHeld => ?_)
      clear hK K
      refine norm_ (a' := ?_) ?_ ?_
      rotate_left
      ·show Act.put _ (some 44) _ = _
       simp only [Act.put, List.setIfInBounds_toArray, List.set_cons_zero, List.set_cons_succ, i64_w, i32_w]
       rfl
      refine one_ (i := 35) (N := some 45) #[true, true, true, true, true, true, true, true, true, true, true, true, true, true, true, true, true, true, true, true, true, true, true, true, true, true, true, true, true, true, true, true, true, true, true, true, false, false, false, false, false, false, false, false, false, false, false, false, false, false, false, false, false, false, false] rfl rfl (one_of HT_.out (by kernel_rfl)) (by decide) (fun K hK => ?_)
      refine goes_ Try.func21 (by kernel_rfl) rfl #[.agg #[.int .u64 t390, .int .u64 t391], .agg #[.int .u64 t396, .int .u64 t397]] (by rfl) rfl rfl (by (try simp only [List.map_toArray, List.map_cons, List.map_nil]); first | done | rfl | (simp only [List.length_drop, List.length_take]; rfl)) ?_
      with_reducible refine (steeplelaw02_same.calls t390 t391 t396 t397 true _ A23.out).mono ?_
      rintro e w56 ⟨rfl, hb⟩
      refine ⟨_, rfl, ?_⟩
      have n0_ := Aside0.mk (blk_below (g := gb366) (o := .cells #[.int .u64 a1_0, .int .u64 a1_1] 24 (0, 0)) (by (with_reducible repeat (first | refine blk_drewN ?_ _ | refine blk_drew ?_ | refine blk_alloc ?_ _)); exact BK366.out) hb)
      have n1_ := Aside0.mk (blk_below (g := gb367) (o := .cells #[.int .u64 a2_0, .int .u64 a2_1] 24 (0, 0)) (by (with_reducible repeat (first | refine blk_drewN ?_ _ | refine blk_drew ?_ | refine blk_alloc ?_ _)); exact BK367.out) hb)
      have n2_ := Aside0.mk (blk_below (g := gb370) (o := .cells #[.int .u64 t368, .int .u64 t369] 39 (0, 0)) (by (with_reducible repeat (first | refine blk_drewN ?_ _ | refine blk_drew ?_ | refine blk_alloc ?_ _)); exact BK370.out) hb)
      have n3_ := Aside0.mk (below_step (by repeat (first | (with_reducible first | exact HB.out | apply below_alloc | apply pw_below_drewN | apply below_drew1 | refine below_set ?_ GE366.out | refine below_set ?_ GE367.out | refine below_set ?_ GE370.out) | exact HB.out)) hb)
      clear BK366
      clear BK367
      clear BK370
      clear HB
      have BK366 := n0_
      have BK367 := n1_
      have BK370 := n2_
      have HB := n3_
      clear n0_ n1_ n2_ n3_
      (try clear hb)
      (try clear hb2)
      (try clear hk)
      (try clear hi)
      refine hK.out _ _ ⟨(blk_cell BK366.out 0).trans rfl, (blk_cell BK366.out 1).trans rfl, (blk_cell BK367.out 0).trans rfl, (blk_cell BK367.out 1).trans rfl, (blk_cell BK370.out 0).trans rfl, (blk_cell BK370.out 1).trans rfl⟩ (fun hHeld => ?_)
      clear hK K
      refine norm_ (a' := ?_) ?_ ?_
      rotate_left
      ·show Act.put _ (some 45) _ = _
       simp only [Act.put, List.setIfInBounds_toArray, List.set_cons_zero, List.set_cons_succ, i64_w, i32_w]
       rfl
      refine pure_ (i := 36) (N := some 46) (v := ?_) (a' := ?_) #[true, true, true, true, true, true, true, true, true, true, true, true, true, true, true, true, true, true, true, true, true, true, true, true, true, true, true, true, true, true, true, true, true, true, true, true, true, false, false, false, false, false, false, false, false, false, false, false, false, false, false, false, false, false, false] rfl rfl (any_of HT_.out (by kernel_rfl)) (fun _ _ _ h => h) (Or.inl ⟨by rfl, ?_⟩) ?_ ?_
      rotate_left
      ·intro w'
       go_simp
       with_reducible rfl
      rotate_left
      ·simp only [Act.put, List.setIfInBounds_toArray, List.set_cons_zero, List.set_cons_succ, i64_w, i32_w]
       rfl
      refine pure_ (i := 37) (N := some 47) (v := ?_) (a' := ?_) #[true, true, true, true, true, true, true, true, true, true, true, true, true, true, true, true, true, true, true, true, true, true, true, true, true, true, true, true, true, true, true, true, true, true, true, true, true, true, false, false, false, false, false, false, false, false, false, false, false, false, false, false, false, false, false] rfl rfl (any_of HT_.out (by kernel_rfl)) (fun _ _ _ h => h) (Or.inl ⟨by rfl, ?_⟩) ?_ ?_
      rotate_left
      ·intro w'
       go_simp
       with_reducible rfl
      rotate_left
      ·simp only [Act.put, List.setIfInBounds_toArray, List.set_cons_zero, List.set_cons_succ, i64_w, i32_w]
       rfl
      refine pure_ (i := 38) (N := some 48) (v := ?_) (a' := ?_) #[true, true, true, true, true, true, true, true, true, true, true, true, true, true, true, true, true, true, true, true, true, true, true, true, true, true, true, true, true, true, true, true, true, true, true, true, true, true, true, false, false, false, false, false, false, false, false, false, false, false, false, false, false, false, false] rfl rfl (any_of HT_.out (by kernel_rfl)) (fun _ _ _ h => h) (Or.inl ⟨by rfl, ?_⟩) ?_ ?_
      rotate_left
      ·intro w'
       go_simp
       with_reducible rfl
      rotate_left
      ·simp only [Act.put, List.setIfInBounds_toArray, List.set_cons_zero, List.set_cons_succ, i64_w, i32_w]
       rfl
      refine pure_ (i := 41) (N := some 51) (v := ?_) (a' := ?_) #[true, true, true, true, true, true, true, true, true, true, true, true, true, true, true, true, true, true, true, true, true, true, true, true, true, true, true, true, true, true, true, true, true, true, true, true, true, true, true, false, false, true, false, false, false, false, false, false, false, false, false, false, false, false, false] rfl rfl (any_of HT_.out (by kernel_rfl)) (fun _ _ _ h => h) (Or.inl ⟨by rfl, ?_⟩) ?_ ?_
      rotate_left
      ·intro w'
       go_simp
       with_reducible rfl
      rotate_left
      ·simp only [Act.put, List.setIfInBounds_toArray, List.set_cons_zero, List.set_cons_succ, i64_w, i32_w]
       rfl
      refine take_ (i := 39) (N := some 49) (v := ?_) (a' := ?_) #[true, true, true, true, true, true, true, true, true, true, true, true, true, true, true, true, true, true, true, true, true, true, true, true, true, true, true, true, true, true, true, true, true, true, true, true, true, true, true, true, false, true, false, false, false, false, false, false, false, false, false, false, false, false, false] rfl rfl (take_ofW HT_.out HW_.out (by kernel_rfl)) (fun _ _ _ h => h) (Or.inl ⟨by rfl, ?_⟩) hHeld ?_ ?_
      rotate_left
      ·rintro w' ⟨s0, s1, s2, s3, s4, s5⟩
       go_simp
       with_reducible rfl
      rotate_left
      ·simp only [Act.put, List.setIfInBounds_toArray, List.set_cons_zero, List.set_cons_succ, i64_w, i32_w]
       rfl
      refine take_ (i := 42) (N := some 52) (v := ?_) (a' := ?_) #[true, true, true, true, true, true, true, true, true, true, true, true, true, true, true, true, true, true, true, true, true, true, true, true, true, true, true, true, true, true, true, true, true, true, true, true, true, true, true, true, false, true, true, false, false, false, false, false, false, false, false, false, false, false, false] rfl rfl (take_ofW HT_.out HW_.out (by kernel_rfl)) (fun _ _ _ h => h) (Or.inl ⟨by rfl, ?_⟩) hHeld ?_ ?_
      rotate_left
      ·rintro w' ⟨s0, s1, s2, s3, s4, s5⟩
       go_simp
       with_reducible rfl
      rotate_left
      ·simp only [Act.put, List.setIfInBounds_toArray, List.set_cons_zero, List.set_cons_succ, i64_w, i32_w]
       rfl
      refine take_ (i := 44) (N := some 54) (v := ?_) (a' := ?_) #[true, true, true, true, true, true, true, true, true, true, true, true, true, true, true, true, true, true, true, true, true, true, true, true, true, true, true, true, true, true, true, true, true, true, true, true, true, true, true, true, false, true, true, false, true, false, false, false, false, false, false, false, false, false, false] rfl rfl (take_ofW HT_.out HW_.out (by kernel_rfl)) (fun _ _ _ h => h) (Or.inl ⟨by rfl, ?_⟩) hHeld ?_ ?_
      rotate_left
      ·rintro w' ⟨s0, s1, s2, s3, s4, s5⟩
       go_simp
       with_reducible rfl
      rotate_left
      ·simp only [Act.put, List.setIfInBounds_toArray, List.set_cons_zero, List.set_cons_succ, i64_w, i32_w]
       rfl
      refine one_ (i := 40) (N := some 50) #[true, true, true, true, true, true, true, true, true, true, true, true, true, true, true, true, true, true, true, true, true, true, true, true, true, true, true, true, true, true, true, true, true, true, true, true, true, true, true, true, true, true, true, false, true, false, false, false, false, false, false, false, false, false, false] rfl rfl (one_of HT_.out (by kernel_rfl)) (by decide) (fun K hK => ?_)
      refine goes_ Try.func27 (by kernel_rfl) rfl #[.int .i64 a0, .agg #[.int .u64 a1_0, .int .u64 a1_1]] (by rfl) rfl rfl (by (try simp only [List.map_toArray, List.map_cons, List.map_nil]); first | done | rfl | (simp only [List.length_drop, List.length_take]; rfl)) ?_
      with_reducible refine (tower_MulX.calls k a0 a1_0 a1_1 t399 t400 _ A25.out).mono ?_
      rintro e w57 ⟨rfl, hb⟩
      refine ⟨_, rfl, ?_⟩
      have n0_ := Aside0.mk (blk_below (g := gb366) (o := .cells #[.int .u64 a1_0, .int .u64 a1_1] 24 (0, 0)) (by (with_reducible repeat (first | refine blk_drewN ?_ _ | refine blk_drew ?_ | refine blk_alloc ?_ _)); exact BK366.out) hb)
      have n1_ := Aside0.mk (blk_below (g := gb367) (o := .cells #[.int .u64 a2_0, .int .u64 a2_1] 24 (0, 0)) (by (with_reducible repeat (first | refine blk_drewN ?_ _ | refine blk_drew ?_ | refine blk_alloc ?_ _)); exact BK367.out) hb)
      have n2_ := Aside0.mk (blk_below (g := gb370) (o := .cells #[.int .u64 t368, .int .u64 t369] 39 (0, 0)) (by (with_reducible repeat (first | refine blk_drewN ?_ _ | refine blk_drew ?_ | refine blk_alloc ?_ _)); exact BK370.out) hb)
      have n3_ := Aside0.mk (below_step (by repeat (first | (with_reducible first | exact HB.out | apply below_alloc | apply pw_below_drewN | apply below_drew1 | refine below_set ?_ GE366.out | refine below_set ?_ GE367.out | refine below_set ?_ GE370.out) | exact HB.out)) hb)
      clear BK366
      clear BK367
      clear BK370
      clear HB
      have BK366 := n0_
      have BK367 := n1_
      have BK370 := n2_
      have HB := n3_
      clear n0_ n1_ n2_ n3_
      (try clear hb)
      (try clear hb2)
      (try clear hk)
      (try clear hi)
      refine hK.out _ _ ⟨(blk_cell BK366.out 0).trans rfl, (blk_cell BK366.out 1).trans rfl, (blk_cell BK367.out 0).trans rfl, (blk_cell BK367.out 1).trans rfl, (blk_cell BK370.out 0).trans rfl, (blk_cell BK370.out 1).trans rfl⟩ (fun hHeld => ?_)
      clear hK K
      refine norm_ (a' := ?_) ?_ ?_
      rotate_left
      ·show Act.put _ (some 50) _ = _
       simp only [Act.put, List.setIfInBounds_toArray, List.set_cons_zero, List.set_cons_succ, i64_w, i32_w]
       rfl
      refine one_ (i := 43) (N := some 53) #[true, true, true, true, true, true, true, true, true, true, true, true, true, true, true, true, true, true, true, true, true, true, true, true, true, true, true, true, true, true, true, true, true, true, true, true, true, true, true, true, true, true, true, true, true, false, false, false, false, false, false, false, false, false, false] rfl rfl (one_of HT_.out (by kernel_rfl)) (by decide) (fun K hK => ?_)
      refine goes_ Try.func20 (by kernel_rfl) rfl #[.agg #[.int .u64 a1_0, .int .u64 a1_1]] (by rfl) rfl rfl (by (try simp only [List.map_toArray, List.map_cons, List.map_nil]); first | done | rfl | (simp only [List.length_drop, List.length_take]; rfl)) ?_
      with_reducible refine (steeplelaw02_ref.calls a1_0 a1_1 t401 t402 _ A26.out).mono ?_
      rintro e w58 ⟨rfl, hb⟩
      refine ⟨_, rfl, ?_⟩
      have n0_ := Aside0.mk (blk_below (g := gb366) (o := .cells #[.int .u64 a1_0, .int .u64 a1_1] 24 (0, 0)) (by (with_reducible repeat (first | refine blk_drewN ?_ _ | refine blk_drew ?_ | refine blk_alloc ?_ _)); exact BK366.out) hb)
      have n1_ := Aside0.mk (blk_below (g := gb367) (o := .cells #[.int .u64 a2_0, .int .u64 a2_1] 24 (0, 0)) (by (with_reducible repeat (first | refine blk_drewN ?_ _ | refine blk_drew ?_ | refine blk_alloc ?_ _)); exact BK367.out) hb)
      have n2_ := Aside0.mk (blk_below (g := gb370) (o := .cells #[.int .u64 t368, .int .u64 t369] 39 (0, 0)) (by (with_reducible repeat (first | refine blk_drewN ?_ _ | refine blk_drew ?_ | refine blk_alloc ?_ _)); exact BK370.out) hb)
      have n3_ := Aside0.mk (below_step (by repeat (first | (with_reducible first | exact HB.out | apply below_alloc | apply pw_below_drewN | apply below_drew1 | refine below_set ?_ GE366.out | refine below_set ?_ GE367.out | refine below_set ?_ GE370.out) | exact HB.out)) hb)
      clear BK366
      clear BK367
      clear BK370
      clear HB
      have BK366 := n0_
      have BK367 := n1_
      have BK370 := n2_
      have HB := n3_
      clear n0_ n1_ n2_ n3_
      (try clear hb)
      (try clear hb2)
      (try clear hk)
      (try clear hi)
      refine hK.out _ _ ⟨(blk_cell BK366.out 0).trans rfl, (blk_cell BK366.out 1).trans rfl, (blk_cell BK367.out 0).trans rfl, (blk_cell BK367.out 1).trans rfl, (blk_cell BK370.out 0).trans rfl, (blk_cell BK370.out 1).trans rfl⟩ (fun hHeld => ?_)
      clear hK K
      refine norm_ (a' := ?_) ?_ ?_
      rotate_left
      ·show Act.put _ (some 53) _ = _
       simp only [Act.put, List.setIfInBounds_toArray, List.set_cons_zero, List.set_cons_succ, i64_w, i32_w]
       rfl
      refine one_ (i := 45) (N := some 55) #[true, true, true, true, true, true, true, true, true, true, true, true, true, true, true, true, true, true, true, true, true, true, true, true, true, true, true, true, true, true, true, true, true, true, true, true, true, true, true, true, true, true, true, true, true, true, false, false, false, false, false, false, false, false, false] rfl rfl (one_of HT_.out (by kernel_rfl)) (by decide) (fun K hK => ?_)
      refine goes_ Try.func26 (by kernel_rfl) rfl #[.int .i64 a0, .agg #[.int .u64 t401, .int .u64 t402], .agg #[.int .u64 t368, .int .u64 t369]] (by rfl) rfl rfl (by (try simp only [List.map_toArray, List.map_cons, List.map_nil]); first | done | rfl | (simp only [List.length_drop, List.length_take]; rfl)) ?_
      with_reducible refine (steepleref02_Mul.calls k a0 t401 t402 t368 t369 t403 t404 _ A27.out).mono ?_
      rintro e w59 ⟨rfl, hb⟩
      refine ⟨_, rfl, ?_⟩
      have n0_ := Aside0.mk (blk_below (g := gb366) (o := .cells #[.int .u64 a1_0, .int .u64 a1_1] 24 (0, 0)) (by (with_reducible repeat (first | refine blk_drewN ?_ _ | refine blk_drew ?_ | refine blk_alloc ?_ _)); exact BK366.out) hb)
      have n1_ := Aside0.mk (blk_below (g := gb367) (o := .cells #[.int .u64 a2_0, .int .u64 a2_1] 24 (0, 0)) (by (with_reducible repeat (first | refine blk_drewN ?_ _ | refine blk_drew ?_ | refine blk_alloc ?_ _)); exact BK367.out) hb)
      have n2_ := Aside0.mk (blk_below (g := gb370) (o := .cells #[.int .u64 t368, .int .u64 t369] 39 (0, 0)) (by (with_reducible repeat (first | refine blk_drewN ?_ _ | refine blk_drew ?_ | refine blk_alloc ?_ _)); exact BK370.out) hb)
      have n3_ := Aside0.mk (below_step (by repeat (first | (with_reducible first | exact HB.out | apply below_alloc | apply pw_below_drewN | apply below_drew1 | refine below_set ?_ GE366.out | refine below_set ?_ GE367.out | refine below_set ?_ GE370.out) | exact HB.out)) hb)
      clear BK366
      clear BK367
      clear BK370
      clear HB
      have BK366 := n0_
      have BK367 := n1_
      have BK370 := n2_
      have HB := n3_
      clear n0_ n1_ n2_ n3_
      (try clear hb)
      (try clear hb2)
      (try clear hk)
      (try clear hi)
      refine hK.out _ _ ⟨(blk_cell BK366.out 0).trans rfl, (blk_cell BK366.out 1).trans rfl, (blk_cell BK367.out 0).trans rfl, (blk_cell BK367.out 1).trans rfl, (blk_cell BK370.out 0).trans rfl, (blk_cell BK370.out 1).trans rfl⟩ (fun hHeld => ?_)
      clear hK K
      refine norm_ (a' := ?_) ?_ ?_
      rotate_left
      ·show Act.put _ (some 55) _ = _
       simp only [Act.put, List.setIfInBounds_toArray, List.set_cons_zero, List.set_cons_succ, i64_w, i32_w]
       rfl
      refine one_ (i := 46) (N := some 56) #[true, true, true, true, true, true, true, true, true, true, true, true, true, true, true, true, true, true, true, true, true, true, true, true, true, true, true, true, true, true, true, true, true, true, true, true, true, true, true, true, true, true, true, true, true, true, true, false, false, false, false, false, false, false, false] rfl rfl (one_of HT_.out (by kernel_rfl)) (by decide) (fun K hK => ?_)
      refine goes_ Try.func21 (by kernel_rfl) rfl #[.agg #[.int .u64 t399, .int .u64 t400], .agg #[.int .u64 t403, .int .u64 t404]] (by rfl) rfl rfl (by (try simp only [List.map_toArray, List.map_cons, List.map_nil]); first | done | rfl | (simp only [List.length_drop, List.length_take]; rfl)) ?_
      with_reducible refine (steeplelaw02_same.calls t399 t400 t403 t404 true _ A28.out).mono ?_
      rintro e w60 ⟨rfl, hb⟩
      refine ⟨_, rfl, ?_⟩
      have n0_ := Aside0.mk (blk_below (g := gb366) (o := .cells #[.int .u64 a1_0, .int .u64 a1_1] 24 (0, 0)) (by (with_reducible repeat (first | refine blk_drewN ?_ _ | refine blk_drew ?_ | refine blk_alloc ?_ _)); exact BK366.out) hb)
      have n1_ := Aside0.mk (blk_below (g := gb367) (o := .cells #[.int .u64 a2_0, .int .u64 a2_1] 24 (0, 0)) (by (with_reducible repeat (first | refine blk_drewN ?_ _ | refine blk_drew ?_ | refine blk_alloc ?_ _)); exact BK367.out) hb)
      have n2_ := Aside0.mk (blk_below (g := gb370) (o := .cells #[.int .u64 t368, .int .u64 t369] 39 (0, 0)) (by (with_reducible repeat (first | refine blk_drewN ?_ _ | refine blk_drew ?_ | refine blk_alloc ?_ _)); exact BK370.out) hb)
      have n3_ := Aside0.mk (below_step (by repeat (first | (with_reducible first | exact HB.out | apply below_alloc | apply pw_below_drewN | apply below_drew1 | refine below_set ?_ GE366.out | refine below_set ?_ GE367.out | refine below_set ?_ GE370.out) | exact HB.out)) hb)
      clear BK366
      clear BK367
      clear BK370
      clear HB
      have BK366 := n0_
      have BK367 := n1_
      have BK370 := n2_
      have HB := n3_
      clear n0_ n1_ n2_ n3_
      (try clear hb)
      (try clear hb2)
      (try clear hk)
      (try clear hi)
      refine hK.out _ _ ⟨(blk_cell BK366.out 0).trans rfl, (blk_cell BK366.out 1).trans rfl, (blk_cell BK367.out 0).trans rfl, (blk_cell BK367.out 1).trans rfl, (blk_cell BK370.out 0).trans rfl, (blk_cell BK370.out 1).trans rfl⟩ (fun hHeld => ?_)
      clear hK K
      refine norm_ (a' := ?_) ?_ ?_
      rotate_left
      ·show Act.put _ (some 56) _ = _
       simp only [Act.put, List.setIfInBounds_toArray, List.set_cons_zero, List.set_cons_succ, i64_w, i32_w]
       rfl
      refine pure_ (i := 47) (N := some 57) (v := ?_) (a' := ?_) #[true, true, true, true, true, true, true, true, true, true, true, true, true, true, true, true, true, true, true, true, true, true, true, true, true, true, true, true, true, true, true, true, true, true, true, true, true, true, true, true, true, true, true, true, true, true, true, true, false, false, false, false, false, false, false] rfl rfl (any_of HT_.out (by kernel_rfl)) (fun _ _ _ h => h) (Or.inl ⟨by rfl, ?_⟩) ?_ ?_
      rotate_left
      ·intro w'
       go_simp
       with_reducible rfl
      rotate_left
      ·simp only [Act.put, List.setIfInBounds_toArray, List.set_cons_zero, List.set_cons_succ, i64_w, i32_w]
       rfl
      refine pure_ (i := 48) (N := some 58) (v := ?_) (a' := ?_) #[true, true, true, true, true, true, true, true, true, true, true, true, true, true, true, true, true, true, true, true, true, true, true, true, true, true, true, true, true, true, true, true, true, true, true, true, true, true, true, true, true, true, true, true, true, true, true, true, true, false, false, false, false, false, false] rfl rfl (any_of HT_.out (by kernel_rfl)) (fun _ _ _ h => h) (Or.inl ⟨by rfl, ?_⟩) ?_ ?_
      rotate_left
      ·intro w'
       go_simp
       with_reducible rfl
      rotate_left
      ·simp only [Act.put, List.setIfInBounds_toArray, List.set_cons_zero, List.set_cons_succ, i64_w, i32_w]
       rfl
      refine pure_ (i := 49) (N := some 59) (v := ?_) (a' := ?_) #[true, true, true, true, true, true, true, true, true, true, true, true, true, true, true, true, true, true, true, true, true, true, true, true, true, true, true, true, true, true, true, true, true, true, true, true, true, true, true, true, true, true, true, true, true, true, true, true, true, true, false, false, false, false, false] rfl rfl (any_of HT_.out (by kernel_rfl)) (fun _ _ _ h => h) (Or.inl ⟨by rfl, ?_⟩) ?_ ?_
      rotate_left
      ·intro w'
       go_simp
       with_reducible rfl
      rotate_left
      ·simp only [Act.put, List.setIfInBounds_toArray, List.set_cons_zero, List.set_cons_succ, i64_w, i32_w]
       rfl
      refine take_ (i := 51) (N := some 61) (v := ?_) (a' := ?_) #[true, true, true, true, true, true, true, true, true, true, true, true, true, true, true, true, true, true, true, true, true, true, true, true, true, true, true, true, true, true, true, true, true, true, true, true, true, true, true, true, true, true, true, true, true, true, true, true, true, true, false, true, false, false, false] rfl rfl (take_ofW HT_.out HW_.out (by kernel_rfl)) (fun _ _ _ h => h) (Or.inl ⟨by rfl, ?_⟩) hHeld ?_ ?_
      rotate_left
      ·rintro w' ⟨s0, s1, s2, s3, s4, s5⟩
       go_simp
       with_reducible rfl
      rotate_left
      ·simp only [Act.put, List.setIfInBounds_toArray, List.set_cons_zero, List.set_cons_succ, i64_w, i32_w]
       rfl
      refine one_ (i := 50) (N := some 60) #[true, true, true, true, true, true, true, true, true, true, true, true, true, true, true, true, true, true, true, true, true, true, true, true, true, true, true, true, true, true, true, true, true, true, true, true, true, true, true, true, true, true, true, true, true, true, true, true, true, true, true, true, false, false, false] rfl rfl (one_of HT_.out (by kernel_rfl)) (by decide) (fun K hK => ?_)
      refine goes_ Try.func28 (by kernel_rfl) rfl #[.int .i64 a0] (by rfl) rfl rfl (by (try simp only [List.map_toArray, List.map_cons, List.map_nil]); first | done | rfl | (simp only [List.length_drop, List.length_take]; rfl)) ?_
      with_reducible refine (tower_X.calls k a0 t406 t407 _ A30.out).mono ?_
      rintro e w61 ⟨rfl, hb⟩
      refine ⟨_, rfl, ?_⟩
      have n0_ := Aside0.mk (blk_below (g := gb366) (o := .cells #[.int .u64 a1_0, .int .u64 a1_1] 24 (0, 0)) (by (with_reducible repeat (first | refine blk_drewN ?_ _ | refine blk_drew ?_ | refine blk_alloc ?_ _)); exact BK366.out) hb)
      have n1_ := Aside0.mk (blk_below (g := gb367) (o := .cells #[.int .u64 a2_0, .int .u64 a2_1] 24 (0, 0)) (by (with_reducible repeat (first | refine blk_drewN ?_ _ | refine blk_drew ?_ | refine blk_alloc ?_ _)); exact BK367.out) hb)
      have n2_ := Aside0.mk (blk_below (g := gb370) (o := .cells #[.int .u64 t368, .int .u64 t369] 39 (0, 0)) (by (with_reducible repeat (first | refine blk_drewN ?_ _ | refine blk_drew ?_ | refine blk_alloc ?_ _)); exact BK370.out) hb)
      have n3_ := Aside0.mk (below_step (by repeat (first | (with_reducible first | exact HB.out | apply below_alloc | apply pw_below_drewN | apply below_drew1 | refine below_set ?_ GE366.out | refine below_set ?_ GE367.out | refine below_set ?_ GE370.out) | exact HB.out)) hb)
      clear BK366
      clear BK367
      clear BK370
      clear HB
      have BK366 := n0_
      have BK367 := n1_
      have BK370 := n2_
      have HB := n3_
      clear n0_ n1_ n2_ n3_
      (try clear hb)
      (try clear hb2)
      (try clear hk)
      (try clear hi)
      refine hK.out _ _ ⟨(blk_cell BK366.out 0).trans rfl, (blk_cell BK366.out 1).trans rfl, (blk_cell BK367.out 0).trans rfl, (blk_cell BK367.out 1).trans rfl, (blk_cell BK370.out 0).trans rfl, (blk_cell BK370.out 1).trans rfl⟩ (fun hHeld => ?_)
      clear hK K
      refine norm_ (a' := ?_) ?_ ?_
      rotate_left
      ·show Act.put _ (some 60) _ = _
       simp only [Act.put, List.setIfInBounds_toArray, List.set_cons_zero, List.set_cons_succ, i64_w, i32_w]
       rfl
      refine one_ (i := 52) (N := some 62) #[true, true, true, true, true, true, true, true, true, true, true, true, true, true, true, true, true, true, true, true, true, true, true, true, true, true, true, true, true, true, true, true, true, true, true, true, true, true, true, true, true, true, true, true, true, true, true, true, true, true, true, true, true, false, false] rfl rfl (one_of HT_.out (by kernel_rfl)) (by decide) (fun K hK => ?_)
      refine goes_ Try.func21 (by kernel_rfl) rfl #[.agg #[.int .u64 t406, .int .u64 t407], .agg #[.int .u64 t368, .int .u64 t369]] (by rfl) rfl rfl (by (try simp only [List.map_toArray, List.map_cons, List.map_nil]); first | done | rfl | (simp only [List.length_drop, List.length_take]; rfl)) ?_
      with_reducible refine (steeplelaw02_same.calls t406 t407 t368 t369 t408 _ A31.out).mono ?_
      rintro e w62 ⟨rfl, hb⟩
      refine ⟨_, rfl, ?_⟩
      have n0_ := Aside0.mk (blk_below (g := gb366) (o := .cells #[.int .u64 a1_0, .int .u64 a1_1] 24 (0, 0)) (by (with_reducible repeat (first | refine blk_drewN ?_ _ | refine blk_drew ?_ | refine blk_alloc ?_ _)); exact BK366.out) hb)
      have n1_ := Aside0.mk (blk_below (g := gb367) (o := .cells #[.int .u64 a2_0, .int .u64 a2_1] 24 (0, 0)) (by (with_reducible repeat (first | refine blk_drewN ?_ _ | refine blk_drew ?_ | refine blk_alloc ?_ _)); exact BK367.out) hb)
      have n2_ := Aside0.mk (blk_below (g := gb370) (o := .cells #[.int .u64 t368, .int .u64 t369] 39 (0, 0)) (by (with_reducible repeat (first | refine blk_drewN ?_ _ | refine blk_drew ?_ | refine blk_alloc ?_ _)); exact BK370.out) hb)
      have n3_ := Aside0.mk (below_step (by repeat (first | (with_reducible first | exact HB.out | apply below_alloc | apply pw_below_drewN | apply below_drew1 | refine below_set ?_ GE366.out | refine below_set ?_ GE367.out | refine below_set ?_ GE370.out) | exact HB.out)) hb)
      clear BK366
      clear BK367
      clear BK370
      clear HB
      have BK366 := n0_
      have BK367 := n1_
      have BK370 := n2_
      have HB := n3_
      clear n0_ n1_ n2_ n3_
      (try clear hb)
      (try clear hb2)
      (try clear hk)
      (try clear hi)
      refine hK.out _ _ ⟨(blk_cell BK366.out 0).trans rfl, (blk_cell BK366.out 1).trans rfl, (blk_cell BK367.out 0).trans rfl, (blk_cell BK367.out 1).trans rfl, (blk_cell BK370.out 0).trans rfl, (blk_cell BK370.out 1).trans rfl⟩ (fun hHeld => ?_)
      clear hK K
      refine norm_ (a' := ?_) ?_ ?_
      rotate_left
      ·show Act.put _ (some 62) _ = _
       simp only [Act.put, List.setIfInBounds_toArray, List.set_cons_zero, List.set_cons_succ, i64_w, i32_w]
       rfl
      refine pure_ (i := 53) (N := some 63) (v := ?_) (a' := ?_) #[true, true, true, true, true, true, true, true, true, true, true, true, true, true, true, true, true, true, true, true, true, true, true, true, true, true, true, true, true, true, true, true, true, true, true, true, true, true, true, true, true, true, true, true, true, true, true, true, true, true, true, true, true, true, false] rfl rfl (any_of HT_.out (by kernel_rfl)) (fun _ _ _ h => h) (Or.inl ⟨by rfl, ?_⟩) ?_ ?_
      rotate_left
      ·intro w'
       go_simp
       with_reducible rfl
      rotate_left
      ·simp only [Act.put, List.setIfInBounds_toArray, List.set_cons_zero, List.set_cons_succ, i64_w, i32_w]
       rfl
      refine pure_ (i := 54) (N := some 6) (v := ?_) (a' := ?_) #[true, true, true, true, true, true, true, true, true, true, true, true, true, true, true, true, true, true, true, true, true, true, true, true, true, true, true, true, true, true, true, true, true, true, true, true, true, true, true, true, true, true, true, true, true, true, true, true, true, true, true, true, true, true, true] rfl rfl (any_of HT_.out (by kernel_rfl)) (fun _ _ _ h => h) (Or.inl ⟨by rfl, ?_⟩) ?_ ?_
      rotate_left
      ·intro w'
       go_simp
       with_reducible rfl
      rotate_left
      ·simp only [Act.put, List.setIfInBounds_toArray, List.set_cons_zero, List.set_cons_succ, i64_w, i32_w]
       rfl
      refine done_ (done_of HT_.out (by kernel_rfl)) ?_
      try go_wp2
      go_ret
      exact ⟨by first | rfl | (simp [errW_none, errW_some] <;> rfl) | (simp [*, errW_none, errW_some] <;> rfl), by repeat (first | (with_reducible first | exact HB.out | apply below_alloc | apply pw_below_drewN | apply below_drew1 | refine below_set ?_ GE366.out | refine below_set ?_ GE367.out | refine below_set ?_ GE370.out) | exact HB.out)⟩
     ·replace c29 := Bool.eq_false_iff.mpr c29
      subst c29
      have H1 : (none) = some r := by rw [if_neg (show ¬ (false = true) by decide)] at H; exact H
      clear H
      have H := H1
      clear H1
      exact absurd H (by simp)
    ·replace c24 := Bool.eq_false_iff.mpr c24
     subst c24
     have H1 : (none) = some r := by rw [if_neg (show ¬ (false = true) by decide)] at H; exact H
     clear H
     have H := H1
     clear H1
     exact absurd H (by simp)
   ·replace c18 := Bool.eq_false_iff.mpr c18
    subst c18
    have H1 : (none) = some r := by rw [if_neg (show ¬ (false = true) by decide)] at H; exact H
    clear H
    have H := H1
    clear H1
    exact absurd H (by simp)
  ·replace c12 := Bool.eq_false_iff.mpr c12
   subst c12
   have H1 : (none) = some r := by rw [if_neg (show ¬ (false = true) by decide)] at H; exact H
   clear H
   have H := H1
   clear H1
   exact absurd H (by simp)
 ·replace c6 := Bool.eq_false_iff.mpr c6
  subst c6
  have H1 : (none) = some r := by rw [if_neg (show ¬ (false = true) by decide)] at H; exact H
  clear H
  have H := H1
  clear H1
  exact absurd H (by simp)

/-- THE ONE PURE STATEMENT of steeplelaw02_TowerMuls. -/
def steeplelaw02_TowerMuls.Pure : Prop := ∀ (x0 : Int) (x1 : S24) (x2 : S24), (Lit.int .i64 x0).wf = true → ((Lit.int .u64 x1.f0).wf = true ∧ (Lit.int .u64 x1.f1).wf = true) → ((Lit.int .u64 x2.f0).wf = true ∧ (Lit.int .u64 x2.f1).wf = true) → ∃ k, steeplelaw02_TowerMuls.f k x0 x1.f0 x1.f1 x2.f0 x2.f1 = some true

end Go.Proofs.Ytbjjjdallodbgaa.P
