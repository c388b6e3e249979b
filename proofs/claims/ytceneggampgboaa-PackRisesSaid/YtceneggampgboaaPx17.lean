/- Written by a program of this session: functions that the law reaches, as Lean functions, and that the code comes to their answers. Conditions: those that each theorem names. -/
import Derived.Test.YtceneggampgboaaPx0
import Derived.Test.YtceneggampgboaaPx5
import Derived.Test.YtceneggampgboaaPx6
import Derived.Test.YtceneggampgboaaPx8
import Derived.Test.YtceneggampgboaaPx12
import Derived.Test.YtceneggampgboaaPx14
import Derived.Test.YtceneggampgboaaPx15
import Derived.Test.YtceneggampgboaaPx16
namespace Go.Proofs.Ytceneggampgboaa.P
open Go.RowKit Go.Proofs.YtceneggampgboaaX Go.Proofs.YtceneggampgboaaW.PrintWords Go.Proofs.YtceneggampgboaaW.PrintLast Go.Proofs.YtceneggampgboaaW.PrintMore
attribute [local go_sem] max2_int min2_int max_two min_two max_three min_three max_four min_four   -- for this text's walks alone
set_option linter.unusedVariables false
set_option linter.unusedSimpArgs false

/-! ### steeplelaw03_PackRises: function 4 -/
mutual
def steeplelaw03_PackRises.j1 : Nat → Int → Int → List (S44) → Int → Int → List Int → Option (Bool)
 | 0, _, _, _, _, _, _ => none
 | k + 1, x12, x453000, x453001, x473000, x473001, x473002 => if x12 = 0 then ((pack_Rise.f k x473000 x473001 x473002).bind fun bt527 => ((steeplelaw03_awake.f k).bind fun t534 => (if t534 = true then (if bt527.2.2.2 = 0 then ((steeplelaw03_same.f k bt527.1 bt527.2.1 bt527.2.2.1 x453000 x453001).bind fun t535 => (some t535)) else (none)) else (none)))) else ((steeplelaw03_awake.f k).bind fun t536 => (some t536))
def steeplelaw03_PackRises.j0 : Nat → Int → Bool → Int → List (S44) → Int → Int → List Int → Int → Int → List Int → Int → Int → List Int → Int → Int → List Int → Option (Bool)
 | 0, _, _, _, _, _, _, _, _, _, _, _, _, _, _, _, _ => none
 | k + 1, x12, x113, x453000, x453001, x460000, x460001, x460002, x473000, x473001, x473002, x496000, x496001, x496002, x503000, x503001, x503002 => if x113 = true then ((pack_Rise.f k x496000 x496001 x496002).bind fun bt503 => ((pack_Add.f k x460000 x460001 x460002 x503000 x503001 x503002).bind fun bt510 => (if bt503.2.2.2 = 0 then (if bt510.2.2.2 = 0 then ((pack_Vec_Elems.f k bt503.1 bt503.2.1 bt503.2.2.1).bind fun t517 => ((pack_Vec_Elems.f k bt510.1 bt510.2.1 bt510.2.2.1).bind fun t520 => ((steeplelaw01_Ref.f k t520).bind fun t523 => ((steeplelaw01_Same.f k t517 t523).bind fun t526 => (if t526 = true then (steeplelaw03_PackRises.j1 k x12 x453000 x453001 x473000 x473001 x473002) else (none)))))) else (none)) else (none)))) else (steeplelaw03_PackRises.j1 k x12 x453000 x453001 x473000 x473001 x473002)
end
def steeplelaw03_PackRises.f (k : Nat) (a0_0 : Int) (a0_1 : Int) (l0_2 : List (S25)) (l0_3 : List (S25)) : Option (Bool) := (steeplelaw03_Pair_made.f k a0_0 a0_1 l0_2 l0_3).bind fun bt435 => (if bt435.2.2.2.2.2.2 = true then ((steeplelaw01_Ref.f k l0_2).bind fun t449 => ((pack_Rise.f k bt435.1 bt435.2.1 bt435.2.2.1).bind fun bt453 => ((steepleref03_Rise.f k a0_0 t449).bind fun bt460 => ((pack_Fall.f k bt435.1 bt435.2.1 bt435.2.2.1).bind fun bt466 => ((steepleref03_Fall.f k a0_0 t449).bind fun bt473 => (if bt453.2.2.2 = bt460.2.2 then ((steeplelaw03_same.f k bt453.1 bt453.2.1 bt453.2.2.1 bt460.1 bt460.2.1).bind fun t479 => (if t479 = true then (if bt466.2.2.2 = bt473.2.2 then ((steeplelaw03_same.f k bt466.1 bt466.2.1 bt466.2.2.1 bt473.1 bt473.2.1).bind fun t480 => (if t480 = true then (if bt453.2.2.2 = 0 then ((pack_Fall.f k bt453.1 bt453.2.1 bt453.2.2.1).bind fun bt481 => (if bt481.2.2.2 = 0 then ((steeplelaw03_same.f k bt481.1 bt481.2.1 bt481.2.2.1 a0_0 t449).bind fun t488 => (if t488 = true then ((pack_Add.f k bt435.1 bt435.2.1 bt435.2.2.1 bt435.2.2.2.1 bt435.2.2.2.2.1 bt435.2.2.2.2.2.1).bind fun bt489 => ((pack_Rise.f k bt435.2.2.2.1 bt435.2.2.2.2.1 bt435.2.2.2.2.2.1).bind fun bt496 => (if bt489.2.2.2 = 0 then (steeplelaw03_PackRises.j0 k bt466.2.2.2 (bt496.2.2.2 == 0) a0_0 t449 bt453.1 bt453.2.1 bt453.2.2.1 bt466.1 bt466.2.1 bt466.2.2.1 bt489.1 bt489.2.1 bt489.2.2.1 bt496.1 bt496.2.1 bt496.2.2.1) else (steeplelaw03_PackRises.j0 k bt466.2.2.2 false a0_0 t449 bt453.1 bt453.2.1 bt453.2.2.1 bt466.1 bt466.2.1 bt466.2.2.1 bt489.1 bt489.2.1 bt489.2.2.1 bt496.1 bt496.2.1 bt496.2.2.1)))) else (none))) else (none))) else (steeplelaw03_PackRises.j1 k bt466.2.2.2 a0_0 t449 bt466.1 bt466.2.1 bt466.2.2.1)) else (none))) else (none)) else (none))) else (none))))))) else ((steeplelaw03_awake.f k).bind fun t448 => (some t448)))
theorem steeplelaw03_PackRises.mono_l : ∀ k, (∀ y0 y1 y2 y3 y4 y5, LeO (steeplelaw03_PackRises.j1 k y0 y1 y2 y3 y4 y5) (steeplelaw03_PackRises.j1 (k + 1) y0 y1 y2 y3 y4 y5)) ∧ (∀ y0 y1 y2 y3 y4 y5 y6 y7 y8 y9 y10 y11 y12 y13 y14 y15, LeO (steeplelaw03_PackRises.j0 k y0 y1 y2 y3 y4 y5 y6 y7 y8 y9 y10 y11 y12 y13 y14 y15) (steeplelaw03_PackRises.j0 (k + 1) y0 y1 y2 y3 y4 y5 y6 y7 y8 y9 y10 y11 y12 y13 y14 y15))
 | 0 => ⟨fun _ _ _ _ _ _ r h => by simp [steeplelaw03_PackRises.j1] at h, fun _ _ _ _ _ _ _ _ _ _ _ _ _ _ _ _ r h => by simp [steeplelaw03_PackRises.j0] at h⟩
 | k + 1 => by
  obtain ⟨ih0, ih1⟩ := steeplelaw03_PackRises.mono_l k
  refine ⟨?_, ?_⟩
  ·intro y0 y1 y2 y3 y4 y5
   unfold steeplelaw03_PackRises.j1
   repeat' first
   | (with_reducible exact ih0 _ _ _ _ _ _)
   | (with_reducible exact ih1 _ _ _ _ _ _ _ _ _ _ _ _ _ _ _ _)
   | (with_reducible exact pack_Add.mono _ _ _ _ _ _ _)
   | (with_reducible exact pack_Fall.mono _ _ _ _)
   | (with_reducible exact pack_Rise.mono _ _ _ _)
   | (with_reducible exact pack_Vec_Elems.mono _ _ _ _)
   | (with_reducible exact steeplelaw01_Ref.mono _ _)
   | (with_reducible exact steeplelaw01_Same.mono _ _ _)
   | (with_reducible exact steeplelaw03_Pair_made.mono _ _ _ _ _)
   | (with_reducible exact steeplelaw03_awake.mono _)
   | (with_reducible exact steeplelaw03_same.mono _ _ _ _ _ _)
   | (with_reducible exact steepleref03_Fall.mono _ _ _)
   | (with_reducible exact steepleref03_Rise.mono _ _ _)
   | (with_reducible exact LeO.refl _)
   | (with_reducible exact LeO.none _)
   | (with_reducible refine LeO.ite ?_ ?_)
   | (with_reducible refine LeO.bind ?_ (fun _ => ?_))
   | exact ih0 _ _ _ _ _ _
   | exact ih1 _ _ _ _ _ _ _ _ _ _ _ _ _ _ _ _
   | exact pack_Add.mono _ _ _ _ _ _ _
   | exact pack_Fall.mono _ _ _ _
   | exact pack_Rise.mono _ _ _ _
   | exact pack_Vec_Elems.mono _ _ _ _
   | exact steeplelaw01_Ref.mono _ _
   | exact steeplelaw01_Same.mono _ _ _
   | exact steeplelaw03_Pair_made.mono _ _ _ _ _
   | exact steeplelaw03_awake.mono _
   | exact steeplelaw03_same.mono _ _ _ _ _ _
   | exact steepleref03_Fall.mono _ _ _
   | exact steepleref03_Rise.mono _ _ _
   | exact LeO.none _
   | refine LeO.ite ?_ ?_
   | refine LeO.bind ?_ (fun _ => ?_)
  ·intro y0 y1 y2 y3 y4 y5 y6 y7 y8 y9 y10 y11 y12 y13 y14 y15
   unfold steeplelaw03_PackRises.j0
   repeat' first
   | (with_reducible exact ih0 _ _ _ _ _ _)
   | (with_reducible exact ih1 _ _ _ _ _ _ _ _ _ _ _ _ _ _ _ _)
   | (with_reducible exact pack_Add.mono _ _ _ _ _ _ _)
   | (with_reducible exact pack_Fall.mono _ _ _ _)
   | (with_reducible exact pack_Rise.mono _ _ _ _)
   | (with_reducible exact pack_Vec_Elems.mono _ _ _ _)
   | (with_reducible exact steeplelaw01_Ref.mono _ _)
   | (with_reducible exact steeplelaw01_Same.mono _ _ _)
   | (with_reducible exact steeplelaw03_Pair_made.mono _ _ _ _ _)
   | (with_reducible exact steeplelaw03_awake.mono _)
   | (with_reducible exact steeplelaw03_same.mono _ _ _ _ _ _)
   | (with_reducible exact steepleref03_Fall.mono _ _ _)
   | (with_reducible exact steepleref03_Rise.mono _ _ _)
   | (with_reducible exact LeO.refl _)
   | (with_reducible exact LeO.none _)
   | (with_reducible refine LeO.ite ?_ ?_)
   | (with_reducible refine LeO.bind ?_ (fun _ => ?_))
   | exact ih0 _ _ _ _ _ _
   | exact ih1 _ _ _ _ _ _ _ _ _ _ _ _ _ _ _ _
   | exact pack_Add.mono _ _ _ _ _ _ _
   | exact pack_Fall.mono _ _ _ _
   | exact pack_Rise.mono _ _ _ _
   | exact pack_Vec_Elems.mono _ _ _ _
   | exact steeplelaw01_Ref.mono _ _
   | exact steeplelaw01_Same.mono _ _ _
   | exact steeplelaw03_Pair_made.mono _ _ _ _ _
   | exact steeplelaw03_awake.mono _
   | exact steeplelaw03_same.mono _ _ _ _ _ _
   | exact steepleref03_Fall.mono _ _ _
   | exact steepleref03_Rise.mono _ _ _
   | exact LeO.none _
   | refine LeO.ite ?_ ?_
   | refine LeO.bind ?_ (fun _ => ?_)
theorem steeplelaw03_PackRises.mono : ∀ a0 a1 a2 a3 k, LeO (steeplelaw03_PackRises.f k a0 a1 a2 a3) (steeplelaw03_PackRises.f (k + 1) a0 a1 a2 a3) := by
 intro a0 a1 a2 a3 k
 obtain ⟨ih0, ih1⟩ := steeplelaw03_PackRises.mono_l k
 unfold steeplelaw03_PackRises.f
 repeat' first
   | (with_reducible exact ih0 _ _ _ _ _ _)
   | (with_reducible exact ih1 _ _ _ _ _ _ _ _ _ _ _ _ _ _ _ _)
   | (with_reducible exact pack_Add.mono _ _ _ _ _ _ _)
   | (with_reducible exact pack_Fall.mono _ _ _ _)
   | (with_reducible exact pack_Rise.mono _ _ _ _)
   | (with_reducible exact pack_Vec_Elems.mono _ _ _ _)
   | (with_reducible exact steeplelaw01_Ref.mono _ _)
   | (with_reducible exact steeplelaw01_Same.mono _ _ _)
   | (with_reducible exact steeplelaw03_Pair_made.mono _ _ _ _ _)
   | (with_reducible exact steeplelaw03_awake.mono _)
   | (with_reducible exact steeplelaw03_same.mono _ _ _ _ _ _)
   | (with_reducible exact steepleref03_Fall.mono _ _ _)
   | (with_reducible exact steepleref03_Rise.mono _ _ _)
   | (with_reducible exact LeO.refl _)
   | (with_reducible exact LeO.none _)
   | (with_reducible refine LeO.ite ?_ ?_)
   | (with_reducible refine LeO.bind ?_ (fun _ => ?_))
   | exact ih0 _ _ _ _ _ _
   | exact ih1 _ _ _ _ _ _ _ _ _ _ _ _ _ _ _ _
   | exact pack_Add.mono _ _ _ _ _ _ _
   | exact pack_Fall.mono _ _ _ _
   | exact pack_Rise.mono _ _ _ _
   | exact pack_Vec_Elems.mono _ _ _ _
   | exact steeplelaw01_Ref.mono _ _
   | exact steeplelaw01_Same.mono _ _ _
   | exact steeplelaw03_Pair_made.mono _ _ _ _ _
   | exact steeplelaw03_awake.mono _
   | exact steeplelaw03_same.mono _ _ _ _ _ _
   | exact steepleref03_Fall.mono _ _ _
   | exact steepleref03_Rise.mono _ _ _
   | exact LeO.none _
   | refine LeO.ite ?_ ?_
   | refine LeO.bind ?_ (fun _ => ?_)
def steeplelaw03_PackRises.T4 : Bool × List (List Nat × List Nat) := (true, [([], []), ([0], [0]), ([], []), ([2], [2]), ([3], [3]), ([1, 4], [1, 4]), ([], []), ([6, 5, 4, 0, 1, 2, 3, 4, 5, 6], [5, 6])])
def steeplelaw03_PackRises.B4 : List Nat := [0, 1, 0, 4, 12, 31, 0, 127]
theorem steeplelaw03_PackRises.tab4 : rtab .any (opsOf Try.f4 4) = steeplelaw03_PackRises.T4 := by kernel_rfl
theorem steeplelaw03_PackRises.bits4 : waitsOk steeplelaw03_PackRises.T4.2 steeplelaw03_PackRises.B4 = true := by kernel_rfl
def steeplelaw03_PackRises.T20 : Bool × List (List Nat × List Nat) := (true, [([], []), ([0], [0]), ([1], [1]), ([2], [2]), ([3, 2], [2, 3]), ([2, 4], [2, 4]), ([5, 2], [5]), ([6], [6]), ([7, 6, 6], [6, 7]), ([6], [6]), ([9, 8, 6], [6, 9]), ([10, 10, 6], [6, 10]), ([8, 11, 11, 6], [6, 8, 11]), ([12, 6], [6, 12]), ([6, 13], [6, 13])])
def steeplelaw03_PackRises.B20 : List Nat := [0, 1, 3, 7, 15, 31, 63, 127, 255, 127, 1023, 2047, 4095, 8191, 16383]
theorem steeplelaw03_PackRises.tab20 : rtab .any (opsOf Try.f4 20) = steeplelaw03_PackRises.T20 := by kernel_rfl
theorem steeplelaw03_PackRises.bits20 : waitsOk steeplelaw03_PackRises.T20.2 steeplelaw03_PackRises.B20 = true := by kernel_rfl
set_option maxHeartbeats 8000000 in
set_option maxRecDepth 100000 in
theorem steeplelaw03_PackRises.calls (k : Nat) (a0_0 : Int) (a0_1 : Int) (A0_2 : Option Addr) (c0_2 : Nat) (l0_2 : List (S25)) (A0_3 : Option Addr) (c0_3 : Nat) (l0_3 : List (S25)) (r : Bool) (w : World) (hr0_2 : Kd.C k25 w A0_2 l0_2.length l0_2) (hc0_2 : l0_2.length ≤ c0_2) (hr0_3 : Kd.C k25 w A0_3 l0_3.length l0_3) (hc0_3 : l0_3.length ≤ c0_3) (h : steeplelaw03_PackRises.f k a0_0 a0_1 l0_2 l0_3 = some r) :
  Calls Try.prog 4 #[.agg #[.int .i64 a0_0, .int .i64 a0_1, .slice A0_2 l0_2.length c0_2, .slice A0_3 l0_3.length c0_3]] w fun e w' => e = .returned (.bool r) ∧ Below w.heap.size w w' := by
 have hu49 := Try.underlying49
 have hu31 := Try.underlying31
 have hu37 := Try.underlying37
 have HR0_2 := Aside0.mk hr0_2
 have HC0_2 := Aside0.mk hc0_2
 clear hr0_2 hc0_2
 have HR0_3 := Aside0.mk hr0_3
 have HC0_3 := Aside0.mk hc0_3
 clear hr0_3 hc0_3
 have HB := Aside0.mk (Below.refl w.heap.size w)
 have H : ((steeplelaw03_Pair_made.f k a0_0 a0_1 l0_2 l0_3).bind fun bt435 => (if bt435.2.2.2.2.2.2 = true then ((steeplelaw01_Ref.f k l0_2).bind fun t449 => ((pack_Rise.f k bt435.1 bt435.2.1 bt435.2.2.1).bind fun bt453 => ((steepleref03_Rise.f k a0_0 t449).bind fun bt460 => ((pack_Fall.f k bt435.1 bt435.2.1 bt435.2.2.1).bind fun bt466 => ((steepleref03_Fall.f k a0_0 t449).bind fun bt473 => (if bt453.2.2.2 = bt460.2.2 then ((steeplelaw03_same.f k bt453.1 bt453.2.1 bt453.2.2.1 bt460.1 bt460.2.1).bind fun t479 => (if t479 = true then (if bt466.2.2.2 = bt473.2.2 then ((steeplelaw03_same.f k bt466.1 bt466.2.1 bt466.2.2.1 bt473.1 bt473.2.1).bind fun t480 => (if t480 = true then (if bt453.2.2.2 = 0 then ((pack_Fall.f k bt453.1 bt453.2.1 bt453.2.2.1).bind fun bt481 => (if bt481.2.2.2 = 0 then ((steeplelaw03_same.f k bt481.1 bt481.2.1 bt481.2.2.1 a0_0 t449).bind fun t488 => (if t488 = true then ((pack_Add.f k bt435.1 bt435.2.1 bt435.2.2.1 bt435.2.2.2.1 bt435.2.2.2.2.1 bt435.2.2.2.2.2.1).bind fun bt489 => ((pack_Rise.f k bt435.2.2.2.1 bt435.2.2.2.2.1 bt435.2.2.2.2.2.1).bind fun bt496 => (if bt489.2.2.2 = 0 then (steeplelaw03_PackRises.j0 k bt466.2.2.2 (bt496.2.2.2 == 0) a0_0 t449 bt453.1 bt453.2.1 bt453.2.2.1 bt466.1 bt466.2.1 bt466.2.2.1 bt489.1 bt489.2.1 bt489.2.2.1 bt496.1 bt496.2.1 bt496.2.2.1) else (steeplelaw03_PackRises.j0 k bt466.2.2.2 false a0_0 t449 bt453.1 bt453.2.1 bt453.2.2.1 bt466.1 bt466.2.1 bt466.2.2.1 bt489.1 bt489.2.1 bt489.2.2.1 bt496.1 bt496.2.1 bt496.2.2.1)))) else (none))) else (none))) else (steeplelaw03_PackRises.j1 k bt466.2.2.2 a0_0 t449 bt466.1 bt466.2.1 bt466.2.2.1)) else (none))) else (none)) else (none))) else (none))))))) else ((steeplelaw03_awake.f k).bind fun t448 => (some t448)))) = some r := h
 clear h
 replace H := Option.bind_eq_some_iff.mp H
 obtain ⟨⟨t435, t436, t437, t440, t441, t442, t445⟩, A20, H⟩ := H
 replace H : (if t445 = true then ((steeplelaw01_Ref.f k l0_2).bind fun t449 => ((pack_Rise.f k t435 t436 t437).bind fun bt453 => ((steepleref03_Rise.f k a0_0 t449).bind fun bt460 => ((pack_Fall.f k t435 t436 t437).bind fun bt466 => ((steepleref03_Fall.f k a0_0 t449).bind fun bt473 => (if bt453.2.2.2 = bt460.2.2 then ((steeplelaw03_same.f k bt453.1 bt453.2.1 bt453.2.2.1 bt460.1 bt460.2.1).bind fun t479 => (if t479 = true then (if bt466.2.2.2 = bt473.2.2 then ((steeplelaw03_same.f k bt466.1 bt466.2.1 bt466.2.2.1 bt473.1 bt473.2.1).bind fun t480 => (if t480 = true then (if bt453.2.2.2 = 0 then ((pack_Fall.f k bt453.1 bt453.2.1 bt453.2.2.1).bind fun bt481 => (if bt481.2.2.2 = 0 then ((steeplelaw03_same.f k bt481.1 bt481.2.1 bt481.2.2.1 a0_0 t449).bind fun t488 => (if t488 = true then ((pack_Add.f k t435 t436 t437 t440 t441 t442).bind fun bt489 => ((pack_Rise.f k t440 t441 t442).bind fun bt496 => (if bt489.2.2.2 = 0 then (steeplelaw03_PackRises.j0 k bt466.2.2.2 (bt496.2.2.2 == 0) a0_0 t449 bt453.1 bt453.2.1 bt453.2.2.1 bt466.1 bt466.2.1 bt466.2.2.1 bt489.1 bt489.2.1 bt489.2.2.1 bt496.1 bt496.2.1 bt496.2.2.1) else (steeplelaw03_PackRises.j0 k bt466.2.2.2 false a0_0 t449 bt453.1 bt453.2.1 bt453.2.2.1 bt466.1 bt466.2.1 bt466.2.2.1 bt489.1 bt489.2.1 bt489.2.2.1 bt496.1 bt496.2.1 bt496.2.2.1)))) else (none))) else (none))) else (steeplelaw03_PackRises.j1 k bt466.2.2.2 a0_0 t449 bt466.1 bt466.2.1 bt466.2.2.1)) else (none))) else (none)) else (none))) else (none))))))) else ((steeplelaw03_awake.f k).bind fun t448 => (some t448))) = some r := H
 have A2 := Aside0.mk A20
 clear A20
 by_cases c3 : t445 = true
 ·subst c3
  have H1 : ((steeplelaw01_Ref.f k l0_2).bind fun t449 => ((pack_Rise.f k t435 t436 t437).bind fun bt453 => ((steepleref03_Rise.f k a0_0 t449).bind fun bt460 => ((pack_Fall.f k t435 t436 t437).bind fun bt466 => ((steepleref03_Fall.f k a0_0 t449).bind fun bt473 => (if bt453.2.2.2 = bt460.2.2 then ((steeplelaw03_same.f k bt453.1 bt453.2.1 bt453.2.2.1 bt460.1 bt460.2.1).bind fun t479 => (if t479 = true then (if bt466.2.2.2 = bt473.2.2 then ((steeplelaw03_same.f k bt466.1 bt466.2.1 bt466.2.2.1 bt473.1 bt473.2.1).bind fun t480 => (if t480 = true then (if bt453.2.2.2 = 0 then ((pack_Fall.f k bt453.1 bt453.2.1 bt453.2.2.1).bind fun bt481 => (if bt481.2.2.2 = 0 then ((steeplelaw03_same.f k bt481.1 bt481.2.1 bt481.2.2.1 a0_0 t449).bind fun t488 => (if t488 = true then ((pack_Add.f k t435 t436 t437 t440 t441 t442).bind fun bt489 => ((pack_Rise.f k t440 t441 t442).bind fun bt496 => (if bt489.2.2.2 = 0 then (steeplelaw03_PackRises.j0 k bt466.2.2.2 (bt496.2.2.2 == 0) a0_0 t449 bt453.1 bt453.2.1 bt453.2.2.1 bt466.1 bt466.2.1 bt466.2.2.1 bt489.1 bt489.2.1 bt489.2.2.1 bt496.1 bt496.2.1 bt496.2.2.1) else (steeplelaw03_PackRises.j0 k bt466.2.2.2 false a0_0 t449 bt453.1 bt453.2.1 bt453.2.2.1 bt466.1 bt466.2.1 bt466.2.2.1 bt489.1 bt489.2.1 bt489.2.2.1 bt496.1 bt496.2.1 bt496.2.2.1)))) else (none))) else (none))) else (steeplelaw03_PackRises.j1 k bt466.2.2.2 a0_0 t449 bt466.1 bt466.2.1 bt466.2.2.1)) else (none))) else (none)) else (none))) else (none))))))) = some r := by rw [if_pos rfl] at H; exact H
  clear H
  have H := H1
  clear H1
  replace H := Option.bind_eq_some_iff.mp H
  obtain ⟨t449, A40, H⟩ := H
  replace H : ((pack_Rise.f k t435 t436 t437).bind fun bt453 => ((steepleref03_Rise.f k a0_0 t449).bind fun bt460 => ((pack_Fall.f k t435 t436 t437).bind fun bt466 => ((steepleref03_Fall.f k a0_0 t449).bind fun bt473 => (if bt453.2.2.2 = bt460.2.2 then ((steeplelaw03_same.f k bt453.1 bt453.2.1 bt453.2.2.1 bt460.1 bt460.2.1).bind fun t479 => (if t479 = true then (if bt466.2.2.2 = bt473.2.2 then ((steeplelaw03_same.f k bt466.1 bt466.2.1 bt466.2.2.1 bt473.1 bt473.2.1).bind fun t480 => (if t480 = true then (if bt453.2.2.2 = 0 then ((pack_Fall.f k bt453.1 bt453.2.1 bt453.2.2.1).bind fun bt481 => (if bt481.2.2.2 = 0 then ((steeplelaw03_same.f k bt481.1 bt481.2.1 bt481.2.2.1 a0_0 t449).bind fun t488 => (if t488 = true then ((pack_Add.f k t435 t436 t437 t440 t441 t442).bind fun bt489 => ((pack_Rise.f k t440 t441 t442).bind fun bt496 => (if bt489.2.2.2 = 0 then (steeplelaw03_PackRises.j0 k bt466.2.2.2 (bt496.2.2.2 == 0) a0_0 t449 bt453.1 bt453.2.1 bt453.2.2.1 bt466.1 bt466.2.1 bt466.2.2.1 bt489.1 bt489.2.1 bt489.2.2.1 bt496.1 bt496.2.1 bt496.2.2.1) else (steeplelaw03_PackRises.j0 k bt466.2.2.2 false a0_0 t449 bt453.1 bt453.2.1 bt453.2.2.1 bt466.1 bt466.2.1 bt466.2.2.1 bt489.1 bt489.2.1 bt489.2.2.1 bt496.1 bt496.2.1 bt496.2.2.1)))) else (none))) else (none))) else (steeplelaw03_PackRises.j1 k bt466.2.2.2 a0_0 t449 bt466.1 bt466.2.1 bt466.2.2.1)) else (none))) else (none)) else (none))) else (none)))))) = some r := H
  have A4 := Aside0.mk A40
  clear A40
  replace H := Option.bind_eq_some_iff.mp H
  obtain ⟨⟨t453, t454, t455, t458⟩, A50, H⟩ := H
  replace H : ((steepleref03_Rise.f k a0_0 t449).bind fun bt460 => ((pack_Fall.f k t435 t436 t437).bind fun bt466 => ((steepleref03_Fall.f k a0_0 t449).bind fun bt473 => (if t458 = bt460.2.2 then ((steeplelaw03_same.f k t453 t454 t455 bt460.1 bt460.2.1).bind fun t479 => (if t479 = true then (if bt466.2.2.2 = bt473.2.2 then ((steeplelaw03_same.f k bt466.1 bt466.2.1 bt466.2.2.1 bt473.1 bt473.2.1).bind fun t480 => (if t480 = true then (if t458 = 0 then ((pack_Fall.f k t453 t454 t455).bind fun bt481 => (if bt481.2.2.2 = 0 then ((steeplelaw03_same.f k bt481.1 bt481.2.1 bt481.2.2.1 a0_0 t449).bind fun t488 => (if t488 = true then ((pack_Add.f k t435 t436 t437 t440 t441 t442).bind fun bt489 => ((pack_Rise.f k t440 t441 t442).bind fun bt496 => (if bt489.2.2.2 = 0 then (steeplelaw03_PackRises.j0 k bt466.2.2.2 (bt496.2.2.2 == 0) a0_0 t449 t453 t454 t455 bt466.1 bt466.2.1 bt466.2.2.1 bt489.1 bt489.2.1 bt489.2.2.1 bt496.1 bt496.2.1 bt496.2.2.1) else (steeplelaw03_PackRises.j0 k bt466.2.2.2 false a0_0 t449 t453 t454 t455 bt466.1 bt466.2.1 bt466.2.2.1 bt489.1 bt489.2.1 bt489.2.2.1 bt496.1 bt496.2.1 bt496.2.2.1)))) else (none))) else (none))) else (steeplelaw03_PackRises.j1 k bt466.2.2.2 a0_0 t449 bt466.1 bt466.2.1 bt466.2.2.1)) else (none))) else (none)) else (none))) else (none))))) = some r := H
  have A5 := Aside0.mk A50
  clear A50
  replace H := Option.bind_eq_some_iff.mp H
  obtain ⟨⟨t460, t461, t464⟩, A60, H⟩ := H
  replace H : ((pack_Fall.f k t435 t436 t437).bind fun bt466 => ((steepleref03_Fall.f k a0_0 t449).bind fun bt473 => (if t458 = t464 then ((steeplelaw03_same.f k t453 t454 t455 t460 t461).bind fun t479 => (if t479 = true then (if bt466.2.2.2 = bt473.2.2 then ((steeplelaw03_same.f k bt466.1 bt466.2.1 bt466.2.2.1 bt473.1 bt473.2.1).bind fun t480 => (if t480 = true then (if t458 = 0 then ((pack_Fall.f k t453 t454 t455).bind fun bt481 => (if bt481.2.2.2 = 0 then ((steeplelaw03_same.f k bt481.1 bt481.2.1 bt481.2.2.1 a0_0 t449).bind fun t488 => (if t488 = true then ((pack_Add.f k t435 t436 t437 t440 t441 t442).bind fun bt489 => ((pack_Rise.f k t440 t441 t442).bind fun bt496 => (if bt489.2.2.2 = 0 then (steeplelaw03_PackRises.j0 k bt466.2.2.2 (bt496.2.2.2 == 0) a0_0 t449 t453 t454 t455 bt466.1 bt466.2.1 bt466.2.2.1 bt489.1 bt489.2.1 bt489.2.2.1 bt496.1 bt496.2.1 bt496.2.2.1) else (steeplelaw03_PackRises.j0 k bt466.2.2.2 false a0_0 t449 t453 t454 t455 bt466.1 bt466.2.1 bt466.2.2.1 bt489.1 bt489.2.1 bt489.2.2.1 bt496.1 bt496.2.1 bt496.2.2.1)))) else (none))) else (none))) else (steeplelaw03_PackRises.j1 k bt466.2.2.2 a0_0 t449 bt466.1 bt466.2.1 bt466.2.2.1)) else (none))) else (none)) else (none))) else (none)))) = some r := H
  have A6 := Aside0.mk A60
  clear A60
  replace H := Option.bind_eq_some_iff.mp H
  obtain ⟨⟨t466, t467, t468, t471⟩, A70, H⟩ := H
  replace H : ((steepleref03_Fall.f k a0_0 t449).bind fun bt473 => (if t458 = t464 then ((steeplelaw03_same.f k t453 t454 t455 t460 t461).bind fun t479 => (if t479 = true then (if t471 = bt473.2.2 then ((steeplelaw03_same.f k t466 t467 t468 bt473.1 bt473.2.1).bind fun t480 => (if t480 = true then (if t458 = 0 then ((pack_Fall.f k t453 t454 t455).bind fun bt481 => (if bt481.2.2.2 = 0 then ((steeplelaw03_same.f k bt481.1 bt481.2.1 bt481.2.2.1 a0_0 t449).bind fun t488 => (if t488 = true then ((pack_Add.f k t435 t436 t437 t440 t441 t442).bind fun bt489 => ((pack_Rise.f k t440 t441 t442).bind fun bt496 => (if bt489.2.2.2 = 0 then (steeplelaw03_PackRises.j0 k t471 (bt496.2.2.2 == 0) a0_0 t449 t453 t454 t455 t466 t467 t468 bt489.1 bt489.2.1 bt489.2.2.1 bt496.1 bt496.2.1 bt496.2.2.1) else (steeplelaw03_PackRises.j0 k t471 false a0_0 t449 t453 t454 t455 t466 t467 t468 bt489.1 bt489.2.1 bt489.2.2.1 bt496.1 bt496.2.1 bt496.2.2.1)))) else (none))) else (none))) else (steeplelaw03_PackRises.j1 k t471 a0_0 t449 t466 t467 t468)) else (none))) else (none)) else (none))) else (none))) = some r := H
  have A7 := Aside0.mk A70
  clear A70
  replace H := Option.bind_eq_some_iff.mp H
  obtain ⟨⟨t473, t474, t477⟩, A80, H⟩ := H
  replace H : (if t458 = t464 then ((steeplelaw03_same.f k t453 t454 t455 t460 t461).bind fun t479 => (if t479 = true then (if t471 = t477 then ((steeplelaw03_same.f k t466 t467 t468 t473 t474).bind fun t480 => (if t480 = true then (if t458 = 0 then ((pack_Fall.f k t453 t454 t455).bind fun bt481 => (if bt481.2.2.2 = 0 then ((steeplelaw03_same.f k bt481.1 bt481.2.1 bt481.2.2.1 a0_0 t449).bind fun t488 => (if t488 = true then ((pack_Add.f k t435 t436 t437 t440 t441 t442).bind fun bt489 => ((pack_Rise.f k t440 t441 t442).bind fun bt496 => (if bt489.2.2.2 = 0 then (steeplelaw03_PackRises.j0 k t471 (bt496.2.2.2 == 0) a0_0 t449 t453 t454 t455 t466 t467 t468 bt489.1 bt489.2.1 bt489.2.2.1 bt496.1 bt496.2.1 bt496.2.2.1) else (steeplelaw03_PackRises.j0 k t471 false a0_0 t449 t453 t454 t455 t466 t467 t468 bt489.1 bt489.2.1 bt489.2.2.1 bt496.1 bt496.2.1 bt496.2.2.1)))) else (none))) else (none))) else (steeplelaw03_PackRises.j1 k t471 a0_0 t449 t466 t467 t468)) else (none))) else (none)) else (none))) else (none)) = some r := H
  have A8 := Aside0.mk A80
  clear A80
  by_cases c9 : t458 = t464
  ·rw [if_pos c9] at H
   have c9b0 : (t458 == t464) = true := beq_iff_eq.mpr c9
   have c9b1 : (t458 != t464) = false := bne_eq_false_iff_eq.mpr c9
   clear c9
   replace H := Option.bind_eq_some_iff.mp H
   obtain ⟨t479, A100, H⟩ := H
   replace H : (if t479 = true then (if t471 = t477 then ((steeplelaw03_same.f k t466 t467 t468 t473 t474).bind fun t480 => (if t480 = true then (if t458 = 0 then ((pack_Fall.f k t453 t454 t455).bind fun bt481 => (if bt481.2.2.2 = 0 then ((steeplelaw03_same.f k bt481.1 bt481.2.1 bt481.2.2.1 a0_0 t449).bind fun t488 => (if t488 = true then ((pack_Add.f k t435 t436 t437 t440 t441 t442).bind fun bt489 => ((pack_Rise.f k t440 t441 t442).bind fun bt496 => (if bt489.2.2.2 = 0 then (steeplelaw03_PackRises.j0 k t471 (bt496.2.2.2 == 0) a0_0 t449 t453 t454 t455 t466 t467 t468 bt489.1 bt489.2.1 bt489.2.2.1 bt496.1 bt496.2.1 bt496.2.2.1) else (steeplelaw03_PackRises.j0 k t471 false a0_0 t449 t453 t454 t455 t466 t467 t468 bt489.1 bt489.2.1 bt489.2.2.1 bt496.1 bt496.2.1 bt496.2.2.1)))) else (none))) else (none))) else (steeplelaw03_PackRises.j1 k t471 a0_0 t449 t466 t467 t468)) else (none))) else (none)) else (none)) = some r := H
   have A10 := Aside0.mk A100
   clear A100
   by_cases c11 : t479 = true
   ·subst c11
    have H1 : (if t471 = t477 then ((steeplelaw03_same.f k t466 t467 t468 t473 t474).bind fun t480 => (if t480 = true then (if t458 = 0 then ((pack_Fall.f k t453 t454 t455).bind fun bt481 => (if bt481.2.2.2 = 0 then ((steeplelaw03_same.f k bt481.1 bt481.2.1 bt481.2.2.1 a0_0 t449).bind fun t488 => (if t488 = true then ((pack_Add.f k t435 t436 t437 t440 t441 t442).bind fun bt489 => ((pack_Rise.f k t440 t441 t442).bind fun bt496 => (if bt489.2.2.2 = 0 then (steeplelaw03_PackRises.j0 k t471 (bt496.2.2.2 == 0) a0_0 t449 t453 t454 t455 t466 t467 t468 bt489.1 bt489.2.1 bt489.2.2.1 bt496.1 bt496.2.1 bt496.2.2.1) else (steeplelaw03_PackRises.j0 k t471 false a0_0 t449 t453 t454 t455 t466 t467 t468 bt489.1 bt489.2.1 bt489.2.2.1 bt496.1 bt496.2.1 bt496.2.2.1)))) else (none))) else (none))) else (steeplelaw03_PackRises.j1 k t471 a0_0 t449 t466 t467 t468)) else (none))) else (none)) = some r := by rw [if_pos rfl] at H; exact H
    clear H
    have H := H1
    clear H1
    by_cases c12 : t471 = t477
    ·rw [if_pos c12] at H
     have c12b0 : (t471 == t477) = true := beq_iff_eq.mpr c12
     have c12b1 : (t471 != t477) = false := bne_eq_false_iff_eq.mpr c12
     clear c12
     replace H := Option.bind_eq_some_iff.mp H
     obtain ⟨t480, A130, H⟩ := H
     replace H : (if t480 = true then (if t458 = 0 then ((pack_Fall.f k t453 t454 t455).bind fun bt481 => (if bt481.2.2.2 = 0 then ((steeplelaw03_same.f k bt481.1 bt481.2.1 bt481.2.2.1 a0_0 t449).bind fun t488 => (if t488 = true then ((pack_Add.f k t435 t436 t437 t440 t441 t442).bind fun bt489 => ((pack_Rise.f k t440 t441 t442).bind fun bt496 => (if bt489.2.2.2 = 0 then (steeplelaw03_PackRises.j0 k t471 (bt496.2.2.2 == 0) a0_0 t449 t453 t454 t455 t466 t467 t468 bt489.1 bt489.2.1 bt489.2.2.1 bt496.1 bt496.2.1 bt496.2.2.1) else (steeplelaw03_PackRises.j0 k t471 false a0_0 t449 t453 t454 t455 t466 t467 t468 bt489.1 bt489.2.1 bt489.2.2.1 bt496.1 bt496.2.1 bt496.2.2.1)))) else (none))) else (none))) else (steeplelaw03_PackRises.j1 k t471 a0_0 t449 t466 t467 t468)) else (none)) = some r := H
     have A13 := Aside0.mk A130
     clear A130
     by_cases c14 : t480 = true
     ·subst c14
      have H1 : (if t458 = 0 then ((pack_Fall.f k t453 t454 t455).bind fun bt481 => (if bt481.2.2.2 = 0 then ((steeplelaw03_same.f k bt481.1 bt481.2.1 bt481.2.2.1 a0_0 t449).bind fun t488 => (if t488 = true then ((pack_Add.f k t435 t436 t437 t440 t441 t442).bind fun bt489 => ((pack_Rise.f k t440 t441 t442).bind fun bt496 => (if bt489.2.2.2 = 0 then (steeplelaw03_PackRises.j0 k t471 (bt496.2.2.2 == 0) a0_0 t449 t453 t454 t455 t466 t467 t468 bt489.1 bt489.2.1 bt489.2.2.1 bt496.1 bt496.2.1 bt496.2.2.1) else (steeplelaw03_PackRises.j0 k t471 false a0_0 t449 t453 t454 t455 t466 t467 t468 bt489.1 bt489.2.1 bt489.2.2.1 bt496.1 bt496.2.1 bt496.2.2.1)))) else (none))) else (none))) else (steeplelaw03_PackRises.j1 k t471 a0_0 t449 t466 t467 t468)) = some r := by rw [if_pos rfl] at H; exact H
      clear H
      have H := H1
      clear H1
      have HC15 := Aside0.mk H
      clear H
      go_enter Try.func4, Try.ntmps4
      try go_wp2_with (first | ((with_reducible refine gate_dst (N := 1) rfl ?_); refine box_event ?hg (N := 1) ?hd (cs := #[.int .i64 a0_0, .int .i64 a0_1, .slice A0_2 l0_2.length c0_2, .slice A0_3 l0_3.length c0_3]) (t := 49) ?hr ?_; (case hd => rfl); (case hg => rfl); (case hr => first | (go_simp; done) | (go_simp; rfl)); intro gb434 hg w16 hbox hb; have BK434 := Aside0.mk hbox; have GW434 := ge hg HB; have GE434 := ge hg HB; replace HB := bh HB hb; clear hb hbox hg; obtain ⟨hcz17_0, hcz17_1, hcz17_2, hcz17_3⟩ := zc4 BK434; obtain ⟨hfz17_0, hfz17_1, hfz17_2, hfz17_3⟩ := zf4 BK434) | ((with_reducible refine gate_callee (f := 16) rfl ?_); refine goesL_ (some 29) rfl rfl Try.func16 (by kernel_rfl) rfl #[.agg #[.int .i64 a0_0, .int .i64 a0_1, .slice A0_2 l0_2.length c0_2, .slice A0_3 l0_3.length c0_3]] rfl (by (try simp only [List.map_toArray, List.map_cons, List.map_nil]); first | done | rfl | (simp only [List.length_drop, List.length_take]; rfl)) ?_; (with_reducible refine (steeplelaw03_Pair_made.calls k a0_0 a0_1 _ _ l0_2 _ _ l0_3 t435 t436 t437 t440 t441 t442 true _ ?side1 ?side2 ?side3 ?side4 A2.out).mono ?_); (case side1 => repeat (first | exact (Kd.C_below HR0_2.out HB.out) | (with_reducible refine Kd.C_alloc ?_ _) | (with_reducible refine Kd.C_drewN ?_ _) | (with_reducible refine Kd.C_drew ?_))); (case side2 => exact HC0_2.out); (case side3 => repeat (first | exact (Kd.C_below HR0_3.out HB.out) | (with_reducible refine Kd.C_alloc ?_ _) | (with_reducible refine Kd.C_drewN ?_ _) | (with_reducible refine Kd.C_drew ?_))); (case side4 => exact HC0_3.out); rintro e w18 ⟨v438, v443, rfl, ho0, ho1, hb⟩; refine ⟨_, rfl, ?_⟩; have HO439 := kw ho0 HB; have HO444 := kw ho1 HB; replace BK434 := bb BK434 hb; replace HB := bh HB hb; (try clear hb); (try clear hb2); (try clear hk); (try clear hi); (try clear ho0); (try clear ho1)) | ((with_reducible refine gate_dst (N := 3) rfl ?_); refine box_event ?hg (N := 3) ?hd (cs := #[.int .i64 0, .int .i64 0, .slice none 0 0]) (t := 31) ?hr ?_; (case hd => rfl); (case hg => rfl); (case hr => first | (go_simp; done) | (go_simp; rfl)); intro gb446 hg w19 hbox hb; have BK446 := Aside0.mk hbox; have GW446 := ge hg HB; have GE446 := ge hg HB; have NB434_446 := nl hg BK434; have NB446_434 := ng hg BK434; replace HO439 := kb HO439 hb; replace HO444 := kb HO444 hb; replace BK434 := bb BK434 hb; replace HB := bh HB hb; clear hb hbox hg) | ((with_reducible refine gate_dst (N := 4) rfl ?_); refine box_event ?hg (N := 4) ?hd (cs := #[.int .i64 0, .int .i64 0, .slice none 0 0]) (t := 31) ?hr ?_; (case hd => rfl); (case hg => rfl); (case hr => first | (go_simp; done) | (go_simp; rfl)); intro gb447 hg w20 hbox hb; have BK447 := Aside0.mk hbox; have GW447 := ge hg HB; have GE447 := ge hg HB; have NB434_447 := nl hg BK434; have NB447_434 := ng hg BK434; have NB446_447 := nl hg BK446; have NB447_446 := ng hg BK446; replace HO439 := kb HO439 hb; replace HO444 := kb HO444 hb; replace BK434 := bb BK434 hb; replace BK446 := bb BK446 hb; replace HB := bh HB hb; clear hb hbox hg; have hnb21 := NB446_434.out; have hnc21 := NB434_446.out; have hnb22 := NB446_447.out; have hnc22 := NB447_446.out; obtain ⟨hcz23_0, hcz23_1, hcz23_2⟩ := zc3 BK446; obtain ⟨hfz23_0, hfz23_1, hfz23_2⟩ := zf3 BK446; obtain ⟨Ao24, co24, eo24⟩ := Kd.R_slice HO439.out; subst eo24; have hnb25 := NB447_434.out; have hnc25 := NB434_447.out; obtain ⟨hcz26_0, hcz26_1, hcz26_2⟩ := zc3 BK447; obtain ⟨hfz26_0, hfz26_1, hfz26_2⟩ := zf3 BK447; obtain ⟨Ao27, co27, eo27⟩ := Kd.R_slice HO444.out; subst eo27))
      have n0_ : Aside0 (Kd.R (Kd.int .u64) 23 ((((((w20.setCell ⟨gb446, 0, none⟩ (.int .i64 t435)).setCell ⟨gb446, 1, none⟩ (.int .i64 t436)).setCell ⟨gb446, 2, none⟩ (.slice Ao24 t437.length co24)).setCell ⟨gb447, 0, none⟩ (.int .i64 t440)).setCell ⟨gb447, 1, none⟩ (.int .i64 t441)).setCell ⟨gb447, 2, none⟩ (.slice Ao27 t442.length co27)) w.heap.size (fun k_ => some k_ ≠ (.slice Ao27 t442.length co27 : Value).ownBlock) (.slice Ao24 t437.length co24) t437) := ⟨by (with_reducible repeat refine kl ?_); exact Kd.R_mono (Kd.R_far (p := ⟨gb447, 2, none⟩) (Kd.R_far (p := ⟨gb447, 1, none⟩) (Kd.R_far (p := ⟨gb447, 0, none⟩) (Kd.R_far (p := ⟨gb446, 2, none⟩) (Kd.R_far (p := ⟨gb446, 1, none⟩) (Kd.R_far (p := ⟨gb446, 0, none⟩) (Kd.R_types (Kd.R_types HO439.out BK446.out (by decide)) BK447.out (by decide)) (fun _ hk => hk.1.2) (.int .i64 t435)) (fun _ hk => hk.1.2) (.int .i64 t436)) (fun _ hk => hk.1.2) (.slice Ao24 t437.length co24)) (fun _ hk => hk.2) (.int .i64 t440)) (fun _ hk => hk.2) (.int .i64 t441)) (fun _ hk => hk.2) (.slice Ao27 t442.length co27)) (fun _ hk => hk.1.1)⟩
      have n1_ : Aside0 (Kd.R (Kd.int .u64) 23 ((((((w20.setCell ⟨gb446, 0, none⟩ (.int .i64 t435)).setCell ⟨gb446, 1, none⟩ (.int .i64 t436)).setCell ⟨gb446, 2, none⟩ (.slice Ao24 t437.length co24)).setCell ⟨gb447, 0, none⟩ (.int .i64 t440)).setCell ⟨gb447, 1, none⟩ (.int .i64 t441)).setCell ⟨gb447, 2, none⟩ (.slice Ao27 t442.length co27)) w.heap.size (fun k_ => some k_ ≠ (.slice Ao24 t437.length co24 : Value).ownBlock) (.slice Ao27 t442.length co27) t442) := ⟨by (with_reducible repeat refine kl ?_); exact Kd.R_mono (Kd.R_far (p := ⟨gb447, 2, none⟩) (Kd.R_far (p := ⟨gb447, 1, none⟩) (Kd.R_far (p := ⟨gb447, 0, none⟩) (Kd.R_far (p := ⟨gb446, 2, none⟩) (Kd.R_far (p := ⟨gb446, 1, none⟩) (Kd.R_far (p := ⟨gb446, 0, none⟩) (Kd.R_types (Kd.R_types HO444.out BK446.out (by decide)) BK447.out (by decide)) (fun _ hk => hk.1.2) (.int .i64 t435)) (fun _ hk => hk.1.2) (.int .i64 t436)) (fun _ hk => hk.1.2) (.slice Ao24 t437.length co24)) (fun _ hk => hk.2) (.int .i64 t440)) (fun _ hk => hk.2) (.int .i64 t441)) (fun _ hk => hk.2) (.slice Ao27 t442.length co27)) (fun _ hk => hk.1.1)⟩
      have n2_ : Aside0 (((((((w20.setCell ⟨gb446, 0, none⟩ (.int .i64 t435)).setCell ⟨gb446, 1, none⟩ (.int .i64 t436)).setCell ⟨gb446, 2, none⟩ (.slice Ao24 t437.length co24)).setCell ⟨gb447, 0, none⟩ (.int .i64 t440)).setCell ⟨gb447, 1, none⟩ (.int .i64 t441)).setCell ⟨gb447, 2, none⟩ (.slice Ao27 t442.length co27)).heap[gb434]? = some (.cells #[.int .i64 a0_0, .int .i64 a0_1, .slice A0_2 l0_2.length c0_2, .slice A0_3 l0_3.length c0_3] 49 (0, 0))) := ⟨by (with_reducible repeat refine bl ?_); refine blk_far ?_ NB434_447.out _; (with_reducible repeat refine bl ?_); refine blk_far ?_ NB434_447.out _; (with_reducible repeat refine bl ?_); refine blk_far ?_ NB434_447.out _; (with_reducible repeat refine bl ?_); refine blk_far ?_ NB434_446.out _; (with_reducible repeat refine bl ?_); refine blk_far ?_ NB434_446.out _; (with_reducible repeat refine bl ?_); refine blk_far ?_ NB434_446.out _; (with_reducible repeat refine bl ?_); exact BK434.out⟩
      have n3_ : Aside0 (((((((w20.setCell ⟨gb446, 0, none⟩ (.int .i64 t435)).setCell ⟨gb446, 1, none⟩ (.int .i64 t436)).setCell ⟨gb446, 2, none⟩ (.slice Ao24 t437.length co24)).setCell ⟨gb447, 0, none⟩ (.int .i64 t440)).setCell ⟨gb447, 1, none⟩ (.int .i64 t441)).setCell ⟨gb447, 2, none⟩ (.slice Ao27 t442.length co27)).heap[gb446]? = some (.cells #[.int .i64 t435, .int .i64 t436, .slice Ao24 t437.length co24] 31 (0, 0))) := ⟨by (with_reducible repeat refine bl ?_); refine blk_far ?_ NB446_447.out _; (with_reducible repeat refine bl ?_); refine blk_far ?_ NB446_447.out _; (with_reducible repeat refine bl ?_); refine blk_far ?_ NB446_447.out _; (with_reducible repeat refine bl ?_); refine blk_put (cs := #[.int .i64 t435, .int .i64 t436, .slice none 0 0]) ?_ 2 _ rfl; (with_reducible repeat refine bl ?_); refine blk_put (cs := #[.int .i64 t435, .int .i64 0, .slice none 0 0]) ?_ 1 _ rfl; (with_reducible repeat refine bl ?_); refine blk_put (cs := #[.int .i64 0, .int .i64 0, .slice none 0 0]) ?_ 0 _ rfl; (with_reducible repeat refine bl ?_); exact BK446.out⟩
      have n4_ : Aside0 (((((((w20.setCell ⟨gb446, 0, none⟩ (.int .i64 t435)).setCell ⟨gb446, 1, none⟩ (.int .i64 t436)).setCell ⟨gb446, 2, none⟩ (.slice Ao24 t437.length co24)).setCell ⟨gb447, 0, none⟩ (.int .i64 t440)).setCell ⟨gb447, 1, none⟩ (.int .i64 t441)).setCell ⟨gb447, 2, none⟩ (.slice Ao27 t442.length co27)).heap[gb447]? = some (.cells #[.int .i64 t440, .int .i64 t441, .slice Ao27 t442.length co27] 31 (0, 0))) := ⟨by (with_reducible repeat refine bl ?_); refine blk_put (cs := #[.int .i64 t440, .int .i64 t441, .slice none 0 0]) ?_ 2 _ rfl; (with_reducible repeat refine bl ?_); refine blk_put (cs := #[.int .i64 t440, .int .i64 0, .slice none 0 0]) ?_ 1 _ rfl; (with_reducible repeat refine bl ?_); refine blk_put (cs := #[.int .i64 0, .int .i64 0, .slice none 0 0]) ?_ 0 _ rfl; (with_reducible repeat refine bl ?_); refine blk_far ?_ NB447_446.out _; (with_reducible repeat refine bl ?_); refine blk_far ?_ NB447_446.out _; (with_reducible repeat refine bl ?_); refine blk_far ?_ NB447_446.out _; (with_reducible repeat refine bl ?_); exact BK447.out⟩
      have n5_ : Aside0 (Below w.heap.size w ((((((w20.setCell ⟨gb446, 0, none⟩ (.int .i64 t435)).setCell ⟨gb446, 1, none⟩ (.int .i64 t436)).setCell ⟨gb446, 2, none⟩ (.slice Ao24 t437.length co24)).setCell ⟨gb447, 0, none⟩ (.int .i64 t440)).setCell ⟨gb447, 1, none⟩ (.int .i64 t441)).setCell ⟨gb447, 2, none⟩ (.slice Ao27 t442.length co27))) := ⟨bq HB.out⟩
      (try clear HO439)
      (try clear HO444)
      (try clear BK434)
      (try clear BK446)
      (try clear BK447)
      (try clear HB)
      generalize ((((((w20.setCell ⟨gb446, 0, none⟩ (.int .i64 t435)).setCell ⟨gb446, 1, none⟩ (.int .i64 t436)).setCell ⟨gb446, 2, none⟩ (.slice Ao24 t437.length co24)).setCell ⟨gb447, 0, none⟩ (.int .i64 t440)).setCell ⟨gb447, 1, none⟩ (.int .i64 t441)).setCell ⟨gb447, 2, none⟩ (.slice Ao27 t442.length co27)) = w28 at n0_ n1_ n2_ n3_ n4_ n5_ ⊢
      have HO439 := n0_
      have HO444 := n1_
      have BK434 := n2_
      have BK446 := n3_
      have BK447 := n4_
      have HB := n5_
      clear n0_ n1_ n2_ n3_ n4_ n5_
      replace HO439 := Aside0.mk (Kd.R_drew HO439.out)
      replace HO444 := Aside0.mk (Kd.R_drew HO444.out)
      replace BK434 := Aside0.mk (blk_drew BK434.out)
      replace BK446 := Aside0.mk (blk_drew BK446.out)
      replace BK447 := Aside0.mk (blk_drew BK447.out)
      replace HB := Aside0.mk (below_drew1 HB.out)
      refine start_ (n := 8) (S := fun w' => w'.cell? ⟨gb434, 0, none⟩ = some (.int .i64 a0_0) ∧ w'.cell? ⟨gb434, 1, none⟩ = some (.int .i64 a0_1) ∧ w'.cell? ⟨gb434, 2, none⟩ = some (.slice A0_2 l0_2.length c0_2) ∧ w'.cell? ⟨gb434, 3, none⟩ = some (.slice A0_3 l0_3.length c0_3)) (ds := []) #[false, false, false, false, false, false, false, false] (by kernel_rfl) rfl rfl ⟨(blk_cell BK434.out 0).trans rfl, (blk_cell BK434.out 1).trans rfl, (blk_cell BK434.out 2).trans rfl, (blk_cell BK434.out 3).trans rfl⟩ (fun hHeld => ?_); refine with_tabW steeplelaw03_PackRises.tab4 steeplelaw03_PackRises.bits4 (fun HT_ HW_ => ?_)
      generalize w28.drew = w29 at HO439 HO444 BK434 BK446 BK447 HB hHeld ⊢
      refine pure_ (i := 0) (N := some 36) (v := ?_) (a' := ?_) #[true, false, false, false, false, false, false, false] rfl rfl (any_of HT_.out (by kernel_rfl)) (fun _ _ _ h => h) (Or.inl ⟨by rfl, ?_⟩) ?_ ?_
      rotate_left
      ·intro w'
       go_simp
       with_reducible rfl
      rotate_left
      ·simp only [Act.put, List.setIfInBounds_toArray, List.set_cons_zero, List.set_cons_succ, i64_w, i32_w]
       rfl
      refine pure_ (i := 2) (N := some 38) (v := ?_) (a' := ?_) #[true, false, true, false, false, false, false, false] rfl rfl (any_of HT_.out (by kernel_rfl)) (fun _ _ _ h => h) (Or.inl ⟨by rfl, ?_⟩) ?_ ?_
      rotate_left
      ·intro w'
       go_simp
       with_reducible rfl
      rotate_left
      ·simp only [Act.put, List.setIfInBounds_toArray, List.set_cons_zero, List.set_cons_succ, i64_w, i32_w]
       rfl
      refine take_ (i := 1) (N := some 37) (v := ?_) (a' := ?_) #[true, true, true, false, false, false, false, false] rfl rfl (take_ofW HT_.out HW_.out (by kernel_rfl)) (fun _ _ _ h => h) (Or.inl ⟨by rfl, ?_⟩) hHeld ?_ ?_
      rotate_left
      ·rintro w' ⟨s0, s1, s2, s3⟩
       go_simp
       with_reducible rfl
      rotate_left
      ·simp only [Act.put, List.setIfInBounds_toArray, List.set_cons_zero, List.set_cons_succ, i64_w, i32_w]
       rfl
      refine take_ (i := 3) (N := some 39) (v := ?_) (a' := ?_) #[true, true, true, true, false, false, false, false] rfl rfl (take_ofW HT_.out HW_.out (by kernel_rfl)) (fun _ _ _ h => h) (Or.inl ⟨by rfl, ?_⟩) hHeld ?_ ?_
      rotate_left
      ·rintro w' ⟨s0, s1, s2, s3⟩
       go_simp
       with_reducible rfl
      rotate_left
      ·simp only [Act.put, List.setIfInBounds_toArray, List.set_cons_zero, List.set_cons_succ, i64_w, i32_w]
       rfl
      refine join_ (σ := Value × Nat) 1 #[true, true, true, true, true, true, true, false] (fun s_ => [(40, s_.1), (6, .pointer (some ⟨s_.2, 0, none⟩)), (41, .agg #[.int .i64 a0_0, s_.1])]) (fun s_ w' => (w'.cell? ⟨gb434, 0, none⟩ = some (.int .i64 a0_0) ∧ w'.cell? ⟨gb434, 1, none⟩ = some (.int .i64 a0_1) ∧ w'.cell? ⟨gb434, 2, none⟩ = some (.slice A0_2 l0_2.length c0_2) ∧ w'.cell? ⟨gb434, 3, none⟩ = some (.slice A0_3 l0_3.length c0_3)) ∧ (Kd.R (Kd.int .u64) 23 w' w.heap.size (fun k_ => some k_ ≠ (.slice Ao27 t442.length co27 : Value).ownBlock) (.slice Ao24 t437.length co24) t437) ∧ (Kd.R (Kd.int .u64) 23 w' w.heap.size (fun k_ => some k_ ≠ (.slice Ao24 t437.length co24 : Value).ownBlock) (.slice Ao27 t442.length co27) t442) ∧ (Kd.R k44 44 w' w.heap.size (fun _ => True) s_.1 t449) ∧ (w'.heap[gb434]? = some (.cells #[.int .i64 a0_0, .int .i64 a0_1, .slice A0_2 l0_2.length c0_2, .slice A0_3 l0_3.length c0_3] 49 (0, 0))) ∧ (w'.heap[gb446]? = some (.cells #[.int .i64 t435, .int .i64 t436, .slice Ao24 t437.length co24] 31 (0, 0))) ∧ (w'.heap[gb447]? = some (.cells #[.int .i64 t440, .int .i64 t441, .slice Ao27 t442.length co27] 31 (0, 0))) ∧ (w'.heap[s_.2]? = some (.cells #[.int .i64 0, .slice none 0 0] 37 (0, 0))) ∧ (w.heap.size ≤ s_.2) ∧ (w.heap.size ≤ s_.2) ∧ (gb434 ≠ s_.2) ∧ (s_.2 ≠ gb434) ∧ (gb446 ≠ s_.2) ∧ (s_.2 ≠ gb446) ∧ (gb447 ≠ s_.2) ∧ (s_.2 ≠ gb447) ∧ (Below w.heap.size w w')) ?_ ?_
      rotate_left
      ·intro hCont
       refine two_ (i := 4) (j := 6) (Ni := some 40) (Nj := some 6) #[true, true, true, true, true, false, false, false] #[true, true, true, true, false, false, true, false] rfl rfl rfl rfl (two_of HT_.out (by kernel_rfl)) (by decide) (by decide) (fun K hK => ?_) (fun K hK => ?_)
       ·skip
        refine goes_ Try.func11 (by kernel_rfl) rfl #[.slice A0_2 l0_2.length c0_2] (by rfl) rfl rfl (by (try simp only [List.map_toArray, List.map_cons, List.map_nil]); first | done | rfl | (simp only [List.length_drop, List.length_take]; rfl)) ?_
        with_reducible refine (steeplelaw01_Ref.calls k _ _ l0_2 t449 _ ?side1 ?side2 A4.out).mono ?_
        (case side1 => repeat (first | exact (Kd.C_below HR0_2.out HB.out) | (with_reducible refine Kd.C_alloc ?_ _) | (with_reducible refine Kd.C_drewN ?_ _) | (with_reducible refine Kd.C_drew ?_)))
        (case side2 => exact HC0_2.out)
        rintro e w30 ⟨v450, rfl, ho0, hb⟩
        refine ⟨_, rfl, ?_⟩
        have HO451 := kw ho0 HB
        replace HO439 := kb HO439 hb
        replace HO444 := kb HO444 hb
        replace BK434 := bb BK434 hb
        replace BK446 := bb BK446 hb
        replace BK447 := bb BK447 hb
        replace HB := bh HB hb
        (try clear hb)
        (try clear hb2)
        (try clear hk)
        (try clear hi)
        (try clear ho0)
        obtain ⟨Ao31, co31, eo31⟩ := Kd.R_slice HO451.out
        (first | subst eo31 | (injection eo31 with f1_ f2_ f3_; have f4_ := f1_.symm; have f5_ := f3_.symm; clear f1_ f2_ f3_; subst f4_; subst f5_))
        refine hK.out _ _ ⟨(blk_cell BK434.out 0).trans rfl, (blk_cell BK434.out 1).trans rfl, (blk_cell BK434.out 2).trans rfl, (blk_cell BK434.out 3).trans rfl⟩ (fun hHeld => ?_)
        clear hK K
        refine norm_ (a' := ?_) ?_ ?_
        rotate_left
        ·show Act.put _ (some 40) _ = _
         simp only [Act.put, List.setIfInBounds_toArray, List.set_cons_zero, List.set_cons_succ, i64_w, i32_w]
         rfl
        refine pure_ (i := 5) (N := some 41) (v := ?_) (a' := ?_) #[true, true, true, true, true, true, false, false] rfl rfl (any_of HT_.out (by kernel_rfl)) (fun _ _ _ h => h) (Or.inl ⟨by rfl, ?_⟩) ?_ ?_
        rotate_left
        ·intro w'
         go_simp
         with_reducible rfl
        rotate_left
        ·simp only [Act.put, List.setIfInBounds_toArray, List.set_cons_zero, List.set_cons_succ, i64_w, i32_w]
         rfl
        refine one_ (i := 6) (N := some 6) #[true, true, true, true, true, true, true, false] rfl rfl (one_of HT_.out (by kernel_rfl)) (by decide) (fun K hK => ?_)
        refine box_step ?hg (N := 6) ?hd (cs := #[.int .i64 0, .slice none 0 0]) (t := 37) ?hr ?_; (case hd => rfl); (case hg => rfl); (case hr => first | (go_simp; done) | (go_simp; rfl))
        intro gb452 hg w32 hbox hb
        have BK452 := Aside0.mk hbox
        have GW452 := ge hg HB
        have GE452 := ge hg HB
        have NB434_452 := nl hg BK434
        have NB452_434 := ng hg BK434
        have NB446_452 := nl hg BK446
        have NB452_446 := ng hg BK446
        have NB447_452 := nl hg BK447
        have NB452_447 := ng hg BK447
        replace HO439 := kb HO439 hb
        replace HO444 := kb HO444 hb
        replace HO451 := kb HO451 hb
        replace BK434 := bb BK434 hb
        replace BK446 := bb BK446 hb
        replace BK447 := bb BK447 hb
        replace HB := bh HB hb
        clear hb hbox hg
        refine hK.out _ _ ⟨(blk_cell BK434.out 0).trans rfl, (blk_cell BK434.out 1).trans rfl, (blk_cell BK434.out 2).trans rfl, (blk_cell BK434.out 3).trans rfl⟩ (fun hHeld => ?_)
        clear hK K
        refine norm_ (a' := ?_) ?_ ?_
        rotate_left
        ·show Act.put _ (some 6) _ = _
         simp only [Act.put, List.setIfInBounds_toArray, List.set_cons_zero, List.set_cons_succ, i64_w, i32_w]
         rfl
        exact norm_ (by simp only [putAll, Act.put, List.setIfInBounds_toArray, List.set_cons_zero, List.set_cons_succ]) (hCont (.slice Ao31 t449.length co31, gb452) _ ⟨hHeld, (kr HO439.out), (kr HO444.out), (kr HO451.out), (bk BK434.out), (bk BK446.out), (bk BK447.out), (bk BK452.out), GW452.out, GE452.out, NB434_452.out, NB452_434.out, NB446_452.out, NB452_446.out, NB447_452.out, NB452_447.out, (bq HB.out)⟩)
       ·skip
        refine box_step ?hg (N := 6) ?hd (cs := #[.int .i64 0, .slice none 0 0]) (t := 37) ?hr ?_; (case hd => rfl); (case hg => rfl); (case hr => first | (go_simp; done) | (go_simp; rfl))
        intro gb452 hg w30 hbox hb
        have BK452 := Aside0.mk hbox
        have GW452 := ge hg HB
        have GE452 := ge hg HB
        have NB434_452 := nl hg BK434
        have NB452_434 := ng hg BK434
        have NB446_452 := nl hg BK446
        have NB452_446 := ng hg BK446
        have NB447_452 := nl hg BK447
        have NB452_447 := ng hg BK447
        replace HO439 := kb HO439 hb
        replace HO444 := kb HO444 hb
        replace BK434 := bb BK434 hb
        replace BK446 := bb BK446 hb
        replace BK447 := bb BK447 hb
        replace HB := bh HB hb
        clear hb hbox hg
        refine hK.out _ _ ⟨(blk_cell BK434.out 0).trans rfl, (blk_cell BK434.out 1).trans rfl, (blk_cell BK434.out 2).trans rfl, (blk_cell BK434.out 3).trans rfl⟩ (fun hHeld => ?_)
        clear hK K
        refine norm_ (a' := ?_) ?_ ?_
        rotate_left
        ·show Act.put _ (some 6) _ = _
         simp only [Act.put, List.setIfInBounds_toArray, List.set_cons_zero, List.set_cons_succ, i64_w, i32_w]
         rfl
        refine one_ (i := 4) (N := some 40) #[true, true, true, true, true, false, true, false] rfl rfl (one_of HT_.out (by kernel_rfl)) (by decide) (fun K hK => ?_)
        refine goes_ Try.func11 (by kernel_rfl) rfl #[.slice A0_2 l0_2.length c0_2] (by rfl) rfl rfl (by (try simp only [List.map_toArray, List.map_cons, List.map_nil]); first | done | rfl | (simp only [List.length_drop, List.length_take]; rfl)) ?_
        with_reducible refine (steeplelaw01_Ref.calls k _ _ l0_2 t449 _ ?side1 ?side2 A4.out).mono ?_
        (case side1 => repeat (first | exact (Kd.C_below HR0_2.out HB.out) | (with_reducible refine Kd.C_alloc ?_ _) | (with_reducible refine Kd.C_drewN ?_ _) | (with_reducible refine Kd.C_drew ?_)))
        (case side2 => exact HC0_2.out)
        rintro e w31 ⟨v450, rfl, ho0, hb⟩
        refine ⟨_, rfl, ?_⟩
        have HO451 := kw ho0 HB
        replace HO439 := kb HO439 hb
        replace HO444 := kb HO444 hb
        replace BK434 := bb BK434 hb
        replace BK446 := bb BK446 hb
        replace BK447 := bb BK447 hb
        replace BK452 := bb BK452 hb
        replace HB := bh HB hb
        (try clear hb)
        (try clear hb2)
        (try clear hk)
        (try clear hi)
        (try clear ho0)
        obtain ⟨Ao32, co32, eo32⟩ := Kd.R_slice HO451.out
        (first | subst eo32 | (injection eo32 with f1_ f2_ f3_; have f4_ := f1_.symm; have f5_ := f3_.symm; clear f1_ f2_ f3_; subst f4_; subst f5_))
        refine hK.out _ _ ⟨(blk_cell BK434.out 0).trans rfl, (blk_cell BK434.out 1).trans rfl, (blk_cell BK434.out 2).trans rfl, (blk_cell BK434.out 3).trans rfl⟩ (fun hHeld => ?_)
        clear hK K
        refine norm_ (a' := ?_) ?_ ?_
        rotate_left
        ·show Act.put _ (some 40) _ = _
         simp only [Act.put, List.setIfInBounds_toArray, List.set_cons_zero, List.set_cons_succ, i64_w, i32_w]
         rfl
        refine pure_ (i := 5) (N := some 41) (v := ?_) (a' := ?_) #[true, true, true, true, true, true, true, false] rfl rfl (any_of HT_.out (by kernel_rfl)) (fun _ _ _ h => h) (Or.inl ⟨by rfl, ?_⟩) ?_ ?_
        rotate_left
        ·intro w'
         go_simp
         with_reducible rfl
        rotate_left
        ·simp only [Act.put, List.setIfInBounds_toArray, List.set_cons_zero, List.set_cons_succ, i64_w, i32_w]
         rfl
        exact norm_ (by simp only [putAll, Act.put, List.setIfInBounds_toArray, List.set_cons_zero, List.set_cons_succ]) (hCont (.slice Ao32 t449.length co32, gb452) _ ⟨hHeld, (kr HO439.out), (kr HO444.out), (kr HO451.out), (bk BK434.out), (bk BK446.out), (bk BK447.out), (bk BK452.out), GW452.out, GE452.out, NB434_452.out, NB452_434.out, NB446_452.out, NB452_446.out, NB447_452.out, NB452_447.out, (bq HB.out)⟩)
      rintro ⟨v450, gb452⟩ w33 ⟨hS_, h0_, h1_, h2_, h3_, h4_, h5_, h6_, h7_, h8_, h9_, h10_, h11_, h12_, h13_, h14_, h15_⟩
      have n0_ : Aside0 (Kd.R (Kd.int .u64) 23 w33 w.heap.size (fun k_ => some k_ ≠ (.slice Ao27 t442.length co27 : Value).ownBlock) (.slice Ao24 t437.length co24) t437) := ⟨h0_⟩
      have n1_ : Aside0 (Kd.R (Kd.int .u64) 23 w33 w.heap.size (fun k_ => some k_ ≠ (.slice Ao24 t437.length co24 : Value).ownBlock) (.slice Ao27 t442.length co27) t442) := ⟨h1_⟩
      have n2_ : Aside0 (Kd.R k44 44 w33 w.heap.size (fun _ => True) v450 t449) := ⟨h2_⟩
      have n3_ : Aside0 (w33.heap[gb434]? = some (.cells #[.int .i64 a0_0, .int .i64 a0_1, .slice A0_2 l0_2.length c0_2, .slice A0_3 l0_3.length c0_3] 49 (0, 0))) := ⟨h3_⟩
      have n4_ : Aside0 (w33.heap[gb446]? = some (.cells #[.int .i64 t435, .int .i64 t436, .slice Ao24 t437.length co24] 31 (0, 0))) := ⟨h4_⟩
      have n5_ : Aside0 (w33.heap[gb447]? = some (.cells #[.int .i64 t440, .int .i64 t441, .slice Ao27 t442.length co27] 31 (0, 0))) := ⟨h5_⟩
      have n6_ : Aside0 (w33.heap[gb452]? = some (.cells #[.int .i64 0, .slice none 0 0] 37 (0, 0))) := ⟨h6_⟩
      have n7_ : Aside0 (w.heap.size ≤ gb452) := ⟨h7_⟩
      have n8_ : Aside0 (w.heap.size ≤ gb452) := ⟨h8_⟩
      have n9_ : Aside0 (gb434 ≠ gb452) := ⟨h9_⟩
      have n10_ : Aside0 (gb452 ≠ gb434) := ⟨h10_⟩
      have n11_ : Aside0 (gb446 ≠ gb452) := ⟨h11_⟩
      have n12_ : Aside0 (gb452 ≠ gb446) := ⟨h12_⟩
      have n13_ : Aside0 (gb447 ≠ gb452) := ⟨h13_⟩
      have n14_ : Aside0 (gb452 ≠ gb447) := ⟨h14_⟩
      have n15_ : Aside0 (Below w.heap.size w w33) := ⟨h15_⟩
      clear HO439
      clear HO444
      clear BK434
      clear BK446
      clear BK447
      clear HB
      clear h0_ h1_ h2_ h3_ h4_ h5_ h6_ h7_ h8_ h9_ h10_ h11_ h12_ h13_ h14_ h15_
      have HO439 := n0_
      have HO444 := n1_
      have HO451 := n2_
      have BK434 := n3_
      have BK446 := n4_
      have BK447 := n5_
      have BK452 := n6_
      have GW452 := Aside1.mk n7_.out
      have GE452 := Aside1.mk n8_.out
      have NB434_452 := n9_
      have NB452_434 := n10_
      have NB446_452 := n11_
      have NB452_446 := n12_
      have NB447_452 := n13_
      have NB452_447 := n14_
      have HB := n15_
      clear n0_ n1_ n2_ n3_ n4_ n5_ n6_ n7_ n8_ n9_ n10_ n11_ n12_ n13_ n14_ n15_
      have hHeld : w33.cell? ⟨gb434, 0, none⟩ = some (.int .i64 a0_0) ∧ w33.cell? ⟨gb434, 1, none⟩ = some (.int .i64 a0_1) ∧ w33.cell? ⟨gb434, 2, none⟩ = some (.slice A0_2 l0_2.length c0_2) ∧ w33.cell? ⟨gb434, 3, none⟩ = some (.slice A0_3 l0_3.length c0_3) := hS_
      obtain ⟨Ao34, co34, eo34⟩ := Kd.R_slice HO451.out
      (first | subst eo34 | (injection eo34 with f1_ f2_ f3_; have f4_ := f1_.symm; have f5_ := f3_.symm; clear f1_ f2_ f3_; subst f4_; subst f5_))
      refine norm_ (a' := ?_) ?_ ?_
      rotate_left
      ·simp only [putAll, Act.put, List.setIfInBounds_toArray, List.set_cons_zero, List.set_cons_succ]
       rfl
      refine one_ (i := 7) (N := none) #[true, true, true, true, true, true, true, true] rfl rfl (one_of HT_.out (by kernel_rfl)) (by decide) (fun K hK => ?_)
      have hs35 : w33.cell? ⟨gb452, 0, none⟩ = some (.int .i64 0) := (blk_cell BK452.out 0).trans rfl
      have hfs35 := blk_frozen BK452.out 0
      have hns35_0 := NB434_452.out
      have hns35_1 := NB446_452.out
      have hns35_2 := NB447_452.out
      have hms35_0 := NB452_434.out
      have hms35_1 := NB452_446.out
      have hms35_2 := NB452_447.out
      have hs36 : w33.cell? ⟨gb452, 1, none⟩ = some (.slice none 0 0) := (blk_cell BK452.out 1).trans rfl
      have hfs36 := blk_frozen BK452.out 1
      have hns36_0 := NB434_452.out
      have hns36_1 := NB446_452.out
      have hns36_2 := NB447_452.out
      have hms36_0 := NB452_434.out
      have hms36_1 := NB452_446.out
      have hms36_2 := NB452_447.out
      refine skip_ (w1 := ?_) (by rfl) rfl ?_ ?_
      rotate_left
      ·go_simp
       rfl
      refine hK.out _ _ ⟨((cell_far (p := ⟨gb452, _, none⟩) NB434_452.out _).trans (((cell_far (p := ⟨gb452, _, none⟩) NB434_452.out _).trans (hHeld.1)))), ((cell_far (p := ⟨gb452, _, none⟩) NB434_452.out _).trans (((cell_far (p := ⟨gb452, _, none⟩) NB434_452.out _).trans (hHeld.2.1)))), ((cell_far (p := ⟨gb452, _, none⟩) NB434_452.out _).trans (((cell_far (p := ⟨gb452, _, none⟩) NB434_452.out _).trans (hHeld.2.2.1)))), ((cell_far (p := ⟨gb452, _, none⟩) NB434_452.out _).trans (((cell_far (p := ⟨gb452, _, none⟩) NB434_452.out _).trans (hHeld.2.2.2))))⟩ (fun hHeld => ?_)
      clear hK K
      refine done_ (done_of HT_.out (by kernel_rfl)) ?_
      have hnb37 := NB446_452.out
      have hnc37 := NB452_446.out
      obtain ⟨hcz38_0, hcz38_1, hcz38_2⟩ := zc3 BK446
      obtain ⟨hfz38_0, hfz38_1, hfz38_2⟩ := zf3 BK446
      go_upto_if 83 with (first | ((with_reducible refine gate_callee (f := 17) rfl ?_); refine goesL_ (some 44) rfl rfl Try.func17 (by kernel_rfl) rfl #[.agg #[.int .i64 t435, .int .i64 t436, .slice Ao24 t437.length co24]] rfl (by (try simp only [List.map_toArray, List.map_cons, List.map_nil]); first | done | rfl | (simp only [List.length_drop, List.length_take]; rfl)) ?_; (with_reducible refine (pack_Rise.calls k t435 t436 _ _ t437 t453 t454 t455 t458 _ ?side1 ?side2 A5.out).mono ?_); (case side1 => refine (Kd.R_reads' (e := 23) (base := w.heap.size) (ok := fun k_ => some k_ ≠ (.slice Ao27 t442.length co27 : Value).ownBlock) (n := t437.length) (c := co24) ?_).2.2; exact (by (with_reducible repeat refine kl ?_); exact (kf2 HO439 BK452 (by decide)))); (case side2 => exact (Kd.R_reads' HO439.out).2.1); rintro e w39 ⟨v456, rfl, ho0, hb⟩; refine ⟨_, rfl, ?_⟩; have HO457 := Aside0.mk (Kd.R_lower (Kd.R_new' (Kd.R_new' ho0 (Kd.R_lt (by (with_reducible repeat refine kl ?_); exact (kf2 HO439 BK452 (by decide))))) (Kd.R_lt (by (with_reducible repeat refine kl ?_); exact (kf2 HO444 BK452 (by decide))))) (below_size (bq HB.out))); replace HO439 := Aside0.mk (Kd.R_elder' (by (with_reducible repeat refine kl ?_); exact (kf2 HO439 BK452 (by decide))) (Kd.R_base ho0) hb); replace HO444 := Aside0.mk (Kd.R_elder' (by (with_reducible repeat refine kl ?_); exact (kf2 HO444 BK452 (by decide))) (Kd.R_base ho0) hb); replace HO451 := Aside0.mk (Kd.R_below (by (with_reducible repeat refine kl ?_); exact (kf2 HO451 BK452 (by decide))) hb); replace BK434 := Aside0.mk (blk_below (g := gb434) (o := .cells #[.int .i64 a0_0, .int .i64 a0_1, .slice A0_2 l0_2.length c0_2, .slice A0_3 l0_3.length c0_3] 49 (0, 0)) (by (with_reducible repeat refine bl ?_); refine blk_far ?_ NB434_452.out _; (with_reducible repeat refine bl ?_); refine blk_far ?_ NB434_452.out _; (with_reducible repeat refine bl ?_); exact BK434.out) hb); replace BK446 := Aside0.mk (blk_below (g := gb446) (o := .cells #[.int .i64 t435, .int .i64 t436, .slice Ao24 t437.length co24] 31 (0, 0)) (by (with_reducible repeat refine bl ?_); refine blk_far ?_ NB446_452.out _; (with_reducible repeat refine bl ?_); refine blk_far ?_ NB446_452.out _; (with_reducible repeat refine bl ?_); exact BK446.out) hb); replace BK447 := Aside0.mk (blk_below (g := gb447) (o := .cells #[.int .i64 t440, .int .i64 t441, .slice Ao27 t442.length co27] 31 (0, 0)) (by (with_reducible repeat refine bl ?_); refine blk_far ?_ NB447_452.out _; (with_reducible repeat refine bl ?_); refine blk_far ?_ NB447_452.out _; (with_reducible repeat refine bl ?_); exact BK447.out) hb); replace BK452 := Aside0.mk (blk_below (g := gb452) (o := .cells #[.int .i64 a0_0, .slice Ao34 t449.length co34] 37 (0, 0)) (by (with_reducible repeat refine bl ?_); refine blk_put (cs := #[.int .i64 a0_0, .slice none 0 0]) ?_ 1 _ rfl; (with_reducible repeat refine bl ?_); refine blk_put (cs := #[.int .i64 0, .slice none 0 0]) ?_ 0 _ rfl; (with_reducible repeat refine bl ?_); exact BK452.out) hb); replace HB := bh HB hb; (try clear hb); (try clear hb2); (try clear hk); (try clear hi); (try clear ho0)) | ((with_reducible refine gate_dst (N := 7) rfl ?_); refine box_event ?hg (N := 7) ?hd (cs := #[.int .i64 0, .int .i64 0, .slice none 0 0]) (t := 31) ?hr ?_; (case hd => rfl); (case hg => rfl); (case hr => first | (go_simp; done) | (go_simp; rfl)); intro gb459 hg w40 hbox hb; have BK459 := Aside0.mk hbox; have GW459 := ge hg HB; have GE459 := ge hg HB; have NB434_459 := nl hg BK434; have NB459_434 := ng hg BK434; have NB446_459 := nl hg BK446; have NB459_446 := ng hg BK446; have NB447_459 := nl hg BK447; have NB459_447 := ng hg BK447; have NB452_459 := nl hg BK452; have NB459_452 := ng hg BK452; replace HO439 := kb HO439 hb; replace HO444 := kb HO444 hb; replace HO451 := kb HO451 hb; replace HO457 := kb HO457 hb; replace BK434 := bb BK434 hb; replace BK446 := bb BK446 hb; replace BK447 := bb BK447 hb; replace BK452 := bb BK452 hb; replace HB := bh HB hb; clear hb hbox hg; have hnb42 := NB459_446.out; have hnc42 := NB446_459.out; have hnb43 := NB459_447.out; have hnc43 := NB447_459.out; have hnb44 := NB459_452.out; have hnc44 := NB452_459.out; obtain ⟨hcz45_0, hcz45_1, hcz45_2⟩ := zc3 BK459; obtain ⟨hfz45_0, hfz45_1, hfz45_2⟩ := zf3 BK459; obtain ⟨Ao46, co46, eo46⟩ := Kd.R_slice HO457.out; subst eo46; have hnb48 := NB452_447.out; have hnc48 := NB447_452.out; obtain ⟨hcz49_0, hcz49_1⟩ := zc2 BK452; obtain ⟨hfz49_0, hfz49_1⟩ := zf2 BK452) | ((with_reducible refine gate_callee (f := 18) rfl ?_); refine goesL_ (some 49) rfl rfl Try.func18 (by kernel_rfl) rfl #[.agg #[.int .i64 a0_0, .slice Ao34 t449.length co34]] rfl (by (try simp only [List.map_toArray, List.map_cons, List.map_nil]); first | done | rfl | (simp only [List.length_drop, List.length_take]; rfl)) ?_; (with_reducible refine (steepleref03_Rise.calls k a0_0 _ _ t449 t460 t461 t464 _ ?side1 ?side2 A6.out).mono ?_); (case side1 => refine (Kd.R_reads' (e := 44) (base := w.heap.size) (ok := fun k_ => True) (n := t449.length) (c := co34) ?_).2.2; exact (by (with_reducible repeat refine kl ?_); exact (kf3 HO451 BK459 (by decide)))); (case side2 => exact (Kd.R_reads' HO451.out).2.1); rintro e w50 ⟨v462, rfl, ho0, hb⟩; refine ⟨_, rfl, ?_⟩; have HO463 := Aside0.mk (Kd.R_lower (Kd.R_new' ho0 (Kd.R_lt (by (with_reducible repeat refine kl ?_); exact (kf3 HO451 BK459 (by decide))))) (below_size (bq HB.out))); replace HO439 := Aside0.mk (Kd.R_below (by (with_reducible repeat refine kl ?_); exact (kf3 HO439 BK459 (by decide))) hb); replace HO444 := Aside0.mk (Kd.R_below (by (with_reducible repeat refine kl ?_); exact (kf3 HO444 BK459 (by decide))) hb); replace HO451 := Aside0.mk (Kd.R_elder' (by (with_reducible repeat refine kl ?_); exact (kf3 HO451 BK459 (by decide))) (Kd.R_base ho0) hb); replace HO457 := Aside0.mk (Kd.R_below (by (with_reducible repeat refine kl ?_); exact (kf3 HO457 BK459 (by decide))) hb); replace BK434 := Aside0.mk (blk_below (g := gb434) (o := .cells #[.int .i64 a0_0, .int .i64 a0_1, .slice A0_2 l0_2.length c0_2, .slice A0_3 l0_3.length c0_3] 49 (0, 0)) (by (with_reducible repeat refine bl ?_); refine blk_far ?_ NB434_459.out _; (with_reducible repeat refine bl ?_); refine blk_far ?_ NB434_459.out _; (with_reducible repeat refine bl ?_); refine blk_far ?_ NB434_459.out _; (with_reducible repeat refine bl ?_); exact BK434.out) hb); replace BK446 := Aside0.mk (blk_below (g := gb446) (o := .cells #[.int .i64 t435, .int .i64 t436, .slice Ao24 t437.length co24] 31 (0, 0)) (by (with_reducible repeat refine bl ?_); refine blk_far ?_ NB446_459.out _; (with_reducible repeat refine bl ?_); refine blk_far ?_ NB446_459.out _; (with_reducible repeat refine bl ?_); refine blk_far ?_ NB446_459.out _; (with_reducible repeat refine bl ?_); exact BK446.out) hb); replace BK447 := Aside0.mk (blk_below (g := gb447) (o := .cells #[.int .i64 t440, .int .i64 t441, .slice Ao27 t442.length co27] 31 (0, 0)) (by (with_reducible repeat refine bl ?_); refine blk_far ?_ NB447_459.out _; (with_reducible repeat refine bl ?_); refine blk_far ?_ NB447_459.out _; (with_reducible repeat refine bl ?_); refine blk_far ?_ NB447_459.out _; (with_reducible repeat refine bl ?_); exact BK447.out) hb); replace BK452 := Aside0.mk (blk_below (g := gb452) (o := .cells #[.int .i64 a0_0, .slice Ao34 t449.length co34] 37 (0, 0)) (by (with_reducible repeat refine bl ?_); refine blk_far ?_ NB452_459.out _; (with_reducible repeat refine bl ?_); refine blk_far ?_ NB452_459.out _; (with_reducible repeat refine bl ?_); refine blk_far ?_ NB452_459.out _; (with_reducible repeat refine bl ?_); exact BK452.out) hb); replace BK459 := Aside0.mk (blk_below (g := gb459) (o := .cells #[.int .i64 t453, .int .i64 t454, .slice Ao46 t455.length co46] 31 (0, 0)) (by (with_reducible repeat refine bl ?_); refine blk_put (cs := #[.int .i64 t453, .int .i64 t454, .slice none 0 0]) ?_ 2 _ rfl; (with_reducible repeat refine bl ?_); refine blk_put (cs := #[.int .i64 t453, .int .i64 0, .slice none 0 0]) ?_ 1 _ rfl; (with_reducible repeat refine bl ?_); refine blk_put (cs := #[.int .i64 0, .int .i64 0, .slice none 0 0]) ?_ 0 _ rfl; (with_reducible repeat refine bl ?_); exact BK459.out) hb); replace HB := bh HB hb; (try clear hb); (try clear hb2); (try clear hk); (try clear hi); (try clear ho0)) | ((with_reducible refine gate_dst (N := 9) rfl ?_); refine box_event ?hg (N := 9) ?hd (cs := #[.int .i64 0, .slice none 0 0]) (t := 37) ?hr ?_; (case hd => rfl); (case hg => rfl); (case hr => first | (go_simp; done) | (go_simp; rfl)); intro gb465 hg w51 hbox hb; have BK465 := Aside0.mk hbox; have GW465 := ge hg HB; have GE465 := ge hg HB; have NB434_465 := nl hg BK434; have NB465_434 := ng hg BK434; have NB446_465 := nl hg BK446; have NB465_446 := ng hg BK446; have NB447_465 := nl hg BK447; have NB465_447 := ng hg BK447; have NB452_465 := nl hg BK452; have NB465_452 := ng hg BK452; have NB459_465 := nl hg BK459; have NB465_459 := ng hg BK459; replace HO439 := kb HO439 hb; replace HO444 := kb HO444 hb; replace HO451 := kb HO451 hb; replace HO457 := kb HO457 hb; replace HO463 := kb HO463 hb; replace BK434 := bb BK434 hb; replace BK446 := bb BK446 hb; replace BK447 := bb BK447 hb; replace BK452 := bb BK452 hb; replace BK459 := bb BK459 hb; replace HB := bh HB hb; clear hb hbox hg; have hnb53 := NB465_446.out; have hnc53 := NB446_465.out; have hnb54 := NB465_447.out; have hnc54 := NB447_465.out; have hnb55 := NB465_452.out; have hnc55 := NB452_465.out; have hnb56 := NB465_459.out; have hnc56 := NB459_465.out; obtain ⟨hcz57_0, hcz57_1⟩ := zc2 BK465; obtain ⟨hfz57_0, hfz57_1⟩ := zf2 BK465; obtain ⟨Ao58, co58, eo58⟩ := Kd.R_slice HO463.out; subst eo58; obtain ⟨hcz59_0, hcz59_1, hcz59_2⟩ := zc3 BK446; obtain ⟨hfz59_0, hfz59_1, hfz59_2⟩ := zf3 BK446) | ((with_reducible refine gate_callee (f := 19) rfl ?_); refine goesL_ (some 54) rfl rfl Try.func19 (by kernel_rfl) rfl #[.agg #[.int .i64 t435, .int .i64 t436, .slice Ao24 t437.length co24]] rfl (by (try simp only [List.map_toArray, List.map_cons, List.map_nil]); first | done | rfl | (simp only [List.length_drop, List.length_take]; rfl)) ?_; (with_reducible refine (pack_Fall.calls k t435 t436 _ _ t437 t466 t467 t468 t471 _ ?side1 ?side2 A7.out).mono ?_); (case side1 => refine (Kd.R_reads' (e := 23) (base := w.heap.size) (ok := fun k_ => (some k_ ≠ (.slice Ao27 t442.length co27 : Value).ownBlock ∧ some k_ ≠ (.slice Ao46 t455.length co46 : Value).ownBlock)) (n := t437.length) (c := co24) ?_).2.2; exact (by (with_reducible repeat refine kl ?_); exact (kf2 HO439 BK465 (by decide)))); (case side2 => exact (Kd.R_reads' HO439.out).2.1); rintro e w60 ⟨v469, rfl, ho0, hb⟩; refine ⟨_, rfl, ?_⟩; have HO470 := Aside0.mk (Kd.R_lower (Kd.R_new' (Kd.R_new' (Kd.R_new' ho0 (Kd.R_lt (by (with_reducible repeat refine kl ?_); exact (kf2 HO439 BK465 (by decide))))) (Kd.R_lt (by (with_reducible repeat refine kl ?_); exact (kf2 HO444 BK465 (by decide))))) (Kd.R_lt (by (with_reducible repeat refine kl ?_); exact (kf2 HO457 BK465 (by decide))))) (below_size (bq HB.out))); replace HO439 := Aside0.mk (Kd.R_elder' (by (with_reducible repeat refine kl ?_); exact (kf2 HO439 BK465 (by decide))) (Kd.R_base ho0) hb); replace HO444 := Aside0.mk (Kd.R_elder' (by (with_reducible repeat refine kl ?_); exact (kf2 HO444 BK465 (by decide))) (Kd.R_base ho0) hb); replace HO451 := Aside0.mk (Kd.R_below (by (with_reducible repeat refine kl ?_); exact (kf2 HO451 BK465 (by decide))) hb); replace HO457 := Aside0.mk (Kd.R_elder' (by (with_reducible repeat refine kl ?_); exact (kf2 HO457 BK465 (by decide))) (Kd.R_base ho0) hb); replace HO463 := Aside0.mk (Kd.R_below (by (with_reducible repeat refine kl ?_); exact (kf2 HO463 BK465 (by decide))) hb); replace BK434 := Aside0.mk (blk_below (g := gb434) (o := .cells #[.int .i64 a0_0, .int .i64 a0_1, .slice A0_2 l0_2.length c0_2, .slice A0_3 l0_3.length c0_3] 49 (0, 0)) (by (with_reducible repeat refine bl ?_); refine blk_far ?_ NB434_465.out _; (with_reducible repeat refine bl ?_); refine blk_far ?_ NB434_465.out _; (with_reducible repeat refine bl ?_); exact BK434.out) hb); replace BK446 := Aside0.mk (blk_below (g := gb446) (o := .cells #[.int .i64 t435, .int .i64 t436, .slice Ao24 t437.length co24] 31 (0, 0)) (by (with_reducible repeat refine bl ?_); refine blk_far ?_ NB446_465.out _; (with_reducible repeat refine bl ?_); refine blk_far ?_ NB446_465.out _; (with_reducible repeat refine bl ?_); exact BK446.out) hb); replace BK447 := Aside0.mk (blk_below (g := gb447) (o := .cells #[.int .i64 t440, .int .i64 t441, .slice Ao27 t442.length co27] 31 (0, 0)) (by (with_reducible repeat refine bl ?_); refine blk_far ?_ NB447_465.out _; (with_reducible repeat refine bl ?_); refine blk_far ?_ NB447_465.out _; (with_reducible repeat refine bl ?_); exact BK447.out) hb); replace BK452 := Aside0.mk (blk_below (g := gb452) (o := .cells #[.int .i64 a0_0, .slice Ao34 t449.length co34] 37 (0, 0)) (by (with_reducible repeat refine bl ?_); refine blk_far ?_ NB452_465.out _; (with_reducible repeat refine bl ?_); refine blk_far ?_ NB452_465.out _; (with_reducible repeat refine bl ?_); exact BK452.out) hb); replace BK459 := Aside0.mk (blk_below (g := gb459) (o := .cells #[.int .i64 t453, .int .i64 t454, .slice Ao46 t455.length co46] 31 (0, 0)) (by (with_reducible repeat refine bl ?_); refine blk_far ?_ NB459_465.out _; (with_reducible repeat refine bl ?_); refine blk_far ?_ NB459_465.out _; (with_reducible repeat refine bl ?_); exact BK459.out) hb); replace BK465 := Aside0.mk (blk_below (g := gb465) (o := .cells #[.int .i64 t460, .slice Ao58 t461.length co58] 37 (0, 0)) (by (with_reducible repeat refine bl ?_); refine blk_put (cs := #[.int .i64 t460, .slice none 0 0]) ?_ 1 _ rfl; (with_reducible repeat refine bl ?_); refine blk_put (cs := #[.int .i64 0, .slice none 0 0]) ?_ 0 _ rfl; (with_reducible repeat refine bl ?_); exact BK465.out) hb); replace HB := bh HB hb; (try clear hb); (try clear hb2); (try clear hk); (try clear hi); (try clear ho0)) | ((with_reducible refine gate_dst (N := 11) rfl ?_); refine box_event ?hg (N := 11) ?hd (cs := #[.int .i64 0, .int .i64 0, .slice none 0 0]) (t := 31) ?hr ?_; (case hd => rfl); (case hg => rfl); (case hr => first | (go_simp; done) | (go_simp; rfl)); intro gb472 hg w61 hbox hb; have BK472 := Aside0.mk hbox; have GW472 := ge hg HB; have GE472 := ge hg HB; have NB434_472 := nl hg BK434; have NB472_434 := ng hg BK434; have NB446_472 := nl hg BK446; have NB472_446 := ng hg BK446; have NB447_472 := nl hg BK447; have NB472_447 := ng hg BK447; have NB452_472 := nl hg BK452; have NB472_452 := ng hg BK452; have NB459_472 := nl hg BK459; have NB472_459 := ng hg BK459; have NB465_472 := nl hg BK465; have NB472_465 := ng hg BK465; replace HO439 := kb HO439 hb; replace HO444 := kb HO444 hb; replace HO451 := kb HO451 hb; replace HO457 := kb HO457 hb; replace HO463 := kb HO463 hb; replace HO470 := kb HO470 hb; replace BK434 := bb BK434 hb; replace BK446 := bb BK446 hb; replace BK447 := bb BK447 hb; replace BK452 := bb BK452 hb; replace BK459 := bb BK459 hb; replace BK465 := bb BK465 hb; replace HB := bh HB hb; clear hb hbox hg; have hnb63 := NB472_446.out; have hnc63 := NB446_472.out; have hnb64 := NB472_447.out; have hnc64 := NB447_472.out; have hnb65 := NB472_452.out; have hnc65 := NB452_472.out; have hnb66 := NB472_459.out; have hnc66 := NB459_472.out; have hnb67 := NB472_465.out; have hnc67 := NB465_472.out; obtain ⟨hcz68_0, hcz68_1, hcz68_2⟩ := zc3 BK472; obtain ⟨hfz68_0, hfz68_1, hfz68_2⟩ := zf3 BK472; obtain ⟨Ao69, co69, eo69⟩ := Kd.R_slice HO470.out; subst eo69; obtain ⟨hcz70_0, hcz70_1⟩ := zc2 BK452; obtain ⟨hfz70_0, hfz70_1⟩ := zf2 BK452) | ((with_reducible refine gate_callee (f := 20) rfl ?_); refine goesL_ (some 59) rfl rfl Try.func20 (by kernel_rfl) rfl #[.agg #[.int .i64 a0_0, .slice Ao34 t449.length co34]] rfl (by (try simp only [List.map_toArray, List.map_cons, List.map_nil]); first | done | rfl | (simp only [List.length_drop, List.length_take]; rfl)) ?_; (with_reducible refine (steepleref03_Fall.calls k a0_0 _ _ t449 t473 t474 t477 _ ?side1 ?side2 A8.out).mono ?_); (case side1 => refine (Kd.R_reads' (e := 44) (base := w.heap.size) (ok := fun k_ => (True ∧ some k_ ≠ (.slice Ao58 t461.length co58 : Value).ownBlock)) (n := t449.length) (c := co34) ?_).2.2; exact (by (with_reducible repeat refine kl ?_); exact (kf3 HO451 BK472 (by decide)))); (case side2 => exact (Kd.R_reads' HO451.out).2.1); rintro e w71 ⟨v475, rfl, ho0, hb⟩; refine ⟨_, rfl, ?_⟩; have HO476 := Aside0.mk (Kd.R_lower (Kd.R_new' (Kd.R_new' ho0 (Kd.R_lt (by (with_reducible repeat refine kl ?_); exact (kf3 HO451 BK472 (by decide))))) (Kd.R_lt (by (with_reducible repeat refine kl ?_); exact (kf3 HO463 BK472 (by decide))))) (below_size (bq HB.out))); replace HO439 := Aside0.mk (Kd.R_below (by (with_reducible repeat refine kl ?_); exact (kf3 HO439 BK472 (by decide))) hb); replace HO444 := Aside0.mk (Kd.R_below (by (with_reducible repeat refine kl ?_); exact (kf3 HO444 BK472 (by decide))) hb); replace HO451 := Aside0.mk (Kd.R_elder' (by (with_reducible repeat refine kl ?_); exact (kf3 HO451 BK472 (by decide))) (Kd.R_base ho0) hb); replace HO457 := Aside0.mk (Kd.R_below (by (with_reducible repeat refine kl ?_); exact (kf3 HO457 BK472 (by decide))) hb); replace HO463 := Aside0.mk (Kd.R_elder' (by (with_reducible repeat refine kl ?_); exact (kf3 HO463 BK472 (by decide))) (Kd.R_base ho0) hb); replace HO470 := Aside0.mk (Kd.R_below (by (with_reducible repeat refine kl ?_); exact (kf3 HO470 BK472 (by decide))) hb); replace BK434 := Aside0.mk (blk_below (g := gb434) (o := .cells #[.int .i64 a0_0, .int .i64 a0_1, .slice A0_2 l0_2.length c0_2, .slice A0_3 l0_3.length c0_3] 49 (0, 0)) (by (with_reducible repeat refine bl ?_); refine blk_far ?_ NB434_472.out _; (with_reducible repeat refine bl ?_); refine blk_far ?_ NB434_472.out _; (with_reducible repeat refine bl ?_); refine blk_far ?_ NB434_472.out _; (with_reducible repeat refine bl ?_); exact BK434.out) hb); replace BK446 := Aside0.mk (blk_below (g := gb446) (o := .cells #[.int .i64 t435, .int .i64 t436, .slice Ao24 t437.length co24] 31 (0, 0)) (by (with_reducible repeat refine bl ?_); refine blk_far ?_ NB446_472.out _; (with_reducible repeat refine bl ?_); refine blk_far ?_ NB446_472.out _; (with_reducible repeat refine bl ?_); refine blk_far ?_ NB446_472.out _; (with_reducible repeat refine bl ?_); exact BK446.out) hb); replace BK447 := Aside0.mk (blk_below (g := gb447) (o := .cells #[.int .i64 t440, .int .i64 t441, .slice Ao27 t442.length co27] 31 (0, 0)) (by (with_reducible repeat refine bl ?_); refine blk_far ?_ NB447_472.out _; (with_reducible repeat refine bl ?_); refine blk_far ?_ NB447_472.out _; (with_reducible repeat refine bl ?_); refine blk_far ?_ NB447_472.out _; (with_reducible repeat refine bl ?_); exact BK447.out) hb); replace BK452 := Aside0.mk (blk_below (g := gb452) (o := .cells #[.int .i64 a0_0, .slice Ao34 t449.length co34] 37 (0, 0)) (by (with_reducible repeat refine bl ?_); refine blk_far ?_ NB452_472.out _; (with_reducible repeat refine bl ?_); refine blk_far ?_ NB452_472.out _; (with_reducible repeat refine bl ?_); refine blk_far ?_ NB452_472.out _; (with_reducible repeat refine bl ?_); exact BK452.out) hb); replace BK459 := Aside0.mk (blk_below (g := gb459) (o := .cells #[.int .i64 t453, .int .i64 t454, .slice Ao46 t455.length co46] 31 (0, 0)) (by (with_reducible repeat refine bl ?_); refine blk_far ?_ NB459_472.out _; (with_reducible repeat refine bl ?_); refine blk_far ?_ NB459_472.out _; (with_reducible repeat refine bl ?_); refine blk_far ?_ NB459_472.out _; (with_reducible repeat refine bl ?_); exact BK459.out) hb); replace BK465 := Aside0.mk (blk_below (g := gb465) (o := .cells #[.int .i64 t460, .slice Ao58 t461.length co58] 37 (0, 0)) (by (with_reducible repeat refine bl ?_); refine blk_far ?_ NB465_472.out _; (with_reducible repeat refine bl ?_); refine blk_far ?_ NB465_472.out _; (with_reducible repeat refine bl ?_); refine blk_far ?_ NB465_472.out _; (with_reducible repeat refine bl ?_); exact BK465.out) hb); replace BK472 := Aside0.mk (blk_below (g := gb472) (o := .cells #[.int .i64 t466, .int .i64 t467, .slice Ao69 t468.length co69] 31 (0, 0)) (by (with_reducible repeat refine bl ?_); refine blk_put (cs := #[.int .i64 t466, .int .i64 t467, .slice none 0 0]) ?_ 2 _ rfl; (with_reducible repeat refine bl ?_); refine blk_put (cs := #[.int .i64 t466, .int .i64 0, .slice none 0 0]) ?_ 1 _ rfl; (with_reducible repeat refine bl ?_); refine blk_put (cs := #[.int .i64 0, .int .i64 0, .slice none 0 0]) ?_ 0 _ rfl; (with_reducible repeat refine bl ?_); exact BK472.out) hb); replace HB := bh HB hb; (try clear hb); (try clear hb2); (try clear hk); (try clear hi); (try clear ho0)) | ((with_reducible refine gate_dst (N := 13) rfl ?_); refine box_event ?hg (N := 13) ?hd (cs := #[.int .i64 0, .slice none 0 0]) (t := 37) ?hr ?_; (case hd => rfl); (case hg => rfl); (case hr => first | (go_simp; done) | (go_simp; rfl)); intro gb478 hg w72 hbox hb; have BK478 := Aside0.mk hbox; have GW478 := ge hg HB; have GE478 := ge hg HB; have NB434_478 := nl hg BK434; have NB478_434 := ng hg BK434; have NB446_478 := nl hg BK446; have NB478_446 := ng hg BK446; have NB447_478 := nl hg BK447; have NB478_447 := ng hg BK447; have NB452_478 := nl hg BK452; have NB478_452 := ng hg BK452; have NB459_478 := nl hg BK459; have NB478_459 := ng hg BK459; have NB465_478 := nl hg BK465; have NB478_465 := ng hg BK465; have NB472_478 := nl hg BK472; have NB478_472 := ng hg BK472; replace HO439 := kb HO439 hb; replace HO444 := kb HO444 hb; replace HO451 := kb HO451 hb; replace HO457 := kb HO457 hb; replace HO463 := kb HO463 hb; replace HO470 := kb HO470 hb; replace HO476 := kb HO476 hb; replace BK434 := bb BK434 hb; replace BK446 := bb BK446 hb; replace BK447 := bb BK447 hb; replace BK452 := bb BK452 hb; replace BK459 := bb BK459 hb; replace BK465 := bb BK465 hb; replace BK472 := bb BK472 hb; replace HB := bh HB hb; clear hb hbox hg; have hnb74 := NB478_446.out; have hnc74 := NB446_478.out; have hnb75 := NB478_447.out; have hnc75 := NB447_478.out; have hnb76 := NB478_452.out; have hnc76 := NB452_478.out; have hnb77 := NB478_459.out; have hnc77 := NB459_478.out; have hnb78 := NB478_465.out; have hnc78 := NB465_478.out; have hnb79 := NB478_472.out; have hnc79 := NB472_478.out; obtain ⟨hcz80_0, hcz80_1⟩ := zc2 BK478; obtain ⟨hfz80_0, hfz80_1⟩ := zf2 BK478; obtain ⟨Ao81, co81, eo81⟩ := Kd.R_slice HO476.out; subst eo81; obtain ⟨hcz82_0, hcz82_1, hcz82_2⟩ := zc3 BK459; obtain ⟨hfz82_0, hfz82_1, hfz82_2⟩ := zf3 BK459; obtain ⟨hcz83_0, hcz83_1⟩ := zc2 BK465; obtain ⟨hfz83_0, hfz83_1⟩ := zf2 BK465) | (go_at_call 12; (with_reducible refine (steeplelaw03_same.calls k t453 t454 _ _ t455 t460 _ _ t461 true _ ?side1 ?side2 ?side3 ?side4 A10.out).mono ?_); (case side1 => refine (Kd.R_reads' (e := 23) (base := w.heap.size) (ok := fun k_ => (((True ∧ some k_ ≠ (.slice Ao24 t437.length co24 : Value).ownBlock) ∧ some k_ ≠ (.slice Ao27 t442.length co27 : Value).ownBlock) ∧ some k_ ≠ (.slice Ao69 t468.length co69 : Value).ownBlock)) (n := t455.length) (c := co46) ?_).2.2; exact (by (with_reducible repeat refine kl ?_); exact (kf2 HO457 BK478 (by decide)))); (case side2 => exact (Kd.R_reads' HO457.out).2.1); (case side3 => refine (Kd.R_reads' (e := 44) (base := w.heap.size) (ok := fun k_ => ((True ∧ some k_ ≠ (.slice Ao34 t449.length co34 : Value).ownBlock) ∧ some k_ ≠ (.slice Ao81 t474.length co81 : Value).ownBlock)) (n := t461.length) (c := co58) ?_).2.2; exact (by (with_reducible repeat refine kl ?_); exact (kf2 HO463 BK478 (by decide)))); (case side4 => exact (Kd.R_reads' HO463.out).2.1); rintro e w84 ⟨rfl, hb⟩; replace HO439 := Aside0.mk (Kd.R_below (by (with_reducible repeat refine kl ?_); exact (kf2 HO439 BK478 (by decide))) hb); replace HO444 := Aside0.mk (Kd.R_below (by (with_reducible repeat refine kl ?_); exact (kf2 HO444 BK478 (by decide))) hb); replace HO451 := Aside0.mk (Kd.R_below (by (with_reducible repeat refine kl ?_); exact (kf2 HO451 BK478 (by decide))) hb); replace HO457 := Aside0.mk (Kd.R_below (by (with_reducible repeat refine kl ?_); exact (kf2 HO457 BK478 (by decide))) hb); replace HO463 := Aside0.mk (Kd.R_below (by (with_reducible repeat refine kl ?_); exact (kf2 HO463 BK478 (by decide))) hb); replace HO470 := Aside0.mk (Kd.R_below (by (with_reducible repeat refine kl ?_); exact (kf2 HO470 BK478 (by decide))) hb); replace HO476 := Aside0.mk (Kd.R_below (by (with_reducible repeat refine kl ?_); exact (kf2 HO476 BK478 (by decide))) hb); replace BK434 := Aside0.mk (blk_below (g := gb434) (o := .cells #[.int .i64 a0_0, .int .i64 a0_1, .slice A0_2 l0_2.length c0_2, .slice A0_3 l0_3.length c0_3] 49 (0, 0)) (by (with_reducible repeat refine bl ?_); refine blk_far ?_ NB434_478.out _; (with_reducible repeat refine bl ?_); refine blk_far ?_ NB434_478.out _; (with_reducible repeat refine bl ?_); exact BK434.out) hb); replace BK446 := Aside0.mk (blk_below (g := gb446) (o := .cells #[.int .i64 t435, .int .i64 t436, .slice Ao24 t437.length co24] 31 (0, 0)) (by (with_reducible repeat refine bl ?_); refine blk_far ?_ NB446_478.out _; (with_reducible repeat refine bl ?_); refine blk_far ?_ NB446_478.out _; (with_reducible repeat refine bl ?_); exact BK446.out) hb); replace BK447 := Aside0.mk (blk_below (g := gb447) (o := .cells #[.int .i64 t440, .int .i64 t441, .slice Ao27 t442.length co27] 31 (0, 0)) (by (with_reducible repeat refine bl ?_); refine blk_far ?_ NB447_478.out _; (with_reducible repeat refine bl ?_); refine blk_far ?_ NB447_478.out _; (with_reducible repeat refine bl ?_); exact BK447.out) hb); replace BK452 := Aside0.mk (blk_below (g := gb452) (o := .cells #[.int .i64 a0_0, .slice Ao34 t449.length co34] 37 (0, 0)) (by (with_reducible repeat refine bl ?_); refine blk_far ?_ NB452_478.out _; (with_reducible repeat refine bl ?_); refine blk_far ?_ NB452_478.out _; (with_reducible repeat refine bl ?_); exact BK452.out) hb); replace BK459 := Aside0.mk (blk_below (g := gb459) (o := .cells #[.int .i64 t453, .int .i64 t454, .slice Ao46 t455.length co46] 31 (0, 0)) (by (with_reducible repeat refine bl ?_); refine blk_far ?_ NB459_478.out _; (with_reducible repeat refine bl ?_); refine blk_far ?_ NB459_478.out _; (with_reducible repeat refine bl ?_); exact BK459.out) hb); replace BK465 := Aside0.mk (blk_below (g := gb465) (o := .cells #[.int .i64 t460, .slice Ao58 t461.length co58] 37 (0, 0)) (by (with_reducible repeat refine bl ?_); refine blk_far ?_ NB465_478.out _; (with_reducible repeat refine bl ?_); refine blk_far ?_ NB465_478.out _; (with_reducible repeat refine bl ?_); exact BK465.out) hb); replace BK472 := Aside0.mk (blk_below (g := gb472) (o := .cells #[.int .i64 t466, .int .i64 t467, .slice Ao69 t468.length co69] 31 (0, 0)) (by (with_reducible repeat refine bl ?_); refine blk_far ?_ NB472_478.out _; (with_reducible repeat refine bl ?_); refine blk_far ?_ NB472_478.out _; (with_reducible repeat refine bl ?_); exact BK472.out) hb); replace BK478 := Aside0.mk (blk_below (g := gb478) (o := .cells #[.int .i64 t473, .slice Ao81 t474.length co81] 37 (0, 0)) (by (with_reducible repeat refine bl ?_); refine blk_put (cs := #[.int .i64 t473, .slice none 0 0]) ?_ 1 _ rfl; (with_reducible repeat refine bl ?_); refine blk_put (cs := #[.int .i64 0, .slice none 0 0]) ?_ 0 _ rfl; (with_reducible repeat refine bl ?_); exact BK478.out) hb); replace HB := bh HB hb; (try clear hb); (try clear hb2); (try clear hk); (try clear hi); obtain ⟨hcz85_0, hcz85_1, hcz85_2⟩ := zc3 BK472; obtain ⟨hfz85_0, hfz85_1, hfz85_2⟩ := zf3 BK472; obtain ⟨hcz86_0, hcz86_1⟩ := zc2 BK478; obtain ⟨hfz86_0, hfz86_1⟩ := zf2 BK478) | (go_at_call 12; (with_reducible refine (steeplelaw03_same.calls k t466 t467 _ _ t468 t473 _ _ t474 true _ ?side1 ?side2 ?side3 ?side4 A13.out).mono ?_); (case side1 => repeat (first | exact (Kd.R_reads' HO470.out).2.2 | (with_reducible refine Kd.C_alloc ?_ _) | (with_reducible refine Kd.C_drewN ?_ _) | (with_reducible refine Kd.C_drew ?_))); (case side2 => exact (Kd.R_reads' HO470.out).2.1); (case side3 => repeat (first | exact (Kd.R_reads' HO476.out).2.2 | (with_reducible refine Kd.C_alloc ?_ _) | (with_reducible refine Kd.C_drewN ?_ _) | (with_reducible refine Kd.C_drew ?_))); (case side4 => exact (Kd.R_reads' HO476.out).2.1); rintro e w87 ⟨rfl, hb⟩; replace HO439 := kb HO439 hb; replace HO444 := kb HO444 hb; replace HO451 := kb HO451 hb; replace HO457 := kb HO457 hb; replace HO463 := kb HO463 hb; replace HO470 := kb HO470 hb; replace HO476 := kb HO476 hb; replace BK434 := bb BK434 hb; replace BK446 := bb BK446 hb; replace BK447 := bb BK447 hb; replace BK452 := bb BK452 hb; replace BK459 := bb BK459 hb; replace BK465 := bb BK465 hb; replace BK472 := bb BK472 hb; replace BK478 := bb BK478 hb; replace HB := bh HB hb; (try clear hb); (try clear hb2); (try clear hk); (try clear hi)))
      (try simp only [Act.put, List.setIfInBounds_toArray, List.set_cons_zero, List.set_cons_succ])
      go_cut [] (fun wc => ∃ (kq : Nat), Aside0 (steeplelaw03_PackRises.j1 kq t471 a0_0 t449 t466 t467 t468 = some r) ∧ Aside0 (kq ≤ k) ∧ Aside0 (Kd.R (Kd.int .u64) 23 wc w.heap.size (fun k_ => some k_ ≠ ((.slice Ao27 t442.length co27) : Value).ownBlock ∧ some k_ ≠ ((.slice Ao46 t455.length co46) : Value).ownBlock ∧ some k_ ≠ ((.slice Ao69 t468.length co69) : Value).ownBlock) (.slice Ao24 t437.length co24) t437) ∧ Aside0 (Kd.R (Kd.int .u64) 23 wc w.heap.size (fun k_ => some k_ ≠ ((.slice Ao24 t437.length co24) : Value).ownBlock ∧ some k_ ≠ ((.slice Ao46 t455.length co46) : Value).ownBlock ∧ some k_ ≠ ((.slice Ao69 t468.length co69) : Value).ownBlock) (.slice Ao27 t442.length co27) t442) ∧ Aside0 (Kd.R k44 44 wc w.heap.size (fun k_ => some k_ ≠ ((.slice Ao58 t461.length co58) : Value).ownBlock ∧ some k_ ≠ ((.slice Ao81 t474.length co81) : Value).ownBlock) (.slice Ao34 t449.length co34) t449) ∧ Aside0 (Kd.R (Kd.int .u64) 23 wc w.heap.size (fun k_ => some k_ ≠ ((.slice Ao24 t437.length co24) : Value).ownBlock ∧ some k_ ≠ ((.slice Ao27 t442.length co27) : Value).ownBlock ∧ some k_ ≠ ((.slice Ao69 t468.length co69) : Value).ownBlock) (.slice Ao46 t455.length co46) t455) ∧ Aside0 (Kd.R k44 44 wc w.heap.size (fun k_ => some k_ ≠ ((.slice Ao34 t449.length co34) : Value).ownBlock ∧ some k_ ≠ ((.slice Ao81 t474.length co81) : Value).ownBlock) (.slice Ao58 t461.length co58) t461) ∧ Aside0 (Kd.R (Kd.int .u64) 23 wc w.heap.size (fun k_ => some k_ ≠ ((.slice Ao24 t437.length co24) : Value).ownBlock ∧ some k_ ≠ ((.slice Ao27 t442.length co27) : Value).ownBlock ∧ some k_ ≠ ((.slice Ao46 t455.length co46) : Value).ownBlock) (.slice Ao69 t468.length co69) t468) ∧ Aside0 (Kd.R k44 44 wc w.heap.size (fun k_ => some k_ ≠ ((.slice Ao34 t449.length co34) : Value).ownBlock ∧ some k_ ≠ ((.slice Ao58 t461.length co58) : Value).ownBlock) (.slice Ao81 t474.length co81) t474) ∧ Aside0 (wc.heap[gb446]? = some (.cells #[.int .i64 t435, .int .i64 t436, (.slice Ao24 t437.length co24)] 31 (0, 0))) ∧ Aside0 (wc.heap[gb447]? = some (.cells #[.int .i64 t440, .int .i64 t441, (.slice Ao27 t442.length co27)] 31 (0, 0))) ∧ Aside0 (wc.heap[gb452]? = some (.cells #[.int .i64 a0_0, (.slice Ao34 t449.length co34)] 37 (0, 0))) ∧ Aside0 (wc.heap[gb459]? = some (.cells #[.int .i64 t453, .int .i64 t454, (.slice Ao46 t455.length co46)] 31 (0, 0))) ∧ Aside0 (wc.heap[gb465]? = some (.cells #[.int .i64 t460, (.slice Ao58 t461.length co58)] 37 (0, 0))) ∧ Aside0 (wc.heap[gb472]? = some (.cells #[.int .i64 t466, .int .i64 t467, (.slice Ao69 t468.length co69)] 31 (0, 0))) ∧ Aside0 (wc.heap[gb478]? = some (.cells #[.int .i64 t473, (.slice Ao81 t474.length co81)] 37 (0, 0))) ∧ Aside0 (Below w.heap.size w wc))
      case first =>
       have H := HC15.out
       clear HC15
       by_cases c88 : t458 = 0
       ·rw [if_pos c88] at H
        have c88b0 : (t458 == 0) = true := beq_iff_eq.mpr c88
        have c88b1 : (t458 != 0) = false := bne_eq_false_iff_eq.mpr c88
        clear c88
        (first | rw [c88b0] | (simp only [i64_w, i32_w]; rw [c88b0]) | skip)
        replace H := Option.bind_eq_some_iff.mp H
        obtain ⟨⟨t481, t482, t483, t486⟩, A890, H⟩ := H
        replace H : (if t486 = 0 then ((steeplelaw03_same.f k t481 t482 t483 a0_0 t449).bind fun t488 => (if t488 = true then ((pack_Add.f k t435 t436 t437 t440 t441 t442).bind fun bt489 => ((pack_Rise.f k t440 t441 t442).bind fun bt496 => (if bt489.2.2.2 = 0 then (steeplelaw03_PackRises.j0 k t471 (bt496.2.2.2 == 0) a0_0 t449 t453 t454 t455 t466 t467 t468 bt489.1 bt489.2.1 bt489.2.2.1 bt496.1 bt496.2.1 bt496.2.2.1) else (steeplelaw03_PackRises.j0 k t471 false a0_0 t449 t453 t454 t455 t466 t467 t468 bt489.1 bt489.2.1 bt489.2.2.1 bt496.1 bt496.2.1 bt496.2.2.1)))) else (none))) else (none)) = some r := H
        have A89 := Aside0.mk A890
        clear A890
        by_cases c90 : t486 = 0
        ·rw [if_pos c90] at H
         have c90b0 : (t486 == 0) = true := beq_iff_eq.mpr c90
         have c90b1 : (t486 != 0) = false := bne_eq_false_iff_eq.mpr c90
         clear c90
         replace H := Option.bind_eq_some_iff.mp H
         obtain ⟨t488, A910, H⟩ := H
         replace H : (if t488 = true then ((pack_Add.f k t435 t436 t437 t440 t441 t442).bind fun bt489 => ((pack_Rise.f k t440 t441 t442).bind fun bt496 => (if bt489.2.2.2 = 0 then (steeplelaw03_PackRises.j0 k t471 (bt496.2.2.2 == 0) a0_0 t449 t453 t454 t455 t466 t467 t468 bt489.1 bt489.2.1 bt489.2.2.1 bt496.1 bt496.2.1 bt496.2.2.1) else (steeplelaw03_PackRises.j0 k t471 false a0_0 t449 t453 t454 t455 t466 t467 t468 bt489.1 bt489.2.1 bt489.2.2.1 bt496.1 bt496.2.1 bt496.2.2.1)))) else (none)) = some r := H
         have A91 := Aside0.mk A910
         clear A910
         by_cases c92 : t488 = true
         ·subst c92
          have H1 : ((pack_Add.f k t435 t436 t437 t440 t441 t442).bind fun bt489 => ((pack_Rise.f k t440 t441 t442).bind fun bt496 => (if bt489.2.2.2 = 0 then (steeplelaw03_PackRises.j0 k t471 (bt496.2.2.2 == 0) a0_0 t449 t453 t454 t455 t466 t467 t468 bt489.1 bt489.2.1 bt489.2.2.1 bt496.1 bt496.2.1 bt496.2.2.1) else (steeplelaw03_PackRises.j0 k t471 false a0_0 t449 t453 t454 t455 t466 t467 t468 bt489.1 bt489.2.1 bt489.2.2.1 bt496.1 bt496.2.1 bt496.2.2.1)))) = some r := by rw [if_pos rfl] at H; exact H
          clear H
          have H := H1
          clear H1
          replace H := Option.bind_eq_some_iff.mp H
          obtain ⟨⟨t489, t490, t491, t494⟩, A930, H⟩ := H
          replace H : ((pack_Rise.f k t440 t441 t442).bind fun bt496 => (if t494 = 0 then (steeplelaw03_PackRises.j0 k t471 (bt496.2.2.2 == 0) a0_0 t449 t453 t454 t455 t466 t467 t468 t489 t490 t491 bt496.1 bt496.2.1 bt496.2.2.1) else (steeplelaw03_PackRises.j0 k t471 false a0_0 t449 t453 t454 t455 t466 t467 t468 t489 t490 t491 bt496.1 bt496.2.1 bt496.2.2.1))) = some r := H
          have A93 := Aside0.mk A930
          clear A930
          replace H := Option.bind_eq_some_iff.mp H
          obtain ⟨⟨t496, t497, t498, t501⟩, A940, H⟩ := H
          replace H : (if t494 = 0 then (steeplelaw03_PackRises.j0 k t471 (t501 == 0) a0_0 t449 t453 t454 t455 t466 t467 t468 t489 t490 t491 t496 t497 t498) else (steeplelaw03_PackRises.j0 k t471 false a0_0 t449 t453 t454 t455 t466 t467 t468 t489 t490 t491 t496 t497 t498)) = some r := H
          have A94 := Aside0.mk A940
          clear A940
          have HC95 := Aside0.mk H
          clear H
          have hnb97 := NB459_446.out
          have hnc97 := NB446_459.out
          have hnb98 := NB459_447.out
          have hnc98 := NB447_459.out
          have hnb99 := NB459_452.out
          have hnc99 := NB452_459.out
          have hnb100 := NB459_465.out
          have hnc100 := NB465_459.out
          have hnb101 := NB459_472.out
          have hnc101 := NB472_459.out
          have hnb102 := NB459_478.out
          have hnc102 := NB478_459.out
          obtain ⟨hcz103_0, hcz103_1, hcz103_2⟩ := zc3 BK459
          obtain ⟨hfz103_0, hfz103_1, hfz103_2⟩ := zf3 BK459
          go_upto_region 17 with (first | ((with_reducible refine gate_callee (f := 19) rfl ?_); refine goesL_ (some 86) rfl rfl Try.func19 (by kernel_rfl) rfl #[.agg #[.int .i64 t453, .int .i64 t454, .slice Ao46 t455.length co46]] rfl (by (try simp only [List.map_toArray, List.map_cons, List.map_nil]); first | done | rfl | (simp only [List.length_drop, List.length_take]; rfl)) ?_; (with_reducible refine (pack_Fall.calls k t453 t454 _ _ t455 t481 t482 t483 t486 _ ?side1 ?side2 A89.out).mono ?_); (case side1 => repeat (first | exact (Kd.R_reads' HO457.out).2.2 | (with_reducible refine Kd.C_alloc ?_ _) | (with_reducible refine Kd.C_drewN ?_ _) | (with_reducible refine Kd.C_drew ?_))); (case side2 => exact (Kd.R_reads' HO457.out).2.1); rintro e w104 ⟨v484, rfl, ho0, hb⟩; refine ⟨_, rfl, ?_⟩; have HO485 := Aside0.mk (Kd.R_lower (Kd.R_new' (Kd.R_new' (Kd.R_new' (Kd.R_new' ho0 (Kd.R_lt (kr HO439.out))) (Kd.R_lt (kr HO444.out))) (Kd.R_lt (kr HO457.out))) (Kd.R_lt (kr HO470.out))) (below_size (bq HB.out))); replace HO439 := Aside0.mk (Kd.R_elder' (kr HO439.out) (Kd.R_base ho0) hb); replace HO444 := Aside0.mk (Kd.R_elder' (kr HO444.out) (Kd.R_base ho0) hb); replace HO451 := kb HO451 hb; replace HO457 := Aside0.mk (Kd.R_elder' (kr HO457.out) (Kd.R_base ho0) hb); replace HO463 := kb HO463 hb; replace HO470 := Aside0.mk (Kd.R_elder' (kr HO470.out) (Kd.R_base ho0) hb); replace HO476 := kb HO476 hb; replace BK434 := bb BK434 hb; replace BK446 := bb BK446 hb; replace BK447 := bb BK447 hb; replace BK452 := bb BK452 hb; replace BK459 := bb BK459 hb; replace BK465 := bb BK465 hb; replace BK472 := bb BK472 hb; replace BK478 := bb BK478 hb; replace HB := bh HB hb; (try clear hb); (try clear hb2); (try clear hk); (try clear hi); (try clear ho0)) | ((with_reducible refine gate_dst (N := 15) rfl ?_); refine box_event ?hg (N := 15) ?hd (cs := #[.int .i64 0, .int .i64 0, .slice none 0 0]) (t := 31) ?hr ?_; (case hd => rfl); (case hg => rfl); (case hr => first | (go_simp; done) | (go_simp; rfl)); intro gb487 hg w105 hbox hb; have BK487 := Aside0.mk hbox; have GW487 := ge hg HB; have GE487 := ge hg HB; have NB434_487 := nl hg BK434; have NB487_434 := ng hg BK434; have NB446_487 := nl hg BK446; have NB487_446 := ng hg BK446; have NB447_487 := nl hg BK447; have NB487_447 := ng hg BK447; have NB452_487 := nl hg BK452; have NB487_452 := ng hg BK452; have NB459_487 := nl hg BK459; have NB487_459 := ng hg BK459; have NB465_487 := nl hg BK465; have NB487_465 := ng hg BK465; have NB472_487 := nl hg BK472; have NB487_472 := ng hg BK472; have NB478_487 := nl hg BK478; have NB487_478 := ng hg BK478; replace HO439 := kb HO439 hb; replace HO444 := kb HO444 hb; replace HO451 := kb HO451 hb; replace HO457 := kb HO457 hb; replace HO463 := kb HO463 hb; replace HO470 := kb HO470 hb; replace HO476 := kb HO476 hb; replace HO485 := kb HO485 hb; replace BK434 := bb BK434 hb; replace BK446 := bb BK446 hb; replace BK447 := bb BK447 hb; replace BK452 := bb BK452 hb; replace BK459 := bb BK459 hb; replace BK465 := bb BK465 hb; replace BK472 := bb BK472 hb; replace BK478 := bb BK478 hb; replace HB := bh HB hb; clear hb hbox hg; have hnb107 := NB487_446.out; have hnc107 := NB446_487.out; have hnb108 := NB487_447.out; have hnc108 := NB447_487.out; have hnb109 := NB487_452.out; have hnc109 := NB452_487.out; have hnb110 := NB487_459.out; have hnc110 := NB459_487.out; have hnb111 := NB487_465.out; have hnc111 := NB465_487.out; have hnb112 := NB487_472.out; have hnc112 := NB472_487.out; have hnb113 := NB487_478.out; have hnc113 := NB478_487.out; obtain ⟨hcz114_0, hcz114_1, hcz114_2⟩ := zc3 BK487; obtain ⟨hfz114_0, hfz114_1, hfz114_2⟩ := zf3 BK487; obtain ⟨Ao115, co115, eo115⟩ := Kd.R_slice HO485.out; subst eo115; have hnb117 := NB452_446.out; have hnc117 := NB446_452.out; have hnb118 := NB452_447.out; have hnc118 := NB447_452.out; have hnb119 := NB452_465.out; have hnc119 := NB465_452.out; have hnb120 := NB452_472.out; have hnc120 := NB472_452.out; have hnb121 := NB452_478.out; have hnc121 := NB478_452.out; obtain ⟨hcz122_0, hcz122_1⟩ := zc2 BK452; obtain ⟨hfz122_0, hfz122_1⟩ := zf2 BK452) | (go_at_call 12; (with_reducible refine (steeplelaw03_same.calls k t481 t482 _ _ t483 a0_0 _ _ t449 true _ ?side1 ?side2 ?side3 ?side4 A91.out).mono ?_); (case side1 => refine (Kd.R_reads' (e := 23) (base := w.heap.size) (ok := fun k_ => ((((True ∧ some k_ ≠ (.slice Ao24 t437.length co24 : Value).ownBlock) ∧ some k_ ≠ (.slice Ao27 t442.length co27 : Value).ownBlock) ∧ some k_ ≠ (.slice Ao46 t455.length co46 : Value).ownBlock) ∧ some k_ ≠ (.slice Ao69 t468.length co69 : Value).ownBlock)) (n := t483.length) (c := co115) ?_).2.2; exact (by (with_reducible repeat refine kl ?_); exact (kf3 HO485 BK487 (by decide)))); (case side2 => exact (Kd.R_reads' HO485.out).2.1); (case side3 => refine (Kd.R_reads' (e := 44) (base := w.heap.size) (ok := fun k_ => ((True ∧ some k_ ≠ (.slice Ao58 t461.length co58 : Value).ownBlock) ∧ some k_ ≠ (.slice Ao81 t474.length co81 : Value).ownBlock)) (n := t449.length) (c := co34) ?_).2.2; exact (by (with_reducible repeat refine kl ?_); exact (kf3 HO451 BK487 (by decide)))); (case side4 => exact (Kd.R_reads' HO451.out).2.1); rintro e w123 ⟨rfl, hb⟩; replace HO439 := Aside0.mk (Kd.R_below (by (with_reducible repeat refine kl ?_); exact (kf3 HO439 BK487 (by decide))) hb); replace HO444 := Aside0.mk (Kd.R_below (by (with_reducible repeat refine kl ?_); exact (kf3 HO444 BK487 (by decide))) hb); replace HO451 := Aside0.mk (Kd.R_below (by (with_reducible repeat refine kl ?_); exact (kf3 HO451 BK487 (by decide))) hb); replace HO457 := Aside0.mk (Kd.R_below (by (with_reducible repeat refine kl ?_); exact (kf3 HO457 BK487 (by decide))) hb); replace HO463 := Aside0.mk (Kd.R_below (by (with_reducible repeat refine kl ?_); exact (kf3 HO463 BK487 (by decide))) hb); replace HO470 := Aside0.mk (Kd.R_below (by (with_reducible repeat refine kl ?_); exact (kf3 HO470 BK487 (by decide))) hb); replace HO476 := Aside0.mk (Kd.R_below (by (with_reducible repeat refine kl ?_); exact (kf3 HO476 BK487 (by decide))) hb); replace HO485 := Aside0.mk (Kd.R_below (by (with_reducible repeat refine kl ?_); exact (kf3 HO485 BK487 (by decide))) hb); replace BK434 := Aside0.mk (blk_below (g := gb434) (o := .cells #[.int .i64 a0_0, .int .i64 a0_1, .slice A0_2 l0_2.length c0_2, .slice A0_3 l0_3.length c0_3] 49 (0, 0)) (by (with_reducible repeat refine bl ?_); refine blk_far ?_ NB434_487.out _; (with_reducible repeat refine bl ?_); refine blk_far ?_ NB434_487.out _; (with_reducible repeat refine bl ?_); refine blk_far ?_ NB434_487.out _; (with_reducible repeat refine bl ?_); exact BK434.out) hb); replace BK446 := Aside0.mk (blk_below (g := gb446) (o := .cells #[.int .i64 t435, .int .i64 t436, .slice Ao24 t437.length co24] 31 (0, 0)) (by (with_reducible repeat refine bl ?_); refine blk_far ?_ NB446_487.out _; (with_reducible repeat refine bl ?_); refine blk_far ?_ NB446_487.out _; (with_reducible repeat refine bl ?_); refine blk_far ?_ NB446_487.out _; (with_reducible repeat refine bl ?_); exact BK446.out) hb); replace BK447 := Aside0.mk (blk_below (g := gb447) (o := .cells #[.int .i64 t440, .int .i64 t441, .slice Ao27 t442.length co27] 31 (0, 0)) (by (with_reducible repeat refine bl ?_); refine blk_far ?_ NB447_487.out _; (with_reducible repeat refine bl ?_); refine blk_far ?_ NB447_487.out _; (with_reducible repeat refine bl ?_); refine blk_far ?_ NB447_487.out _; (with_reducible repeat refine bl ?_); exact BK447.out) hb); replace BK452 := Aside0.mk (blk_below (g := gb452) (o := .cells #[.int .i64 a0_0, .slice Ao34 t449.length co34] 37 (0, 0)) (by (with_reducible repeat refine bl ?_); refine blk_far ?_ NB452_487.out _; (with_reducible repeat refine bl ?_); refine blk_far ?_ NB452_487.out _; (with_reducible repeat refine bl ?_); refine blk_far ?_ NB452_487.out _; (with_reducible repeat refine bl ?_); exact BK452.out) hb); replace BK459 := Aside0.mk (blk_below (g := gb459) (o := .cells #[.int .i64 t453, .int .i64 t454, .slice Ao46 t455.length co46] 31 (0, 0)) (by (with_reducible repeat refine bl ?_); refine blk_far ?_ NB459_487.out _; (with_reducible repeat refine bl ?_); refine blk_far ?_ NB459_487.out _; (with_reducible repeat refine bl ?_); refine blk_far ?_ NB459_487.out _; (with_reducible repeat refine bl ?_); exact BK459.out) hb); replace BK465 := Aside0.mk (blk_below (g := gb465) (o := .cells #[.int .i64 t460, .slice Ao58 t461.length co58] 37 (0, 0)) (by (with_reducible repeat refine bl ?_); refine blk_far ?_ NB465_487.out _; (with_reducible repeat refine bl ?_); refine blk_far ?_ NB465_487.out _; (with_reducible repeat refine bl ?_); refine blk_far ?_ NB465_487.out _; (with_reducible repeat refine bl ?_); exact BK465.out) hb); replace BK472 := Aside0.mk (blk_below (g := gb472) (o := .cells #[.int .i64 t466, .int .i64 t467, .slice Ao69 t468.length co69] 31 (0, 0)) (by (with_reducible repeat refine bl ?_); refine blk_far ?_ NB472_487.out _; (with_reducible repeat refine bl ?_); refine blk_far ?_ NB472_487.out _; (with_reducible repeat refine bl ?_); refine blk_far ?_ NB472_487.out _; (with_reducible repeat refine bl ?_); exact BK472.out) hb); replace BK478 := Aside0.mk (blk_below (g := gb478) (o := .cells #[.int .i64 t473, .slice Ao81 t474.length co81] 37 (0, 0)) (by (with_reducible repeat refine bl ?_); refine blk_far ?_ NB478_487.out _; (with_reducible repeat refine bl ?_); refine blk_far ?_ NB478_487.out _; (with_reducible repeat refine bl ?_); refine blk_far ?_ NB478_487.out _; (with_reducible repeat refine bl ?_); exact BK478.out) hb); replace BK487 := Aside0.mk (blk_below (g := gb487) (o := .cells #[.int .i64 t481, .int .i64 t482, .slice Ao115 t483.length co115] 31 (0, 0)) (by (with_reducible repeat refine bl ?_); refine blk_put (cs := #[.int .i64 t481, .int .i64 t482, .slice none 0 0]) ?_ 2 _ rfl; (with_reducible repeat refine bl ?_); refine blk_put (cs := #[.int .i64 t481, .int .i64 0, .slice none 0 0]) ?_ 1 _ rfl; (with_reducible repeat refine bl ?_); refine blk_put (cs := #[.int .i64 0, .int .i64 0, .slice none 0 0]) ?_ 0 _ rfl; (with_reducible repeat refine bl ?_); exact BK487.out) hb); replace HB := bh HB hb; (try clear hb); (try clear hb2); (try clear hk); (try clear hi); have hnb125 := NB446_447.out; have hnc125 := NB447_446.out; have hnb126 := NB446_465.out; have hnc126 := NB465_446.out; have hnb127 := NB446_472.out; have hnc127 := NB472_446.out; have hnb128 := NB446_478.out; have hnc128 := NB478_446.out; obtain ⟨hcz129_0, hcz129_1, hcz129_2⟩ := zc3 BK446; obtain ⟨hfz129_0, hfz129_1, hfz129_2⟩ := zf3 BK446; have hnb131 := NB447_465.out; have hnc131 := NB465_447.out; have hnb132 := NB447_472.out; have hnc132 := NB472_447.out; have hnb133 := NB447_478.out; have hnc133 := NB478_447.out; obtain ⟨hcz134_0, hcz134_1, hcz134_2⟩ := zc3 BK447; obtain ⟨hfz134_0, hfz134_1, hfz134_2⟩ := zf3 BK447) | ((with_reducible refine gate_callee (f := 21) rfl ?_); refine goesL_ (some 100) rfl rfl Try.func21 (by kernel_rfl) rfl #[.agg #[.int .i64 t435, .int .i64 t436, .slice Ao24 t437.length co24], .agg #[.int .i64 t440, .int .i64 t441, .slice Ao27 t442.length co27]] rfl (by (try simp only [List.map_toArray, List.map_cons, List.map_nil]); first | done | rfl | (simp only [List.length_drop, List.length_take]; rfl)) ?_; (with_reducible refine (pack_Add.calls k t435 t436 _ _ t437 t440 t441 _ _ t442 t489 t490 t491 t494 _ ?side1 ?side2 ?side3 ?side4 A93.out).mono ?_); (case side1 => repeat (first | exact (Kd.R_reads' HO439.out).2.2 | (with_reducible refine Kd.C_alloc ?_ _) | (with_reducible refine Kd.C_drewN ?_ _) | (with_reducible refine Kd.C_drew ?_))); (case side2 => exact (Kd.R_reads' HO439.out).2.1); (case side3 => repeat (first | exact (Kd.R_reads' HO444.out).2.2 | (with_reducible refine Kd.C_alloc ?_ _) | (with_reducible refine Kd.C_drewN ?_ _) | (with_reducible refine Kd.C_drew ?_))); (case side4 => exact (Kd.R_reads' HO444.out).2.1); rintro e w135 ⟨v492, rfl, ho0, hb⟩; refine ⟨_, rfl, ?_⟩; have HO493 := Aside0.mk (Kd.R_lower (Kd.R_new' (Kd.R_new' (Kd.R_new' (Kd.R_new' (Kd.R_new' ho0 (Kd.R_lt (kr HO439.out))) (Kd.R_lt (kr HO444.out))) (Kd.R_lt (kr HO457.out))) (Kd.R_lt (kr HO470.out))) (Kd.R_lt (kr HO485.out))) (below_size (bq HB.out))); replace HO439 := Aside0.mk (Kd.R_elder' (kr HO439.out) (Kd.R_base ho0) hb); replace HO444 := Aside0.mk (Kd.R_elder' (kr HO444.out) (Kd.R_base ho0) hb); replace HO451 := kb HO451 hb; replace HO457 := Aside0.mk (Kd.R_elder' (kr HO457.out) (Kd.R_base ho0) hb); replace HO463 := kb HO463 hb; replace HO470 := Aside0.mk (Kd.R_elder' (kr HO470.out) (Kd.R_base ho0) hb); replace HO476 := kb HO476 hb; replace HO485 := Aside0.mk (Kd.R_elder' (kr HO485.out) (Kd.R_base ho0) hb); replace BK434 := bb BK434 hb; replace BK446 := bb BK446 hb; replace BK447 := bb BK447 hb; replace BK452 := bb BK452 hb; replace BK459 := bb BK459 hb; replace BK465 := bb BK465 hb; replace BK472 := bb BK472 hb; replace BK478 := bb BK478 hb; replace BK487 := bb BK487 hb; replace HB := bh HB hb; (try clear hb); (try clear hb2); (try clear hk); (try clear hi); (try clear ho0)) | ((with_reducible refine gate_dst (N := 17) rfl ?_); refine box_event ?hg (N := 17) ?hd (cs := #[.int .i64 0, .int .i64 0, .slice none 0 0]) (t := 31) ?hr ?_; (case hd => rfl); (case hg => rfl); (case hr => first | (go_simp; done) | (go_simp; rfl)); intro gb495 hg w136 hbox hb; have BK495 := Aside0.mk hbox; have GW495 := ge hg HB; have GE495 := ge hg HB; have NB434_495 := nl hg BK434; have NB495_434 := ng hg BK434; have NB446_495 := nl hg BK446; have NB495_446 := ng hg BK446; have NB447_495 := nl hg BK447; have NB495_447 := ng hg BK447; have NB452_495 := nl hg BK452; have NB495_452 := ng hg BK452; have NB459_495 := nl hg BK459; have NB495_459 := ng hg BK459; have NB465_495 := nl hg BK465; have NB495_465 := ng hg BK465; have NB472_495 := nl hg BK472; have NB495_472 := ng hg BK472; have NB478_495 := nl hg BK478; have NB495_478 := ng hg BK478; have NB487_495 := nl hg BK487; have NB495_487 := ng hg BK487; replace HO439 := kb HO439 hb; replace HO444 := kb HO444 hb; replace HO451 := kb HO451 hb; replace HO457 := kb HO457 hb; replace HO463 := kb HO463 hb; replace HO470 := kb HO470 hb; replace HO476 := kb HO476 hb; replace HO485 := kb HO485 hb; replace HO493 := kb HO493 hb; replace BK434 := bb BK434 hb; replace BK446 := bb BK446 hb; replace BK447 := bb BK447 hb; replace BK452 := bb BK452 hb; replace BK459 := bb BK459 hb; replace BK465 := bb BK465 hb; replace BK472 := bb BK472 hb; replace BK478 := bb BK478 hb; replace BK487 := bb BK487 hb; replace HB := bh HB hb; clear hb hbox hg; have hnb138 := NB495_446.out; have hnc138 := NB446_495.out; have hnb139 := NB495_447.out; have hnc139 := NB447_495.out; have hnb140 := NB495_452.out; have hnc140 := NB452_495.out; have hnb141 := NB495_459.out; have hnc141 := NB459_495.out; have hnb142 := NB495_465.out; have hnc142 := NB465_495.out; have hnb143 := NB495_472.out; have hnc143 := NB472_495.out; have hnb144 := NB495_478.out; have hnc144 := NB478_495.out; have hnb145 := NB495_487.out; have hnc145 := NB487_495.out; obtain ⟨hcz146_0, hcz146_1, hcz146_2⟩ := zc3 BK495; obtain ⟨hfz146_0, hfz146_1, hfz146_2⟩ := zf3 BK495; obtain ⟨Ao147, co147, eo147⟩ := Kd.R_slice HO493.out; subst eo147; obtain ⟨hcz148_0, hcz148_1, hcz148_2⟩ := zc3 BK447; obtain ⟨hfz148_0, hfz148_1, hfz148_2⟩ := zf3 BK447) | ((with_reducible refine gate_callee (f := 17) rfl ?_); refine goesL_ (some 105) rfl rfl Try.func17 (by kernel_rfl) rfl #[.agg #[.int .i64 t440, .int .i64 t441, .slice Ao27 t442.length co27]] rfl (by (try simp only [List.map_toArray, List.map_cons, List.map_nil]); first | done | rfl | (simp only [List.length_drop, List.length_take]; rfl)) ?_; (with_reducible refine (pack_Rise.calls k t440 t441 _ _ t442 t496 t497 t498 t501 _ ?side1 ?side2 A94.out).mono ?_); (case side1 => refine (Kd.R_reads' (e := 23) (base := w.heap.size) (ok := fun k_ => ((((some k_ ≠ (.slice Ao24 t437.length co24 : Value).ownBlock ∧ some k_ ≠ (.slice Ao46 t455.length co46 : Value).ownBlock) ∧ some k_ ≠ (.slice Ao69 t468.length co69 : Value).ownBlock) ∧ some k_ ≠ (.slice Ao115 t483.length co115 : Value).ownBlock) ∧ some k_ ≠ (.slice Ao147 t491.length co147 : Value).ownBlock)) (n := t442.length) (c := co27) ?_).2.2; exact (by (with_reducible repeat refine kl ?_); exact (kf3 HO444 BK495 (by decide)))); (case side2 => exact (Kd.R_reads' HO444.out).2.1); rintro e w149 ⟨v499, rfl, ho0, hb⟩; refine ⟨_, rfl, ?_⟩; have HO500 := Aside0.mk (Kd.R_lower (Kd.R_new' (Kd.R_new' (Kd.R_new' (Kd.R_new' (Kd.R_new' (Kd.R_new' ho0 (Kd.R_lt (by (with_reducible repeat refine kl ?_); exact (kf3 HO439 BK495 (by decide))))) (Kd.R_lt (by (with_reducible repeat refine kl ?_); exact (kf3 HO444 BK495 (by decide))))) (Kd.R_lt (by (with_reducible repeat refine kl ?_); exact (kf3 HO457 BK495 (by decide))))) (Kd.R_lt (by (with_reducible repeat refine kl ?_); exact (kf3 HO470 BK495 (by decide))))) (Kd.R_lt (by (with_reducible repeat refine kl ?_); exact (kf3 HO485 BK495 (by decide))))) (Kd.R_lt (by (with_reducible repeat refine kl ?_); exact (kf3 HO493 BK495 (by decide))))) (below_size (bq HB.out))); replace HO439 := Aside0.mk (Kd.R_elder' (by (with_reducible repeat refine kl ?_); exact (kf3 HO439 BK495 (by decide))) (Kd.R_base ho0) hb); replace HO444 := Aside0.mk (Kd.R_elder' (by (with_reducible repeat refine kl ?_); exact (kf3 HO444 BK495 (by decide))) (Kd.R_base ho0) hb); replace HO451 := Aside0.mk (Kd.R_below (by (with_reducible repeat refine kl ?_); exact (kf3 HO451 BK495 (by decide))) hb); replace HO457 := Aside0.mk (Kd.R_elder' (by (with_reducible repeat refine kl ?_); exact (kf3 HO457 BK495 (by decide))) (Kd.R_base ho0) hb); replace HO463 := Aside0.mk (Kd.R_below (by (with_reducible repeat refine kl ?_); exact (kf3 HO463 BK495 (by decide))) hb); replace HO470 := Aside0.mk (Kd.R_elder' (by (with_reducible repeat refine kl ?_); exact (kf3 HO470 BK495 (by decide))) (Kd.R_base ho0) hb); replace HO476 := Aside0.mk (Kd.R_below (by (with_reducible repeat refine kl ?_); exact (kf3 HO476 BK495 (by decide))) hb); replace HO485 := Aside0.mk (Kd.R_elder' (by (with_reducible repeat refine kl ?_); exact (kf3 HO485 BK495 (by decide))) (Kd.R_base ho0) hb); replace HO493 := Aside0.mk (Kd.R_elder' (by (with_reducible repeat refine kl ?_); exact (kf3 HO493 BK495 (by decide))) (Kd.R_base ho0) hb); replace BK434 := Aside0.mk (blk_below (g := gb434) (o := .cells #[.int .i64 a0_0, .int .i64 a0_1, .slice A0_2 l0_2.length c0_2, .slice A0_3 l0_3.length c0_3] 49 (0, 0)) (by (with_reducible repeat refine bl ?_); refine blk_far ?_ NB434_495.out _; (with_reducible repeat refine bl ?_); refine blk_far ?_ NB434_495.out _; (with_reducible repeat refine bl ?_); refine blk_far ?_ NB434_495.out _; (with_reducible repeat refine bl ?_); exact BK434.out) hb); replace BK446 := Aside0.mk (blk_below (g := gb446) (o := .cells #[.int .i64 t435, .int .i64 t436, .slice Ao24 t437.length co24] 31 (0, 0)) (by (with_reducible repeat refine bl ?_); refine blk_far ?_ NB446_495.out _; (with_reducible repeat refine bl ?_); refine blk_far ?_ NB446_495.out _; (with_reducible repeat refine bl ?_); refine blk_far ?_ NB446_495.out _; (with_reducible repeat refine bl ?_); exact BK446.out) hb); replace BK447 := Aside0.mk (blk_below (g := gb447) (o := .cells #[.int .i64 t440, .int .i64 t441, .slice Ao27 t442.length co27] 31 (0, 0)) (by (with_reducible repeat refine bl ?_); refine blk_far ?_ NB447_495.out _; (with_reducible repeat refine bl ?_); refine blk_far ?_ NB447_495.out _; (with_reducible repeat refine bl ?_); refine blk_far ?_ NB447_495.out _; (with_reducible repeat refine bl ?_); exact BK447.out) hb); replace BK452 := Aside0.mk (blk_below (g := gb452) (o := .cells #[.int .i64 a0_0, .slice Ao34 t449.length co34] 37 (0, 0)) (by (with_reducible repeat refine bl ?_); refine blk_far ?_ NB452_495.out _; (with_reducible repeat refine bl ?_); refine blk_far ?_ NB452_495.out _; (with_reducible repeat refine bl ?_); refine blk_far ?_ NB452_495.out _; (with_reducible repeat refine bl ?_); exact BK452.out) hb); replace BK459 := Aside0.mk (blk_below (g := gb459) (o := .cells #[.int .i64 t453, .int .i64 t454, .slice Ao46 t455.length co46] 31 (0, 0)) (by (with_reducible repeat refine bl ?_); refine blk_far ?_ NB459_495.out _; (with_reducible repeat refine bl ?_); refine blk_far ?_ NB459_495.out _; (with_reducible repeat refine bl ?_); refine blk_far ?_ NB459_495.out _; (with_reducible repeat refine bl ?_); exact BK459.out) hb); replace BK465 := Aside0.mk (blk_below (g := gb465) (o := .cells #[.int .i64 t460, .slice Ao58 t461.length co58] 37 (0, 0)) (by (with_reducible repeat refine bl ?_); refine blk_far ?_ NB465_495.out _; (with_reducible repeat refine bl ?_); refine blk_far ?_ NB465_495.out _; (with_reducible repeat refine bl ?_); refine blk_far ?_ NB465_495.out _; (with_reducible repeat refine bl ?_); exact BK465.out) hb); replace BK472 := Aside0.mk (blk_below (g := gb472) (o := .cells #[.int .i64 t466, .int .i64 t467, .slice Ao69 t468.length co69] 31 (0, 0)) (by (with_reducible repeat refine bl ?_); refine blk_far ?_ NB472_495.out _; (with_reducible repeat refine bl ?_); refine blk_far ?_ NB472_495.out _; (with_reducible repeat refine bl ?_); refine blk_far ?_ NB472_495.out _; (with_reducible repeat refine bl ?_); exact BK472.out) hb); replace BK478 := Aside0.mk (blk_below (g := gb478) (o := .cells #[.int .i64 t473, .slice Ao81 t474.length co81] 37 (0, 0)) (by (with_reducible repeat refine bl ?_); refine blk_far ?_ NB478_495.out _; (with_reducible repeat refine bl ?_); refine blk_far ?_ NB478_495.out _; (with_reducible repeat refine bl ?_); refine blk_far ?_ NB478_495.out _; (with_reducible repeat refine bl ?_); exact BK478.out) hb); replace BK487 := Aside0.mk (blk_below (g := gb487) (o := .cells #[.int .i64 t481, .int .i64 t482, .slice Ao115 t483.length co115] 31 (0, 0)) (by (with_reducible repeat refine bl ?_); refine blk_far ?_ NB487_495.out _; (with_reducible repeat refine bl ?_); refine blk_far ?_ NB487_495.out _; (with_reducible repeat refine bl ?_); refine blk_far ?_ NB487_495.out _; (with_reducible repeat refine bl ?_); exact BK487.out) hb); replace BK495 := Aside0.mk (blk_below (g := gb495) (o := .cells #[.int .i64 t489, .int .i64 t490, .slice Ao147 t491.length co147] 31 (0, 0)) (by (with_reducible repeat refine bl ?_); refine blk_put (cs := #[.int .i64 t489, .int .i64 t490, .slice none 0 0]) ?_ 2 _ rfl; (with_reducible repeat refine bl ?_); refine blk_put (cs := #[.int .i64 t489, .int .i64 0, .slice none 0 0]) ?_ 1 _ rfl; (with_reducible repeat refine bl ?_); refine blk_put (cs := #[.int .i64 0, .int .i64 0, .slice none 0 0]) ?_ 0 _ rfl; (with_reducible repeat refine bl ?_); exact BK495.out) hb); replace HB := bh HB hb; (try clear hb); (try clear hb2); (try clear hk); (try clear hi); (try clear ho0)) | ((with_reducible refine gate_dst (N := 19) rfl ?_); refine box_event ?hg (N := 19) ?hd (cs := #[.int .i64 0, .int .i64 0, .slice none 0 0]) (t := 31) ?hr ?_; (case hd => rfl); (case hg => rfl); (case hr => first | (go_simp; done) | (go_simp; rfl)); intro gb502 hg w150 hbox hb; have BK502 := Aside0.mk hbox; have GW502 := ge hg HB; have GE502 := ge hg HB; have NB434_502 := nl hg BK434; have NB502_434 := ng hg BK434; have NB446_502 := nl hg BK446; have NB502_446 := ng hg BK446; have NB447_502 := nl hg BK447; have NB502_447 := ng hg BK447; have NB452_502 := nl hg BK452; have NB502_452 := ng hg BK452; have NB459_502 := nl hg BK459; have NB502_459 := ng hg BK459; have NB465_502 := nl hg BK465; have NB502_465 := ng hg BK465; have NB472_502 := nl hg BK472; have NB502_472 := ng hg BK472; have NB478_502 := nl hg BK478; have NB502_478 := ng hg BK478; have NB487_502 := nl hg BK487; have NB502_487 := ng hg BK487; have NB495_502 := nl hg BK495; have NB502_495 := ng hg BK495; replace HO439 := kb HO439 hb; replace HO444 := kb HO444 hb; replace HO451 := kb HO451 hb; replace HO457 := kb HO457 hb; replace HO463 := kb HO463 hb; replace HO470 := kb HO470 hb; replace HO476 := kb HO476 hb; replace HO485 := kb HO485 hb; replace HO493 := kb HO493 hb; replace HO500 := kb HO500 hb; replace BK434 := bb BK434 hb; replace BK446 := bb BK446 hb; replace BK447 := bb BK447 hb; replace BK452 := bb BK452 hb; replace BK459 := bb BK459 hb; replace BK465 := bb BK465 hb; replace BK472 := bb BK472 hb; replace BK478 := bb BK478 hb; replace BK487 := bb BK487 hb; replace BK495 := bb BK495 hb; replace HB := bh HB hb; clear hb hbox hg; have hnb152 := NB502_446.out; have hnc152 := NB446_502.out; have hnb153 := NB502_447.out; have hnc153 := NB447_502.out; have hnb154 := NB502_452.out; have hnc154 := NB452_502.out; have hnb155 := NB502_459.out; have hnc155 := NB459_502.out; have hnb156 := NB502_465.out; have hnc156 := NB465_502.out; have hnb157 := NB502_472.out; have hnc157 := NB472_502.out; have hnb158 := NB502_478.out; have hnc158 := NB478_502.out; have hnb159 := NB502_487.out; have hnc159 := NB487_502.out; have hnb160 := NB502_495.out; have hnc160 := NB495_502.out; obtain ⟨hcz161_0, hcz161_1, hcz161_2⟩ := zc3 BK502; obtain ⟨hfz161_0, hfz161_1, hfz161_2⟩ := zf3 BK502; obtain ⟨Ao162, co162, eo162⟩ := Kd.R_slice HO500.out; subst eo162))
          (try simp only [Act.put, List.setIfInBounds_toArray, List.set_cons_zero, List.set_cons_succ])
          go_cut [113] (fun v113 wc => ∃ (kq : Nat) (x113_94 : Bool), v113 = .bool x113_94 ∧ Aside0 (steeplelaw03_PackRises.j0 kq t471 x113_94 a0_0 t449 t453 t454 t455 t466 t467 t468 t489 t490 t491 t496 t497 t498 = some r) ∧ Aside0 (kq ≤ k) ∧ Aside0 (Kd.R (Kd.int .u64) 23 wc w.heap.size (fun k_ => some k_ ≠ ((.slice Ao27 t442.length co27) : Value).ownBlock ∧ some k_ ≠ ((.slice Ao46 t455.length co46) : Value).ownBlock ∧ some k_ ≠ ((.slice Ao69 t468.length co69) : Value).ownBlock ∧ some k_ ≠ ((.slice Ao115 t483.length co115) : Value).ownBlock ∧ some k_ ≠ ((.slice Ao147 t491.length co147) : Value).ownBlock ∧ some k_ ≠ ((.slice Ao162 t498.length co162) : Value).ownBlock) (.slice Ao24 t437.length co24) t437) ∧ Aside0 (Kd.R (Kd.int .u64) 23 wc w.heap.size (fun k_ => some k_ ≠ ((.slice Ao24 t437.length co24) : Value).ownBlock ∧ some k_ ≠ ((.slice Ao46 t455.length co46) : Value).ownBlock ∧ some k_ ≠ ((.slice Ao69 t468.length co69) : Value).ownBlock ∧ some k_ ≠ ((.slice Ao115 t483.length co115) : Value).ownBlock ∧ some k_ ≠ ((.slice Ao147 t491.length co147) : Value).ownBlock ∧ some k_ ≠ ((.slice Ao162 t498.length co162) : Value).ownBlock) (.slice Ao27 t442.length co27) t442) ∧ Aside0 (Kd.R k44 44 wc w.heap.size (fun k_ => some k_ ≠ ((.slice Ao58 t461.length co58) : Value).ownBlock ∧ some k_ ≠ ((.slice Ao81 t474.length co81) : Value).ownBlock) (.slice Ao34 t449.length co34) t449) ∧ Aside0 (Kd.R (Kd.int .u64) 23 wc w.heap.size (fun k_ => some k_ ≠ ((.slice Ao24 t437.length co24) : Value).ownBlock ∧ some k_ ≠ ((.slice Ao27 t442.length co27) : Value).ownBlock ∧ some k_ ≠ ((.slice Ao69 t468.length co69) : Value).ownBlock ∧ some k_ ≠ ((.slice Ao115 t483.length co115) : Value).ownBlock ∧ some k_ ≠ ((.slice Ao147 t491.length co147) : Value).ownBlock ∧ some k_ ≠ ((.slice Ao162 t498.length co162) : Value).ownBlock) (.slice Ao46 t455.length co46) t455) ∧ Aside0 (Kd.R k44 44 wc w.heap.size (fun k_ => some k_ ≠ ((.slice Ao34 t449.length co34) : Value).ownBlock ∧ some k_ ≠ ((.slice Ao81 t474.length co81) : Value).ownBlock) (.slice Ao58 t461.length co58) t461) ∧ Aside0 (Kd.R (Kd.int .u64) 23 wc w.heap.size (fun k_ => some k_ ≠ ((.slice Ao24 t437.length co24) : Value).ownBlock ∧ some k_ ≠ ((.slice Ao27 t442.length co27) : Value).ownBlock ∧ some k_ ≠ ((.slice Ao46 t455.length co46) : Value).ownBlock ∧ some k_ ≠ ((.slice Ao115 t483.length co115) : Value).ownBlock ∧ some k_ ≠ ((.slice Ao147 t491.length co147) : Value).ownBlock ∧ some k_ ≠ ((.slice Ao162 t498.length co162) : Value).ownBlock) (.slice Ao69 t468.length co69) t468) ∧ Aside0 (Kd.R k44 44 wc w.heap.size (fun k_ => some k_ ≠ ((.slice Ao34 t449.length co34) : Value).ownBlock ∧ some k_ ≠ ((.slice Ao58 t461.length co58) : Value).ownBlock) (.slice Ao81 t474.length co81) t474) ∧ Aside0 (Kd.R (Kd.int .u64) 23 wc w.heap.size (fun k_ => some k_ ≠ ((.slice Ao24 t437.length co24) : Value).ownBlock ∧ some k_ ≠ ((.slice Ao27 t442.length co27) : Value).ownBlock ∧ some k_ ≠ ((.slice Ao46 t455.length co46) : Value).ownBlock ∧ some k_ ≠ ((.slice Ao69 t468.length co69) : Value).ownBlock ∧ some k_ ≠ ((.slice Ao147 t491.length co147) : Value).ownBlock ∧ some k_ ≠ ((.slice Ao162 t498.length co162) : Value).ownBlock) (.slice Ao115 t483.length co115) t483) ∧ Aside0 (Kd.R (Kd.int .u64) 23 wc w.heap.size (fun k_ => some k_ ≠ ((.slice Ao24 t437.length co24) : Value).ownBlock ∧ some k_ ≠ ((.slice Ao27 t442.length co27) : Value).ownBlock ∧ some k_ ≠ ((.slice Ao46 t455.length co46) : Value).ownBlock ∧ some k_ ≠ ((.slice Ao69 t468.length co69) : Value).ownBlock ∧ some k_ ≠ ((.slice Ao115 t483.length co115) : Value).ownBlock ∧ some k_ ≠ ((.slice Ao162 t498.length co162) : Value).ownBlock) (.slice Ao147 t491.length co147) t491) ∧ Aside0 (Kd.R (Kd.int .u64) 23 wc w.heap.size (fun k_ => some k_ ≠ ((.slice Ao24 t437.length co24) : Value).ownBlock ∧ some k_ ≠ ((.slice Ao27 t442.length co27) : Value).ownBlock ∧ some k_ ≠ ((.slice Ao46 t455.length co46) : Value).ownBlock ∧ some k_ ≠ ((.slice Ao69 t468.length co69) : Value).ownBlock ∧ some k_ ≠ ((.slice Ao115 t483.length co115) : Value).ownBlock ∧ some k_ ≠ ((.slice Ao147 t491.length co147) : Value).ownBlock) (.slice Ao162 t498.length co162) t498) ∧ Aside0 (wc.heap[gb434]? = some (.cells #[.int .i64 a0_0, .int .i64 a0_1, (.slice A0_2 l0_2.length c0_2), (.slice A0_3 l0_3.length c0_3)] 49 (0, 0))) ∧ Aside0 (wc.heap[gb446]? = some (.cells #[.int .i64 t435, .int .i64 t436, (.slice Ao24 t437.length co24)] 31 (0, 0))) ∧ Aside0 (wc.heap[gb447]? = some (.cells #[.int .i64 t440, .int .i64 t441, (.slice Ao27 t442.length co27)] 31 (0, 0))) ∧ Aside0 (wc.heap[gb452]? = some (.cells #[.int .i64 a0_0, (.slice Ao34 t449.length co34)] 37 (0, 0))) ∧ Aside0 (wc.heap[gb459]? = some (.cells #[.int .i64 t453, .int .i64 t454, (.slice Ao46 t455.length co46)] 31 (0, 0))) ∧ Aside0 (wc.heap[gb465]? = some (.cells #[.int .i64 t460, (.slice Ao58 t461.length co58)] 37 (0, 0))) ∧ Aside0 (wc.heap[gb472]? = some (.cells #[.int .i64 t466, .int .i64 t467, (.slice Ao69 t468.length co69)] 31 (0, 0))) ∧ Aside0 (wc.heap[gb478]? = some (.cells #[.int .i64 t473, (.slice Ao81 t474.length co81)] 37 (0, 0))) ∧ Aside0 (wc.heap[gb487]? = some (.cells #[.int .i64 t481, .int .i64 t482, (.slice Ao115 t483.length co115)] 31 (0, 0))) ∧ Aside0 (wc.heap[gb495]? = some (.cells #[.int .i64 t489, .int .i64 t490, (.slice Ao147 t491.length co147)] 31 (0, 0))) ∧ Aside0 (wc.heap[gb502]? = some (.cells #[.int .i64 t496, .int .i64 t497, (.slice Ao162 t498.length co162)] 31 (0, 0))) ∧ Aside0 (Below w.heap.size w wc))
          case first =>
           have H := HC95.out
           clear HC95
           by_cases c163 : t494 = 0
           ·rw [if_pos c163] at H
            have c163b0 : (t494 == 0) = true := beq_iff_eq.mpr c163
            have c163b1 : (t494 != 0) = false := bne_eq_false_iff_eq.mpr c163
            clear c163
            (first | rw [c163b0] | (simp only [i64_w, i32_w]; rw [c163b0]) | skip)
            have H' := Aside0.mk H
            clear H
            go_wp2
            go_meet
            case rel => exact ⟨_, ((t501 == 0)), (by first | rfl | (simp; done) | (simp [*]; done)), H', ⟨by first | omega | exact Nat.le_refl _⟩, ⟨by (with_reducible repeat refine kl ?_); exact Kd.R_mono (Kd.R_far (p := ⟨gb502, 2, none⟩) (Kd.R_far (p := ⟨gb502, 1, none⟩) (Kd.R_far (p := ⟨gb502, 0, none⟩) (Kd.R_types HO439.out BK502.out (by decide)) (fun _ hk => hk.2) (.int .i64 t496)) (fun _ hk => hk.2) (.int .i64 t497)) (fun _ hk => hk.2) (.slice Ao162 t498.length co162)) (fun _ hk => ⟨hk.1.1.1.1.1.1, ⟨hk.1.1.1.1.1.2, ⟨hk.1.1.1.1.2, ⟨hk.1.1.1.2, ⟨hk.1.1.2, hk.1.2⟩⟩⟩⟩⟩)⟩, ⟨by (with_reducible repeat refine kl ?_); exact Kd.R_mono (Kd.R_far (p := ⟨gb502, 2, none⟩) (Kd.R_far (p := ⟨gb502, 1, none⟩) (Kd.R_far (p := ⟨gb502, 0, none⟩) (Kd.R_types HO444.out BK502.out (by decide)) (fun _ hk => hk.2) (.int .i64 t496)) (fun _ hk => hk.2) (.int .i64 t497)) (fun _ hk => hk.2) (.slice Ao162 t498.length co162)) (fun _ hk => ⟨hk.1.1.1.1.1.1, ⟨hk.1.1.1.1.1.2, ⟨hk.1.1.1.1.2, ⟨hk.1.1.1.2, ⟨hk.1.1.2, hk.1.2⟩⟩⟩⟩⟩)⟩, ⟨by (with_reducible repeat refine kl ?_); exact Kd.R_mono (Kd.R_far (p := ⟨gb502, 2, none⟩) (Kd.R_far (p := ⟨gb502, 1, none⟩) (Kd.R_far (p := ⟨gb502, 0, none⟩) (Kd.R_types HO451.out BK502.out (by decide)) (fun _ hk => hk.2) (.int .i64 t496)) (fun _ hk => hk.2) (.int .i64 t497)) (fun _ hk => hk.2) (.slice Ao162 t498.length co162)) (fun _ hk => ⟨hk.1.1.2, hk.1.2⟩)⟩, ⟨by (with_reducible repeat refine kl ?_); exact Kd.R_mono (Kd.R_far (p := ⟨gb502, 2, none⟩) (Kd.R_far (p := ⟨gb502, 1, none⟩) (Kd.R_far (p := ⟨gb502, 0, none⟩) (Kd.R_types HO457.out BK502.out (by decide)) (fun _ hk => hk.2) (.int .i64 t496)) (fun _ hk => hk.2) (.int .i64 t497)) (fun _ hk => hk.2) (.slice Ao162 t498.length co162)) (fun _ hk => ⟨hk.1.1.1.1.1.1.2, ⟨hk.1.1.1.1.1.2, ⟨hk.1.1.1.1.2, ⟨hk.1.1.1.2, ⟨hk.1.1.2, hk.1.2⟩⟩⟩⟩⟩)⟩, ⟨by (with_reducible repeat refine kl ?_); exact Kd.R_mono (Kd.R_far (p := ⟨gb502, 2, none⟩) (Kd.R_far (p := ⟨gb502, 1, none⟩) (Kd.R_far (p := ⟨gb502, 0, none⟩) (Kd.R_types HO463.out BK502.out (by decide)) (fun _ hk => hk.2) (.int .i64 t496)) (fun _ hk => hk.2) (.int .i64 t497)) (fun _ hk => hk.2) (.slice Ao162 t498.length co162)) (fun _ hk => ⟨hk.1.1.2, hk.1.2⟩)⟩, ⟨by (with_reducible repeat refine kl ?_); exact Kd.R_mono (Kd.R_far (p := ⟨gb502, 2, none⟩) (Kd.R_far (p := ⟨gb502, 1, none⟩) (Kd.R_far (p := ⟨gb502, 0, none⟩) (Kd.R_types HO470.out BK502.out (by decide)) (fun _ hk => hk.2) (.int .i64 t496)) (fun _ hk => hk.2) (.int .i64 t497)) (fun _ hk => hk.2) (.slice Ao162 t498.length co162)) (fun _ hk => ⟨hk.1.1.1.1.1.1.2, ⟨hk.1.1.1.1.1.2, ⟨hk.1.1.1.1.2, ⟨hk.1.1.1.2, ⟨hk.1.1.2, hk.1.2⟩⟩⟩⟩⟩)⟩, ⟨by (with_reducible repeat refine kl ?_); exact Kd.R_mono (Kd.R_far (p := ⟨gb502, 2, none⟩) (Kd.R_far (p := ⟨gb502, 1, none⟩) (Kd.R_far (p := ⟨gb502, 0, none⟩) (Kd.R_types HO476.out BK502.out (by decide)) (fun _ hk => hk.2) (.int .i64 t496)) (fun _ hk => hk.2) (.int .i64 t497)) (fun _ hk => hk.2) (.slice Ao162 t498.length co162)) (fun _ hk => ⟨hk.1.1.2, hk.1.2⟩)⟩, ⟨by (with_reducible repeat refine kl ?_); exact Kd.R_mono (Kd.R_far (p := ⟨gb502, 2, none⟩) (Kd.R_far (p := ⟨gb502, 1, none⟩) (Kd.R_far (p := ⟨gb502, 0, none⟩) (Kd.R_types HO485.out BK502.out (by decide)) (fun _ hk => hk.2) (.int .i64 t496)) (fun _ hk => hk.2) (.int .i64 t497)) (fun _ hk => hk.2) (.slice Ao162 t498.length co162)) (fun _ hk => ⟨hk.1.1.1.1.1.1.2, ⟨hk.1.1.1.1.1.2, ⟨hk.1.1.1.1.2, ⟨hk.1.1.1.2, ⟨hk.1.1.2, hk.1.2⟩⟩⟩⟩⟩)⟩, ⟨by (with_reducible repeat refine kl ?_); exact Kd.R_mono (Kd.R_far (p := ⟨gb502, 2, none⟩) (Kd.R_far (p := ⟨gb502, 1, none⟩) (Kd.R_far (p := ⟨gb502, 0, none⟩) (Kd.R_types HO493.out BK502.out (by decide)) (fun _ hk => hk.2) (.int .i64 t496)) (fun _ hk => hk.2) (.int .i64 t497)) (fun _ hk => hk.2) (.slice Ao162 t498.length co162)) (fun _ hk => ⟨hk.1.1.1.1.1.1.2, ⟨hk.1.1.1.1.1.2, ⟨hk.1.1.1.1.2, ⟨hk.1.1.1.2, ⟨hk.1.1.2, hk.1.2⟩⟩⟩⟩⟩)⟩, ⟨by (with_reducible repeat refine kl ?_); exact Kd.R_mono (Kd.R_far (p := ⟨gb502, 2, none⟩) (Kd.R_far (p := ⟨gb502, 1, none⟩) (Kd.R_far (p := ⟨gb502, 0, none⟩) (Kd.R_types HO500.out BK502.out (by decide)) (fun _ hk => hk.2) (.int .i64 t496)) (fun _ hk => hk.2) (.int .i64 t497)) (fun _ hk => hk.2) (.slice Ao162 t498.length co162)) (fun _ hk => ⟨hk.1.1.1.1.1.1.2, ⟨hk.1.1.1.1.1.2, ⟨hk.1.1.1.1.2, ⟨hk.1.1.1.2, ⟨hk.1.1.2, hk.1.2⟩⟩⟩⟩⟩)⟩, ⟨by (with_reducible repeat refine bl ?_); refine blk_far ?_ NB434_502.out _; (with_reducible repeat refine bl ?_); refine blk_far ?_ NB434_502.out _; (with_reducible repeat refine bl ?_); refine blk_far ?_ NB434_502.out _; (with_reducible repeat refine bl ?_); exact BK434.out⟩, ⟨by (with_reducible repeat refine bl ?_); refine blk_far ?_ NB446_502.out _; (with_reducible repeat refine bl ?_); refine blk_far ?_ NB446_502.out _; (with_reducible repeat refine bl ?_); refine blk_far ?_ NB446_502.out _; (with_reducible repeat refine bl ?_); exact BK446.out⟩, ⟨by (with_reducible repeat refine bl ?_); refine blk_far ?_ NB447_502.out _; (with_reducible repeat refine bl ?_); refine blk_far ?_ NB447_502.out _; (with_reducible repeat refine bl ?_); refine blk_far ?_ NB447_502.out _; (with_reducible repeat refine bl ?_); exact BK447.out⟩, ⟨by (with_reducible repeat refine bl ?_); refine blk_far ?_ NB452_502.out _; (with_reducible repeat refine bl ?_); refine blk_far ?_ NB452_502.out _; (with_reducible repeat refine bl ?_); refine blk_far ?_ NB452_502.out _; (with_reducible repeat refine bl ?_); exact BK452.out⟩, ⟨by (with_reducible repeat refine bl ?_); refine blk_far ?_ NB459_502.out _; (with_reducible repeat refine bl ?_); refine blk_far ?_ NB459_502.out _; (with_reducible repeat refine bl ?_); refine blk_far ?_ NB459_502.out _; (with_reducible repeat refine bl ?_); exact BK459.out⟩, ⟨by (with_reducible repeat refine bl ?_); refine blk_far ?_ NB465_502.out _; (with_reducible repeat refine bl ?_); refine blk_far ?_ NB465_502.out _; (with_reducible repeat refine bl ?_); refine blk_far ?_ NB465_502.out _; (with_reducible repeat refine bl ?_); exact BK465.out⟩, ⟨by (with_reducible repeat refine bl ?_); refine blk_far ?_ NB472_502.out _; (with_reducible repeat refine bl ?_); refine blk_far ?_ NB472_502.out _; (with_reducible repeat refine bl ?_); refine blk_far ?_ NB472_502.out _; (with_reducible repeat refine bl ?_); exact BK472.out⟩, ⟨by (with_reducible repeat refine bl ?_); refine blk_far ?_ NB478_502.out _; (with_reducible repeat refine bl ?_); refine blk_far ?_ NB478_502.out _; (with_reducible repeat refine bl ?_); refine blk_far ?_ NB478_502.out _; (with_reducible repeat refine bl ?_); exact BK478.out⟩, ⟨by (with_reducible repeat refine bl ?_); refine blk_far ?_ NB487_502.out _; (with_reducible repeat refine bl ?_); refine blk_far ?_ NB487_502.out _; (with_reducible repeat refine bl ?_); refine blk_far ?_ NB487_502.out _; (with_reducible repeat refine bl ?_); exact BK487.out⟩, ⟨by (with_reducible repeat refine bl ?_); refine blk_far ?_ NB495_502.out _; (with_reducible repeat refine bl ?_); refine blk_far ?_ NB495_502.out _; (with_reducible repeat refine bl ?_); refine blk_far ?_ NB495_502.out _; (with_reducible repeat refine bl ?_); exact BK495.out⟩, ⟨by (with_reducible repeat refine bl ?_); refine blk_put (cs := #[.int .i64 t496, .int .i64 t497, .slice none 0 0]) ?_ 2 _ rfl; (with_reducible repeat refine bl ?_); refine blk_put (cs := #[.int .i64 t496, .int .i64 0, .slice none 0 0]) ?_ 1 _ rfl; (with_reducible repeat refine bl ?_); refine blk_put (cs := #[.int .i64 0, .int .i64 0, .slice none 0 0]) ?_ 0 _ rfl; (with_reducible repeat refine bl ?_); exact BK502.out⟩, ⟨bq HB.out⟩⟩
           ·rw [if_neg c163] at H
            have c163b0 : (t494 == 0) = false := beq_eq_false_iff_ne.mpr c163
            have c163b1 : (t494 != 0) = true := bne_iff_ne.mpr c163
            (first | rw [c163b0] | (simp only [i64_w, i32_w]; rw [c163b0]) | skip)
            have H' := Aside0.mk H
            clear H
            go_wp2
            go_meet
            case rel => exact ⟨_, (false), (by first | rfl | (simp; done) | (simp [*]; done)), H', ⟨by first | omega | exact Nat.le_refl _⟩, ⟨by (with_reducible repeat refine kl ?_); exact Kd.R_mono (Kd.R_far (p := ⟨gb502, 2, none⟩) (Kd.R_far (p := ⟨gb502, 1, none⟩) (Kd.R_far (p := ⟨gb502, 0, none⟩) (Kd.R_types HO439.out BK502.out (by decide)) (fun _ hk => hk.2) (.int .i64 t496)) (fun _ hk => hk.2) (.int .i64 t497)) (fun _ hk => hk.2) (.slice Ao162 t498.length co162)) (fun _ hk => ⟨hk.1.1.1.1.1.1, ⟨hk.1.1.1.1.1.2, ⟨hk.1.1.1.1.2, ⟨hk.1.1.1.2, ⟨hk.1.1.2, hk.1.2⟩⟩⟩⟩⟩)⟩, ⟨by (with_reducible repeat refine kl ?_); exact Kd.R_mono (Kd.R_far (p := ⟨gb502, 2, none⟩) (Kd.R_far (p := ⟨gb502, 1, none⟩) (Kd.R_far (p := ⟨gb502, 0, none⟩) (Kd.R_types HO444.out BK502.out (by decide)) (fun _ hk => hk.2) (.int .i64 t496)) (fun _ hk => hk.2) (.int .i64 t497)) (fun _ hk => hk.2) (.slice Ao162 t498.length co162)) (fun _ hk => ⟨hk.1.1.1.1.1.1, ⟨hk.1.1.1.1.1.2, ⟨hk.1.1.1.1.2, ⟨hk.1.1.1.2, ⟨hk.1.1.2, hk.1.2⟩⟩⟩⟩⟩)⟩, ⟨by (with_reducible repeat refine kl ?_); exact Kd.R_mono (Kd.R_far (p := ⟨gb502, 2, none⟩) (Kd.R_far (p := ⟨gb502, 1, none⟩) (Kd.R_far (p := ⟨gb502, 0, none⟩) (Kd.R_types HO451.out BK502.out (by decide)) (fun _ hk => hk.2) (.int .i64 t496)) (fun _ hk => hk.2) (.int .i64 t497)) (fun _ hk => hk.2) (.slice Ao162 t498.length co162)) (fun _ hk => ⟨hk.1.1.2, hk.1.2⟩)⟩, ⟨by (with_reducible repeat refine kl ?_); exact Kd.R_mono (Kd.R_far (p := ⟨gb502, 2, none⟩) (Kd.R_far (p := ⟨gb502, 1, none⟩) (Kd.R_far (p := ⟨gb502, 0, none⟩) (Kd.R_types HO457.out BK502.out (by decide)) (fun _ hk => hk.2) (.int .i64 t496)) (fun _ hk => hk.2) (.int .i64 t497)) (fun _ hk => hk.2) (.slice Ao162 t498.length co162)) (fun _ hk => ⟨hk.1.1.1.1.1.1.2, ⟨hk.1.1.1.1.1.2, ⟨hk.1.1.1.1.2, ⟨hk.1.1.1.2, ⟨hk.1.1.2, hk.1.2⟩⟩⟩⟩⟩)⟩, ⟨by (with_reducible repeat refine kl ?_); exact Kd.R_mono (Kd.R_far (p := ⟨gb502, 2, none⟩) (Kd.R_far (p := ⟨gb502, 1, none⟩) (Kd.R_far (p := ⟨gb502, 0, none⟩) (Kd.R_types HO463.out BK502.out (by decide)) (fun _ hk => hk.2) (.int .i64 t496)) (fun _ hk => hk.2) (.int .i64 t497)) (fun _ hk => hk.2) (.slice Ao162 t498.length co162)) (fun _ hk => ⟨hk.1.1.2, hk.1.2⟩)⟩, ⟨by (with_reducible repeat refine kl ?_); exact Kd.R_mono (Kd.R_far (p := ⟨gb502, 2, none⟩) (Kd.R_far (p := ⟨gb502, 1, none⟩) (Kd.R_far (p := ⟨gb502, 0, none⟩) (Kd.R_types HO470.out BK502.out (by decide)) (fun _ hk => hk.2) (.int .i64 t496)) (fun _ hk => hk.2) (.int .i64 t497)) (fun _ hk => hk.2) (.slice Ao162 t498.length co162)) (fun _ hk => ⟨hk.1.1.1.1.1.1.2, ⟨hk.1.1.1.1.1.2, ⟨hk.1.1.1.1.2, ⟨hk.1.1.1.2, ⟨hk.1.1.2, hk.1.2⟩⟩⟩⟩⟩)⟩, ⟨by (with_reducible repeat refine kl ?_); exact Kd.R_mono (Kd.R_far (p := ⟨gb502, 2, none⟩) (Kd.R_far (p := ⟨gb502, 1, none⟩) (Kd.R_far (p := ⟨gb502, 0, none⟩) (Kd.R_types HO476.out BK502.out (by decide)) (fun _ hk => hk.2) (.int .i64 t496)) (fun _ hk => hk.2) (.int .i64 t497)) (fun _ hk => hk.2) (.slice Ao162 t498.length co162)) (fun _ hk => ⟨hk.1.1.2, hk.1.2⟩)⟩, ⟨by (with_reducible repeat refine kl ?_); exact Kd.R_mono (Kd.R_far (p := ⟨gb502, 2, none⟩) (Kd.R_far (p := ⟨gb502, 1, none⟩) (Kd.R_far (p := ⟨gb502, 0, none⟩) (Kd.R_types HO485.out BK502.out (by decide)) (fun _ hk => hk.2) (.int .i64 t496)) (fun _ hk => hk.2) (.int .i64 t497)) (fun _ hk => hk.2) (.slice Ao162 t498.length co162)) (fun _ hk => ⟨hk.1.1.1.1.1.1.2, ⟨hk.1.1.1.1.1.2, ⟨hk.1.1.1.1.2, ⟨hk.1.1.1.2, ⟨hk.1.1.2, hk.1.2⟩⟩⟩⟩⟩)⟩, ⟨by (with_reducible repeat refine kl ?_); exact Kd.R_mono (Kd.R_far (p := ⟨gb502, 2, none⟩) (Kd.R_far (p := ⟨gb502, 1, none⟩) (Kd.R_far (p := ⟨gb502, 0, none⟩) (Kd.R_types HO493.out BK502.out (by decide)) (fun _ hk => hk.2) (.int .i64 t496)) (fun _ hk => hk.2) (.int .i64 t497)) (fun _ hk => hk.2) (.slice Ao162 t498.length co162)) (fun _ hk => ⟨hk.1.1.1.1.1.1.2, ⟨hk.1.1.1.1.1.2, ⟨hk.1.1.1.1.2, ⟨hk.1.1.1.2, ⟨hk.1.1.2, hk.1.2⟩⟩⟩⟩⟩)⟩, ⟨by (with_reducible repeat refine kl ?_); exact Kd.R_mono (Kd.R_far (p := ⟨gb502, 2, none⟩) (Kd.R_far (p := ⟨gb502, 1, none⟩) (Kd.R_far (p := ⟨gb502, 0, none⟩) (Kd.R_types HO500.out BK502.out (by decide)) (fun _ hk => hk.2) (.int .i64 t496)) (fun _ hk => hk.2) (.int .i64 t497)) (fun _ hk => hk.2) (.slice Ao162 t498.length co162)) (fun _ hk => ⟨hk.1.1.1.1.1.1.2, ⟨hk.1.1.1.1.1.2, ⟨hk.1.1.1.1.2, ⟨hk.1.1.1.2, ⟨hk.1.1.2, hk.1.2⟩⟩⟩⟩⟩)⟩, ⟨by (with_reducible repeat refine bl ?_); refine blk_far ?_ NB434_502.out _; (with_reducible repeat refine bl ?_); refine blk_far ?_ NB434_502.out _; (with_reducible repeat refine bl ?_); refine blk_far ?_ NB434_502.out _; (with_reducible repeat refine bl ?_); exact BK434.out⟩, ⟨by (with_reducible repeat refine bl ?_); refine blk_far ?_ NB446_502.out _; (with_reducible repeat refine bl ?_); refine blk_far ?_ NB446_502.out _; (with_reducible repeat refine bl ?_); refine blk_far ?_ NB446_502.out _; (with_reducible repeat refine bl ?_); exact BK446.out⟩, ⟨by (with_reducible repeat refine bl ?_); refine blk_far ?_ NB447_502.out _; (with_reducible repeat refine bl ?_); refine blk_far ?_ NB447_502.out _; (with_reducible repeat refine bl ?_); refine blk_far ?_ NB447_502.out _; (with_reducible repeat refine bl ?_); exact BK447.out⟩, ⟨by (with_reducible repeat refine bl ?_); refine blk_far ?_ NB452_502.out _; (with_reducible repeat refine bl ?_); refine blk_far ?_ NB452_502.out _; (with_reducible repeat refine bl ?_); refine blk_far ?_ NB452_502.out _; (with_reducible repeat refine bl ?_); exact BK452.out⟩, ⟨by (with_reducible repeat refine bl ?_); refine blk_far ?_ NB459_502.out _; (with_reducible repeat refine bl ?_); refine blk_far ?_ NB459_502.out _; (with_reducible repeat refine bl ?_); refine blk_far ?_ NB459_502.out _; (with_reducible repeat refine bl ?_); exact BK459.out⟩, ⟨by (with_reducible repeat refine bl ?_); refine blk_far ?_ NB465_502.out _; (with_reducible repeat refine bl ?_); refine blk_far ?_ NB465_502.out _; (with_reducible repeat refine bl ?_); refine blk_far ?_ NB465_502.out _; (with_reducible repeat refine bl ?_); exact BK465.out⟩, ⟨by (with_reducible repeat refine bl ?_); refine blk_far ?_ NB472_502.out _; (with_reducible repeat refine bl ?_); refine blk_far ?_ NB472_502.out _; (with_reducible repeat refine bl ?_); refine blk_far ?_ NB472_502.out _; (with_reducible repeat refine bl ?_); exact BK472.out⟩, ⟨by (with_reducible repeat refine bl ?_); refine blk_far ?_ NB478_502.out _; (with_reducible repeat refine bl ?_); refine blk_far ?_ NB478_502.out _; (with_reducible repeat refine bl ?_); refine blk_far ?_ NB478_502.out _; (with_reducible repeat refine bl ?_); exact BK478.out⟩, ⟨by (with_reducible repeat refine bl ?_); refine blk_far ?_ NB487_502.out _; (with_reducible repeat refine bl ?_); refine blk_far ?_ NB487_502.out _; (with_reducible repeat refine bl ?_); refine blk_far ?_ NB487_502.out _; (with_reducible repeat refine bl ?_); exact BK487.out⟩, ⟨by (with_reducible repeat refine bl ?_); refine blk_far ?_ NB495_502.out _; (with_reducible repeat refine bl ?_); refine blk_far ?_ NB495_502.out _; (with_reducible repeat refine bl ?_); refine blk_far ?_ NB495_502.out _; (with_reducible repeat refine bl ?_); exact BK495.out⟩, ⟨by (with_reducible repeat refine bl ?_); refine blk_put (cs := #[.int .i64 t496, .int .i64 t497, .slice none 0 0]) ?_ 2 _ rfl; (with_reducible repeat refine bl ?_); refine blk_put (cs := #[.int .i64 t496, .int .i64 0, .slice none 0 0]) ?_ 1 _ rfl; (with_reducible repeat refine bl ?_); refine blk_put (cs := #[.int .i64 0, .int .i64 0, .slice none 0 0]) ?_ 0 _ rfl; (with_reducible repeat refine bl ?_); exact BK502.out⟩, ⟨bq HB.out⟩⟩
          case rest =>
           clear HC95
           try clear c1
           try clear c2
           try clear p2
           try clear c3
           try clear c4
           try clear c5
           try clear c6
           try clear c7
           try clear c8
           try clear c9
           try clear c9b0
           try clear c9b1
           try clear c10
           try clear c11
           try clear c12
           try clear c12b0
           try clear c12b1
           try clear c13
           try clear c14
           try clear c15
           try clear c16
           try clear c17
           try clear c18
           try clear c19
           try clear c20
           try clear c21
           try clear c22
           try clear c25
           try clear c37
           try clear c41
           try clear c42
           try clear c43
           try clear c44
           try clear c47
           try clear c48
           try clear c52
           try clear c53
           try clear c54
           try clear c55
           try clear c56
           try clear c62
           try clear c63
           try clear c64
           try clear c65
           try clear c66
           try clear c67
           try clear c73
           try clear c74
           try clear c75
           try clear c76
           try clear c77
           try clear c78
           try clear c79
           try clear c88
           try clear c88b0
           try clear c88b1
           try clear c90
           try clear c90b0
           try clear c90b1
           try clear c92
           try clear c96
           try clear c97
           try clear c98
           try clear c99
           try clear c100
           try clear c101
           try clear c102
           try clear c106
           try clear c107
           try clear c108
           try clear c109
           try clear c110
           try clear c111
           try clear c112
           try clear c113
           try clear c116
           try clear c117
           try clear c118
           try clear c119
           try clear c120
           try clear c121
           try clear c124
           try clear c125
           try clear c126
           try clear c127
           try clear c128
           try clear c130
           try clear c131
           try clear c132
           try clear c133
           try clear c137
           try clear c138
           try clear c139
           try clear c140
           try clear c141
           try clear c142
           try clear c143
           try clear c144
           try clear c145
           try clear c151
           try clear c152
           try clear c153
           try clear c154
           try clear c155
           try clear c156
           try clear c157
           try clear c158
           try clear c159
           try clear c160
           try clear c163
           try clear c163b0
           try clear c163b1
           try clear hcz103_0
           try clear hcz103_1
           try clear hcz103_2
           try clear hcz114_0
           try clear hcz114_1
           try clear hcz114_2
           try clear hcz122_0
           try clear hcz122_1
           try clear hcz129_0
           try clear hcz129_1
           try clear hcz129_2
           try clear hcz134_0
           try clear hcz134_1
           try clear hcz134_2
           try clear hcz146_0
           try clear hcz146_1
           try clear hcz146_2
           try clear hcz148_0
           try clear hcz148_1
           try clear hcz148_2
           try clear hcz161_0
           try clear hcz161_1
           try clear hcz161_2
           try clear hcz17_0
           try clear hcz17_1
           try clear hcz17_2
           try clear hcz17_3
           try clear hcz23_0
           try clear hcz23_1
           try clear hcz23_2
           try clear hcz26_0
           try clear hcz26_1
           try clear hcz26_2
           try clear hcz38_0
           try clear hcz38_1
           try clear hcz38_2
           try clear hcz45_0
           try clear hcz45_1
           try clear hcz45_2
           try clear hcz49_0
           try clear hcz49_1
           try clear hcz57_0
           try clear hcz57_1
           try clear hcz59_0
           try clear hcz59_1
           try clear hcz59_2
           try clear hcz68_0
           try clear hcz68_1
           try clear hcz68_2
           try clear hcz70_0
           try clear hcz70_1
           try clear hcz80_0
           try clear hcz80_1
           try clear hcz82_0
           try clear hcz82_1
           try clear hcz82_2
           try clear hcz83_0
           try clear hcz83_1
           try clear hcz85_0
           try clear hcz85_1
           try clear hcz85_2
           try clear hcz86_0
           try clear hcz86_1
           try clear hfz103_0
           try clear hfz103_1
           try clear hfz103_2
           try clear hfz114_0
           try clear hfz114_1
           try clear hfz114_2
           try clear hfz122_0
           try clear hfz122_1
           try clear hfz129_0
           try clear hfz129_1
           try clear hfz129_2
           try clear hfz134_0
           try clear hfz134_1
           try clear hfz134_2
           try clear hfz146_0
           try clear hfz146_1
           try clear hfz146_2
           try clear hfz148_0
           try clear hfz148_1
           try clear hfz148_2
           try clear hfz161_0
           try clear hfz161_1
           try clear hfz161_2
           try clear hfz17_0
           try clear hfz17_1
           try clear hfz17_2
           try clear hfz17_3
           try clear hfz23_0
           try clear hfz23_1
           try clear hfz23_2
           try clear hfz26_0
           try clear hfz26_1
           try clear hfz26_2
           try clear hfz38_0
           try clear hfz38_1
           try clear hfz38_2
           try clear hfz45_0
           try clear hfz45_1
           try clear hfz45_2
           try clear hfz49_0
           try clear hfz49_1
           try clear hfz57_0
           try clear hfz57_1
           try clear hfz59_0
           try clear hfz59_1
           try clear hfz59_2
           try clear hfz68_0
           try clear hfz68_1
           try clear hfz68_2
           try clear hfz70_0
           try clear hfz70_1
           try clear hfz80_0
           try clear hfz80_1
           try clear hfz82_0
           try clear hfz82_1
           try clear hfz82_2
           try clear hfz83_0
           try clear hfz83_1
           try clear hfz85_0
           try clear hfz85_1
           try clear hfz85_2
           try clear hfz86_0
           try clear hfz86_1
           obtain ⟨kq, x113_94, rfl, HA, HJ94, HO_447002, HO_448002, HO_453001, HO_460002, HO_466001, HO_473002, HO_479001, HO_488002, HO_496002, HO_503002, BK434, BK446, BK447, BK452, BK459, BK465, BK472, BK478, BK487, BK495, BK502, HB⟩ := hcut
           cases kq with
           | zero => exact absurd HA.out (by simp [steeplelaw03_PackRises.j0])
           | succ kj94 =>
            have H := HA.out
            clear HA
            simp only [steeplelaw03_PackRises.j0] at H
            by_cases c164 : x113_94 = true
            ·subst c164
             have H1 : ((pack_Rise.f kj94 t489 t490 t491).bind fun bt503 => ((pack_Add.f kj94 t453 t454 t455 t496 t497 t498).bind fun bt510 => (if bt503.2.2.2 = 0 then (if bt510.2.2.2 = 0 then ((pack_Vec_Elems.f kj94 bt503.1 bt503.2.1 bt503.2.2.1).bind fun t517 => ((pack_Vec_Elems.f kj94 bt510.1 bt510.2.1 bt510.2.2.1).bind fun t520 => ((steeplelaw01_Ref.f kj94 t520).bind fun t523 => ((steeplelaw01_Same.f kj94 t517 t523).bind fun t526 => (if t526 = true then (steeplelaw03_PackRises.j1 kj94 t471 a0_0 t449 t466 t467 t468) else (none)))))) else (none)) else (none)))) = some r := by rw [if_pos rfl] at H; exact H
             clear H
             have H := H1
             clear H1
             replace H := Option.bind_eq_some_iff.mp H
             obtain ⟨⟨t503, t504, t505, t508⟩, A1650, H⟩ := H
             replace H : ((pack_Add.f kj94 t453 t454 t455 t496 t497 t498).bind fun bt510 => (if t508 = 0 then (if bt510.2.2.2 = 0 then ((pack_Vec_Elems.f kj94 t503 t504 t505).bind fun t517 => ((pack_Vec_Elems.f kj94 bt510.1 bt510.2.1 bt510.2.2.1).bind fun t520 => ((steeplelaw01_Ref.f kj94 t520).bind fun t523 => ((steeplelaw01_Same.f kj94 t517 t523).bind fun t526 => (if t526 = true then (steeplelaw03_PackRises.j1 kj94 t471 a0_0 t449 t466 t467 t468) else (none)))))) else (none)) else (none))) = some r := H
             have A165 := Aside0.mk A1650
             clear A1650
             replace H := Option.bind_eq_some_iff.mp H
             obtain ⟨⟨t510, t511, t512, t515⟩, A1660, H⟩ := H
             replace H : (if t508 = 0 then (if t515 = 0 then ((pack_Vec_Elems.f kj94 t503 t504 t505).bind fun t517 => ((pack_Vec_Elems.f kj94 t510 t511 t512).bind fun t520 => ((steeplelaw01_Ref.f kj94 t520).bind fun t523 => ((steeplelaw01_Same.f kj94 t517 t523).bind fun t526 => (if t526 = true then (steeplelaw03_PackRises.j1 kj94 t471 a0_0 t449 t466 t467 t468) else (none)))))) else (none)) else (none)) = some r := H
             have A166 := Aside0.mk A1660
             clear A1660
             by_cases c167 : t508 = 0
             ·rw [if_pos c167] at H
              have c167b0 : (t508 == 0) = true := beq_iff_eq.mpr c167
              have c167b1 : (t508 != 0) = false := bne_eq_false_iff_eq.mpr c167
              clear c167
              by_cases c168 : t515 = 0
              ·rw [if_pos c168] at H
               have c168b0 : (t515 == 0) = true := beq_iff_eq.mpr c168
               have c168b1 : (t515 != 0) = false := bne_eq_false_iff_eq.mpr c168
               clear c168
               replace H := Option.bind_eq_some_iff.mp H
               obtain ⟨t517, A1690, H⟩ := H
               replace H : ((pack_Vec_Elems.f kj94 t510 t511 t512).bind fun t520 => ((steeplelaw01_Ref.f kj94 t520).bind fun t523 => ((steeplelaw01_Same.f kj94 t517 t523).bind fun t526 => (if t526 = true then (steeplelaw03_PackRises.j1 kj94 t471 a0_0 t449 t466 t467 t468) else (none))))) = some r := H
               have A169 := Aside0.mk A1690
               clear A1690
               replace H := Option.bind_eq_some_iff.mp H
               obtain ⟨t520, A1700, H⟩ := H
               replace H : ((steeplelaw01_Ref.f kj94 t520).bind fun t523 => ((steeplelaw01_Same.f kj94 t517 t523).bind fun t526 => (if t526 = true then (steeplelaw03_PackRises.j1 kj94 t471 a0_0 t449 t466 t467 t468) else (none)))) = some r := H
               have A170 := Aside0.mk A1700
               clear A1700
               replace H := Option.bind_eq_some_iff.mp H
               obtain ⟨t523, A1710, H⟩ := H
               replace H : ((steeplelaw01_Same.f kj94 t517 t523).bind fun t526 => (if t526 = true then (steeplelaw03_PackRises.j1 kj94 t471 a0_0 t449 t466 t467 t468) else (none))) = some r := H
               have A171 := Aside0.mk A1710
               clear A1710
               replace H := Option.bind_eq_some_iff.mp H
               obtain ⟨t526, A1720, H⟩ := H
               replace H : (if t526 = true then (steeplelaw03_PackRises.j1 kj94 t471 a0_0 t449 t466 t467 t468) else (none)) = some r := H
               have A172 := Aside0.mk A1720
               clear A1720
               by_cases c173 : t526 = true
               ·subst c173
                have H1 : (steeplelaw03_PackRises.j1 kj94 t471 a0_0 t449 t466 t467 t468) = some r := by rw [if_pos rfl] at H; exact H
                clear H
                have H := H1
                clear H1
                have H' := Aside0.mk H
                clear H
                have hnb178 := NB495_459.out
                have hnc178 := NB459_495.out
                have hnb183 := NB495_502.out
                have hnc183 := NB502_495.out
                obtain ⟨hcz184_0, hcz184_1, hcz184_2⟩ := zc3 BK495
                obtain ⟨hfz184_0, hfz184_1, hfz184_2⟩ := zf3 BK495
                try go_wp2_with (first | ((with_reducible refine gate_callee (f := 17) rfl ?_); refine goesL_ (some 116) rfl rfl Try.func17 (by kernel_rfl) rfl #[.agg #[.int .i64 t489, .int .i64 t490, .slice Ao147 t491.length co147]] rfl (by (try simp only [List.map_toArray, List.map_cons, List.map_nil]); first | done | rfl | (simp only [List.length_drop, List.length_take]; rfl)) ?_; (with_reducible refine (pack_Rise.calls kj94 t489 t490 _ _ t491 t503 t504 t505 t508 _ ?side1 ?side2 A165.out).mono ?_); (case side1 => repeat (first | exact (Kd.R_reads' HO_496002.out).2.2 | (with_reducible refine Kd.C_alloc ?_ _) | (with_reducible refine Kd.C_drewN ?_ _) | (with_reducible refine Kd.C_drew ?_))); (case side2 => exact (Kd.R_reads' HO_496002.out).2.1); rintro e w185 ⟨v506, rfl, ho0, hb⟩; refine ⟨_, rfl, ?_⟩; have HO507 := Aside0.mk (Kd.R_lower (Kd.R_new' (Kd.R_new' (Kd.R_new' (Kd.R_new' (Kd.R_new' (Kd.R_new' (Kd.R_new' ho0 (Kd.R_lt (kr HO_447002.out))) (Kd.R_lt (kr HO_448002.out))) (Kd.R_lt (kr HO_460002.out))) (Kd.R_lt (kr HO_473002.out))) (Kd.R_lt (kr HO_488002.out))) (Kd.R_lt (kr HO_496002.out))) (Kd.R_lt (kr HO_503002.out))) (below_size (bq HB.out))); replace HO_447002 := Aside0.mk (Kd.R_elder' (kr HO_447002.out) (Kd.R_base ho0) hb); replace HO_448002 := Aside0.mk (Kd.R_elder' (kr HO_448002.out) (Kd.R_base ho0) hb); replace HO_453001 := kb HO_453001 hb; replace HO_460002 := Aside0.mk (Kd.R_elder' (kr HO_460002.out) (Kd.R_base ho0) hb); replace HO_466001 := kb HO_466001 hb; replace HO_473002 := Aside0.mk (Kd.R_elder' (kr HO_473002.out) (Kd.R_base ho0) hb); replace HO_479001 := kb HO_479001 hb; replace HO_488002 := Aside0.mk (Kd.R_elder' (kr HO_488002.out) (Kd.R_base ho0) hb); replace HO_496002 := Aside0.mk (Kd.R_elder' (kr HO_496002.out) (Kd.R_base ho0) hb); replace HO_503002 := Aside0.mk (Kd.R_elder' (kr HO_503002.out) (Kd.R_base ho0) hb); replace BK434 := bb BK434 hb; replace BK446 := bb BK446 hb; replace BK447 := bb BK447 hb; replace BK452 := bb BK452 hb; replace BK459 := bb BK459 hb; replace BK465 := bb BK465 hb; replace BK472 := bb BK472 hb; replace BK478 := bb BK478 hb; replace BK487 := bb BK487 hb; replace BK495 := bb BK495 hb; replace BK502 := bb BK502 hb; replace HB := bh HB hb; (try clear hb); (try clear hb2); (try clear hk); (try clear hi); (try clear ho0)) | ((with_reducible refine gate_dst (N := 21) rfl ?_); refine box_event ?hg (N := 21) ?hd (cs := #[.int .i64 0, .int .i64 0, .slice none 0 0]) (t := 31) ?hr ?_; (case hd => rfl); (case hg => rfl); (case hr => first | (go_simp; done) | (go_simp; rfl)); intro gb509 hg w186 hbox hb; have BK509 := Aside0.mk hbox; have GW509 := ge hg HB; have GE509 := ge hg HB; have NB434_509 := nl hg BK434; have NB509_434 := ng hg BK434; have NB446_509 := nl hg BK446; have NB509_446 := ng hg BK446; have NB447_509 := nl hg BK447; have NB509_447 := ng hg BK447; have NB452_509 := nl hg BK452; have NB509_452 := ng hg BK452; have NB459_509 := nl hg BK459; have NB509_459 := ng hg BK459; have NB465_509 := nl hg BK465; have NB509_465 := ng hg BK465; have NB472_509 := nl hg BK472; have NB509_472 := ng hg BK472; have NB478_509 := nl hg BK478; have NB509_478 := ng hg BK478; have NB487_509 := nl hg BK487; have NB509_487 := ng hg BK487; have NB495_509 := nl hg BK495; have NB509_495 := ng hg BK495; have NB502_509 := nl hg BK502; have NB509_502 := ng hg BK502; replace HO_447002 := kb HO_447002 hb; replace HO_448002 := kb HO_448002 hb; replace HO_453001 := kb HO_453001 hb; replace HO_460002 := kb HO_460002 hb; replace HO_466001 := kb HO_466001 hb; replace HO_473002 := kb HO_473002 hb; replace HO_479001 := kb HO_479001 hb; replace HO_488002 := kb HO_488002 hb; replace HO_496002 := kb HO_496002 hb; replace HO_503002 := kb HO_503002 hb; replace HO507 := kb HO507 hb; replace BK434 := bb BK434 hb; replace BK446 := bb BK446 hb; replace BK447 := bb BK447 hb; replace BK452 := bb BK452 hb; replace BK459 := bb BK459 hb; replace BK465 := bb BK465 hb; replace BK472 := bb BK472 hb; replace BK478 := bb BK478 hb; replace BK487 := bb BK487 hb; replace BK495 := bb BK495 hb; replace BK502 := bb BK502 hb; replace HB := bh HB hb; clear hb hbox hg; have hnb191 := NB509_459.out; have hnc191 := NB459_509.out; have hnb196 := NB509_495.out; have hnc196 := NB495_509.out; have hnb197 := NB509_502.out; have hnc197 := NB502_509.out; obtain ⟨hcz198_0, hcz198_1, hcz198_2⟩ := zc3 BK509; obtain ⟨hfz198_0, hfz198_1, hfz198_2⟩ := zf3 BK509; obtain ⟨Ao199, co199, eo199⟩ := Kd.R_slice HO507.out; subst eo199; have hnb208 := NB459_502.out; have hnc208 := NB502_459.out; obtain ⟨hcz209_0, hcz209_1, hcz209_2⟩ := zc3 BK459; obtain ⟨hfz209_0, hfz209_1, hfz209_2⟩ := zf3 BK459; obtain ⟨hcz218_0, hcz218_1, hcz218_2⟩ := zc3 BK502; obtain ⟨hfz218_0, hfz218_1, hfz218_2⟩ := zf3 BK502) | ((with_reducible refine gate_callee (f := 21) rfl ?_); refine goesL_ (some 122) rfl rfl Try.func21 (by kernel_rfl) rfl #[.agg #[.int .i64 t453, .int .i64 t454, .slice Ao46 t455.length co46], .agg #[.int .i64 t496, .int .i64 t497, .slice Ao162 t498.length co162]] rfl (by (try simp only [List.map_toArray, List.map_cons, List.map_nil]); first | done | rfl | (simp only [List.length_drop, List.length_take]; rfl)) ?_; (with_reducible refine (pack_Add.calls kj94 t453 t454 _ _ t455 t496 t497 _ _ t498 t510 t511 t512 t515 _ ?side1 ?side2 ?side3 ?side4 A166.out).mono ?_); (case side1 => refine (Kd.R_reads' (e := 23) (base := w.heap.size) (ok := fun k_ => ((some k_ ≠ (.slice Ao24 t437.length co24 : Value).ownBlock ∧ (some k_ ≠ (.slice Ao27 t442.length co27 : Value).ownBlock ∧ (some k_ ≠ (.slice Ao69 t468.length co69 : Value).ownBlock ∧ (some k_ ≠ (.slice Ao115 t483.length co115 : Value).ownBlock ∧ (some k_ ≠ (.slice Ao147 t491.length co147 : Value).ownBlock ∧ some k_ ≠ (.slice Ao162 t498.length co162 : Value).ownBlock))))) ∧ some k_ ≠ (.slice Ao199 t505.length co199 : Value).ownBlock)) (n := t455.length) (c := co46) ?_).2.2; exact (by (with_reducible repeat refine kl ?_); exact (kf3 HO_460002 BK509 (by decide)))); (case side2 => exact (Kd.R_reads' HO_460002.out).2.1); (case side3 => refine (Kd.R_reads' (e := 23) (base := w.heap.size) (ok := fun k_ => ((some k_ ≠ (.slice Ao24 t437.length co24 : Value).ownBlock ∧ (some k_ ≠ (.slice Ao27 t442.length co27 : Value).ownBlock ∧ (some k_ ≠ (.slice Ao46 t455.length co46 : Value).ownBlock ∧ (some k_ ≠ (.slice Ao69 t468.length co69 : Value).ownBlock ∧ (some k_ ≠ (.slice Ao115 t483.length co115 : Value).ownBlock ∧ some k_ ≠ (.slice Ao147 t491.length co147 : Value).ownBlock))))) ∧ some k_ ≠ (.slice Ao199 t505.length co199 : Value).ownBlock)) (n := t498.length) (c := co162) ?_).2.2; exact (by (with_reducible repeat refine kl ?_); exact (kf3 HO_503002 BK509 (by decide)))); (case side4 => exact (Kd.R_reads' HO_503002.out).2.1); rintro e w219 ⟨v513, rfl, ho0, hb⟩; refine ⟨_, rfl, ?_⟩; have HO514 := Aside0.mk (Kd.R_lower (Kd.R_new' (Kd.R_new' (Kd.R_new' (Kd.R_new' (Kd.R_new' (Kd.R_new' (Kd.R_new' (Kd.R_new' ho0 (Kd.R_lt (by (with_reducible repeat refine kl ?_); exact (kf3 HO_447002 BK509 (by decide))))) (Kd.R_lt (by (with_reducible repeat refine kl ?_); exact (kf3 HO_448002 BK509 (by decide))))) (Kd.R_lt (by (with_reducible repeat refine kl ?_); exact (kf3 HO_460002 BK509 (by decide))))) (Kd.R_lt (by (with_reducible repeat refine kl ?_); exact (kf3 HO_473002 BK509 (by decide))))) (Kd.R_lt (by (with_reducible repeat refine kl ?_); exact (kf3 HO_488002 BK509 (by decide))))) (Kd.R_lt (by (with_reducible repeat refine kl ?_); exact (kf3 HO_496002 BK509 (by decide))))) (Kd.R_lt (by (with_reducible repeat refine kl ?_); exact (kf3 HO_503002 BK509 (by decide))))) (Kd.R_lt (by (with_reducible repeat refine kl ?_); exact (kf3 HO507 BK509 (by decide))))) (below_size (bq HB.out))); replace HO_447002 := Aside0.mk (Kd.R_elder' (by (with_reducible repeat refine kl ?_); exact (kf3 HO_447002 BK509 (by decide))) (Kd.R_base ho0) hb); replace HO_448002 := Aside0.mk (Kd.R_elder' (by (with_reducible repeat refine kl ?_); exact (kf3 HO_448002 BK509 (by decide))) (Kd.R_base ho0) hb); replace HO_453001 := Aside0.mk (Kd.R_below (by (with_reducible repeat refine kl ?_); exact (kf3 HO_453001 BK509 (by decide))) hb); replace HO_460002 := Aside0.mk (Kd.R_elder' (by (with_reducible repeat refine kl ?_); exact (kf3 HO_460002 BK509 (by decide))) (Kd.R_base ho0) hb); replace HO_466001 := Aside0.mk (Kd.R_below (by (with_reducible repeat refine kl ?_); exact (kf3 HO_466001 BK509 (by decide))) hb); replace HO_473002 := Aside0.mk (Kd.R_elder' (by (with_reducible repeat refine kl ?_); exact (kf3 HO_473002 BK509 (by decide))) (Kd.R_base ho0) hb); replace HO_479001 := Aside0.mk (Kd.R_below (by (with_reducible repeat refine kl ?_); exact (kf3 HO_479001 BK509 (by decide))) hb); replace HO_488002 := Aside0.mk (Kd.R_elder' (by (with_reducible repeat refine kl ?_); exact (kf3 HO_488002 BK509 (by decide))) (Kd.R_base ho0) hb); replace HO_496002 := Aside0.mk (Kd.R_elder' (by (with_reducible repeat refine kl ?_); exact (kf3 HO_496002 BK509 (by decide))) (Kd.R_base ho0) hb); replace HO_503002 := Aside0.mk (Kd.R_elder' (by (with_reducible repeat refine kl ?_); exact (kf3 HO_503002 BK509 (by decide))) (Kd.R_base ho0) hb); replace HO507 := Aside0.mk (Kd.R_elder' (by (with_reducible repeat refine kl ?_); exact (kf3 HO507 BK509 (by decide))) (Kd.R_base ho0) hb); replace BK434 := Aside0.mk (blk_below (g := gb434) (o := .cells #[.int .i64 a0_0, .int .i64 a0_1, .slice A0_2 l0_2.length c0_2, .slice A0_3 l0_3.length c0_3] 49 (0, 0)) (by (with_reducible repeat refine bl ?_); refine blk_far ?_ NB434_509.out _; (with_reducible repeat refine bl ?_); refine blk_far ?_ NB434_509.out _; (with_reducible repeat refine bl ?_); refine blk_far ?_ NB434_509.out _; (with_reducible repeat refine bl ?_); exact BK434.out) hb); replace BK446 := Aside0.mk (blk_below (g := gb446) (o := .cells #[.int .i64 t435, .int .i64 t436, .slice Ao24 t437.length co24] 31 (0, 0)) (by (with_reducible repeat refine bl ?_); refine blk_far ?_ NB446_509.out _; (with_reducible repeat refine bl ?_); refine blk_far ?_ NB446_509.out _; (with_reducible repeat refine bl ?_); refine blk_far ?_ NB446_509.out _; (with_reducible repeat refine bl ?_); exact BK446.out) hb); replace BK447 := Aside0.mk (blk_below (g := gb447) (o := .cells #[.int .i64 t440, .int .i64 t441, .slice Ao27 t442.length co27] 31 (0, 0)) (by (with_reducible repeat refine bl ?_); refine blk_far ?_ NB447_509.out _; (with_reducible repeat refine bl ?_); refine blk_far ?_ NB447_509.out _; (with_reducible repeat refine bl ?_); refine blk_far ?_ NB447_509.out _; (with_reducible repeat refine bl ?_); exact BK447.out) hb); replace BK452 := Aside0.mk (blk_below (g := gb452) (o := .cells #[.int .i64 a0_0, .slice Ao34 t449.length co34] 37 (0, 0)) (by (with_reducible repeat refine bl ?_); refine blk_far ?_ NB452_509.out _; (with_reducible repeat refine bl ?_); refine blk_far ?_ NB452_509.out _; (with_reducible repeat refine bl ?_); refine blk_far ?_ NB452_509.out _; (with_reducible repeat refine bl ?_); exact BK452.out) hb); replace BK459 := Aside0.mk (blk_below (g := gb459) (o := .cells #[.int .i64 t453, .int .i64 t454, .slice Ao46 t455.length co46] 31 (0, 0)) (by (with_reducible repeat refine bl ?_); refine blk_far ?_ NB459_509.out _; (with_reducible repeat refine bl ?_); refine blk_far ?_ NB459_509.out _; (with_reducible repeat refine bl ?_); refine blk_far ?_ NB459_509.out _; (with_reducible repeat refine bl ?_); exact BK459.out) hb); replace BK465 := Aside0.mk (blk_below (g := gb465) (o := .cells #[.int .i64 t460, .slice Ao58 t461.length co58] 37 (0, 0)) (by (with_reducible repeat refine bl ?_); refine blk_far ?_ NB465_509.out _; (with_reducible repeat refine bl ?_); refine blk_far ?_ NB465_509.out _; (with_reducible repeat refine bl ?_); refine blk_far ?_ NB465_509.out _; (with_reducible repeat refine bl ?_); exact BK465.out) hb); replace BK472 := Aside0.mk (blk_below (g := gb472) (o := .cells #[.int .i64 t466, .int .i64 t467, .slice Ao69 t468.length co69] 31 (0, 0)) (by (with_reducible repeat refine bl ?_); refine blk_far ?_ NB472_509.out _; (with_reducible repeat refine bl ?_); refine blk_far ?_ NB472_509.out _; (with_reducible repeat refine bl ?_); refine blk_far ?_ NB472_509.out _; (with_reducible repeat refine bl ?_); exact BK472.out) hb); replace BK478 := Aside0.mk (blk_below (g := gb478) (o := .cells #[.int .i64 t473, .slice Ao81 t474.length co81] 37 (0, 0)) (by (with_reducible repeat refine bl ?_); refine blk_far ?_ NB478_509.out _; (with_reducible repeat refine bl ?_); refine blk_far ?_ NB478_509.out _; (with_reducible repeat refine bl ?_); refine blk_far ?_ NB478_509.out _; (with_reducible repeat refine bl ?_); exact BK478.out) hb); replace BK487 := Aside0.mk (blk_below (g := gb487) (o := .cells #[.int .i64 t481, .int .i64 t482, .slice Ao115 t483.length co115] 31 (0, 0)) (by (with_reducible repeat refine bl ?_); refine blk_far ?_ NB487_509.out _; (with_reducible repeat refine bl ?_); refine blk_far ?_ NB487_509.out _; (with_reducible repeat refine bl ?_); refine blk_far ?_ NB487_509.out _; (with_reducible repeat refine bl ?_); exact BK487.out) hb); replace BK495 := Aside0.mk (blk_below (g := gb495) (o := .cells #[.int .i64 t489, .int .i64 t490, .slice Ao147 t491.length co147] 31 (0, 0)) (by (with_reducible repeat refine bl ?_); refine blk_far ?_ NB495_509.out _; (with_reducible repeat refine bl ?_); refine blk_far ?_ NB495_509.out _; (with_reducible repeat refine bl ?_); refine blk_far ?_ NB495_509.out _; (with_reducible repeat refine bl ?_); exact BK495.out) hb); replace BK502 := Aside0.mk (blk_below (g := gb502) (o := .cells #[.int .i64 t496, .int .i64 t497, .slice Ao162 t498.length co162] 31 (0, 0)) (by (with_reducible repeat refine bl ?_); refine blk_far ?_ NB502_509.out _; (with_reducible repeat refine bl ?_); refine blk_far ?_ NB502_509.out _; (with_reducible repeat refine bl ?_); refine blk_far ?_ NB502_509.out _; (with_reducible repeat refine bl ?_); exact BK502.out) hb); replace BK509 := Aside0.mk (blk_below (g := gb509) (o := .cells #[.int .i64 t503, .int .i64 t504, .slice Ao199 t505.length co199] 31 (0, 0)) (by (with_reducible repeat refine bl ?_); refine blk_put (cs := #[.int .i64 t503, .int .i64 t504, .slice none 0 0]) ?_ 2 _ rfl; (with_reducible repeat refine bl ?_); refine blk_put (cs := #[.int .i64 t503, .int .i64 0, .slice none 0 0]) ?_ 1 _ rfl; (with_reducible repeat refine bl ?_); refine blk_put (cs := #[.int .i64 0, .int .i64 0, .slice none 0 0]) ?_ 0 _ rfl; (with_reducible repeat refine bl ?_); exact BK509.out) hb); replace HB := bh HB hb; (try clear hb); (try clear hb2); (try clear hk); (try clear hi); (try clear ho0)) | ((with_reducible refine gate_dst (N := 23) rfl ?_); refine box_event ?hg (N := 23) ?hd (cs := #[.int .i64 0, .int .i64 0, .slice none 0 0]) (t := 31) ?hr ?_; (case hd => rfl); (case hg => rfl); (case hr => first | (go_simp; done) | (go_simp; rfl)); intro gb516 hg w220 hbox hb; have BK516 := Aside0.mk hbox; have GW516 := ge hg HB; have GE516 := ge hg HB; have NB434_516 := nl hg BK434; have NB516_434 := ng hg BK434; have NB446_516 := nl hg BK446; have NB516_446 := ng hg BK446; have NB447_516 := nl hg BK447; have NB516_447 := ng hg BK447; have NB452_516 := nl hg BK452; have NB516_452 := ng hg BK452; have NB459_516 := nl hg BK459; have NB516_459 := ng hg BK459; have NB465_516 := nl hg BK465; have NB516_465 := ng hg BK465; have NB472_516 := nl hg BK472; have NB516_472 := ng hg BK472; have NB478_516 := nl hg BK478; have NB516_478 := ng hg BK478; have NB487_516 := nl hg BK487; have NB516_487 := ng hg BK487; have NB495_516 := nl hg BK495; have NB516_495 := ng hg BK495; have NB502_516 := nl hg BK502; have NB516_502 := ng hg BK502; have NB509_516 := nl hg BK509; have NB516_509 := ng hg BK509; replace HO_447002 := kb HO_447002 hb; replace HO_448002 := kb HO_448002 hb; replace HO_453001 := kb HO_453001 hb; replace HO_460002 := kb HO_460002 hb; replace HO_466001 := kb HO_466001 hb; replace HO_473002 := kb HO_473002 hb; replace HO_479001 := kb HO_479001 hb; replace HO_488002 := kb HO_488002 hb; replace HO_496002 := kb HO_496002 hb; replace HO_503002 := kb HO_503002 hb; replace HO507 := kb HO507 hb; replace HO514 := kb HO514 hb; replace BK434 := bb BK434 hb; replace BK446 := bb BK446 hb; replace BK447 := bb BK447 hb; replace BK452 := bb BK452 hb; replace BK459 := bb BK459 hb; replace BK465 := bb BK465 hb; replace BK472 := bb BK472 hb; replace BK478 := bb BK478 hb; replace BK487 := bb BK487 hb; replace BK495 := bb BK495 hb; replace BK502 := bb BK502 hb; replace BK509 := bb BK509 hb; replace HB := bh HB hb; clear hb hbox hg; have hnb225 := NB516_459.out; have hnc225 := NB459_516.out; have hnb230 := NB516_495.out; have hnc230 := NB495_516.out; have hnb231 := NB516_502.out; have hnc231 := NB502_516.out; have hnb232 := NB516_509.out; have hnc232 := NB509_516.out; obtain ⟨hcz233_0, hcz233_1, hcz233_2⟩ := zc3 BK516; obtain ⟨hfz233_0, hfz233_1, hfz233_2⟩ := zf3 BK516; obtain ⟨Ao234, co234, eo234⟩ := Kd.R_slice HO514.out; subst eo234))
                have n0_ : Aside0 (Kd.R (Kd.int .u64) 23 (((w220.setCell ⟨gb516, 0, none⟩ (.int .i64 t510)).setCell ⟨gb516, 1, none⟩ (.int .i64 t511)).setCell ⟨gb516, 2, none⟩ (.slice Ao234 t512.length co234)) w.heap.size (fun k_ => some k_ ≠ (.slice Ao27 t442.length co27 : Value).ownBlock ∧ some k_ ≠ (.slice Ao46 t455.length co46 : Value).ownBlock ∧ some k_ ≠ (.slice Ao69 t468.length co69 : Value).ownBlock ∧ some k_ ≠ (.slice Ao115 t483.length co115 : Value).ownBlock ∧ some k_ ≠ (.slice Ao147 t491.length co147 : Value).ownBlock ∧ some k_ ≠ (.slice Ao162 t498.length co162 : Value).ownBlock ∧ some k_ ≠ (.slice Ao199 t505.length co199 : Value).ownBlock ∧ some k_ ≠ (.slice Ao234 t512.length co234 : Value).ownBlock) (.slice Ao24 t437.length co24) t437) := ⟨by (with_reducible repeat refine kl ?_); exact Kd.R_mono (Kd.R_far (p := ⟨gb516, 2, none⟩) (Kd.R_far (p := ⟨gb516, 1, none⟩) (Kd.R_far (p := ⟨gb516, 0, none⟩) (Kd.R_types HO_447002.out BK516.out (by decide)) (fun _ hk => hk.2) (.int .i64 t510)) (fun _ hk => hk.2) (.int .i64 t511)) (fun _ hk => hk.2) (.slice Ao234 t512.length co234)) (fun _ hk => ⟨hk.1.1.1.1, ⟨hk.1.1.1.2.1, ⟨hk.1.1.1.2.2.1, ⟨hk.1.1.1.2.2.2.1, ⟨hk.1.1.1.2.2.2.2.1, ⟨hk.1.1.1.2.2.2.2.2, ⟨hk.1.1.2, hk.1.2⟩⟩⟩⟩⟩⟩⟩)⟩
                have n1_ : Aside0 (Kd.R (Kd.int .u64) 23 (((w220.setCell ⟨gb516, 0, none⟩ (.int .i64 t510)).setCell ⟨gb516, 1, none⟩ (.int .i64 t511)).setCell ⟨gb516, 2, none⟩ (.slice Ao234 t512.length co234)) w.heap.size (fun k_ => some k_ ≠ (.slice Ao24 t437.length co24 : Value).ownBlock ∧ some k_ ≠ (.slice Ao46 t455.length co46 : Value).ownBlock ∧ some k_ ≠ (.slice Ao69 t468.length co69 : Value).ownBlock ∧ some k_ ≠ (.slice Ao115 t483.length co115 : Value).ownBlock ∧ some k_ ≠ (.slice Ao147 t491.length co147 : Value).ownBlock ∧ some k_ ≠ (.slice Ao162 t498.length co162 : Value).ownBlock ∧ some k_ ≠ (.slice Ao199 t505.length co199 : Value).ownBlock ∧ some k_ ≠ (.slice Ao234 t512.length co234 : Value).ownBlock) (.slice Ao27 t442.length co27) t442) := ⟨by (with_reducible repeat refine kl ?_); exact Kd.R_mono (Kd.R_far (p := ⟨gb516, 2, none⟩) (Kd.R_far (p := ⟨gb516, 1, none⟩) (Kd.R_far (p := ⟨gb516, 0, none⟩) (Kd.R_types HO_448002.out BK516.out (by decide)) (fun _ hk => hk.2) (.int .i64 t510)) (fun _ hk => hk.2) (.int .i64 t511)) (fun _ hk => hk.2) (.slice Ao234 t512.length co234)) (fun _ hk => ⟨hk.1.1.1.1, ⟨hk.1.1.1.2.1, ⟨hk.1.1.1.2.2.1, ⟨hk.1.1.1.2.2.2.1, ⟨hk.1.1.1.2.2.2.2.1, ⟨hk.1.1.1.2.2.2.2.2, ⟨hk.1.1.2, hk.1.2⟩⟩⟩⟩⟩⟩⟩)⟩
                have n2_ : Aside0 (Kd.R k44 44 (((w220.setCell ⟨gb516, 0, none⟩ (.int .i64 t510)).setCell ⟨gb516, 1, none⟩ (.int .i64 t511)).setCell ⟨gb516, 2, none⟩ (.slice Ao234 t512.length co234)) w.heap.size (fun k_ => some k_ ≠ (.slice Ao58 t461.length co58 : Value).ownBlock ∧ some k_ ≠ (.slice Ao81 t474.length co81 : Value).ownBlock) (.slice Ao34 t449.length co34) t449) := ⟨by (with_reducible repeat refine kl ?_); exact Kd.R_mono (Kd.R_far (p := ⟨gb516, 2, none⟩) (Kd.R_far (p := ⟨gb516, 1, none⟩) (Kd.R_far (p := ⟨gb516, 0, none⟩) (Kd.R_types HO_453001.out BK516.out (by decide)) (fun _ hk => hk.2) (.int .i64 t510)) (fun _ hk => hk.2) (.int .i64 t511)) (fun _ hk => hk.2) (.slice Ao234 t512.length co234)) (fun _ hk => ⟨hk.1.1, hk.1.2⟩)⟩
                have n3_ : Aside0 (Kd.R (Kd.int .u64) 23 (((w220.setCell ⟨gb516, 0, none⟩ (.int .i64 t510)).setCell ⟨gb516, 1, none⟩ (.int .i64 t511)).setCell ⟨gb516, 2, none⟩ (.slice Ao234 t512.length co234)) w.heap.size (fun k_ => some k_ ≠ (.slice Ao24 t437.length co24 : Value).ownBlock ∧ some k_ ≠ (.slice Ao27 t442.length co27 : Value).ownBlock ∧ some k_ ≠ (.slice Ao69 t468.length co69 : Value).ownBlock ∧ some k_ ≠ (.slice Ao115 t483.length co115 : Value).ownBlock ∧ some k_ ≠ (.slice Ao147 t491.length co147 : Value).ownBlock ∧ some k_ ≠ (.slice Ao162 t498.length co162 : Value).ownBlock ∧ some k_ ≠ (.slice Ao199 t505.length co199 : Value).ownBlock ∧ some k_ ≠ (.slice Ao234 t512.length co234 : Value).ownBlock) (.slice Ao46 t455.length co46) t455) := ⟨by (with_reducible repeat refine kl ?_); exact Kd.R_mono (Kd.R_far (p := ⟨gb516, 2, none⟩) (Kd.R_far (p := ⟨gb516, 1, none⟩) (Kd.R_far (p := ⟨gb516, 0, none⟩) (Kd.R_types HO_460002.out BK516.out (by decide)) (fun _ hk => hk.2) (.int .i64 t510)) (fun _ hk => hk.2) (.int .i64 t511)) (fun _ hk => hk.2) (.slice Ao234 t512.length co234)) (fun _ hk => ⟨hk.1.1.1.1, ⟨hk.1.1.1.2.1, ⟨hk.1.1.1.2.2.1, ⟨hk.1.1.1.2.2.2.1, ⟨hk.1.1.1.2.2.2.2.1, ⟨hk.1.1.1.2.2.2.2.2, ⟨hk.1.1.2, hk.1.2⟩⟩⟩⟩⟩⟩⟩)⟩
                have n4_ : Aside0 (Kd.R k44 44 (((w220.setCell ⟨gb516, 0, none⟩ (.int .i64 t510)).setCell ⟨gb516, 1, none⟩ (.int .i64 t511)).setCell ⟨gb516, 2, none⟩ (.slice Ao234 t512.length co234)) w.heap.size (fun k_ => some k_ ≠ (.slice Ao34 t449.length co34 : Value).ownBlock ∧ some k_ ≠ (.slice Ao81 t474.length co81 : Value).ownBlock) (.slice Ao58 t461.length co58) t461) := ⟨by (with_reducible repeat refine kl ?_); exact Kd.R_mono (Kd.R_far (p := ⟨gb516, 2, none⟩) (Kd.R_far (p := ⟨gb516, 1, none⟩) (Kd.R_far (p := ⟨gb516, 0, none⟩) (Kd.R_types HO_466001.out BK516.out (by decide)) (fun _ hk => hk.2) (.int .i64 t510)) (fun _ hk => hk.2) (.int .i64 t511)) (fun _ hk => hk.2) (.slice Ao234 t512.length co234)) (fun _ hk => ⟨hk.1.1, hk.1.2⟩)⟩
                have n5_ : Aside0 (Kd.R (Kd.int .u64) 23 (((w220.setCell ⟨gb516, 0, none⟩ (.int .i64 t510)).setCell ⟨gb516, 1, none⟩ (.int .i64 t511)).setCell ⟨gb516, 2, none⟩ (.slice Ao234 t512.length co234)) w.heap.size (fun k_ => some k_ ≠ (.slice Ao24 t437.length co24 : Value).ownBlock ∧ some k_ ≠ (.slice Ao27 t442.length co27 : Value).ownBlock ∧ some k_ ≠ (.slice Ao46 t455.length co46 : Value).ownBlock ∧ some k_ ≠ (.slice Ao115 t483.length co115 : Value).ownBlock ∧ some k_ ≠ (.slice Ao147 t491.length co147 : Value).ownBlock ∧ some k_ ≠ (.slice Ao162 t498.length co162 : Value).ownBlock ∧ some k_ ≠ (.slice Ao199 t505.length co199 : Value).ownBlock ∧ some k_ ≠ (.slice Ao234 t512.length co234 : Value).ownBlock) (.slice Ao69 t468.length co69) t468) := ⟨by (with_reducible repeat refine kl ?_); exact Kd.R_mono (Kd.R_far (p := ⟨gb516, 2, none⟩) (Kd.R_far (p := ⟨gb516, 1, none⟩) (Kd.R_far (p := ⟨gb516, 0, none⟩) (Kd.R_types HO_473002.out BK516.out (by decide)) (fun _ hk => hk.2) (.int .i64 t510)) (fun _ hk => hk.2) (.int .i64 t511)) (fun _ hk => hk.2) (.slice Ao234 t512.length co234)) (fun _ hk => ⟨hk.1.1.1.1, ⟨hk.1.1.1.2.1, ⟨hk.1.1.1.2.2.1, ⟨hk.1.1.1.2.2.2.1, ⟨hk.1.1.1.2.2.2.2.1, ⟨hk.1.1.1.2.2.2.2.2, ⟨hk.1.1.2, hk.1.2⟩⟩⟩⟩⟩⟩⟩)⟩
                have n6_ : Aside0 (Kd.R k44 44 (((w220.setCell ⟨gb516, 0, none⟩ (.int .i64 t510)).setCell ⟨gb516, 1, none⟩ (.int .i64 t511)).setCell ⟨gb516, 2, none⟩ (.slice Ao234 t512.length co234)) w.heap.size (fun k_ => some k_ ≠ (.slice Ao34 t449.length co34 : Value).ownBlock ∧ some k_ ≠ (.slice Ao58 t461.length co58 : Value).ownBlock) (.slice Ao81 t474.length co81) t474) := ⟨by (with_reducible repeat refine kl ?_); exact Kd.R_mono (Kd.R_far (p := ⟨gb516, 2, none⟩) (Kd.R_far (p := ⟨gb516, 1, none⟩) (Kd.R_far (p := ⟨gb516, 0, none⟩) (Kd.R_types HO_479001.out BK516.out (by decide)) (fun _ hk => hk.2) (.int .i64 t510)) (fun _ hk => hk.2) (.int .i64 t511)) (fun _ hk => hk.2) (.slice Ao234 t512.length co234)) (fun _ hk => ⟨hk.1.1, hk.1.2⟩)⟩
                have n7_ : Aside0 (Kd.R (Kd.int .u64) 23 (((w220.setCell ⟨gb516, 0, none⟩ (.int .i64 t510)).setCell ⟨gb516, 1, none⟩ (.int .i64 t511)).setCell ⟨gb516, 2, none⟩ (.slice Ao234 t512.length co234)) w.heap.size (fun k_ => some k_ ≠ (.slice Ao24 t437.length co24 : Value).ownBlock ∧ some k_ ≠ (.slice Ao27 t442.length co27 : Value).ownBlock ∧ some k_ ≠ (.slice Ao46 t455.length co46 : Value).ownBlock ∧ some k_ ≠ (.slice Ao69 t468.length co69 : Value).ownBlock ∧ some k_ ≠ (.slice Ao147 t491.length co147 : Value).ownBlock ∧ some k_ ≠ (.slice Ao162 t498.length co162 : Value).ownBlock ∧ some k_ ≠ (.slice Ao199 t505.length co199 : Value).ownBlock ∧ some k_ ≠ (.slice Ao234 t512.length co234 : Value).ownBlock) (.slice Ao115 t483.length co115) t483) := ⟨by (with_reducible repeat refine kl ?_); exact Kd.R_mono (Kd.R_far (p := ⟨gb516, 2, none⟩) (Kd.R_far (p := ⟨gb516, 1, none⟩) (Kd.R_far (p := ⟨gb516, 0, none⟩) (Kd.R_types HO_488002.out BK516.out (by decide)) (fun _ hk => hk.2) (.int .i64 t510)) (fun _ hk => hk.2) (.int .i64 t511)) (fun _ hk => hk.2) (.slice Ao234 t512.length co234)) (fun _ hk => ⟨hk.1.1.1.1, ⟨hk.1.1.1.2.1, ⟨hk.1.1.1.2.2.1, ⟨hk.1.1.1.2.2.2.1, ⟨hk.1.1.1.2.2.2.2.1, ⟨hk.1.1.1.2.2.2.2.2, ⟨hk.1.1.2, hk.1.2⟩⟩⟩⟩⟩⟩⟩)⟩
                have n8_ : Aside0 (Kd.R (Kd.int .u64) 23 (((w220.setCell ⟨gb516, 0, none⟩ (.int .i64 t510)).setCell ⟨gb516, 1, none⟩ (.int .i64 t511)).setCell ⟨gb516, 2, none⟩ (.slice Ao234 t512.length co234)) w.heap.size (fun k_ => some k_ ≠ (.slice Ao24 t437.length co24 : Value).ownBlock ∧ some k_ ≠ (.slice Ao27 t442.length co27 : Value).ownBlock ∧ some k_ ≠ (.slice Ao46 t455.length co46 : Value).ownBlock ∧ some k_ ≠ (.slice Ao69 t468.length co69 : Value).ownBlock ∧ some k_ ≠ (.slice Ao115 t483.length co115 : Value).ownBlock ∧ some k_ ≠ (.slice Ao162 t498.length co162 : Value).ownBlock ∧ some k_ ≠ (.slice Ao199 t505.length co199 : Value).ownBlock ∧ some k_ ≠ (.slice Ao234 t512.length co234 : Value).ownBlock) (.slice Ao147 t491.length co147) t491) := ⟨by (with_reducible repeat refine kl ?_); exact Kd.R_mono (Kd.R_far (p := ⟨gb516, 2, none⟩) (Kd.R_far (p := ⟨gb516, 1, none⟩) (Kd.R_far (p := ⟨gb516, 0, none⟩) (Kd.R_types HO_496002.out BK516.out (by decide)) (fun _ hk => hk.2) (.int .i64 t510)) (fun _ hk => hk.2) (.int .i64 t511)) (fun _ hk => hk.2) (.slice Ao234 t512.length co234)) (fun _ hk => ⟨hk.1.1.1.1, ⟨hk.1.1.1.2.1, ⟨hk.1.1.1.2.2.1, ⟨hk.1.1.1.2.2.2.1, ⟨hk.1.1.1.2.2.2.2.1, ⟨hk.1.1.1.2.2.2.2.2, ⟨hk.1.1.2, hk.1.2⟩⟩⟩⟩⟩⟩⟩)⟩
                have n9_ : Aside0 (Kd.R (Kd.int .u64) 23 (((w220.setCell ⟨gb516, 0, none⟩ (.int .i64 t510)).setCell ⟨gb516, 1, none⟩ (.int .i64 t511)).setCell ⟨gb516, 2, none⟩ (.slice Ao234 t512.length co234)) w.heap.size (fun k_ => some k_ ≠ (.slice Ao24 t437.length co24 : Value).ownBlock ∧ some k_ ≠ (.slice Ao27 t442.length co27 : Value).ownBlock ∧ some k_ ≠ (.slice Ao46 t455.length co46 : Value).ownBlock ∧ some k_ ≠ (.slice Ao69 t468.length co69 : Value).ownBlock ∧ some k_ ≠ (.slice Ao115 t483.length co115 : Value).ownBlock ∧ some k_ ≠ (.slice Ao147 t491.length co147 : Value).ownBlock ∧ some k_ ≠ (.slice Ao199 t505.length co199 : Value).ownBlock ∧ some k_ ≠ (.slice Ao234 t512.length co234 : Value).ownBlock) (.slice Ao162 t498.length co162) t498) := ⟨by (with_reducible repeat refine kl ?_); exact Kd.R_mono (Kd.R_far (p := ⟨gb516, 2, none⟩) (Kd.R_far (p := ⟨gb516, 1, none⟩) (Kd.R_far (p := ⟨gb516, 0, none⟩) (Kd.R_types HO_503002.out BK516.out (by decide)) (fun _ hk => hk.2) (.int .i64 t510)) (fun _ hk => hk.2) (.int .i64 t511)) (fun _ hk => hk.2) (.slice Ao234 t512.length co234)) (fun _ hk => ⟨hk.1.1.1.1, ⟨hk.1.1.1.2.1, ⟨hk.1.1.1.2.2.1, ⟨hk.1.1.1.2.2.2.1, ⟨hk.1.1.1.2.2.2.2.1, ⟨hk.1.1.1.2.2.2.2.2, ⟨hk.1.1.2, hk.1.2⟩⟩⟩⟩⟩⟩⟩)⟩
                have n10_ : Aside0 (Kd.R (Kd.int .u64) 23 (((w220.setCell ⟨gb516, 0, none⟩ (.int .i64 t510)).setCell ⟨gb516, 1, none⟩ (.int .i64 t511)).setCell ⟨gb516, 2, none⟩ (.slice Ao234 t512.length co234)) w.heap.size (fun k_ => some k_ ≠ (.slice Ao24 t437.length co24 : Value).ownBlock ∧ some k_ ≠ (.slice Ao27 t442.length co27 : Value).ownBlock ∧ some k_ ≠ (.slice Ao46 t455.length co46 : Value).ownBlock ∧ some k_ ≠ (.slice Ao69 t468.length co69 : Value).ownBlock ∧ some k_ ≠ (.slice Ao115 t483.length co115 : Value).ownBlock ∧ some k_ ≠ (.slice Ao147 t491.length co147 : Value).ownBlock ∧ some k_ ≠ (.slice Ao162 t498.length co162 : Value).ownBlock ∧ some k_ ≠ (.slice Ao234 t512.length co234 : Value).ownBlock) (.slice Ao199 t505.length co199) t505) := ⟨by (with_reducible repeat refine kl ?_); exact Kd.R_mono (Kd.R_far (p := ⟨gb516, 2, none⟩) (Kd.R_far (p := ⟨gb516, 1, none⟩) (Kd.R_far (p := ⟨gb516, 0, none⟩) (Kd.R_types HO507.out BK516.out (by decide)) (fun _ hk => hk.2) (.int .i64 t510)) (fun _ hk => hk.2) (.int .i64 t511)) (fun _ hk => hk.2) (.slice Ao234 t512.length co234)) (fun _ hk => ⟨hk.1.1.1.1.1.1.1.1.2, ⟨hk.1.1.1.1.1.1.1.2, ⟨hk.1.1.1.1.1.1.2, ⟨hk.1.1.1.1.1.2, ⟨hk.1.1.1.1.2, ⟨hk.1.1.1.2, ⟨hk.1.1.2, hk.1.2⟩⟩⟩⟩⟩⟩⟩)⟩
                have n11_ : Aside0 (Kd.R (Kd.int .u64) 23 (((w220.setCell ⟨gb516, 0, none⟩ (.int .i64 t510)).setCell ⟨gb516, 1, none⟩ (.int .i64 t511)).setCell ⟨gb516, 2, none⟩ (.slice Ao234 t512.length co234)) w.heap.size (fun k_ => some k_ ≠ (.slice Ao24 t437.length co24 : Value).ownBlock ∧ some k_ ≠ (.slice Ao27 t442.length co27 : Value).ownBlock ∧ some k_ ≠ (.slice Ao46 t455.length co46 : Value).ownBlock ∧ some k_ ≠ (.slice Ao69 t468.length co69 : Value).ownBlock ∧ some k_ ≠ (.slice Ao115 t483.length co115 : Value).ownBlock ∧ some k_ ≠ (.slice Ao147 t491.length co147 : Value).ownBlock ∧ some k_ ≠ (.slice Ao162 t498.length co162 : Value).ownBlock ∧ some k_ ≠ (.slice Ao199 t505.length co199 : Value).ownBlock) (.slice Ao234 t512.length co234) t512) := ⟨by (with_reducible repeat refine kl ?_); exact Kd.R_mono (Kd.R_far (p := ⟨gb516, 2, none⟩) (Kd.R_far (p := ⟨gb516, 1, none⟩) (Kd.R_far (p := ⟨gb516, 0, none⟩) (Kd.R_types HO514.out BK516.out (by decide)) (fun _ hk => hk.2) (.int .i64 t510)) (fun _ hk => hk.2) (.int .i64 t511)) (fun _ hk => hk.2) (.slice Ao234 t512.length co234)) (fun _ hk => ⟨hk.1.1.1.1.1.1.1.1.2, ⟨hk.1.1.1.1.1.1.1.2, ⟨hk.1.1.1.1.1.1.2, ⟨hk.1.1.1.1.1.2, ⟨hk.1.1.1.1.2, ⟨hk.1.1.1.2, ⟨hk.1.1.2, hk.1.2⟩⟩⟩⟩⟩⟩⟩)⟩
                have n12_ : Aside0 ((((w220.setCell ⟨gb516, 0, none⟩ (.int .i64 t510)).setCell ⟨gb516, 1, none⟩ (.int .i64 t511)).setCell ⟨gb516, 2, none⟩ (.slice Ao234 t512.length co234)).heap[gb434]? = some (.cells #[.int .i64 a0_0, .int .i64 a0_1, .slice A0_2 l0_2.length c0_2, .slice A0_3 l0_3.length c0_3] 49 (0, 0))) := ⟨by (with_reducible repeat refine bl ?_); refine blk_far ?_ NB434_516.out _; (with_reducible repeat refine bl ?_); refine blk_far ?_ NB434_516.out _; (with_reducible repeat refine bl ?_); refine blk_far ?_ NB434_516.out _; (with_reducible repeat refine bl ?_); exact BK434.out⟩
                have n13_ : Aside0 ((((w220.setCell ⟨gb516, 0, none⟩ (.int .i64 t510)).setCell ⟨gb516, 1, none⟩ (.int .i64 t511)).setCell ⟨gb516, 2, none⟩ (.slice Ao234 t512.length co234)).heap[gb446]? = some (.cells #[.int .i64 t435, .int .i64 t436, .slice Ao24 t437.length co24] 31 (0, 0))) := ⟨by (with_reducible repeat refine bl ?_); refine blk_far ?_ NB446_516.out _; (with_reducible repeat refine bl ?_); refine blk_far ?_ NB446_516.out _; (with_reducible repeat refine bl ?_); refine blk_far ?_ NB446_516.out _; (with_reducible repeat refine bl ?_); exact BK446.out⟩
                have n14_ : Aside0 ((((w220.setCell ⟨gb516, 0, none⟩ (.int .i64 t510)).setCell ⟨gb516, 1, none⟩ (.int .i64 t511)).setCell ⟨gb516, 2, none⟩ (.slice Ao234 t512.length co234)).heap[gb447]? = some (.cells #[.int .i64 t440, .int .i64 t441, .slice Ao27 t442.length co27] 31 (0, 0))) := ⟨by (with_reducible repeat refine bl ?_); refine blk_far ?_ NB447_516.out _; (with_reducible repeat refine bl ?_); refine blk_far ?_ NB447_516.out _; (with_reducible repeat refine bl ?_); refine blk_far ?_ NB447_516.out _; (with_reducible repeat refine bl ?_); exact BK447.out⟩
                have n15_ : Aside0 ((((w220.setCell ⟨gb516, 0, none⟩ (.int .i64 t510)).setCell ⟨gb516, 1, none⟩ (.int .i64 t511)).setCell ⟨gb516, 2, none⟩ (.slice Ao234 t512.length co234)).heap[gb452]? = some (.cells #[.int .i64 a0_0, .slice Ao34 t449.length co34] 37 (0, 0))) := ⟨by (with_reducible repeat refine bl ?_); refine blk_far ?_ NB452_516.out _; (with_reducible repeat refine bl ?_); refine blk_far ?_ NB452_516.out _; (with_reducible repeat refine bl ?_); refine blk_far ?_ NB452_516.out _; (with_reducible repeat refine bl ?_); exact BK452.out⟩
                have n16_ : Aside0 ((((w220.setCell ⟨gb516, 0, none⟩ (.int .i64 t510)).setCell ⟨gb516, 1, none⟩ (.int .i64 t511)).setCell ⟨gb516, 2, none⟩ (.slice Ao234 t512.length co234)).heap[gb459]? = some (.cells #[.int .i64 t453, .int .i64 t454, .slice Ao46 t455.length co46] 31 (0, 0))) := ⟨by (with_reducible repeat refine bl ?_); refine blk_far ?_ NB459_516.out _; (with_reducible repeat refine bl ?_); refine blk_far ?_ NB459_516.out _; (with_reducible repeat refine bl ?_); refine blk_far ?_ NB459_516.out _; (with_reducible repeat refine bl ?_); exact BK459.out⟩
                have n17_ : Aside0 ((((w220.setCell ⟨gb516, 0, none⟩ (.int .i64 t510)).setCell ⟨gb516, 1, none⟩ (.int .i64 t511)).setCell ⟨gb516, 2, none⟩ (.slice Ao234 t512.length co234)).heap[gb465]? = some (.cells #[.int .i64 t460, .slice Ao58 t461.length co58] 37 (0, 0))) := ⟨by (with_reducible repeat refine bl ?_); refine blk_far ?_ NB465_516.out _; (with_reducible repeat refine bl ?_); refine blk_far ?_ NB465_516.out _; (with_reducible repeat refine bl ?_); refine blk_far ?_ NB465_516.out _; (with_reducible repeat refine bl ?_); exact BK465.out⟩
                have n18_ : Aside0 ((((w220.setCell ⟨gb516, 0, none⟩ (.int .i64 t510)).setCell ⟨gb516, 1, none⟩ (.int .i64 t511)).setCell ⟨gb516, 2, none⟩ (.slice Ao234 t512.length co234)).heap[gb472]? = some (.cells #[.int .i64 t466, .int .i64 t467, .slice Ao69 t468.length co69] 31 (0, 0))) := ⟨by (with_reducible repeat refine bl ?_); refine blk_far ?_ NB472_516.out _; (with_reducible repeat refine bl ?_); refine blk_far ?_ NB472_516.out _; (with_reducible repeat refine bl ?_); refine blk_far ?_ NB472_516.out _; (with_reducible repeat refine bl ?_); exact BK472.out⟩
                have n19_ : Aside0 ((((w220.setCell ⟨gb516, 0, none⟩ (.int .i64 t510)).setCell ⟨gb516, 1, none⟩ (.int .i64 t511)).setCell ⟨gb516, 2, none⟩ (.slice Ao234 t512.length co234)).heap[gb478]? = some (.cells #[.int .i64 t473, .slice Ao81 t474.length co81] 37 (0, 0))) := ⟨by (with_reducible repeat refine bl ?_); refine blk_far ?_ NB478_516.out _; (with_reducible repeat refine bl ?_); refine blk_far ?_ NB478_516.out _; (with_reducible repeat refine bl ?_); refine blk_far ?_ NB478_516.out _; (with_reducible repeat refine bl ?_); exact BK478.out⟩
                have n20_ : Aside0 ((((w220.setCell ⟨gb516, 0, none⟩ (.int .i64 t510)).setCell ⟨gb516, 1, none⟩ (.int .i64 t511)).setCell ⟨gb516, 2, none⟩ (.slice Ao234 t512.length co234)).heap[gb487]? = some (.cells #[.int .i64 t481, .int .i64 t482, .slice Ao115 t483.length co115] 31 (0, 0))) := ⟨by (with_reducible repeat refine bl ?_); refine blk_far ?_ NB487_516.out _; (with_reducible repeat refine bl ?_); refine blk_far ?_ NB487_516.out _; (with_reducible repeat refine bl ?_); refine blk_far ?_ NB487_516.out _; (with_reducible repeat refine bl ?_); exact BK487.out⟩
                have n21_ : Aside0 ((((w220.setCell ⟨gb516, 0, none⟩ (.int .i64 t510)).setCell ⟨gb516, 1, none⟩ (.int .i64 t511)).setCell ⟨gb516, 2, none⟩ (.slice Ao234 t512.length co234)).heap[gb495]? = some (.cells #[.int .i64 t489, .int .i64 t490, .slice Ao147 t491.length co147] 31 (0, 0))) := ⟨by (with_reducible repeat refine bl ?_); refine blk_far ?_ NB495_516.out _; (with_reducible repeat refine bl ?_); refine blk_far ?_ NB495_516.out _; (with_reducible repeat refine bl ?_); refine blk_far ?_ NB495_516.out _; (with_reducible repeat refine bl ?_); exact BK495.out⟩
                have n22_ : Aside0 ((((w220.setCell ⟨gb516, 0, none⟩ (.int .i64 t510)).setCell ⟨gb516, 1, none⟩ (.int .i64 t511)).setCell ⟨gb516, 2, none⟩ (.slice Ao234 t512.length co234)).heap[gb502]? = some (.cells #[.int .i64 t496, .int .i64 t497, .slice Ao162 t498.length co162] 31 (0, 0))) := ⟨by (with_reducible repeat refine bl ?_); refine blk_far ?_ NB502_516.out _; (with_reducible repeat refine bl ?_); refine blk_far ?_ NB502_516.out _; (with_reducible repeat refine bl ?_); refine blk_far ?_ NB502_516.out _; (with_reducible repeat refine bl ?_); exact BK502.out⟩
                have n23_ : Aside0 ((((w220.setCell ⟨gb516, 0, none⟩ (.int .i64 t510)).setCell ⟨gb516, 1, none⟩ (.int .i64 t511)).setCell ⟨gb516, 2, none⟩ (.slice Ao234 t512.length co234)).heap[gb509]? = some (.cells #[.int .i64 t503, .int .i64 t504, .slice Ao199 t505.length co199] 31 (0, 0))) := ⟨by (with_reducible repeat refine bl ?_); refine blk_far ?_ NB509_516.out _; (with_reducible repeat refine bl ?_); refine blk_far ?_ NB509_516.out _; (with_reducible repeat refine bl ?_); refine blk_far ?_ NB509_516.out _; (with_reducible repeat refine bl ?_); exact BK509.out⟩
                have n24_ : Aside0 ((((w220.setCell ⟨gb516, 0, none⟩ (.int .i64 t510)).setCell ⟨gb516, 1, none⟩ (.int .i64 t511)).setCell ⟨gb516, 2, none⟩ (.slice Ao234 t512.length co234)).heap[gb516]? = some (.cells #[.int .i64 t510, .int .i64 t511, .slice Ao234 t512.length co234] 31 (0, 0))) := ⟨by (with_reducible repeat refine bl ?_); refine blk_put (cs := #[.int .i64 t510, .int .i64 t511, .slice none 0 0]) ?_ 2 _ rfl; (with_reducible repeat refine bl ?_); refine blk_put (cs := #[.int .i64 t510, .int .i64 0, .slice none 0 0]) ?_ 1 _ rfl; (with_reducible repeat refine bl ?_); refine blk_put (cs := #[.int .i64 0, .int .i64 0, .slice none 0 0]) ?_ 0 _ rfl; (with_reducible repeat refine bl ?_); exact BK516.out⟩
                have n25_ : Aside0 (Below w.heap.size w (((w220.setCell ⟨gb516, 0, none⟩ (.int .i64 t510)).setCell ⟨gb516, 1, none⟩ (.int .i64 t511)).setCell ⟨gb516, 2, none⟩ (.slice Ao234 t512.length co234))) := ⟨bq HB.out⟩
                (try clear HO_447002)
                (try clear HO_448002)
                (try clear HO_453001)
                (try clear HO_460002)
                (try clear HO_466001)
                (try clear HO_473002)
                (try clear HO_479001)
                (try clear HO_488002)
                (try clear HO_496002)
                (try clear HO_503002)
                (try clear HO507)
                (try clear HO514)
                (try clear BK434)
                (try clear BK446)
                (try clear BK447)
                (try clear BK452)
                (try clear BK459)
                (try clear BK465)
                (try clear BK472)
                (try clear BK478)
                (try clear BK487)
                (try clear BK495)
                (try clear BK502)
                (try clear BK509)
                (try clear BK516)
                (try clear HB)
                generalize (((w220.setCell ⟨gb516, 0, none⟩ (.int .i64 t510)).setCell ⟨gb516, 1, none⟩ (.int .i64 t511)).setCell ⟨gb516, 2, none⟩ (.slice Ao234 t512.length co234)) = w235 at n0_ n1_ n2_ n3_ n4_ n5_ n6_ n7_ n8_ n9_ n10_ n11_ n12_ n13_ n14_ n15_ n16_ n17_ n18_ n19_ n20_ n21_ n22_ n23_ n24_ n25_ ⊢
                have HO_447002 := n0_
                have HO_448002 := n1_
                have HO_453001 := n2_
                have HO_460002 := n3_
                have HO_466001 := n4_
                have HO_473002 := n5_
                have HO_479001 := n6_
                have HO_488002 := n7_
                have HO_496002 := n8_
                have HO_503002 := n9_
                have HO507 := n10_
                have HO514 := n11_
                have BK434 := n12_
                have BK446 := n13_
                have BK447 := n14_
                have BK452 := n15_
                have BK459 := n16_
                have BK465 := n17_
                have BK472 := n18_
                have BK478 := n19_
                have BK487 := n20_
                have BK495 := n21_
                have BK502 := n22_
                have BK509 := n23_
                have BK516 := n24_
                have HB := n25_
                clear n0_ n1_ n2_ n3_ n4_ n5_ n6_ n7_ n8_ n9_ n10_ n11_ n12_ n13_ n14_ n15_ n16_ n17_ n18_ n19_ n20_ n21_ n22_ n23_ n24_ n25_
                replace HO_447002 := Aside0.mk (Kd.R_drew HO_447002.out)
                replace HO_448002 := Aside0.mk (Kd.R_drew HO_448002.out)
                replace HO_453001 := Aside0.mk (Kd.R_drew HO_453001.out)
                replace HO_460002 := Aside0.mk (Kd.R_drew HO_460002.out)
                replace HO_466001 := Aside0.mk (Kd.R_drew HO_466001.out)
                replace HO_473002 := Aside0.mk (Kd.R_drew HO_473002.out)
                replace HO_479001 := Aside0.mk (Kd.R_drew HO_479001.out)
                replace HO_488002 := Aside0.mk (Kd.R_drew HO_488002.out)
                replace HO_496002 := Aside0.mk (Kd.R_drew HO_496002.out)
                replace HO_503002 := Aside0.mk (Kd.R_drew HO_503002.out)
                replace HO507 := Aside0.mk (Kd.R_drew HO507.out)
                replace HO514 := Aside0.mk (Kd.R_drew HO514.out)
                replace BK434 := Aside0.mk (blk_drew BK434.out)
                replace BK446 := Aside0.mk (blk_drew BK446.out)
                replace BK447 := Aside0.mk (blk_drew BK447.out)
                replace BK452 := Aside0.mk (blk_drew BK452.out)
                replace BK459 := Aside0.mk (blk_drew BK459.out)
                replace BK465 := Aside0.mk (blk_drew BK465.out)
                replace BK472 := Aside0.mk (blk_drew BK472.out)
                replace BK478 := Aside0.mk (blk_drew BK478.out)
                replace BK487 := Aside0.mk (blk_drew BK487.out)
                replace BK495 := Aside0.mk (blk_drew BK495.out)
                replace BK502 := Aside0.mk (blk_drew BK502.out)
                replace BK509 := Aside0.mk (blk_drew BK509.out)
                replace BK516 := Aside0.mk (blk_drew BK516.out)
                replace HB := Aside0.mk (below_drew1 HB.out)
                refine start_ (n := 15) (S := fun w' => w'.cell? ⟨gb509, 0, none⟩ = some (.int .i64 t503) ∧ w'.cell? ⟨gb509, 1, none⟩ = some (.int .i64 t504) ∧ w'.cell? ⟨gb509, 2, none⟩ = some (.slice Ao199 t505.length co199) ∧ w'.cell? ⟨gb516, 0, none⟩ = some (.int .i64 t510) ∧ w'.cell? ⟨gb516, 1, none⟩ = some (.int .i64 t511) ∧ w'.cell? ⟨gb516, 2, none⟩ = some (.slice Ao234 t512.length co234)) (ds := []) #[false, false, false, false, false, false, false, false, false, false, false, false, false, false, false] (by kernel_rfl) rfl rfl ⟨(blk_cell BK509.out 0).trans rfl, (blk_cell BK509.out 1).trans rfl, (blk_cell BK509.out 2).trans rfl, (blk_cell BK516.out 0).trans rfl, (blk_cell BK516.out 1).trans rfl, (blk_cell BK516.out 2).trans rfl⟩ (fun hHeld => ?_); refine with_tabW steeplelaw03_PackRises.tab20 steeplelaw03_PackRises.bits20 (fun HT_ HW_ => ?_)
                generalize w235.drew = w236 at HO_447002 HO_448002 HO_453001 HO_460002 HO_466001 HO_473002 HO_479001 HO_488002 HO_496002 HO_503002 HO507 HO514 BK434 BK446 BK447 BK452 BK459 BK465 BK472 BK478 BK487 BK495 BK502 BK509 BK516 HB hHeld ⊢
                refine pure_ (i := 0) (N := some 125) (v := ?_) (a' := ?_) #[true, false, false, false, false, false, false, false, false, false, false, false, false, false, false] rfl rfl (any_of HT_.out (by kernel_rfl)) (fun _ _ _ h => h) (Or.inl ⟨by rfl, ?_⟩) ?_ ?_
                rotate_left
                ·intro w'
                 go_simp
                 with_reducible rfl
                rotate_left
                ·simp only [Act.put, List.setIfInBounds_toArray, List.set_cons_zero, List.set_cons_succ, i64_w, i32_w]
                 rfl
                refine pure_ (i := 1) (N := some 126) (v := ?_) (a' := ?_) #[true, true, false, false, false, false, false, false, false, false, false, false, false, false, false] rfl rfl (any_of HT_.out (by kernel_rfl)) (fun _ _ _ h => h) (Or.inl ⟨by rfl, ?_⟩) ?_ ?_
                rotate_left
                ·intro w'
                 go_simp
                 with_reducible rfl
                rotate_left
                ·simp only [Act.put, List.setIfInBounds_toArray, List.set_cons_zero, List.set_cons_succ, i64_w, i32_w]
                 rfl
                refine pure_ (i := 2) (N := some 127) (v := ?_) (a' := ?_) #[true, true, true, false, false, false, false, false, false, false, false, false, false, false, false] rfl rfl (any_of HT_.out (by kernel_rfl)) (fun _ _ _ h => h) (Or.inl ⟨by rfl, ?_⟩) ?_ ?_
                rotate_left
                ·intro w'
                 go_simp
                 with_reducible rfl
                rotate_left
                ·simp only [Act.put, List.setIfInBounds_toArray, List.set_cons_zero, List.set_cons_succ, i64_w, i32_w]
                 rfl
                refine pure_ (i := 3) (N := some 128) (v := ?_) (a' := ?_) #[true, true, true, true, false, false, false, false, false, false, false, false, false, false, false] rfl rfl (any_of HT_.out (by kernel_rfl)) (fun _ _ _ h => h) (Or.inl ⟨by rfl, ?_⟩) ?_ ?_
                rotate_left
                ·intro w'
                 go_simp
                 with_reducible rfl
                rotate_left
                ·simp only [Act.put, List.setIfInBounds_toArray, List.set_cons_zero, List.set_cons_succ, i64_w, i32_w]
                 rfl
                refine pure_ (i := 4) (N := some 129) (v := ?_) (a' := ?_) #[true, true, true, true, true, false, false, false, false, false, false, false, false, false, false] rfl rfl (any_of HT_.out (by kernel_rfl)) (fun _ _ _ h => h) (Or.inl ⟨by rfl, ?_⟩) ?_ ?_
                rotate_left
                ·intro w'
                 go_simp
                 with_reducible rfl
                rotate_left
                ·simp only [Act.put, List.setIfInBounds_toArray, List.set_cons_zero, List.set_cons_succ, i64_w, i32_w]
                 rfl
                refine pure_ (i := 5) (N := some 130) (v := ?_) (a' := ?_) #[true, true, true, true, true, true, false, false, false, false, false, false, false, false, false] rfl rfl (any_of HT_.out (by kernel_rfl)) (fun _ _ _ h => h) (Or.inl ⟨by rfl, ?_⟩) ?_ ?_
                rotate_left
                ·intro w'
                 go_simp
                 with_reducible rfl
                rotate_left
                ·simp only [Act.put, List.setIfInBounds_toArray, List.set_cons_zero, List.set_cons_succ, i64_w, i32_w]
                 rfl
                refine pure_ (i := 6) (N := some 131) (v := ?_) (a' := ?_) #[true, true, true, true, true, true, true, false, false, false, false, false, false, false, false] rfl rfl (any_of HT_.out (by kernel_rfl)) (fun _ _ _ h => h) (Or.inl ⟨by rfl, ?_⟩) ?_ ?_
                rotate_left
                ·intro w'
                 go_simp
                 with_reducible rfl
                rotate_left
                ·simp only [Act.put, List.setIfInBounds_toArray, List.set_cons_zero, List.set_cons_succ, i64_w, i32_w]
                 rfl
                refine take_ (i := 7) (N := some 132) (v := ?_) (a' := ?_) #[true, true, true, true, true, true, true, true, false, false, false, false, false, false, false] rfl rfl (take_ofW HT_.out HW_.out (by kernel_rfl)) (fun _ _ _ h => h) (Or.inl ⟨by rfl, ?_⟩) hHeld ?_ ?_
                rotate_left
                ·rintro w' ⟨s0, s1, s2, s3, s4, s5⟩
                 go_simp
                 with_reducible rfl
                rotate_left
                ·simp only [Act.put, List.setIfInBounds_toArray, List.set_cons_zero, List.set_cons_succ, i64_w, i32_w]
                 rfl
                refine take_ (i := 9) (N := some 134) (v := ?_) (a' := ?_) #[true, true, true, true, true, true, true, true, false, true, false, false, false, false, false] rfl rfl (take_ofW HT_.out HW_.out (by kernel_rfl)) (fun _ _ _ h => h) (Or.inl ⟨by rfl, ?_⟩) hHeld ?_ ?_
                rotate_left
                ·rintro w' ⟨s0, s1, s2, s3, s4, s5⟩
                 go_simp
                 with_reducible rfl
                rotate_left
                ·simp only [Act.put, List.setIfInBounds_toArray, List.set_cons_zero, List.set_cons_succ, i64_w, i32_w]
                 rfl
                refine one_ (i := 8) (N := some 133) #[true, true, true, true, true, true, true, true, true, true, false, false, false, false, false] rfl rfl (one_of HT_.out (by kernel_rfl)) (by decide) (fun K hK => ?_)
                refine goes_ Try.func23 (by kernel_rfl) rfl #[.agg #[.int .i64 t503, .int .i64 t504, .slice Ao199 t505.length co199]] (by rfl) rfl rfl (by (try simp only [List.map_toArray, List.map_cons, List.map_nil]); first | done | rfl | (simp only [List.length_drop, List.length_take]; rfl)) ?_
                with_reducible refine (pack_Vec_Elems.calls kj94 t503 t504 _ _ t505 t517 _ ?side1 ?side2 A169.out).mono ?_
                (case side1 => repeat (first | exact (Kd.R_reads' HO507.out).2.2 | (with_reducible refine Kd.C_alloc ?_ _) | (with_reducible refine Kd.C_drewN ?_ _) | (with_reducible refine Kd.C_drew ?_)))
                (case side2 => exact (Kd.R_reads' HO507.out).2.1)
                rintro e w237 ⟨v518, rfl, ho0, hb⟩
                refine ⟨_, rfl, ?_⟩
                have HO519 := kw ho0 HB
                replace HO_447002 := kb HO_447002 hb
                replace HO_448002 := kb HO_448002 hb
                replace HO_453001 := kb HO_453001 hb
                replace HO_460002 := kb HO_460002 hb
                replace HO_466001 := kb HO_466001 hb
                replace HO_473002 := kb HO_473002 hb
                replace HO_479001 := kb HO_479001 hb
                replace HO_488002 := kb HO_488002 hb
                replace HO_496002 := kb HO_496002 hb
                replace HO_503002 := kb HO_503002 hb
                replace HO507 := kb HO507 hb
                replace HO514 := kb HO514 hb
                replace BK434 := bb BK434 hb
                replace BK446 := bb BK446 hb
                replace BK447 := bb BK447 hb
                replace BK452 := bb BK452 hb
                replace BK459 := bb BK459 hb
                replace BK465 := bb BK465 hb
                replace BK472 := bb BK472 hb
                replace BK478 := bb BK478 hb
                replace BK487 := bb BK487 hb
                replace BK495 := bb BK495 hb
                replace BK502 := bb BK502 hb
                replace BK509 := bb BK509 hb
                replace BK516 := bb BK516 hb
                replace HB := bh HB hb
                (try clear hb)
                (try clear hb2)
                (try clear hk)
                (try clear hi)
                (try clear ho0)
                refine hK.out _ _ ⟨(blk_cell BK509.out 0).trans rfl, (blk_cell BK509.out 1).trans rfl, (blk_cell BK509.out 2).trans rfl, (blk_cell BK516.out 0).trans rfl, (blk_cell BK516.out 1).trans rfl, (blk_cell BK516.out 2).trans rfl⟩ (fun hHeld => ?_)
                clear hK K
                refine norm_ (a' := ?_) ?_ ?_
                rotate_left
                ·show Act.put _ (some 133) _ = _
                 simp only [Act.put, List.setIfInBounds_toArray, List.set_cons_zero, List.set_cons_succ, i64_w, i32_w]
                 rfl
                refine one_ (i := 10) (N := some 135) #[true, true, true, true, true, true, true, true, true, true, true, false, false, false, false] rfl rfl (one_of HT_.out (by kernel_rfl)) (by decide) (fun K hK => ?_)
                refine goes_ Try.func23 (by kernel_rfl) rfl #[.agg #[.int .i64 t510, .int .i64 t511, .slice Ao234 t512.length co234]] (by rfl) rfl rfl (by (try simp only [List.map_toArray, List.map_cons, List.map_nil]); first | done | rfl | (simp only [List.length_drop, List.length_take]; rfl)) ?_
                with_reducible refine (pack_Vec_Elems.calls kj94 t510 t511 _ _ t512 t520 _ ?side1 ?side2 A170.out).mono ?_
                (case side1 => repeat (first | exact (Kd.R_reads' HO514.out).2.2 | (with_reducible refine Kd.C_alloc ?_ _) | (with_reducible refine Kd.C_drewN ?_ _) | (with_reducible refine Kd.C_drew ?_)))
                (case side2 => exact (Kd.R_reads' HO514.out).2.1)
                rintro e w238 ⟨v521, rfl, ho0, hb⟩
                refine ⟨_, rfl, ?_⟩
                have HO522 := Aside0.mk (Kd.R_lower (Kd.R_new' ho0 (Kd.R_lt (kr HO519.out))) (below_size (bq HB.out)))
                replace HO_447002 := kb HO_447002 hb
                replace HO_448002 := kb HO_448002 hb
                replace HO_453001 := kb HO_453001 hb
                replace HO_460002 := kb HO_460002 hb
                replace HO_466001 := kb HO_466001 hb
                replace HO_473002 := kb HO_473002 hb
                replace HO_479001 := kb HO_479001 hb
                replace HO_488002 := kb HO_488002 hb
                replace HO_496002 := kb HO_496002 hb
                replace HO_503002 := kb HO_503002 hb
                replace HO507 := kb HO507 hb
                replace HO514 := kb HO514 hb
                replace HO519 := Aside0.mk (Kd.R_elder' (kr HO519.out) (Kd.R_base ho0) hb)
                replace BK434 := bb BK434 hb
                replace BK446 := bb BK446 hb
                replace BK447 := bb BK447 hb
                replace BK452 := bb BK452 hb
                replace BK459 := bb BK459 hb
                replace BK465 := bb BK465 hb
                replace BK472 := bb BK472 hb
                replace BK478 := bb BK478 hb
                replace BK487 := bb BK487 hb
                replace BK495 := bb BK495 hb
                replace BK502 := bb BK502 hb
                replace BK509 := bb BK509 hb
                replace BK516 := bb BK516 hb
                replace HB := bh HB hb
                (try clear hb)
                (try clear hb2)
                (try clear hk)
                (try clear hi)
                (try clear ho0)
                obtain ⟨Ao239, co239, eo239⟩ := Kd.R_slice HO522.out
                (first | subst eo239 | (injection eo239 with f1_ f2_ f3_; have f4_ := f1_.symm; have f5_ := f3_.symm; clear f1_ f2_ f3_; subst f4_; subst f5_))
                refine hK.out _ _ ⟨(blk_cell BK509.out 0).trans rfl, (blk_cell BK509.out 1).trans rfl, (blk_cell BK509.out 2).trans rfl, (blk_cell BK516.out 0).trans rfl, (blk_cell BK516.out 1).trans rfl, (blk_cell BK516.out 2).trans rfl⟩ (fun hHeld => ?_)
                clear hK K
                refine norm_ (a' := ?_) ?_ ?_
                rotate_left
                ·show Act.put _ (some 135) _ = _
                 simp only [Act.put, List.setIfInBounds_toArray, List.set_cons_zero, List.set_cons_succ, i64_w, i32_w]
                 rfl
                refine one_ (i := 11) (N := some 136) #[true, true, true, true, true, true, true, true, true, true, true, true, false, false, false] rfl rfl (one_of HT_.out (by kernel_rfl)) (by decide) (fun K hK => ?_)
                refine goes_ Try.func11 (by kernel_rfl) rfl #[.slice Ao239 t520.length co239] (by rfl) rfl rfl (by (try simp only [List.map_toArray, List.map_cons, List.map_nil]); first | done | rfl | (simp only [List.length_drop, List.length_take]; rfl)) ?_
                with_reducible refine (steeplelaw01_Ref.calls kj94 _ _ t520 t523 _ ?side1 ?side2 A171.out).mono ?_
                (case side1 => repeat (first | exact (Kd.R_reads' HO522.out).2.2 | (with_reducible refine Kd.C_alloc ?_ _) | (with_reducible refine Kd.C_drewN ?_ _) | (with_reducible refine Kd.C_drew ?_)))
                (case side2 => exact (Kd.R_reads' HO522.out).2.1)
                rintro e w240 ⟨v524, rfl, ho0, hb⟩
                refine ⟨_, rfl, ?_⟩
                have HO525 := Aside0.mk (Kd.R_lower (Kd.R_new' (Kd.R_new' (Kd.R_new' ho0 (Kd.R_lt (kr HO_453001.out))) (Kd.R_lt (kr HO_466001.out))) (Kd.R_lt (kr HO_479001.out))) (below_size (bq HB.out)))
                replace HO_447002 := kb HO_447002 hb
                replace HO_448002 := kb HO_448002 hb
                replace HO_453001 := Aside0.mk (Kd.R_elder' (kr HO_453001.out) (Kd.R_base ho0) hb)
                replace HO_460002 := kb HO_460002 hb
                replace HO_466001 := Aside0.mk (Kd.R_elder' (kr HO_466001.out) (Kd.R_base ho0) hb)
                replace HO_473002 := kb HO_473002 hb
                replace HO_479001 := Aside0.mk (Kd.R_elder' (kr HO_479001.out) (Kd.R_base ho0) hb)
                replace HO_488002 := kb HO_488002 hb
                replace HO_496002 := kb HO_496002 hb
                replace HO_503002 := kb HO_503002 hb
                replace HO507 := kb HO507 hb
                replace HO514 := kb HO514 hb
                replace HO519 := kb HO519 hb
                replace HO522 := kb HO522 hb
                replace BK434 := bb BK434 hb
                replace BK446 := bb BK446 hb
                replace BK447 := bb BK447 hb
                replace BK452 := bb BK452 hb
                replace BK459 := bb BK459 hb
                replace BK465 := bb BK465 hb
                replace BK472 := bb BK472 hb
                replace BK478 := bb BK478 hb
                replace BK487 := bb BK487 hb
                replace BK495 := bb BK495 hb
                replace BK502 := bb BK502 hb
                replace BK509 := bb BK509 hb
                replace BK516 := bb BK516 hb
                replace HB := bh HB hb
                (try clear hb)
                (try clear hb2)
                (try clear hk)
                (try clear hi)
                (try clear ho0)
                obtain ⟨Ao241, co241, eo241⟩ := Kd.R_slice HO519.out
                (first | subst eo241 | (injection eo241 with f1_ f2_ f3_; have f4_ := f1_.symm; have f5_ := f3_.symm; clear f1_ f2_ f3_; subst f4_; subst f5_))
                obtain ⟨Ao242, co242, eo242⟩ := Kd.R_slice HO525.out
                (first | subst eo242 | (injection eo242 with f1_ f2_ f3_; have f4_ := f1_.symm; have f5_ := f3_.symm; clear f1_ f2_ f3_; subst f4_; subst f5_))
                refine hK.out _ _ ⟨(blk_cell BK509.out 0).trans rfl, (blk_cell BK509.out 1).trans rfl, (blk_cell BK509.out 2).trans rfl, (blk_cell BK516.out 0).trans rfl, (blk_cell BK516.out 1).trans rfl, (blk_cell BK516.out 2).trans rfl⟩ (fun hHeld => ?_)
                clear hK K
                refine norm_ (a' := ?_) ?_ ?_
                rotate_left
                ·show Act.put _ (some 136) _ = _
                 simp only [Act.put, List.setIfInBounds_toArray, List.set_cons_zero, List.set_cons_succ, i64_w, i32_w]
                 rfl
                refine one_ (i := 12) (N := some 137) #[true, true, true, true, true, true, true, true, true, true, true, true, true, false, false] rfl rfl (one_of HT_.out (by kernel_rfl)) (by decide) (fun K hK => ?_)
                refine goes_ Try.func22 (by kernel_rfl) rfl #[.slice Ao241 t517.length co241, .slice Ao242 t523.length co242] (by rfl) rfl rfl (by (try simp only [List.map_toArray, List.map_cons, List.map_nil]); first | done | rfl | (simp only [List.length_drop, List.length_take]; rfl)) ?_
                with_reducible refine (steeplelaw01_Same.calls kj94 _ _ t517 _ _ t523 true _ ?side1 ?side2 ?side3 ?side4 A172.out).mono ?_
                (case side1 => repeat (first | exact (Kd.R_reads' HO519.out).2.2 | (with_reducible refine Kd.C_alloc ?_ _) | (with_reducible refine Kd.C_drewN ?_ _) | (with_reducible refine Kd.C_drew ?_)))
                (case side2 => exact (Kd.R_reads' HO519.out).2.1)
                (case side3 => repeat (first | exact (Kd.R_reads' HO525.out).2.2 | (with_reducible refine Kd.C_alloc ?_ _) | (with_reducible refine Kd.C_drewN ?_ _) | (with_reducible refine Kd.C_drew ?_)))
                (case side4 => exact (Kd.R_reads' HO525.out).2.1)
                rintro e w' ⟨rfl, ⟨nd, rfl⟩⟩
                refine ⟨_, rfl, ?_⟩
                refine hK.out _ _ ⟨(blk_cell BK509.out 0).trans rfl, (blk_cell BK509.out 1).trans rfl, (blk_cell BK509.out 2).trans rfl, (blk_cell BK516.out 0).trans rfl, (blk_cell BK516.out 1).trans rfl, (blk_cell BK516.out 2).trans rfl⟩ (fun hHeld => ?_)
                clear hK K
                refine norm_ (a' := ?_) ?_ ?_
                rotate_left
                ·show Act.put _ (some 137) _ = _
                 simp only [Act.put, List.setIfInBounds_toArray, List.set_cons_zero, List.set_cons_succ, i64_w, i32_w]
                 rfl
                refine pure_ (i := 13) (N := some 138) (v := ?_) (a' := ?_) #[true, true, true, true, true, true, true, true, true, true, true, true, true, true, false] rfl rfl (any_of HT_.out (by kernel_rfl)) (fun _ _ _ h => h) (Or.inl ⟨by rfl, ?_⟩) ?_ ?_
                rotate_left
                ·intro w'
                 go_simp
                 with_reducible rfl
                rotate_left
                ·simp only [Act.put, List.setIfInBounds_toArray, List.set_cons_zero, List.set_cons_succ, i64_w, i32_w]
                 rfl
                refine pure_ (i := 14) (N := some 139) (v := ?_) (a' := ?_) #[true, true, true, true, true, true, true, true, true, true, true, true, true, true, true] rfl rfl (any_of HT_.out (by kernel_rfl)) (fun _ _ _ h => h) (Or.inl ⟨by rfl, ?_⟩) ?_ ?_
                rotate_left
                ·intro w'
                 go_simp
                 with_reducible rfl
                rotate_left
                ·simp only [Act.put, List.setIfInBounds_toArray, List.set_cons_zero, List.set_cons_succ, i64_w, i32_w]
                 rfl
                refine done_ (done_of HT_.out (by kernel_rfl)) ?_
                try go_wp2
                go_meet
                case rel => exact ⟨_, H', ⟨by have := HJ94.out; first | omega | exact Nat.le_refl _⟩, ⟨by (with_reducible repeat refine kl ?_); exact Kd.R_mono HO_447002.out (fun _ hk => ⟨hk.1, ⟨hk.2.1, hk.2.2.1⟩⟩)⟩, ⟨by (with_reducible repeat refine kl ?_); exact Kd.R_mono HO_448002.out (fun _ hk => ⟨hk.1, ⟨hk.2.1, hk.2.2.1⟩⟩)⟩, ⟨by (with_reducible repeat refine kl ?_); exact Kd.R_mono HO_453001.out (fun _ hk => ⟨hk.1.1, hk.1.2⟩)⟩, ⟨by (with_reducible repeat refine kl ?_); exact Kd.R_mono HO_460002.out (fun _ hk => ⟨hk.1, ⟨hk.2.1, hk.2.2.1⟩⟩)⟩, ⟨by (with_reducible repeat refine kl ?_); exact Kd.R_mono HO_466001.out (fun _ hk => ⟨hk.1.1, hk.1.2⟩)⟩, ⟨by (with_reducible repeat refine kl ?_); exact Kd.R_mono HO_473002.out (fun _ hk => ⟨hk.1, ⟨hk.2.1, hk.2.2.1⟩⟩)⟩, ⟨by (with_reducible repeat refine kl ?_); exact Kd.R_mono HO_479001.out (fun _ hk => ⟨hk.1.1, hk.1.2⟩)⟩, ⟨bk BK446.out⟩, ⟨bk BK447.out⟩, ⟨bk BK452.out⟩, ⟨bk BK459.out⟩, ⟨bk BK465.out⟩, ⟨bk BK472.out⟩, ⟨bk BK478.out⟩, ⟨bq HB.out⟩⟩
               ·replace c173 := Bool.eq_false_iff.mpr c173
                subst c173
                have H1 : (none) = some r := by rw [if_neg (show ¬ (false = true) by decide)] at H; exact H
                clear H
                have H := H1
                clear H1
                exact absurd H (by simp)
              ·rw [if_neg c168] at H
               have c168b0 : (t515 == 0) = false := beq_eq_false_iff_ne.mpr c168
               have c168b1 : (t515 != 0) = true := bne_iff_ne.mpr c168
               exact absurd H (by simp)
             ·rw [if_neg c167] at H
              have c167b0 : (t508 == 0) = false := beq_eq_false_iff_ne.mpr c167
              have c167b1 : (t508 != 0) = true := bne_iff_ne.mpr c167
              exact absurd H (by simp)
            ·replace c164 := Bool.eq_false_iff.mpr c164
             subst c164
             have H1 : (steeplelaw03_PackRises.j1 kj94 t471 a0_0 t449 t466 t467 t468) = some r := by rw [if_neg (show ¬ (false = true) by decide)] at H; exact H
             clear H
             have H := H1
             clear H1
             have H' := Aside0.mk H
             clear H
             go_wp2
             go_meet
             case rel => exact ⟨_, H', ⟨by have := HJ94.out; first | omega | exact Nat.le_refl _⟩, ⟨by (with_reducible repeat refine kl ?_); exact Kd.R_mono HO_447002.out (fun _ hk => ⟨hk.1, ⟨hk.2.1, hk.2.2.1⟩⟩)⟩, ⟨by (with_reducible repeat refine kl ?_); exact Kd.R_mono HO_448002.out (fun _ hk => ⟨hk.1, ⟨hk.2.1, hk.2.2.1⟩⟩)⟩, ⟨kr HO_453001.out⟩, ⟨by (with_reducible repeat refine kl ?_); exact Kd.R_mono HO_460002.out (fun _ hk => ⟨hk.1, ⟨hk.2.1, hk.2.2.1⟩⟩)⟩, ⟨kr HO_466001.out⟩, ⟨by (with_reducible repeat refine kl ?_); exact Kd.R_mono HO_473002.out (fun _ hk => ⟨hk.1, ⟨hk.2.1, hk.2.2.1⟩⟩)⟩, ⟨kr HO_479001.out⟩, ⟨bk BK446.out⟩, ⟨bk BK447.out⟩, ⟨bk BK452.out⟩, ⟨bk BK459.out⟩, ⟨bk BK465.out⟩, ⟨bk BK472.out⟩, ⟨bk BK478.out⟩, ⟨bq HB.out⟩⟩
         ·replace c92 := Bool.eq_false_iff.mpr c92
          subst c92
          have H1 : (none) = some r := by rw [if_neg (show ¬ (false = true) by decide)] at H; exact H
          clear H
          have H := H1
          clear H1
          exact absurd H (by simp)
        ·rw [if_neg c90] at H
         exact absurd H (by simp)
       ·rw [if_neg c88] at H
        have c88b0 : (t458 == 0) = false := beq_eq_false_iff_ne.mpr c88
        have c88b1 : (t458 != 0) = true := bne_iff_ne.mpr c88
        (first | rw [c88b0] | (simp only [i64_w, i32_w]; rw [c88b0]) | skip)
        have H' := Aside0.mk H
        clear H
        go_wp2
        go_meet
        case rel => exact ⟨_, H', ⟨by first | omega | exact Nat.le_refl _⟩, ⟨by (with_reducible repeat refine kl ?_); exact Kd.R_mono HO439.out (fun _ hk => ⟨hk.1.1, ⟨hk.1.2, hk.2⟩⟩)⟩, ⟨by (with_reducible repeat refine kl ?_); exact Kd.R_mono HO444.out (fun _ hk => ⟨hk.1.1, ⟨hk.1.2, hk.2⟩⟩)⟩, ⟨by (with_reducible repeat refine kl ?_); exact Kd.R_mono HO451.out (fun _ hk => ⟨hk.1.2, hk.2⟩)⟩, ⟨by (with_reducible repeat refine kl ?_); exact Kd.R_mono HO457.out (fun _ hk => ⟨hk.1.1.2, ⟨hk.1.2, hk.2⟩⟩)⟩, ⟨by (with_reducible repeat refine kl ?_); exact Kd.R_mono HO463.out (fun _ hk => ⟨hk.1.2, hk.2⟩)⟩, ⟨by (with_reducible repeat refine kl ?_); exact Kd.R_mono HO470.out (fun _ hk => ⟨hk.1.1.2, ⟨hk.1.2, hk.2⟩⟩)⟩, ⟨by (with_reducible repeat refine kl ?_); exact Kd.R_mono HO476.out (fun _ hk => ⟨hk.1.2, hk.2⟩)⟩, ⟨bk BK446.out⟩, ⟨bk BK447.out⟩, ⟨bk BK452.out⟩, ⟨bk BK459.out⟩, ⟨bk BK465.out⟩, ⟨bk BK472.out⟩, ⟨bk BK478.out⟩, ⟨bq HB.out⟩⟩
      case rest =>
       clear HC15
       try clear c1
       try clear c2
       try clear p2
       try clear c8
       try clear c9
       try clear c11
       try clear c16
       try clear c17
       try clear c22
       try clear c23
       try clear c88
       try clear c88b0
       try clear c88b1
       try clear c90
       try clear c92
       try clear c164
       try clear c167
       try clear c167b0
       try clear c167b1
       try clear c168
       try clear c168b0
       try clear c168b1
       try clear c173
       obtain ⟨kq, HA, HJ14, HO_447002, HO_448002, HO_453001, HO_460002, HO_466001, HO_473002, HO_479001, BK446, BK447, BK452, BK459, BK465, BK472, BK478, HB⟩ := hcut
       cases kq with
       | zero => exact absurd HA.out (by simp [steeplelaw03_PackRises.j1])
       | succ kj14 =>
        have H := HA.out
        clear HA
        simp only [steeplelaw03_PackRises.j1] at H
        by_cases c243 : t471 = 0
        ·rw [if_pos c243] at H
         have c243b0 : (t471 == 0) = true := beq_iff_eq.mpr c243
         have c243b1 : (t471 != 0) = false := bne_eq_false_iff_eq.mpr c243
         clear c243
         replace H := Option.bind_eq_some_iff.mp H
         obtain ⟨⟨t527, t528, t529, t532⟩, A2440, H⟩ := H
         replace H : ((steeplelaw03_awake.f kj14).bind fun t534 => (if t534 = true then (if t532 = 0 then ((steeplelaw03_same.f kj14 t527 t528 t529 a0_0 t449).bind fun t535 => (some t535)) else (none)) else (none))) = some r := H
         have A244 := Aside0.mk A2440
         clear A2440
         replace H := Option.bind_eq_some_iff.mp H
         obtain ⟨t534, A2450, H⟩ := H
         replace H : (if t534 = true then (if t532 = 0 then ((steeplelaw03_same.f kj14 t527 t528 t529 a0_0 t449).bind fun t535 => (some t535)) else (none)) else (none)) = some r := H
         have A245 := Aside0.mk A2450
         clear A2450
         by_cases c246 : t534 = true
         ·subst c246
          have H1 : (if t532 = 0 then ((steeplelaw03_same.f kj14 t527 t528 t529 a0_0 t449).bind fun t535 => (some t535)) else (none)) = some r := by rw [if_pos rfl] at H; exact H
          clear H
          have H := H1
          clear H1
          by_cases c247 : t532 = 0
          ·rw [if_pos c247] at H
           have c247b0 : (t532 == 0) = true := beq_iff_eq.mpr c247
           have c247b1 : (t532 != 0) = false := bne_eq_false_iff_eq.mpr c247
           clear c247
           replace H := Option.bind_eq_some_iff.mp H
           obtain ⟨t535, A2480, H⟩ := H
           replace H : (some t535) = some r := H
           have A248 := Aside0.mk A2480
           clear A2480
           obtain rfl := Option.some.inj H
           have hnb251 := NB472_452.out
           have hnc251 := NB452_472.out
           obtain ⟨hcz255_0, hcz255_1, hcz255_2⟩ := zc3 BK472
           obtain ⟨hfz255_0, hfz255_1, hfz255_2⟩ := zf3 BK472
           go_wp2_with (first | ((with_reducible refine gate_callee (f := 17) rfl ?_); refine goesL_ (some 144) rfl rfl Try.func17 (by kernel_rfl) rfl #[.agg #[.int .i64 t466, .int .i64 t467, .slice Ao69 t468.length co69]] rfl (by (try simp only [List.map_toArray, List.map_cons, List.map_nil]); first | done | rfl | (simp only [List.length_drop, List.length_take]; rfl)) ?_; (with_reducible refine (pack_Rise.calls kj14 t466 t467 _ _ t468 t527 t528 t529 t532 _ ?side1 ?side2 A244.out).mono ?_); (case side1 => repeat (first | exact (Kd.R_reads' HO_473002.out).2.2 | (with_reducible refine Kd.C_alloc ?_ _) | (with_reducible refine Kd.C_drewN ?_ _) | (with_reducible refine Kd.C_drew ?_))); (case side2 => exact (Kd.R_reads' HO_473002.out).2.1); rintro e w256 ⟨v530, rfl, ho0, hb⟩; refine ⟨_, rfl, ?_⟩; have HO531 := Aside0.mk (Kd.R_lower (Kd.R_new' (Kd.R_new' (Kd.R_new' (Kd.R_new' ho0 (Kd.R_lt (kr HO_447002.out))) (Kd.R_lt (kr HO_448002.out))) (Kd.R_lt (kr HO_460002.out))) (Kd.R_lt (kr HO_473002.out))) (below_size (bq HB.out))); replace HO_447002 := Aside0.mk (Kd.R_elder' (kr HO_447002.out) (Kd.R_base ho0) hb); replace HO_448002 := Aside0.mk (Kd.R_elder' (kr HO_448002.out) (Kd.R_base ho0) hb); replace HO_453001 := kb HO_453001 hb; replace HO_460002 := Aside0.mk (Kd.R_elder' (kr HO_460002.out) (Kd.R_base ho0) hb); replace HO_466001 := kb HO_466001 hb; replace HO_473002 := Aside0.mk (Kd.R_elder' (kr HO_473002.out) (Kd.R_base ho0) hb); replace HO_479001 := kb HO_479001 hb; replace BK446 := bb BK446 hb; replace BK447 := bb BK447 hb; replace BK452 := bb BK452 hb; replace BK459 := bb BK459 hb; replace BK465 := bb BK465 hb; replace BK472 := bb BK472 hb; replace BK478 := bb BK478 hb; replace HB := bh HB hb; (try clear hb); (try clear hb2); (try clear hk); (try clear hi); (try clear ho0)) | ((with_reducible refine gate_dst (N := 25) rfl ?_); refine box_event ?hg (N := 25) ?hd (cs := #[.int .i64 0, .int .i64 0, .slice none 0 0]) (t := 31) ?hr ?_; (case hd => rfl); (case hg => rfl); (case hr => first | (go_simp; done) | (go_simp; rfl)); intro gb533 hg w257 hbox hb; have BK533 := Aside0.mk hbox; have GW533 := ge hg HB; have GE533 := ge hg HB; have NB446_533 := nl hg BK446; have NB533_446 := ng hg BK446; have NB447_533 := nl hg BK447; have NB533_447 := ng hg BK447; have NB452_533 := nl hg BK452; have NB533_452 := ng hg BK452; have NB459_533 := nl hg BK459; have NB533_459 := ng hg BK459; have NB465_533 := nl hg BK465; have NB533_465 := ng hg BK465; have NB472_533 := nl hg BK472; have NB533_472 := ng hg BK472; have NB478_533 := nl hg BK478; have NB533_478 := ng hg BK478; replace HO_447002 := kb HO_447002 hb; replace HO_448002 := kb HO_448002 hb; replace HO_453001 := kb HO_453001 hb; replace HO_460002 := kb HO_460002 hb; replace HO_466001 := kb HO_466001 hb; replace HO_473002 := kb HO_473002 hb; replace HO_479001 := kb HO_479001 hb; replace HO531 := kb HO531 hb; replace BK446 := bb BK446 hb; replace BK447 := bb BK447 hb; replace BK452 := bb BK452 hb; replace BK459 := bb BK459 hb; replace BK465 := bb BK465 hb; replace BK472 := bb BK472 hb; replace BK478 := bb BK478 hb; replace HB := bh HB hb; clear hb hbox hg; have hnb260 := NB533_452.out; have hnc260 := NB452_533.out; have hnb263 := NB533_472.out; have hnc263 := NB472_533.out; obtain ⟨hcz265_0, hcz265_1, hcz265_2⟩ := zc3 BK533; obtain ⟨hfz265_0, hfz265_1, hfz265_2⟩ := zf3 BK533; obtain ⟨Ao266, co266, eo266⟩ := Kd.R_slice HO531.out; subst eo266) | ((with_reducible refine gate_callee (f := 8) rfl ?_); refine goesL_ (some 147) rfl rfl Try.func8 (by kernel_rfl) rfl #[] rfl (by (try simp only [List.map_toArray, List.map_cons, List.map_nil]); first | done | rfl | (simp only [List.length_drop, List.length_take]; rfl)) ?_; (with_reducible refine (steeplelaw03_awake.calls kj14  true _ A245.out).mono ?_); rintro e w267 ⟨rfl, hb⟩; refine ⟨_, rfl, ?_⟩; replace HO_447002 := Aside0.mk (Kd.R_below (by (with_reducible repeat refine kl ?_); exact (kf3 HO_447002 BK533 (by decide))) hb); replace HO_448002 := Aside0.mk (Kd.R_below (by (with_reducible repeat refine kl ?_); exact (kf3 HO_448002 BK533 (by decide))) hb); replace HO_453001 := Aside0.mk (Kd.R_below (by (with_reducible repeat refine kl ?_); exact (kf3 HO_453001 BK533 (by decide))) hb); replace HO_460002 := Aside0.mk (Kd.R_below (by (with_reducible repeat refine kl ?_); exact (kf3 HO_460002 BK533 (by decide))) hb); replace HO_466001 := Aside0.mk (Kd.R_below (by (with_reducible repeat refine kl ?_); exact (kf3 HO_466001 BK533 (by decide))) hb); replace HO_473002 := Aside0.mk (Kd.R_below (by (with_reducible repeat refine kl ?_); exact (kf3 HO_473002 BK533 (by decide))) hb); replace HO_479001 := Aside0.mk (Kd.R_below (by (with_reducible repeat refine kl ?_); exact (kf3 HO_479001 BK533 (by decide))) hb); replace HO531 := Aside0.mk (Kd.R_below (by (with_reducible repeat refine kl ?_); exact (kf3 HO531 BK533 (by decide))) hb); replace BK446 := Aside0.mk (blk_below (g := gb446) (o := .cells #[.int .i64 t435, .int .i64 t436, .slice Ao24 t437.length co24] 31 (0, 0)) (by (with_reducible repeat refine bl ?_); refine blk_far ?_ NB446_533.out _; (with_reducible repeat refine bl ?_); refine blk_far ?_ NB446_533.out _; (with_reducible repeat refine bl ?_); refine blk_far ?_ NB446_533.out _; (with_reducible repeat refine bl ?_); exact BK446.out) hb); replace BK447 := Aside0.mk (blk_below (g := gb447) (o := .cells #[.int .i64 t440, .int .i64 t441, .slice Ao27 t442.length co27] 31 (0, 0)) (by (with_reducible repeat refine bl ?_); refine blk_far ?_ NB447_533.out _; (with_reducible repeat refine bl ?_); refine blk_far ?_ NB447_533.out _; (with_reducible repeat refine bl ?_); refine blk_far ?_ NB447_533.out _; (with_reducible repeat refine bl ?_); exact BK447.out) hb); replace BK452 := Aside0.mk (blk_below (g := gb452) (o := .cells #[.int .i64 a0_0, .slice Ao34 t449.length co34] 37 (0, 0)) (by (with_reducible repeat refine bl ?_); refine blk_far ?_ NB452_533.out _; (with_reducible repeat refine bl ?_); refine blk_far ?_ NB452_533.out _; (with_reducible repeat refine bl ?_); refine blk_far ?_ NB452_533.out _; (with_reducible repeat refine bl ?_); exact BK452.out) hb); replace BK459 := Aside0.mk (blk_below (g := gb459) (o := .cells #[.int .i64 t453, .int .i64 t454, .slice Ao46 t455.length co46] 31 (0, 0)) (by (with_reducible repeat refine bl ?_); refine blk_far ?_ NB459_533.out _; (with_reducible repeat refine bl ?_); refine blk_far ?_ NB459_533.out _; (with_reducible repeat refine bl ?_); refine blk_far ?_ NB459_533.out _; (with_reducible repeat refine bl ?_); exact BK459.out) hb); replace BK465 := Aside0.mk (blk_below (g := gb465) (o := .cells #[.int .i64 t460, .slice Ao58 t461.length co58] 37 (0, 0)) (by (with_reducible repeat refine bl ?_); refine blk_far ?_ NB465_533.out _; (with_reducible repeat refine bl ?_); refine blk_far ?_ NB465_533.out _; (with_reducible repeat refine bl ?_); refine blk_far ?_ NB465_533.out _; (with_reducible repeat refine bl ?_); exact BK465.out) hb); replace BK472 := Aside0.mk (blk_below (g := gb472) (o := .cells #[.int .i64 t466, .int .i64 t467, .slice Ao69 t468.length co69] 31 (0, 0)) (by (with_reducible repeat refine bl ?_); refine blk_far ?_ NB472_533.out _; (with_reducible repeat refine bl ?_); refine blk_far ?_ NB472_533.out _; (with_reducible repeat refine bl ?_); refine blk_far ?_ NB472_533.out _; (with_reducible repeat refine bl ?_); exact BK472.out) hb); replace BK478 := Aside0.mk (blk_below (g := gb478) (o := .cells #[.int .i64 t473, .slice Ao81 t474.length co81] 37 (0, 0)) (by (with_reducible repeat refine bl ?_); refine blk_far ?_ NB478_533.out _; (with_reducible repeat refine bl ?_); refine blk_far ?_ NB478_533.out _; (with_reducible repeat refine bl ?_); refine blk_far ?_ NB478_533.out _; (with_reducible repeat refine bl ?_); exact BK478.out) hb); replace BK533 := Aside0.mk (blk_below (g := gb533) (o := .cells #[.int .i64 t527, .int .i64 t528, .slice Ao266 t529.length co266] 31 (0, 0)) (by (with_reducible repeat refine bl ?_); refine blk_put (cs := #[.int .i64 t527, .int .i64 t528, .slice none 0 0]) ?_ 2 _ rfl; (with_reducible repeat refine bl ?_); refine blk_put (cs := #[.int .i64 t527, .int .i64 0, .slice none 0 0]) ?_ 1 _ rfl; (with_reducible repeat refine bl ?_); refine blk_put (cs := #[.int .i64 0, .int .i64 0, .slice none 0 0]) ?_ 0 _ rfl; (with_reducible repeat refine bl ?_); exact BK533.out) hb); replace HB := bh HB hb; (try clear hb); (try clear hb2); (try clear hk); (try clear hi); obtain ⟨hcz268_0, hcz268_1, hcz268_2⟩ := zc3 BK533; obtain ⟨hfz268_0, hfz268_1, hfz268_2⟩ := zf3 BK533; obtain ⟨hcz274_0, hcz274_1⟩ := zc2 BK452; obtain ⟨hfz274_0, hfz274_1⟩ := zf2 BK452) | (go_at_call 12; (with_reducible refine (steeplelaw03_same.calls kj14 t527 t528 _ _ t529 a0_0 _ _ t449 t535 _ ?side1 ?side2 ?side3 ?side4 A248.out).mono ?_); (case side1 => repeat (first | exact (Kd.R_reads' HO531.out).2.2 | (with_reducible refine Kd.C_alloc ?_ _) | (with_reducible refine Kd.C_drewN ?_ _) | (with_reducible refine Kd.C_drew ?_))); (case side2 => exact (Kd.R_reads' HO531.out).2.1); (case side3 => repeat (first | exact (Kd.R_reads' HO_453001.out).2.2 | (with_reducible refine Kd.C_alloc ?_ _) | (with_reducible refine Kd.C_drewN ?_ _) | (with_reducible refine Kd.C_drew ?_))); (case side4 => exact (Kd.R_reads' HO_453001.out).2.1); rintro e w275 ⟨rfl, hb⟩; replace HO_447002 := kb HO_447002 hb; replace HO_448002 := kb HO_448002 hb; replace HO_453001 := kb HO_453001 hb; replace HO_460002 := kb HO_460002 hb; replace HO_466001 := kb HO_466001 hb; replace HO_473002 := kb HO_473002 hb; replace HO_479001 := kb HO_479001 hb; replace HO531 := kb HO531 hb; replace BK446 := bb BK446 hb; replace BK447 := bb BK447 hb; replace BK452 := bb BK452 hb; replace BK459 := bb BK459 hb; replace BK465 := bb BK465 hb; replace BK472 := bb BK472 hb; replace BK478 := bb BK478 hb; replace BK533 := bb BK533 hb; replace HB := bh HB hb; (try clear hb); (try clear hb2); (try clear hk); (try clear hi)))
           go_ret
           exact ⟨by first | rfl | (simp [errW_none, errW_some] <;> rfl) | (simp [*, errW_none, errW_some] <;> rfl), bq HB.out⟩
          ·rw [if_neg c247] at H
           exact absurd H (by simp)
         ·replace c246 := Bool.eq_false_iff.mpr c246
          subst c246
          have H1 : (none) = some r := by rw [if_neg (show ¬ (false = true) by decide)] at H; exact H
          clear H
          have H := H1
          clear H1
          exact absurd H (by simp)
        ·rw [if_neg c243] at H
         have c243b0 : (t471 == 0) = false := beq_eq_false_iff_ne.mpr c243
         have c243b1 : (t471 != 0) = true := bne_iff_ne.mpr c243
         replace H := Option.bind_eq_some_iff.mp H
         obtain ⟨t536, A2760, H⟩ := H
         replace H : (some t536) = some r := H
         have A276 := Aside0.mk A2760
         clear A2760
         obtain rfl := Option.some.inj H
         go_wp2_with (first | ((with_reducible refine gate_callee (f := 8) rfl ?_); refine goesL_ (some 157) rfl rfl Try.func8 (by kernel_rfl) rfl #[] rfl (by (try simp only [List.map_toArray, List.map_cons, List.map_nil]); first | done | rfl | (simp only [List.length_drop, List.length_take]; rfl)) ?_; (with_reducible refine (steeplelaw03_awake.calls kj14  t536 _ A276.out).mono ?_); rintro e w277 ⟨rfl, hb⟩; refine ⟨_, rfl, ?_⟩; replace HO_447002 := kb HO_447002 hb; replace HO_448002 := kb HO_448002 hb; replace HO_453001 := kb HO_453001 hb; replace HO_460002 := kb HO_460002 hb; replace HO_466001 := kb HO_466001 hb; replace HO_473002 := kb HO_473002 hb; replace HO_479001 := kb HO_479001 hb; replace BK446 := bb BK446 hb; replace BK447 := bb BK447 hb; replace BK452 := bb BK452 hb; replace BK459 := bb BK459 hb; replace BK465 := bb BK465 hb; replace BK472 := bb BK472 hb; replace BK478 := bb BK478 hb; replace HB := bh HB hb; (try clear hb); (try clear hb2); (try clear hk); (try clear hi)))
         go_ret
         exact ⟨by first | rfl | (simp [errW_none, errW_some] <;> rfl) | (simp [*, errW_none, errW_some] <;> rfl), bq HB.out⟩
     ·replace c14 := Bool.eq_false_iff.mpr c14
      subst c14
      have H1 : (none) = some r := by rw [if_neg (show ¬ (false = true) by decide)] at H; exact H
      clear H
      have H := H1
      clear H1
      exact absurd H (by simp)
    ·rw [if_neg c12] at H
     exact absurd H (by simp)
   ·replace c11 := Bool.eq_false_iff.mpr c11
    subst c11
    have H1 : (none) = some r := by rw [if_neg (show ¬ (false = true) by decide)] at H; exact H
    clear H
    have H := H1
    clear H1
    exact absurd H (by simp)
  ·rw [if_neg c9] at H
   exact absurd H (by simp)
 ·replace c3 := Bool.eq_false_iff.mpr c3
  subst c3
  have H1 : ((steeplelaw03_awake.f k).bind fun t448 => (some t448)) = some r := by rw [if_neg (show ¬ (false = true) by decide)] at H; exact H
  clear H
  have H := H1
  clear H1
  replace H := Option.bind_eq_some_iff.mp H
  obtain ⟨t448, A2780, H⟩ := H
  replace H : (some t448) = some r := H
  have A278 := Aside0.mk A2780
  clear A2780
  obtain rfl := Option.some.inj H
  go_enter Try.func4, Try.ntmps4
  go_wp2_with (first | ((with_reducible refine gate_dst (N := 1) rfl ?_); refine box_event ?hg (N := 1) ?hd (cs := #[.int .i64 a0_0, .int .i64 a0_1, .slice A0_2 l0_2.length c0_2, .slice A0_3 l0_3.length c0_3]) (t := 49) ?hr ?_; (case hd => rfl); (case hg => rfl); (case hr => first | (go_simp; done) | (go_simp; rfl)); intro gb434 hg w279 hbox hb; have BK434 := Aside0.mk hbox; have GW434 := ge hg HB; have GE434 := ge hg HB; replace HB := bh HB hb; clear hb hbox hg; obtain ⟨hcz280_0, hcz280_1, hcz280_2, hcz280_3⟩ := zc4 BK434; obtain ⟨hfz280_0, hfz280_1, hfz280_2, hfz280_3⟩ := zf4 BK434) | ((with_reducible refine gate_callee (f := 16) rfl ?_); refine goesL_ (some 29) rfl rfl Try.func16 (by kernel_rfl) rfl #[.agg #[.int .i64 a0_0, .int .i64 a0_1, .slice A0_2 l0_2.length c0_2, .slice A0_3 l0_3.length c0_3]] rfl (by (try simp only [List.map_toArray, List.map_cons, List.map_nil]); first | done | rfl | (simp only [List.length_drop, List.length_take]; rfl)) ?_; (with_reducible refine (steeplelaw03_Pair_made.calls k a0_0 a0_1 _ _ l0_2 _ _ l0_3 t435 t436 t437 t440 t441 t442 false _ ?side1 ?side2 ?side3 ?side4 A2.out).mono ?_); (case side1 => repeat (first | exact (Kd.C_below HR0_2.out HB.out) | (with_reducible refine Kd.C_alloc ?_ _) | (with_reducible refine Kd.C_drewN ?_ _) | (with_reducible refine Kd.C_drew ?_))); (case side2 => exact HC0_2.out); (case side3 => repeat (first | exact (Kd.C_below HR0_3.out HB.out) | (with_reducible refine Kd.C_alloc ?_ _) | (with_reducible refine Kd.C_drewN ?_ _) | (with_reducible refine Kd.C_drew ?_))); (case side4 => exact HC0_3.out); rintro e w281 ⟨v438, v443, rfl, ho0, ho1, hb⟩; refine ⟨_, rfl, ?_⟩; have HO439 := kw ho0 HB; have HO444 := kw ho1 HB; replace BK434 := bb BK434 hb; replace HB := bh HB hb; (try clear hb); (try clear hb2); (try clear hk); (try clear hi); (try clear ho0); (try clear ho1)) | ((with_reducible refine gate_dst (N := 3) rfl ?_); refine box_event ?hg (N := 3) ?hd (cs := #[.int .i64 0, .int .i64 0, .slice none 0 0]) (t := 31) ?hr ?_; (case hd => rfl); (case hg => rfl); (case hr => first | (go_simp; done) | (go_simp; rfl)); intro gb446 hg w282 hbox hb; have BK446 := Aside0.mk hbox; have GW446 := ge hg HB; have GE446 := ge hg HB; have NB434_446 := nl hg BK434; have NB446_434 := ng hg BK434; replace HO439 := kb HO439 hb; replace HO444 := kb HO444 hb; replace BK434 := bb BK434 hb; replace HB := bh HB hb; clear hb hbox hg) | ((with_reducible refine gate_dst (N := 4) rfl ?_); refine box_event ?hg (N := 4) ?hd (cs := #[.int .i64 0, .int .i64 0, .slice none 0 0]) (t := 31) ?hr ?_; (case hd => rfl); (case hg => rfl); (case hr => first | (go_simp; done) | (go_simp; rfl)); intro gb447 hg w283 hbox hb; have BK447 := Aside0.mk hbox; have GW447 := ge hg HB; have GE447 := ge hg HB; have NB434_447 := nl hg BK434; have NB447_434 := ng hg BK434; have NB446_447 := nl hg BK446; have NB447_446 := ng hg BK446; replace HO439 := kb HO439 hb; replace HO444 := kb HO444 hb; replace BK434 := bb BK434 hb; replace BK446 := bb BK446 hb; replace HB := bh HB hb; clear hb hbox hg; have hnb284 := NB446_434.out; have hnc284 := NB434_446.out; have hnb285 := NB446_447.out; have hnc285 := NB447_446.out; obtain ⟨hcz286_0, hcz286_1, hcz286_2⟩ := zc3 BK446; obtain ⟨hfz286_0, hfz286_1, hfz286_2⟩ := zf3 BK446; obtain ⟨Ao287, co287, eo287⟩ := Kd.R_slice HO439.out; subst eo287; have hnb288 := NB447_434.out; have hnc288 := NB434_447.out; obtain ⟨hcz289_0, hcz289_1, hcz289_2⟩ := zc3 BK447; obtain ⟨hfz289_0, hfz289_1, hfz289_2⟩ := zf3 BK447; obtain ⟨Ao290, co290, eo290⟩ := Kd.R_slice HO444.out; subst eo290) | ((with_reducible refine gate_callee (f := 8) rfl ?_); refine goesL_ (some 35) rfl rfl Try.func8 (by kernel_rfl) rfl #[] rfl (by (try simp only [List.map_toArray, List.map_cons, List.map_nil]); first | done | rfl | (simp only [List.length_drop, List.length_take]; rfl)) ?_; (with_reducible refine (steeplelaw03_awake.calls k  t448 _ A278.out).mono ?_); rintro e w291 ⟨rfl, hb⟩; refine ⟨_, rfl, ?_⟩; replace HO439 := Aside0.mk (Kd.R_below (by (with_reducible repeat refine kl ?_); exact (Kd.R_mono (Kd.R_mono (Kd.R_far (p := ⟨gb447, 2, none⟩) (Kd.R_far (p := ⟨gb447, 1, none⟩) (Kd.R_far (p := ⟨gb447, 0, none⟩) (Kd.R_far (p := ⟨gb446, 2, none⟩) (Kd.R_far (p := ⟨gb446, 1, none⟩) (Kd.R_far (p := ⟨gb446, 0, none⟩) (Kd.R_types (Kd.R_types HO439.out BK446.out (by decide)) BK447.out (by decide)) (fun _ hk => hk.1.2) (.int .i64 t435)) (fun _ hk => hk.1.2) (.int .i64 t436)) (fun _ hk => hk.1.2) (.slice Ao287 t437.length co287)) (fun _ hk => hk.2) (.int .i64 t440)) (fun _ hk => hk.2) (.int .i64 t441)) (fun _ hk => hk.2) (.slice Ao290 t442.length co290)) (fun _ h_ => h_.1)) (fun _ h_ => h_.1))) hb); replace HO444 := Aside0.mk (Kd.R_below (by (with_reducible repeat refine kl ?_); exact (Kd.R_mono (Kd.R_mono (Kd.R_far (p := ⟨gb447, 2, none⟩) (Kd.R_far (p := ⟨gb447, 1, none⟩) (Kd.R_far (p := ⟨gb447, 0, none⟩) (Kd.R_far (p := ⟨gb446, 2, none⟩) (Kd.R_far (p := ⟨gb446, 1, none⟩) (Kd.R_far (p := ⟨gb446, 0, none⟩) (Kd.R_types (Kd.R_types HO444.out BK446.out (by decide)) BK447.out (by decide)) (fun _ hk => hk.1.2) (.int .i64 t435)) (fun _ hk => hk.1.2) (.int .i64 t436)) (fun _ hk => hk.1.2) (.slice Ao287 t437.length co287)) (fun _ hk => hk.2) (.int .i64 t440)) (fun _ hk => hk.2) (.int .i64 t441)) (fun _ hk => hk.2) (.slice Ao290 t442.length co290)) (fun _ h_ => h_.1)) (fun _ h_ => h_.1))) hb); replace BK434 := Aside0.mk (blk_below (g := gb434) (o := .cells #[.int .i64 a0_0, .int .i64 a0_1, .slice A0_2 l0_2.length c0_2, .slice A0_3 l0_3.length c0_3] 49 (0, 0)) (by (with_reducible repeat refine bl ?_); refine blk_far ?_ NB434_447.out _; (with_reducible repeat refine bl ?_); refine blk_far ?_ NB434_447.out _; (with_reducible repeat refine bl ?_); refine blk_far ?_ NB434_447.out _; (with_reducible repeat refine bl ?_); refine blk_far ?_ NB434_446.out _; (with_reducible repeat refine bl ?_); refine blk_far ?_ NB434_446.out _; (with_reducible repeat refine bl ?_); refine blk_far ?_ NB434_446.out _; (with_reducible repeat refine bl ?_); exact BK434.out) hb); replace BK446 := Aside0.mk (blk_below (g := gb446) (o := .cells #[.int .i64 t435, .int .i64 t436, .slice Ao287 t437.length co287] 31 (0, 0)) (by (with_reducible repeat refine bl ?_); refine blk_far ?_ NB446_447.out _; (with_reducible repeat refine bl ?_); refine blk_far ?_ NB446_447.out _; (with_reducible repeat refine bl ?_); refine blk_far ?_ NB446_447.out _; (with_reducible repeat refine bl ?_); refine blk_put (cs := #[.int .i64 t435, .int .i64 t436, .slice none 0 0]) ?_ 2 _ rfl; (with_reducible repeat refine bl ?_); refine blk_put (cs := #[.int .i64 t435, .int .i64 0, .slice none 0 0]) ?_ 1 _ rfl; (with_reducible repeat refine bl ?_); refine blk_put (cs := #[.int .i64 0, .int .i64 0, .slice none 0 0]) ?_ 0 _ rfl; (with_reducible repeat refine bl ?_); exact BK446.out) hb); replace BK447 := Aside0.mk (blk_below (g := gb447) (o := .cells #[.int .i64 t440, .int .i64 t441, .slice Ao290 t442.length co290] 31 (0, 0)) (by (with_reducible repeat refine bl ?_); refine blk_put (cs := #[.int .i64 t440, .int .i64 t441, .slice none 0 0]) ?_ 2 _ rfl; (with_reducible repeat refine bl ?_); refine blk_put (cs := #[.int .i64 t440, .int .i64 0, .slice none 0 0]) ?_ 1 _ rfl; (with_reducible repeat refine bl ?_); refine blk_put (cs := #[.int .i64 0, .int .i64 0, .slice none 0 0]) ?_ 0 _ rfl; (with_reducible repeat refine bl ?_); refine blk_far ?_ NB447_446.out _; (with_reducible repeat refine bl ?_); refine blk_far ?_ NB447_446.out _; (with_reducible repeat refine bl ?_); refine blk_far ?_ NB447_446.out _; (with_reducible repeat refine bl ?_); exact BK447.out) hb); replace HB := bh HB hb; (try clear hb); (try clear hb2); (try clear hk); (try clear hi)))
  go_ret
  exact ⟨by first | rfl | (simp [errW_none, errW_some] <;> rfl) | (simp [*, errW_none, errW_some] <;> rfl), bq HB.out⟩

/-- THE ONE PURE STATEMENT of steeplelaw03_PackRises. -/
def steeplelaw03_PackRises.Pure : Prop := ∀ (x0 : S49), ((Lit.int .i64 x0.f0).wf = true ∧ (Lit.int .i64 x0.f1).wf = true ∧ (x0.f2.length ≤ maxLen ∧ x0.f2.length * 16 ≤ 140737488351232 ∧ ∀ y0 ∈ x0.f2, ((Lit.int .u64 y0.f0).wf = true ∧ (Lit.int .u64 y0.f1).wf = true)) ∧ (x0.f3.length ≤ maxLen ∧ x0.f3.length * 16 ≤ 140737488351232 ∧ ∀ y0 ∈ x0.f3, ((Lit.int .u64 y0.f0).wf = true ∧ (Lit.int .u64 y0.f1).wf = true))) → ∃ k, steeplelaw03_PackRises.f k x0.f0 x0.f1 x0.f2 x0.f3 = some true

end Go.Proofs.Ytceneggampgboaa.P
