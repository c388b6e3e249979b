/- Written by a program of this session: functions that the law reaches, as Lean functions, and that the code comes to their answers. Conditions: those that each theorem names. -/
import Derived.Test.YthnaalocgoeddaaPx0
import Derived.Test.YthnaalocgoeddaaPx1
import Derived.Test.YthnaalocgoeddaaPx2
import Derived.Test.YthnaalocgoeddaaPx3
import Derived.Test.YthnaalocgoeddaaPx7
import Derived.Test.YthnaalocgoeddaaPx14
import Derived.Test.YthnaalocgoeddaaPx15
import Derived.Test.YthnaalocgoeddaaHLat
namespace Go.Proofs.Ythnaalocgoeddaa.P
open Go.RowKit Go.Proofs.YthnaalocgoeddaaX Go.Proofs.YthnaalocgoeddaaW.PrintWords Go.Proofs.YthnaalocgoeddaaW.PrintLast Go.Proofs.YthnaalocgoeddaaW.PrintMore
attribute [local go_sem] max2_int min2_int max_two min_two max_three min_three max_four min_four   -- for this text's walks alone
set_option linter.unusedVariables false
set_option linter.unusedSimpArgs false

attribute [local go_sem high] eqA28 eqA37
/-! ### steeplelaw17_LineBack: function 7 -/
mutual
def steeplelaw17_LineBack.j0 : Nat → Int → List (S28) → Int → Int → Int → Option (Bool)
 | 0, _, _, _, _, _ => none
 | k + 1, x0, x1, x460000, x460001, x460002 => (line_Values.f k x0 x1 x460002).bind fun bt483 => (if x0 < 0 then (steeplelaw17_LineBack.j1 k x0 x1 bt483.1 bt483.2 0 true x460000 x460001 x460002) else (steeplelaw17_LineBack.j1 k x0 x1 bt483.1 bt483.2 0 (decide (x0 > 7)) x460000 x460001 x460002))
def steeplelaw17_LineBack.j1 : Nat → Int → List (S28) → List (S28) → Int → Int → Bool → Int → Int → Int → Option (Bool)
 | 0, _, _, _, _, _, _, _, _, _ => none
 | k + 1, x0, x1, x13, x14, x15, x94, x460000, x460001, x460002 => if x94 = true then (steeplelaw17_LineBack.j3 k x0 x1 x13 x14 1 x460000 x460001 x460002) else ((steepleref17_Fits.f x0 x460002).bind fun t487 => (if t487 = true then (if (x1.length : Int) = 0 then (steeplelaw17_LineBack.j2 k x0 x1 x13 x14 x15 true x460000 x460001 x460002) else (steeplelaw17_LineBack.j2 k x0 x1 x13 x14 x15 (decide ((wrap64 ((x1.length : Int) - 1)) > x460002)) x460000 x460001 x460002)) else (steeplelaw17_LineBack.j2 k x0 x1 x13 x14 x15 true x460000 x460001 x460002)))
def steeplelaw17_LineBack.j3 : Nat → Int → List (S28) → List (S28) → Int → Int → Int → Int → Int → Option (Bool)
 | 0, _, _, _, _, _, _, _, _ => none
 | k + 1, x0, x1, x13, x14, x15, x460000, x460001, x460002 => if x14 = x15 then (if x14 = 0 then ((line_Powers.f k x0 x13).bind fun bt493 => (if bt493.2 = 0 then (if (bt493.1.length : Int) = (wrap64 (x460002 + 1)) then (steeplelaw17_LineBack.l0 k x1 bt493.1 0) else (none)) else (none))) else ((steeplelaw17_awake.f k).bind fun t492 => (if t492 = true then (some ((x13.length : Int) == 0)) else (none)))) else (none)
def steeplelaw17_LineBack.l0 : Nat → List (S28) → List (S28) → Int → Option (Bool)
 | 0, _, _, _ => none
 | k + 1, x1, x16, x18 => if x18 < (x16.length : Int) then (if x18 < (x1.length : Int) then (if 0 ≤ x18 then (if (!(((rd_T28 x16 x18).f0) == ((rd_T28 x1 x18).f0)) || (!(((rd_T28 x16 x18).f1) == ((rd_T28 x1 x18).f1)))) = true then (none) else (if x18 ≥ (x1.length : Int) then (if (!(((rd_T28 x16 x18).f0) == 0) || (!(((rd_T28 x16 x18).f1) == 0))) = true then (none) else (steeplelaw17_LineBack.l0 k x1 x16 (wrap64 (x18 + 1)))) else (steeplelaw17_LineBack.l0 k x1 x16 (wrap64 (x18 + 1))))) else (none)) else (if x18 ≥ (x1.length : Int) then (if 0 ≤ x18 then (if (!(((rd_T28 x16 x18).f0) == 0) || (!(((rd_T28 x16 x18).f1) == 0))) = true then (none) else (steeplelaw17_LineBack.l0 k x1 x16 (wrap64 (x18 + 1)))) else (none)) else (steeplelaw17_LineBack.l0 k x1 x16 (wrap64 (x18 + 1))))) else ((steeplelaw17_awake.f k).bind fun t501 => (some t501))
def steeplelaw17_LineBack.j2 : Nat → Int → List (S28) → List (S28) → Int → Int → Bool → Int → Int → Int → Option (Bool)
 | 0, _, _, _, _, _, _, _, _, _ => none
 | k + 1, x0, x1, x13, x14, x15, x112, x460000, x460001, x460002 => if x112 = true then (steeplelaw17_LineBack.j3 k x0 x1 x13 x14 6 x460000 x460001 x460002) else ((steeplelaw01_Ref.f k x1).bind fun t488 => ((steepleref06_All.f k x0 t488).bind fun t491 => (if t491 = true then (steeplelaw17_LineBack.j3 k x0 x1 x13 x14 x15 x460000 x460001 x460002) else (steeplelaw17_LineBack.j3 k x0 x1 x13 x14 5 x460000 x460001 x460002))))
end
def steeplelaw17_LineBack.f (k : Nat) (a0 : Int) (l1 : List (S28)) (a2_0 : Int) (a2_1 : Int) (a2_2 : Int) : Option (Bool) := if (l1.length : Int) > 12 then ((steeplelaw17_awake.f k).bind fun t460 => (some t460)) else ((line_Powers.f k a0 l1).bind fun bt461 => ((steeplelaw17_may.f k a0 l1).bind fun t465 => (if bt461.2 = t465 then (if bt461.2 = 0 then ((line_Values.f k a0 bt461.1 (wrap64 ((l1.length : Int) - 1))).bind fun bt466 => (if bt466.2 = 0 then ((steeplelaw01_Ref.f k l1).bind fun t470 => ((steeplelaw01_Same.f k bt466.1 t470).bind fun t473 => (if t473 = true then (if (bt461.1.length : Int) = (l1.length : Int) then ((line_At.f k a0 l1 a2_0 a2_1).bind fun bt474 => (if bt474.2.2 = 0 then ((steeplelaw01_Ref.f k bt461.1).bind fun t478 => ((steepleref06_At.f k a0 t478 a2_0 a2_1).bind fun bt481 => (if (!(bt474.1 == bt481.1) || (!(bt474.2.1 == bt481.2))) = true then (none) else (steeplelaw17_LineBack.j0 k a0 l1 a2_0 a2_1 a2_2)))) else (steeplelaw17_LineBack.j0 k a0 l1 a2_0 a2_1 a2_2))) else (none)) else (none)))) else (none))) else (steeplelaw17_LineBack.j0 k a0 l1 a2_0 a2_1 a2_2)) else (none))))
theorem steeplelaw17_LineBack.mono_l : ∀ k, (∀ y0 y1 y2 y3 y4, LeO (steeplelaw17_LineBack.j0 k y0 y1 y2 y3 y4) (steeplelaw17_LineBack.j0 (k + 1) y0 y1 y2 y3 y4)) ∧ (∀ y0 y1 y2 y3 y4 y5 y6 y7 y8, LeO (steeplelaw17_LineBack.j1 k y0 y1 y2 y3 y4 y5 y6 y7 y8) (steeplelaw17_LineBack.j1 (k + 1) y0 y1 y2 y3 y4 y5 y6 y7 y8)) ∧ (∀ y0 y1 y2 y3 y4 y5 y6 y7, LeO (steeplelaw17_LineBack.j3 k y0 y1 y2 y3 y4 y5 y6 y7) (steeplelaw17_LineBack.j3 (k + 1) y0 y1 y2 y3 y4 y5 y6 y7)) ∧ (∀ y0 y1 y2, LeO (steeplelaw17_LineBack.l0 k y0 y1 y2) (steeplelaw17_LineBack.l0 (k + 1) y0 y1 y2)) ∧ (∀ y0 y1 y2 y3 y4 y5 y6 y7 y8, LeO (steeplelaw17_LineBack.j2 k y0 y1 y2 y3 y4 y5 y6 y7 y8) (steeplelaw17_LineBack.j2 (k + 1) y0 y1 y2 y3 y4 y5 y6 y7 y8))
 | 0 => ⟨fun _ _ _ _ _ r h => by simp [steeplelaw17_LineBack.j0] at h, fun _ _ _ _ _ _ _ _ _ r h => by simp [steeplelaw17_LineBack.j1] at h, fun _ _ _ _ _ _ _ _ r h => by simp [steeplelaw17_LineBack.j3] at h, fun _ _ _ r h => by simp [steeplelaw17_LineBack.l0] at h, fun _ _ _ _ _ _ _ _ _ r h => by simp [steeplelaw17_LineBack.j2] at h⟩
 | k + 1 => by
  obtain ⟨ih0, ih1, ih2, ih3, ih4⟩ := steeplelaw17_LineBack.mono_l k
  refine ⟨?_, ?_, ?_, ?_, ?_⟩
  ·intro y0 y1 y2 y3 y4
   unfold steeplelaw17_LineBack.j0
   repeat' first
   | (with_reducible exact ih0 _ _ _ _ _)
   | (with_reducible exact ih1 _ _ _ _ _ _ _ _ _)
   | (with_reducible exact ih2 _ _ _ _ _ _ _ _)
   | (with_reducible exact ih3 _ _ _)
   | (with_reducible exact ih4 _ _ _ _ _ _ _ _ _)
   | (with_reducible exact line_At.mono _ _ _ _ _)
   | (with_reducible exact line_Powers.mono _ _ _)
   | (with_reducible exact line_Values.mono _ _ _ _)
   | (with_reducible exact steeplelaw01_Ref.mono _ _)
   | (with_reducible exact steeplelaw01_Same.mono _ _ _)
   | (with_reducible exact steeplelaw17_awake.mono _)
   | (with_reducible exact steeplelaw17_may.mono _ _ _)
   | (with_reducible exact steepleref06_All.mono _ _ _)
   | (with_reducible exact steepleref06_At.mono _ _ _ _ _)
   | (with_reducible exact LeO.refl _)
   | (with_reducible exact LeO.none _)
   | (with_reducible refine LeO.ite ?_ ?_)
   | (with_reducible refine LeO.bind ?_ (fun _ => ?_))
   | exact ih0 _ _ _ _ _
   | exact ih1 _ _ _ _ _ _ _ _ _
   | exact ih2 _ _ _ _ _ _ _ _
   | exact ih3 _ _ _
   | exact ih4 _ _ _ _ _ _ _ _ _
   | exact line_At.mono _ _ _ _ _
   | exact line_Powers.mono _ _ _
   | exact line_Values.mono _ _ _ _
   | exact steeplelaw01_Ref.mono _ _
   | exact steeplelaw01_Same.mono _ _ _
   | exact steeplelaw17_awake.mono _
   | exact steeplelaw17_may.mono _ _ _
   | exact steepleref06_All.mono _ _ _
   | exact steepleref06_At.mono _ _ _ _ _
   | exact LeO.none _
   | refine LeO.ite ?_ ?_
   | refine LeO.bind ?_ (fun _ => ?_)
  ·intro y0 y1 y2 y3 y4 y5 y6 y7 y8
   unfold steeplelaw17_LineBack.j1
   repeat' first
   | (with_reducible exact ih0 _ _ _ _ _)
   | (with_reducible exact ih1 _ _ _ _ _ _ _ _ _)
   | (with_reducible exact ih2 _ _ _ _ _ _ _ _)
   | (with_reducible exact ih3 _ _ _)
   | (with_reducible exact ih4 _ _ _ _ _ _ _ _ _)
   | (with_reducible exact line_At.mono _ _ _ _ _)
   | (with_reducible exact line_Powers.mono _ _ _)
   | (with_reducible exact line_Values.mono _ _ _ _)
   | (with_reducible exact steeplelaw01_Ref.mono _ _)
   | (with_reducible exact steeplelaw01_Same.mono _ _ _)
   | (with_reducible exact steeplelaw17_awake.mono _)
   | (with_reducible exact steeplelaw17_may.mono _ _ _)
   | (with_reducible exact steepleref06_All.mono _ _ _)
   | (with_reducible exact steepleref06_At.mono _ _ _ _ _)
   | (with_reducible exact LeO.refl _)
   | (with_reducible exact LeO.none _)
   | (with_reducible refine LeO.ite ?_ ?_)
   | (with_reducible refine LeO.bind ?_ (fun _ => ?_))
   | exact ih0 _ _ _ _ _
   | exact ih1 _ _ _ _ _ _ _ _ _
   | exact ih2 _ _ _ _ _ _ _ _
   | exact ih3 _ _ _
   | exact ih4 _ _ _ _ _ _ _ _ _
   | exact line_At.mono _ _ _ _ _
   | exact line_Powers.mono _ _ _
   | exact line_Values.mono _ _ _ _
   | exact steeplelaw01_Ref.mono _ _
   | exact steeplelaw01_Same.mono _ _ _
   | exact steeplelaw17_awake.mono _
   | exact steeplelaw17_may.mono _ _ _
   | exact steepleref06_All.mono _ _ _
   | exact steepleref06_At.mono _ _ _ _ _
   | exact LeO.none _
   | refine LeO.ite ?_ ?_
   | refine LeO.bind ?_ (fun _ => ?_)
  ·intro y0 y1 y2 y3 y4 y5 y6 y7
   unfold steeplelaw17_LineBack.j3
   repeat' first
   | (with_reducible exact ih0 _ _ _ _ _)
   | (with_reducible exact ih1 _ _ _ _ _ _ _ _ _)
   | (with_reducible exact ih2 _ _ _ _ _ _ _ _)
   | (with_reducible exact ih3 _ _ _)
   | (with_reducible exact ih4 _ _ _ _ _ _ _ _ _)
   | (with_reducible exact line_At.mono _ _ _ _ _)
   | (with_reducible exact line_Powers.mono _ _ _)
   | (with_reducible exact line_Values.mono _ _ _ _)
   | (with_reducible exact steeplelaw01_Ref.mono _ _)
   | (with_reducible exact steeplelaw01_Same.mono _ _ _)
   | (with_reducible exact steeplelaw17_awake.mono _)
   | (with_reducible exact steeplelaw17_may.mono _ _ _)
   | (with_reducible exact steepleref06_All.mono _ _ _)
   | (with_reducible exact steepleref06_At.mono _ _ _ _ _)
   | (with_reducible exact LeO.refl _)
   | (with_reducible exact LeO.none _)
   | (with_reducible refine LeO.ite ?_ ?_)
   | (with_reducible refine LeO.bind ?_ (fun _ => ?_))
   | exact ih0 _ _ _ _ _
   | exact ih1 _ _ _ _ _ _ _ _ _
   | exact ih2 _ _ _ _ _ _ _ _
   | exact ih3 _ _ _
   | exact ih4 _ _ _ _ _ _ _ _ _
   | exact line_At.mono _ _ _ _ _
   | exact line_Powers.mono _ _ _
   | exact line_Values.mono _ _ _ _
   | exact steeplelaw01_Ref.mono _ _
   | exact steeplelaw01_Same.mono _ _ _
   | exact steeplelaw17_awake.mono _
   | exact steeplelaw17_may.mono _ _ _
   | exact steepleref06_All.mono _ _ _
   | exact steepleref06_At.mono _ _ _ _ _
   | exact LeO.none _
   | refine LeO.ite ?_ ?_
   | refine LeO.bind ?_ (fun _ => ?_)
  ·intro y0 y1 y2
   unfold steeplelaw17_LineBack.l0
   repeat' first
   | (with_reducible exact ih0 _ _ _ _ _)
   | (with_reducible exact ih1 _ _ _ _ _ _ _ _ _)
   | (with_reducible exact ih2 _ _ _ _ _ _ _ _)
   | (with_reducible exact ih3 _ _ _)
   | (with_reducible exact ih4 _ _ _ _ _ _ _ _ _)
   | (with_reducible exact line_At.mono _ _ _ _ _)
   | (with_reducible exact line_Powers.mono _ _ _)
   | (with_reducible exact line_Values.mono _ _ _ _)
   | (with_reducible exact steeplelaw01_Ref.mono _ _)
   | (with_reducible exact steeplelaw01_Same.mono _ _ _)
   | (with_reducible exact steeplelaw17_awake.mono _)
   | (with_reducible exact steeplelaw17_may.mono _ _ _)
   | (with_reducible exact steepleref06_All.mono _ _ _)
   | (with_reducible exact steepleref06_At.mono _ _ _ _ _)
   | (with_reducible exact LeO.refl _)
   | (with_reducible exact LeO.none _)
   | (with_reducible refine LeO.ite ?_ ?_)
   | (with_reducible refine LeO.bind ?_ (fun _ => ?_))
   | exact ih0 _ _ _ _ _
   | exact ih1 _ _ _ _ _ _ _ _ _
   | exact ih2 _ _ _ _ _ _ _ _
   | exact ih3 _ _ _
   | exact ih4 _ _ _ _ _ _ _ _ _
   | exact line_At.mono _ _ _ _ _
   | exact line_Powers.mono _ _ _
   | exact line_Values.mono _ _ _ _
   | exact steeplelaw01_Ref.mono _ _
   | exact steeplelaw01_Same.mono _ _ _
   | exact steeplelaw17_awake.mono _
   | exact steeplelaw17_may.mono _ _ _
   | exact steepleref06_All.mono _ _ _
   | exact steepleref06_At.mono _ _ _ _ _
   | exact LeO.none _
   | refine LeO.ite ?_ ?_
   | refine LeO.bind ?_ (fun _ => ?_)
  ·intro y0 y1 y2 y3 y4 y5 y6 y7 y8
   unfold steeplelaw17_LineBack.j2
   repeat' first
   | (with_reducible exact ih0 _ _ _ _ _)
   | (with_reducible exact ih1 _ _ _ _ _ _ _ _ _)
   | (with_reducible exact ih2 _ _ _ _ _ _ _ _)
   | (with_reducible exact ih3 _ _ _)
   | (with_reducible exact ih4 _ _ _ _ _ _ _ _ _)
   | (with_reducible exact line_At.mono _ _ _ _ _)
   | (with_reducible exact line_Powers.mono _ _ _)
   | (with_reducible exact line_Values.mono _ _ _ _)
   | (with_reducible exact steeplelaw01_Ref.mono _ _)
   | (with_reducible exact steeplelaw01_Same.mono _ _ _)
   | (with_reducible exact steeplelaw17_awake.mono _)
   | (with_reducible exact steeplelaw17_may.mono _ _ _)
   | (with_reducible exact steepleref06_All.mono _ _ _)
   | (with_reducible exact steepleref06_At.mono _ _ _ _ _)
   | (with_reducible exact LeO.refl _)
   | (with_reducible exact LeO.none _)
   | (with_reducible refine LeO.ite ?_ ?_)
   | (with_reducible refine LeO.bind ?_ (fun _ => ?_))
   | exact ih0 _ _ _ _ _
   | exact ih1 _ _ _ _ _ _ _ _ _
   | exact ih2 _ _ _ _ _ _ _ _
   | exact ih3 _ _ _
   | exact ih4 _ _ _ _ _ _ _ _ _
   | exact line_At.mono _ _ _ _ _
   | exact line_Powers.mono _ _ _
   | exact line_Values.mono _ _ _ _
   | exact steeplelaw01_Ref.mono _ _
   | exact steeplelaw01_Same.mono _ _ _
   | exact steeplelaw17_awake.mono _
   | exact steeplelaw17_may.mono _ _ _
   | exact steepleref06_All.mono _ _ _
   | exact steepleref06_At.mono _ _ _ _ _
   | exact LeO.none _
   | refine LeO.ite ?_ ?_
   | refine LeO.bind ?_ (fun _ => ?_)
theorem steeplelaw17_LineBack.mono : ∀ a0 a1 a2 a3 a4 k, LeO (steeplelaw17_LineBack.f k a0 a1 a2 a3 a4) (steeplelaw17_LineBack.f (k + 1) a0 a1 a2 a3 a4) := by
 intro a0 a1 a2 a3 a4 k
 obtain ⟨ih0, ih1, ih2, ih3, ih4⟩ := steeplelaw17_LineBack.mono_l k
 unfold steeplelaw17_LineBack.f
 repeat' first
   | (with_reducible exact ih0 _ _ _ _ _)
   | (with_reducible exact ih1 _ _ _ _ _ _ _ _ _)
   | (with_reducible exact ih2 _ _ _ _ _ _ _ _)
   | (with_reducible exact ih3 _ _ _)
   | (with_reducible exact ih4 _ _ _ _ _ _ _ _ _)
   | (with_reducible exact line_At.mono _ _ _ _ _)
   | (with_reducible exact line_Powers.mono _ _ _)
   | (with_reducible exact line_Values.mono _ _ _ _)
   | (with_reducible exact steeplelaw01_Ref.mono _ _)
   | (with_reducible exact steeplelaw01_Same.mono _ _ _)
   | (with_reducible exact steeplelaw17_awake.mono _)
   | (with_reducible exact steeplelaw17_may.mono _ _ _)
   | (with_reducible exact steepleref06_All.mono _ _ _)
   | (with_reducible exact steepleref06_At.mono _ _ _ _ _)
   | (with_reducible exact LeO.refl _)
   | (with_reducible exact LeO.none _)
   | (with_reducible refine LeO.ite ?_ ?_)
   | (with_reducible refine LeO.bind ?_ (fun _ => ?_))
   | exact ih0 _ _ _ _ _
   | exact ih1 _ _ _ _ _ _ _ _ _
   | exact ih2 _ _ _ _ _ _ _ _
   | exact ih3 _ _ _
   | exact ih4 _ _ _ _ _ _ _ _ _
   | exact line_At.mono _ _ _ _ _
   | exact line_Powers.mono _ _ _
   | exact line_Values.mono _ _ _ _
   | exact steeplelaw01_Ref.mono _ _
   | exact steeplelaw01_Same.mono _ _ _
   | exact steeplelaw17_awake.mono _
   | exact steeplelaw17_may.mono _ _ _
   | exact steepleref06_All.mono _ _ _
   | exact steepleref06_At.mono _ _ _ _ _
   | exact LeO.none _
   | refine LeO.ite ?_ ?_
   | refine LeO.bind ?_ (fun _ => ?_)
def steeplelaw17_LineBack.T11 : Bool × List (List Nat × List Nat) := (true, [([], []), ([0], [0]), ([1], [1]), ([2], [2]), ([2], [2]), ([2], [2]), ([5, 2, 2], [2, 5]), ([2], [2]), ([7, 2], [2, 7]), ([4, 6, 8, 6, 2], [2, 4, 6, 8]), ([3, 9, 2], [2, 3, 9]), ([2, 10], [2, 10])])
def steeplelaw17_LineBack.B11 : List Nat := [0, 1, 3, 7, 7, 7, 39, 7, 135, 503, 1023, 2047]
theorem steeplelaw17_LineBack.tab11 : rtab .any (opsOf Try.f7 11) = steeplelaw17_LineBack.T11 := by kernel_rfl
theorem steeplelaw17_LineBack.bits11 : waitsOk steeplelaw17_LineBack.T11.2 steeplelaw17_LineBack.B11 = true := by kernel_rfl
def steeplelaw17_LineBack.T31 : Bool × List (List Nat × List Nat) := (true, [([], []), ([], []), ([1], [1]), ([0, 2], [0, 2]), ([3], [3]), ([4], [4]), ([4], [4]), ([5, 6, 4], [4, 5, 6]), ([7, 4], [4, 7]), ([4], [4]), ([4], [4]), ([9, 10, 4], [4, 9, 10]), ([11, 4], [4, 11]), ([8, 12, 4], [4, 8, 12]), ([4, 13], [4, 13]), ([14, 4], [14]), ([15], [15]), ([15], [15]), ([17, 15], [15, 17]), ([16, 18, 15], [15, 16, 18]), ([19, 15, 15], [15, 19]), ([20], [20]), ([20], [20]), ([21, 22, 20], [20, 21, 22]), ([23, 20], [20, 23]), ([20], [20]), ([24, 25, 20], [20, 24, 25]), ([20, 26, 15], [15, 20, 26]), ([15, 27], [15, 27])])
def steeplelaw17_LineBack.B31 : List Nat := [0, 0, 2, 7, 15, 31, 31, 127, 255, 31, 31, 1567, 3615, 8191, 16383, 32767, 65535, 65535, 196607, 524287, 1048575, 2097151, 2097151, 8388607, 16777215, 2097151, 67108863, 134217727, 268435455]
theorem steeplelaw17_LineBack.tab31 : rtab .any (opsOf Try.f7 31) = steeplelaw17_LineBack.T31 := by kernel_rfl
theorem steeplelaw17_LineBack.bits31 : waitsOk steeplelaw17_LineBack.T31.2 steeplelaw17_LineBack.B31 = true := by kernel_rfl
set_option maxHeartbeats 8000000 in
set_option maxRecDepth 100000 in
theorem steeplelaw17_LineBack.calls (k : Nat) (a0 : Int) (A1 : Option Addr) (c1 : Nat) (l1 : List (S28)) (a2_0 : Int) (a2_1 : Int) (a2_2 : Int) (r : Bool) (w : World) (hr1 : Kd.C k28 w A1 l1.length l1) (hc1 : l1.length ≤ c1) (h : steeplelaw17_LineBack.f k a0 l1 a2_0 a2_1 a2_2 = some r) :
  Calls Try.prog 7 #[.int .i64 a0, .slice A1 l1.length c1, .agg #[.int .u64 a2_0, .int .u64 a2_1, .int .i64 a2_2]] w fun e w' => e = .returned (.bool r) ∧ Below w.heap.size w w' := by
 have hu49 := Try.underlying49
 have hu28 := Try.underlying28
 have HR1 := Aside0.mk hr1
 have HC1 := Aside0.mk hc1
 clear hr1 hc1
 have HB := Aside0.mk (Below.refl w.heap.size w)
 have H : (if (l1.length : Int) > 12 then ((steeplelaw17_awake.f k).bind fun t460 => (some t460)) else ((line_Powers.f k a0 l1).bind fun bt461 => ((steeplelaw17_may.f k a0 l1).bind fun t465 => (if bt461.2 = t465 then (if bt461.2 = 0 then ((line_Values.f k a0 bt461.1 (wrap64 ((l1.length : Int) - 1))).bind fun bt466 => (if bt466.2 = 0 then ((steeplelaw01_Ref.f k l1).bind fun t470 => ((steeplelaw01_Same.f k bt466.1 t470).bind fun t473 => (if t473 = true then (if (bt461.1.length : Int) = (l1.length : Int) then ((line_At.f k a0 l1 a2_0 a2_1).bind fun bt474 => (if bt474.2.2 = 0 then ((steeplelaw01_Ref.f k bt461.1).bind fun t478 => ((steepleref06_At.f k a0 t478 a2_0 a2_1).bind fun bt481 => (if (!(bt474.1 == bt481.1) || (!(bt474.2.1 == bt481.2))) = true then (none) else (steeplelaw17_LineBack.j0 k a0 l1 a2_0 a2_1 a2_2)))) else (steeplelaw17_LineBack.j0 k a0 l1 a2_0 a2_1 a2_2))) else (none)) else (none)))) else (none))) else (steeplelaw17_LineBack.j0 k a0 l1 a2_0 a2_1 a2_2)) else (none))))) = some r := h
 clear h
 by_cases c4 : (l1.length : Int) > 12
 ·as_aux_lemma =>
    rw [if_pos c4] at H
    have c4b0 : decide (12 < (l1.length : Int)) = true := decide_eq_true c4
    have c4b1 : decide (12 < l1.length) = true := decide_eq_true (by omega)
    clear c4
    replace H := Option.bind_eq_some_iff.mp H
    obtain ⟨t460, A50, H⟩ := H
    replace H : (some t460) = some r := H
    have A5 := Aside0.mk A50
    clear A50
    obtain rfl := Option.some.inj H
    go_enter Try.func7, Try.ntmps7
    go_wp2_with (first | ((with_reducible refine gate_dst (N := 5) rfl ?_); (try (refine gate_guard (by rfl) ?_; dsimp only)); refine box_event ?hg (N := 5) ?hd (cs := #[.int .u64 a2_0, .int .u64 a2_1, .int .i64 a2_2]) (t := 49) ?hr ?_; (case hd => rfl); (case hg => rfl); (case hr => first | (go_simp; done) | (go_simp; rfl)); intro gb459 hg w6 hbox hb; have BK459 := Aside0.mk hbox; have GW459 := ge hg HB; have GE459 := ge hg HB; replace HB := bh HB hb; clear hb hbox hg) | ((with_reducible refine gate_callee (f := 9) rfl ?_); refine goesL_ (some 22) rfl rfl Try.func9 (by kernel_rfl) rfl #[] rfl (by (try simp only [List.map_toArray, List.map_cons, List.map_nil]); first | done | rfl | (simp only [List.length_drop, List.length_take]; rfl)) ?_; (with_reducible refine (steeplelaw17_awake.calls k  t460 _ A5.out).mono ?_); rintro e w7 ⟨rfl, hb⟩; refine ⟨_, rfl, ?_⟩; replace BK459 := bb BK459 hb; replace HB := bh HB hb; (try clear hb); (try clear hb2); (try clear hk); (try clear hi)))
    go_ret
    exact ⟨by first | rfl | (simp [errW_none, errW_some] <;> rfl) | (simp [*, errW_none, errW_some] <;> rfl), bq HB.out⟩
 ·as_aux_lemma =>
    rw [if_neg c4] at H
    have c4b0 : decide (12 < (l1.length : Int)) = false := decide_eq_false c4
    have c4b1 : decide (12 < l1.length) = false := decide_eq_false (by omega)
    clear c4
    replace H := Option.bind_eq_some_iff.mp H
    obtain ⟨⟨t461, t462⟩, A80, H⟩ := H
    replace H : ((steeplelaw17_may.f k a0 l1).bind fun t465 => (if t462 = t465 then (if t462 = 0 then ((line_Values.f k a0 t461 (wrap64 ((l1.length : Int) - 1))).bind fun bt466 => (if bt466.2 = 0 then ((steeplelaw01_Ref.f k l1).bind fun t470 => ((steeplelaw01_Same.f k bt466.1 t470).bind fun t473 => (if t473 = true then (if (t461.length : Int) = (l1.length : Int) then ((line_At.f k a0 l1 a2_0 a2_1).bind fun bt474 => (if bt474.2.2 = 0 then ((steeplelaw01_Ref.f k t461).bind fun t478 => ((steepleref06_At.f k a0 t478 a2_0 a2_1).bind fun bt481 => (if (!(bt474.1 == bt481.1) || (!(bt474.2.1 == bt481.2))) = true then (none) else (steeplelaw17_LineBack.j0 k a0 l1 a2_0 a2_1 a2_2)))) else (steeplelaw17_LineBack.j0 k a0 l1 a2_0 a2_1 a2_2))) else (none)) else (none)))) else (none))) else (steeplelaw17_LineBack.j0 k a0 l1 a2_0 a2_1 a2_2)) else (none))) = some r := H
    have A8 := Aside0.mk A80
    clear A80
    replace H := Option.bind_eq_some_iff.mp H
    obtain ⟨t465, A90, H⟩ := H
    replace H : (if t462 = t465 then (if t462 = 0 then ((line_Values.f k a0 t461 (wrap64 ((l1.length : Int) - 1))).bind fun bt466 => (if bt466.2 = 0 then ((steeplelaw01_Ref.f k l1).bind fun t470 => ((steeplelaw01_Same.f k bt466.1 t470).bind fun t473 => (if t473 = true then (if (t461.length : Int) = (l1.length : Int) then ((line_At.f k a0 l1 a2_0 a2_1).bind fun bt474 => (if bt474.2.2 = 0 then ((steeplelaw01_Ref.f k t461).bind fun t478 => ((steepleref06_At.f k a0 t478 a2_0 a2_1).bind fun bt481 => (if (!(bt474.1 == bt481.1) || (!(bt474.2.1 == bt481.2))) = true then (none) else (steeplelaw17_LineBack.j0 k a0 l1 a2_0 a2_1 a2_2)))) else (steeplelaw17_LineBack.j0 k a0 l1 a2_0 a2_1 a2_2))) else (none)) else (none)))) else (none))) else (steeplelaw17_LineBack.j0 k a0 l1 a2_0 a2_1 a2_2)) else (none)) = some r := H
    have A9 := Aside0.mk A90
    clear A90
    by_cases c10 : t462 = t465
    ·as_aux_lemma =>
       rw [if_pos c10] at H
       have c10b0 : (t462 == t465) = true := beq_iff_eq.mpr c10
       have c10b1 : (t462 != t465) = false := bne_eq_false_iff_eq.mpr c10
       clear c10
       have HC11 := Aside0.mk H
       clear H
       go_enter Try.func7, Try.ntmps7
       go_upto_if 35 with (first | ((with_reducible refine gate_dst (N := 5) rfl ?_); (try (refine gate_guard (by rfl) ?_; dsimp only)); refine box_event ?hg (N := 5) ?hd (cs := #[.int .u64 a2_0, .int .u64 a2_1, .int .i64 a2_2]) (t := 49) ?hr ?_; (case hd => rfl); (case hg => rfl); (case hr => first | (go_simp; done) | (go_simp; rfl)); intro gb459 hg w12 hbox hb; have BK459 := Aside0.mk hbox; have GW459 := ge hg HB; have GE459 := ge hg HB; replace HB := bh HB hb; clear hb hbox hg) | ((with_reducible refine gate_callee (f := 20) rfl ?_); refine goesL_ (some 26) rfl rfl Try.func20 (by kernel_rfl) rfl #[.int .i64 a0, .slice A1 l1.length c1] rfl (by (try simp only [List.map_toArray, List.map_cons, List.map_nil]); first | done | rfl | (simp only [List.length_drop, List.length_take]; rfl)) ?_; (with_reducible refine (line_Powers.calls k a0 _ _ l1 t461 t462 _ ?side1 ?side2 A8.out).mono ?_); (case side1 => repeat (first | exact (Kd.C_below HR1.out HB.out) | (with_reducible refine Kd.C_alloc ?_ _) | (with_reducible refine Kd.C_drewN ?_ _) | (with_reducible refine Kd.C_drew ?_))); (case side2 => exact HC1.out); rintro e w13 ⟨v463, rfl, ho0, hb⟩; refine ⟨_, rfl, ?_⟩; have HO464 := kw ho0 HB; replace BK459 := bb BK459 hb; replace HB := bh HB hb; (try clear hb); (try clear hb2); (try clear hk); (try clear hi); (try clear ho0)) | ((with_reducible refine gate_callee (f := 8) rfl ?_); refine goesL_ (some 32) rfl rfl Try.func8 (by kernel_rfl) rfl #[.int .i64 a0, .slice A1 l1.length c1] rfl (by (try simp only [List.map_toArray, List.map_cons, List.map_nil]); first | done | rfl | (simp only [List.length_drop, List.length_take]; rfl)) ?_; (with_reducible refine (steeplelaw17_may.calls k a0 _ _ l1 t465 _ ?side1 ?side2 A9.out).mono ?_); (case side1 => repeat (first | exact (Kd.C_below HR1.out HB.out) | (with_reducible refine Kd.C_alloc ?_ _) | (with_reducible refine Kd.C_drewN ?_ _) | (with_reducible refine Kd.C_drew ?_))); (case side2 => exact HC1.out); rintro e w14 ⟨rfl, hb⟩; refine ⟨_, rfl, ?_⟩; replace HO464 := kb HO464 hb; replace BK459 := bb BK459 hb; replace HB := bh HB hb; (try clear hb); (try clear hb2); (try clear hk); (try clear hi)))
       (try simp only [Act.put, List.setIfInBounds_toArray, List.set_cons_zero, List.set_cons_succ])
       go_cut [] (fun wc => ∃ (kq : Nat), Aside0 (steeplelaw17_LineBack.j0 kq a0 l1 a2_0 a2_1 a2_2 = some r) ∧ Aside0 (kq ≤ k) ∧ Aside0 (wc.heap[gb459]? = some (.cells #[.int .u64 a2_0, .int .u64 a2_1, .int .i64 a2_2] 49 (0, 0))) ∧ Aside0 (Below w.heap.size w wc))
       case first =>
        as_aux_lemma =>
          have H := HC11.out
          clear HC11
          by_cases c15 : t462 = 0
          ·as_aux_lemma =>
             rw [if_pos c15] at H
             have c15b0 : (t462 == 0) = true := beq_iff_eq.mpr c15
             have c15b1 : (t462 != 0) = false := bne_eq_false_iff_eq.mpr c15
             clear c15
             (first | rw [c15b0] | (simp only [i64_w, i32_w]; rw [c15b0]) | skip)
             replace H := Option.bind_eq_some_iff.mp H
             obtain ⟨⟨t466, t467⟩, A160, H⟩ := H
             replace H : (if t467 = 0 then ((steeplelaw01_Ref.f k l1).bind fun t470 => ((steeplelaw01_Same.f k t466 t470).bind fun t473 => (if t473 = true then (if (t461.length : Int) = (l1.length : Int) then ((line_At.f k a0 l1 a2_0 a2_1).bind fun bt474 => (if bt474.2.2 = 0 then ((steeplelaw01_Ref.f k t461).bind fun t478 => ((steepleref06_At.f k a0 t478 a2_0 a2_1).bind fun bt481 => (if (!(bt474.1 == bt481.1) || (!(bt474.2.1 == bt481.2))) = true then (none) else (steeplelaw17_LineBack.j0 k a0 l1 a2_0 a2_1 a2_2)))) else (steeplelaw17_LineBack.j0 k a0 l1 a2_0 a2_1 a2_2))) else (none)) else (none)))) else (none)) = some r := H
             have A16 := Aside0.mk A160
             clear A160
             by_cases c17 : t467 = 0
             ·as_aux_lemma =>
                rw [if_pos c17] at H
                have c17b0 : (t467 == 0) = true := beq_iff_eq.mpr c17
                have c17b1 : (t467 != 0) = false := bne_eq_false_iff_eq.mpr c17
                clear c17
                replace H := Option.bind_eq_some_iff.mp H
                obtain ⟨t470, A180, H⟩ := H
                replace H : ((steeplelaw01_Same.f k t466 t470).bind fun t473 => (if t473 = true then (if (t461.length : Int) = (l1.length : Int) then ((line_At.f k a0 l1 a2_0 a2_1).bind fun bt474 => (if bt474.2.2 = 0 then ((steeplelaw01_Ref.f k t461).bind fun t478 => ((steepleref06_At.f k a0 t478 a2_0 a2_1).bind fun bt481 => (if (!(bt474.1 == bt481.1) || (!(bt474.2.1 == bt481.2))) = true then (none) else (steeplelaw17_LineBack.j0 k a0 l1 a2_0 a2_1 a2_2)))) else (steeplelaw17_LineBack.j0 k a0 l1 a2_0 a2_1 a2_2))) else (none)) else (none))) = some r := H
                have A18 := Aside0.mk A180
                clear A180
                replace H := Option.bind_eq_some_iff.mp H
                obtain ⟨t473, A190, H⟩ := H
                replace H : (if t473 = true then (if (t461.length : Int) = (l1.length : Int) then ((line_At.f k a0 l1 a2_0 a2_1).bind fun bt474 => (if bt474.2.2 = 0 then ((steeplelaw01_Ref.f k t461).bind fun t478 => ((steepleref06_At.f k a0 t478 a2_0 a2_1).bind fun bt481 => (if (!(bt474.1 == bt481.1) || (!(bt474.2.1 == bt481.2))) = true then (none) else (steeplelaw17_LineBack.j0 k a0 l1 a2_0 a2_1 a2_2)))) else (steeplelaw17_LineBack.j0 k a0 l1 a2_0 a2_1 a2_2))) else (none)) else (none)) = some r := H
                have A19 := Aside0.mk A190
                clear A190
                by_cases c20 : t473 = true
                ·as_aux_lemma =>
                   subst c20
                   have H1 : (if (t461.length : Int) = (l1.length : Int) then ((line_At.f k a0 l1 a2_0 a2_1).bind fun bt474 => (if bt474.2.2 = 0 then ((steeplelaw01_Ref.f k t461).bind fun t478 => ((steepleref06_At.f k a0 t478 a2_0 a2_1).bind fun bt481 => (if (!(bt474.1 == bt481.1) || (!(bt474.2.1 == bt481.2))) = true then (none) else (steeplelaw17_LineBack.j0 k a0 l1 a2_0 a2_1 a2_2)))) else (steeplelaw17_LineBack.j0 k a0 l1 a2_0 a2_1 a2_2))) else (none)) = some r := by rw [if_pos rfl] at H; exact H
                   clear H
                   have H := H1
                   clear H1
                   by_cases c21 : (t461.length : Int) = (l1.length : Int)
                   ·as_aux_lemma =>
                      rw [if_pos c21] at H
                      have c21b0 : ((t461.length : Int) == (l1.length : Int)) = true := beq_iff_eq.mpr c21
                      have c21b1 : ((t461.length : Int) != (l1.length : Int)) = false := bne_eq_false_iff_eq.mpr c21
                      have c21b2 : (t461.length == l1.length) = true := by first | simpa using c21 | (simp at c21 ⊢; omega)
                      clear c21
                      replace H := Option.bind_eq_some_iff.mp H
                      obtain ⟨⟨t474, t475, t476⟩, A220, H⟩ := H
                      replace H : (if t476 = 0 then ((steeplelaw01_Ref.f k t461).bind fun t478 => ((steepleref06_At.f k a0 t478 a2_0 a2_1).bind fun bt481 => (if (!(t474 == bt481.1) || (!(t475 == bt481.2))) = true then (none) else (steeplelaw17_LineBack.j0 k a0 l1 a2_0 a2_1 a2_2)))) else (steeplelaw17_LineBack.j0 k a0 l1 a2_0 a2_1 a2_2)) = some r := H
                      have A22 := Aside0.mk A220
                      clear A220
                      by_cases c23 : t476 = 0
                      ·as_aux_lemma =>
                         rw [if_pos c23] at H
                         have c23b0 : (t476 == 0) = true := beq_iff_eq.mpr c23
                         have c23b1 : (t476 != 0) = false := bne_eq_false_iff_eq.mpr c23
                         clear c23
                         replace H := Option.bind_eq_some_iff.mp H
                         obtain ⟨t478, A240, H⟩ := H
                         replace H : ((steepleref06_At.f k a0 t478 a2_0 a2_1).bind fun bt481 => (if (!(t474 == bt481.1) || (!(t475 == bt481.2))) = true then (none) else (steeplelaw17_LineBack.j0 k a0 l1 a2_0 a2_1 a2_2))) = some r := H
                         have A24 := Aside0.mk A240
                         clear A240
                         replace H := Option.bind_eq_some_iff.mp H
                         obtain ⟨⟨t481, t482⟩, A250, H⟩ := H
                         replace H : (if (!(t474 == t481) || (!(t475 == t482))) = true then (none) else (steeplelaw17_LineBack.j0 k a0 l1 a2_0 a2_1 a2_2)) = some r := H
                         have A25 := Aside0.mk A250
                         clear A250
                         by_cases c26 : (!(t474 == t481) || (!(t475 == t482))) = true
                         ·as_aux_lemma =>
                            rw [if_pos c26] at H
                            exact absurd H (by simp)
                         ·as_aux_lemma =>
                            rw [if_neg c26] at H
                            have c26b0 : (!(t474 == t481) || (!(t475 == t482))) = false := by simpa using c26
                            clear c26
                            have H' := Aside0.mk H
                            clear H
                            obtain ⟨Ao27, co27, eo27⟩ := Kd.R_slice HO464.out
                            subst eo27
                            try go_wp2_with (first | ((with_reducible refine gate_callee (f := 21) rfl ?_); refine goesL_ (some 42) rfl rfl Try.func21 (by kernel_rfl) rfl #[.int .i64 a0, .slice Ao27 t461.length co27, .int .i64 (wrap64 ((l1.length : Int) - 1))] rfl (by (try simp only [List.map_toArray, List.map_cons, List.map_nil]); first | done | rfl | (simp only [List.length_drop, List.length_take]; rfl)) ?_; (with_reducible refine (line_Values.calls k a0 _ _ t461 (wrap64 ((l1.length : Int) - 1)) t466 t467 _ ?side1 ?side2 A16.out).mono ?_); (case side1 => repeat (first | exact (Kd.R_reads' HO464.out).2.2 | (with_reducible refine Kd.C_alloc ?_ _) | (with_reducible refine Kd.C_drewN ?_ _) | (with_reducible refine Kd.C_drew ?_))); (case side2 => exact (Kd.R_reads' HO464.out).2.1); rintro e w28 ⟨v468, rfl, ho0, hb⟩; refine ⟨_, rfl, ?_⟩; have HO469 := Aside0.mk (Kd.R_lower (Kd.R_new' ho0 (Kd.R_lt (kr HO464.out))) (below_size (bq HB.out))); replace HO464 := Aside0.mk (Kd.R_elder' (kr HO464.out) (Kd.R_base ho0) hb); replace BK459 := bb BK459 hb; replace HB := bh HB hb; (try clear hb); (try clear hb2); (try clear hk); (try clear hi); (try clear ho0)) | (go_at_call 19; (with_reducible refine (steeplelaw01_Ref.calls k _ _ l1 t470 _ ?side1 ?side2 A18.out).mono ?_); (case side1 => repeat (first | exact (Kd.C_below HR1.out HB.out) | (with_reducible refine Kd.C_alloc ?_ _) | (with_reducible refine Kd.C_drewN ?_ _) | (with_reducible refine Kd.C_drew ?_))); (case side2 => exact HC1.out); rintro e w29 ⟨v471, rfl, ho0, hb⟩; have HO472 := kw ho0 HB; replace HO464 := kb HO464 hb; replace HO469 := kb HO469 hb; replace BK459 := bb BK459 hb; replace HB := bh HB hb; (try clear hb); (try clear hb2); (try clear hk); (try clear hi); (try clear ho0); obtain ⟨Ao30, co30, eo30⟩ := Kd.R_slice HO469.out; subst eo30; obtain ⟨Ao31, co31, eo31⟩ := Kd.R_slice HO472.out; subst eo31) | (go_at_call 22; (with_reducible refine (steeplelaw01_Same.calls k _ _ t466 _ _ t470 true _ ?side1 ?side2 ?side3 ?side4 A19.out).mono ?_); (case side1 => repeat (first | exact (Kd.R_reads' HO469.out).2.2 | (with_reducible refine Kd.C_alloc ?_ _) | (with_reducible refine Kd.C_drewN ?_ _) | (with_reducible refine Kd.C_drew ?_))); (case side2 => exact (Kd.R_reads' HO469.out).2.1); (case side3 => repeat (first | exact (Kd.R_reads' HO472.out).2.2 | (with_reducible refine Kd.C_alloc ?_ _) | (with_reducible refine Kd.C_drewN ?_ _) | (with_reducible refine Kd.C_drew ?_))); (case side4 => exact (Kd.R_reads' HO472.out).2.1); rintro e w' ⟨rfl, ⟨nd, rfl⟩⟩; (try (rw [drewN_self w29]; generalize hq_ : World.drewN w29 _ = w29; have n0_ : Aside0 (Kd.R k28 28 w29 w.heap.size (fun k_ => some k_ ≠ (.slice Ao30 t466.length co30 : Value).ownBlock) (.slice Ao27 t461.length co27) t461) := ⟨by rw [← hq_]; exact (by (with_reducible repeat refine kl ?_); exact Kd.R_mono HO464.out (fun _ hk => hk.2))⟩; have n1_ : Aside0 (Kd.R k28 28 w29 w.heap.size (fun k_ => some k_ ≠ (.slice Ao27 t461.length co27 : Value).ownBlock) (.slice Ao30 t466.length co30) t466) := ⟨by rw [← hq_]; exact (by (with_reducible repeat refine kl ?_); exact Kd.R_mono HO469.out (fun _ hk => hk.2))⟩; have n2_ : Aside0 (Kd.R k37 37 w29 w.heap.size (fun _ => True) (.slice Ao31 t470.length co31) t470) := ⟨by rw [← hq_]; exact (kr HO472.out)⟩; have n3_ : Aside0 (w29.heap[gb459]? = some (.cells #[.int .u64 a2_0, .int .u64 a2_1, .int .i64 a2_2] 49 (0, 0))) := ⟨by rw [← hq_]; exact (bk BK459.out)⟩; have n4_ : Aside0 (Below w.heap.size w w29) := ⟨by rw [← hq_]; exact (bq HB.out)⟩; clear HO464 HO469 HO472 BK459 HB hq_; have HO464 := n0_; have HO469 := n1_; have HO472 := n2_; have BK459 := n3_; have HB := n4_; clear n0_ n1_ n2_ n3_ n4_)); obtain ⟨hcz32_0, hcz32_1, hcz32_2⟩ := zc3 BK459; obtain ⟨hfz32_0, hfz32_1, hfz32_2⟩ := zf3 BK459) | ((with_reducible refine gate_callee (f := 10) rfl ?_); refine goesL_ (some 66) rfl rfl Try.func10 (by kernel_rfl) rfl #[.int .i64 a0, .slice A1 l1.length c1, .agg #[.int .u64 a2_0, .int .u64 a2_1]] rfl (by (try simp only [List.map_toArray, List.map_cons, List.map_nil]); first | done | rfl | (simp only [List.length_drop, List.length_take]; rfl)) ?_; (with_reducible refine (line_At.calls k a0 _ _ l1 a2_0 a2_1 t474 t475 t476 _ ?side1 ?side2 A22.out).mono ?_); (case side1 => repeat (first | exact (Kd.C_below HR1.out HB.out) | (with_reducible refine Kd.C_alloc ?_ _) | (with_reducible refine Kd.C_drewN ?_ _) | (with_reducible refine Kd.C_drew ?_))); (case side2 => exact HC1.out); rintro e w33 ⟨rfl, hb⟩; refine ⟨_, rfl, ?_⟩; replace HO464 := kb HO464 hb; replace HO469 := kb HO469 hb; replace HO472 := kb HO472 hb; replace BK459 := bb BK459 hb; replace HB := bh HB hb; (try clear hb); (try clear hb2); (try clear hk); (try clear hi)) | ((with_reducible refine gate_dst (N := 11) rfl ?_); (try (refine gate_guard (by rfl) ?_; dsimp only)); refine box_event ?hg (N := 11) ?hd (cs := #[.int .u64 0, .int .u64 0]) (t := 28) ?hr ?_; (case hd => rfl); (case hg => rfl); (case hr => first | (go_simp; done) | (go_simp; rfl)); intro gb477 hg w34 hbox hb; have BK477 := Aside0.mk hbox; have GW477 := ge hg HB; have GE477 := ge hg HB; have NB459_477 := nl hg BK459; have NB477_459 := ng hg BK459; replace HO464 := Aside0.mk (Kd.R_below (Kd.R_elderB (kr HO464.out) gb477 (Nat.le_of_eq hg.symm)) hb); replace HO469 := Aside0.mk (Kd.R_below (Kd.R_elderB (kr HO469.out) gb477 (Nat.le_of_eq hg.symm)) hb); replace HO472 := kb HO472 hb; replace BK459 := bb BK459 hb; replace HB := bh HB hb; clear hb hbox hg; have hnb35 := NB477_459.out; have hnc35 := NB459_477.out; obtain ⟨hcz36_0, hcz36_1⟩ := zc2 BK477; obtain ⟨hfz36_0, hfz36_1⟩ := zf2 BK477))
                            have n0_ : Aside0 (Kd.R k28 28 ((w34.setCell ⟨gb477, 0, none⟩ (.int .u64 t474)).setCell ⟨gb477, 1, none⟩ (.int .u64 t475)) w.heap.size (fun k_ => some k_ ≠ (.slice Ao30 t466.length co30 : Value).ownBlock ∧ k_ ≠ gb477) (.slice Ao27 t461.length co27) t461) := ⟨by (with_reducible repeat refine kl ?_); exact Kd.R_mono (Kd.R_far (p := ⟨gb477, 1, none⟩) (Kd.R_far (p := ⟨gb477, 0, none⟩) (Kd.R_mono HO464.out (fun k_ hk => (⟨hk, hk.2⟩ : _ ∧ k_ ≠ gb477))) (fun _ hk => hk.2) (.int .u64 t474)) (fun _ hk => hk.2) (.int .u64 t475)) (fun _ hk => hk.1)⟩
                            have n1_ : Aside0 (Kd.R k28 28 ((w34.setCell ⟨gb477, 0, none⟩ (.int .u64 t474)).setCell ⟨gb477, 1, none⟩ (.int .u64 t475)) w.heap.size (fun k_ => some k_ ≠ (.slice Ao27 t461.length co27 : Value).ownBlock ∧ k_ ≠ gb477) (.slice Ao30 t466.length co30) t466) := ⟨by (with_reducible repeat refine kl ?_); exact Kd.R_mono (Kd.R_far (p := ⟨gb477, 1, none⟩) (Kd.R_far (p := ⟨gb477, 0, none⟩) (Kd.R_mono HO469.out (fun k_ hk => (⟨hk, hk.2⟩ : _ ∧ k_ ≠ gb477))) (fun _ hk => hk.2) (.int .u64 t474)) (fun _ hk => hk.2) (.int .u64 t475)) (fun _ hk => hk.1)⟩
                            have n2_ : Aside0 (Kd.R k37 37 ((w34.setCell ⟨gb477, 0, none⟩ (.int .u64 t474)).setCell ⟨gb477, 1, none⟩ (.int .u64 t475)) w.heap.size (fun _ => True) (.slice Ao31 t470.length co31) t470) := ⟨by (with_reducible repeat refine kl ?_); exact Kd.R_mono (Kd.R_far (p := ⟨gb477, 1, none⟩) (Kd.R_far (p := ⟨gb477, 0, none⟩) (Kd.R_types HO472.out BK477.out (by decide)) (fun _ hk => hk.2) (.int .u64 t474)) (fun _ hk => hk.2) (.int .u64 t475)) (fun _ hk => trivial)⟩
                            have n3_ : Aside0 (((w34.setCell ⟨gb477, 0, none⟩ (.int .u64 t474)).setCell ⟨gb477, 1, none⟩ (.int .u64 t475)).heap[gb459]? = some (.cells #[.int .u64 a2_0, .int .u64 a2_1, .int .i64 a2_2] 49 (0, 0))) := ⟨by (with_reducible repeat refine bl ?_); refine blk_far ?_ NB459_477.out _; (with_reducible repeat refine bl ?_); refine blk_far ?_ NB459_477.out _; (with_reducible repeat refine bl ?_); exact BK459.out⟩
                            have n4_ : Aside0 (((w34.setCell ⟨gb477, 0, none⟩ (.int .u64 t474)).setCell ⟨gb477, 1, none⟩ (.int .u64 t475)).heap[gb477]? = some (.cells #[.int .u64 t474, .int .u64 t475] 28 (0, 0))) := ⟨by (with_reducible repeat refine bl ?_); refine blk_put (cs := #[.int .u64 t474, .int .u64 0]) ?_ 1 _ rfl; (with_reducible repeat refine bl ?_); refine blk_put (cs := #[.int .u64 0, .int .u64 0]) ?_ 0 _ rfl; (with_reducible repeat refine bl ?_); exact BK477.out⟩
                            have n5_ : Aside0 (Below w.heap.size w ((w34.setCell ⟨gb477, 0, none⟩ (.int .u64 t474)).setCell ⟨gb477, 1, none⟩ (.int .u64 t475))) := ⟨bq HB.out⟩
                            (try clear HO464)
                            (try clear HO469)
                            (try clear HO472)
                            (try clear BK459)
                            (try clear BK477)
                            (try clear HB)
                            generalize ((w34.setCell ⟨gb477, 0, none⟩ (.int .u64 t474)).setCell ⟨gb477, 1, none⟩ (.int .u64 t475)) = w37 at n0_ n1_ n2_ n3_ n4_ n5_ ⊢
                            have HO464 := n0_
                            have HO469 := n1_
                            have HO472 := n2_
                            have BK459 := n3_
                            have BK477 := n4_
                            have HB := n5_
                            clear n0_ n1_ n2_ n3_ n4_ n5_
                            replace HO464 := Aside0.mk (Kd.R_drew HO464.out)
                            replace HO469 := Aside0.mk (Kd.R_drew HO469.out)
                            replace HO472 := Aside0.mk (Kd.R_drew HO472.out)
                            replace BK459 := Aside0.mk (blk_drew BK459.out)
                            replace BK477 := Aside0.mk (blk_drew BK477.out)
                            replace HB := Aside0.mk (below_drew1 HB.out)
                            refine start_ (n := 12) (S := fun w' => w'.cell? ⟨gb477, 0, none⟩ = some (.int .u64 t474) ∧ w'.cell? ⟨gb477, 1, none⟩ = some (.int .u64 t475) ∧ w'.cell? ⟨gb459, 0, none⟩ = some (.int .u64 a2_0) ∧ w'.cell? ⟨gb459, 1, none⟩ = some (.int .u64 a2_1) ∧ w'.cell? ⟨gb459, 2, none⟩ = some (.int .i64 a2_2)) (ds := []) #[false, false, false, false, false, false, false, false, false, false, false, false] (by kernel_rfl) rfl rfl ⟨(blk_cell BK477.out 0).trans rfl, (blk_cell BK477.out 1).trans rfl, (blk_cell BK459.out 0).trans rfl, (blk_cell BK459.out 1).trans rfl, (blk_cell BK459.out 2).trans rfl⟩ (fun hHeld => ?_); refine with_tabW steeplelaw17_LineBack.tab11 steeplelaw17_LineBack.bits11 (fun HT_ HW_ => ?_)
                            generalize w37.drew = w38 at HO464 HO469 HO472 BK459 BK477 HB hHeld ⊢
                            refine pure_ (i := 0) (N := some 69) (v := ?_) (a' := ?_) #[true, false, false, false, false, false, false, false, false, false, false, false] rfl rfl (any_of HT_.out (by kernel_rfl)) (fun _ _ _ h => h) (Or.inl ⟨by rfl, ?_⟩) ?_ ?_
                            rotate_left
                            ·intro w'
                             go_simp
                             with_reducible rfl
                            rotate_left
                            ·simp only [Act.put, List.setIfInBounds_toArray, List.set_cons_zero, List.set_cons_succ, i64_w, i32_w]
                             rfl
                            refine pure_ (i := 1) (N := some 70) (v := ?_) (a' := ?_) #[true, true, false, false, false, false, false, false, false, false, false, false] rfl rfl (any_of HT_.out (by kernel_rfl)) (fun _ _ _ h => h) (Or.inl ⟨by rfl, ?_⟩) ?_ ?_
                            rotate_left
                            ·intro w'
                             go_simp
                             with_reducible rfl
                            rotate_left
                            ·simp only [Act.put, List.setIfInBounds_toArray, List.set_cons_zero, List.set_cons_succ, i64_w, i32_w]
                             rfl
                            refine pure_ (i := 2) (N := some 71) (v := ?_) (a' := ?_) #[true, true, true, false, false, false, false, false, false, false, false, false] rfl rfl (any_of HT_.out (by kernel_rfl)) (fun _ _ _ h => h) (Or.inl ⟨by rfl, ?_⟩) ?_ ?_
                            rotate_left
                            ·intro w'
                             go_simp
                             with_reducible rfl
                            rotate_left
                            ·simp only [Act.put, List.setIfInBounds_toArray, List.set_cons_zero, List.set_cons_succ, i64_w, i32_w]
                             rfl
                            refine pure_ (i := 4) (N := some 73) (v := ?_) (a' := ?_) #[true, true, true, false, true, false, false, false, false, false, false, false] rfl rfl (any_of HT_.out (by kernel_rfl)) (fun _ _ _ h => h) (Or.inl ⟨by rfl, ?_⟩) ?_ ?_
                            rotate_left
                            ·intro w'
                             go_simp
                             with_reducible rfl
                            rotate_left
                            ·simp only [Act.put, List.setIfInBounds_toArray, List.set_cons_zero, List.set_cons_succ, i64_w, i32_w]
                             rfl
                            refine pure_ (i := 5) (N := some 74) (v := ?_) (a' := ?_) #[true, true, true, false, true, true, false, false, false, false, false, false] rfl rfl (any_of HT_.out (by kernel_rfl)) (fun _ _ _ h => h) (Or.inl ⟨by rfl, ?_⟩) ?_ ?_
                            rotate_left
                            ·intro w'
                             go_simp
                             with_reducible rfl
                            rotate_left
                            ·simp only [Act.put, List.setIfInBounds_toArray, List.set_cons_zero, List.set_cons_succ, i64_w, i32_w]
                             rfl
                            refine pure_ (i := 7) (N := some 76) (v := ?_) (a' := ?_) #[true, true, true, false, true, true, false, true, false, false, false, false] rfl rfl (any_of HT_.out (by kernel_rfl)) (fun _ _ _ h => h) (Or.inl ⟨by rfl, ?_⟩) ?_ ?_
                            rotate_left
                            ·intro w'
                             go_simp
                             with_reducible rfl
                            rotate_left
                            ·simp only [Act.put, List.setIfInBounds_toArray, List.set_cons_zero, List.set_cons_succ, i64_w, i32_w]
                             rfl
                            refine take_ (i := 3) (N := some 72) (v := ?_) (a' := ?_) #[true, true, true, true, true, true, false, true, false, false, false, false] rfl rfl (take_ofW HT_.out HW_.out (by kernel_rfl)) (fun _ _ _ h => h) (Or.inl ⟨by rfl, ?_⟩) hHeld ?_ ?_
                            rotate_left
                            ·rintro w' ⟨s0, s1, s2, s3, s4⟩
                             go_simp
                             with_reducible rfl
                            rotate_left
                            ·simp only [Act.put, List.setIfInBounds_toArray, List.set_cons_zero, List.set_cons_succ, i64_w, i32_w]
                             rfl
                            refine take_ (i := 8) (N := some 77) (v := ?_) (a' := ?_) #[true, true, true, true, true, true, false, true, true, false, false, false] rfl rfl (take_ofW HT_.out HW_.out (by kernel_rfl)) (fun _ _ _ h => h) (Or.inl ⟨by rfl, ?_⟩) hHeld ?_ ?_
                            rotate_left
                            ·rintro w' ⟨s0, s1, s2, s3, s4⟩
                             go_simp
                             with_reducible rfl
                            rotate_left
                            ·simp only [Act.put, List.setIfInBounds_toArray, List.set_cons_zero, List.set_cons_succ, i64_w, i32_w]
                             rfl
                            refine one_ (i := 6) (N := some 75) #[true, true, true, true, true, true, true, true, true, false, false, false] rfl rfl (one_of HT_.out (by kernel_rfl)) (by decide) (fun K hK => ?_)
                            refine goes_ Try.func19 (by kernel_rfl) rfl #[.slice Ao27 t461.length co27] (by rfl) rfl rfl (by (try simp only [List.map_toArray, List.map_cons, List.map_nil]); first | done | rfl | (simp only [List.length_drop, List.length_take]; rfl)) ?_
                            with_reducible refine (steeplelaw01_Ref.calls k _ _ t461 t478 _ ?side1 ?side2 A24.out).mono ?_
                            (case side1 => repeat (first | exact (Kd.R_reads' HO464.out).2.2 | (with_reducible refine Kd.C_alloc ?_ _) | (with_reducible refine Kd.C_drewN ?_ _) | (with_reducible refine Kd.C_drew ?_)))
                            (case side2 => exact (Kd.R_reads' HO464.out).2.1)
                            rintro e w39 ⟨v479, rfl, ho0, hb⟩
                            refine ⟨_, rfl, ?_⟩
                            have HO480 := Aside0.mk (Kd.R_lower (Kd.R_new' ho0 (Kd.R_lt (kr HO472.out))) (below_size (bq HB.out)))
                            replace HO464 := kb HO464 hb
                            replace HO469 := kb HO469 hb
                            replace HO472 := Aside0.mk (Kd.R_elder' (kr HO472.out) (Kd.R_base ho0) hb)
                            replace BK459 := bb BK459 hb
                            replace BK477 := bb BK477 hb
                            replace HB := bh HB hb
                            (try clear hb)
                            (try clear hb2)
                            (try clear hk)
                            (try clear hi)
                            (try clear ho0)
                            obtain ⟨Ao40, co40, eo40⟩ := Kd.R_slice HO480.out
                            (first | subst eo40 | (injection eo40 with f1_ f2_ f3_; have f4_ := f1_.symm; have f5_ := f3_.symm; clear f1_ f2_ f3_; subst f4_; subst f5_))
                            refine hK.out _ _ ⟨(blk_cell BK477.out 0).trans rfl, (blk_cell BK477.out 1).trans rfl, (blk_cell BK459.out 0).trans rfl, (blk_cell BK459.out 1).trans rfl, (blk_cell BK459.out 2).trans rfl⟩ (fun hHeld => ?_)
                            clear hK K
                            refine norm_ (a' := ?_) ?_ ?_
                            rotate_left
                            ·show Act.put _ (some 75) _ = _
                             simp only [Act.put, List.setIfInBounds_toArray, List.set_cons_zero, List.set_cons_succ, i64_w, i32_w]
                             rfl
                            refine one_ (i := 9) (N := some 78) #[true, true, true, true, true, true, true, true, true, true, false, false] rfl rfl (one_of HT_.out (by kernel_rfl)) (by decide) (fun K hK => ?_)
                            refine goes_ Try.func23 (by kernel_rfl) rfl #[.int .i64 a0, .slice Ao40 t478.length co40, .agg #[.int .u64 a2_0, .int .u64 a2_1]] (by rfl) rfl rfl (by (try simp only [List.map_toArray, List.map_cons, List.map_nil]); first | done | rfl | (simp only [List.length_drop, List.length_take]; rfl)) ?_
                            with_reducible refine (steepleref06_At.calls k a0 _ _ t478 a2_0 a2_1 t481 t482 _ ?side1 ?side2 A25.out).mono ?_
                            (case side1 => repeat (first | exact (Kd.R_reads' HO480.out).2.2 | (with_reducible refine Kd.C_alloc ?_ _) | (with_reducible refine Kd.C_drewN ?_ _) | (with_reducible refine Kd.C_drew ?_)))
                            (case side2 => exact (Kd.R_reads' HO480.out).2.1)
                            rintro e w41 ⟨rfl, hb⟩
                            refine ⟨_, rfl, ?_⟩
                            replace HO464 := kb HO464 hb
                            replace HO469 := kb HO469 hb
                            replace HO472 := kb HO472 hb
                            replace HO480 := kb HO480 hb
                            replace BK459 := bb BK459 hb
                            replace BK477 := bb BK477 hb
                            replace HB := bh HB hb
                            (try clear hb)
                            (try clear hb2)
                            (try clear hk)
                            (try clear hi)
                            refine hK.out _ _ ⟨(blk_cell BK477.out 0).trans rfl, (blk_cell BK477.out 1).trans rfl, (blk_cell BK459.out 0).trans rfl, (blk_cell BK459.out 1).trans rfl, (blk_cell BK459.out 2).trans rfl⟩ (fun hHeld => ?_)
                            clear hK K
                            refine norm_ (a' := ?_) ?_ ?_
                            rotate_left
                            ·show Act.put _ (some 78) _ = _
                             simp only [Act.put, List.setIfInBounds_toArray, List.set_cons_zero, List.set_cons_succ, i64_w, i32_w]
                             rfl
                            refine pure_ (i := 10) (N := some 79) (v := ?_) (a' := ?_) #[true, true, true, true, true, true, true, true, true, true, true, false] rfl rfl (any_of HT_.out (by kernel_rfl)) (fun _ _ _ h => h) (Or.inl ⟨by rfl, ?_⟩) ?_ ?_
                            rotate_left
                            ·intro w'
                             go_simp
                             with_reducible rfl
                            rotate_left
                            ·simp only [Act.put, List.setIfInBounds_toArray, List.set_cons_zero, List.set_cons_succ, i64_w, i32_w]
                             rfl
                            refine pure_ (i := 11) (N := some 80) (v := ?_) (a' := ?_) #[true, true, true, true, true, true, true, true, true, true, true, true] rfl rfl (any_of HT_.out (by kernel_rfl)) (fun _ _ _ h => h) (Or.inl ⟨by rfl, ?_⟩) ?_ ?_
                            rotate_left
                            ·intro w'
                             go_simp
                             with_reducible rfl
                            rotate_left
                            ·simp only [Act.put, List.setIfInBounds_toArray, List.set_cons_zero, List.set_cons_succ, i64_w, i32_w]
                             rfl
                            refine done_ (done_of HT_.out (by kernel_rfl)) ?_
                            try go_wp2
                            go_meet
                            case rel => exact ⟨_, H', ⟨by first | omega | exact Nat.le_refl _⟩, ⟨bk BK459.out⟩, ⟨bq HB.out⟩⟩
                      ·as_aux_lemma =>
                         rw [if_neg c23] at H
                         have c23b0 : (t476 == 0) = false := beq_eq_false_iff_ne.mpr c23
                         have c23b1 : (t476 != 0) = true := bne_iff_ne.mpr c23
                         have H' := Aside0.mk H
                         clear H
                         obtain ⟨Ao42, co42, eo42⟩ := Kd.R_slice HO464.out
                         subst eo42
                         try go_wp2_with (first | ((with_reducible refine gate_callee (f := 21) rfl ?_); refine goesL_ (some 42) rfl rfl Try.func21 (by kernel_rfl) rfl #[.int .i64 a0, .slice Ao42 t461.length co42, .int .i64 (wrap64 ((l1.length : Int) - 1))] rfl (by (try simp only [List.map_toArray, List.map_cons, List.map_nil]); first | done | rfl | (simp only [List.length_drop, List.length_take]; rfl)) ?_; (with_reducible refine (line_Values.calls k a0 _ _ t461 (wrap64 ((l1.length : Int) - 1)) t466 t467 _ ?side1 ?side2 A16.out).mono ?_); (case side1 => repeat (first | exact (Kd.R_reads' HO464.out).2.2 | (with_reducible refine Kd.C_alloc ?_ _) | (with_reducible refine Kd.C_drewN ?_ _) | (with_reducible refine Kd.C_drew ?_))); (case side2 => exact (Kd.R_reads' HO464.out).2.1); rintro e w43 ⟨v468, rfl, ho0, hb⟩; refine ⟨_, rfl, ?_⟩; have HO469 := Aside0.mk (Kd.R_lower (Kd.R_new' ho0 (Kd.R_lt (kr HO464.out))) (below_size (bq HB.out))); replace HO464 := Aside0.mk (Kd.R_elder' (kr HO464.out) (Kd.R_base ho0) hb); replace BK459 := bb BK459 hb; replace HB := bh HB hb; (try clear hb); (try clear hb2); (try clear hk); (try clear hi); (try clear ho0)) | (go_at_call 19; (with_reducible refine (steeplelaw01_Ref.calls k _ _ l1 t470 _ ?side1 ?side2 A18.out).mono ?_); (case side1 => repeat (first | exact (Kd.C_below HR1.out HB.out) | (with_reducible refine Kd.C_alloc ?_ _) | (with_reducible refine Kd.C_drewN ?_ _) | (with_reducible refine Kd.C_drew ?_))); (case side2 => exact HC1.out); rintro e w44 ⟨v471, rfl, ho0, hb⟩; have HO472 := kw ho0 HB; replace HO464 := kb HO464 hb; replace HO469 := kb HO469 hb; replace BK459 := bb BK459 hb; replace HB := bh HB hb; (try clear hb); (try clear hb2); (try clear hk); (try clear hi); (try clear ho0); obtain ⟨Ao45, co45, eo45⟩ := Kd.R_slice HO469.out; subst eo45; obtain ⟨Ao46, co46, eo46⟩ := Kd.R_slice HO472.out; subst eo46) | (go_at_call 22; (with_reducible refine (steeplelaw01_Same.calls k _ _ t466 _ _ t470 true _ ?side1 ?side2 ?side3 ?side4 A19.out).mono ?_); (case side1 => repeat (first | exact (Kd.R_reads' HO469.out).2.2 | (with_reducible refine Kd.C_alloc ?_ _) | (with_reducible refine Kd.C_drewN ?_ _) | (with_reducible refine Kd.C_drew ?_))); (case side2 => exact (Kd.R_reads' HO469.out).2.1); (case side3 => repeat (first | exact (Kd.R_reads' HO472.out).2.2 | (with_reducible refine Kd.C_alloc ?_ _) | (with_reducible refine Kd.C_drewN ?_ _) | (with_reducible refine Kd.C_drew ?_))); (case side4 => exact (Kd.R_reads' HO472.out).2.1); rintro e w' ⟨rfl, ⟨nd, rfl⟩⟩; (try (rw [drewN_self w44]; generalize hq_ : World.drewN w44 _ = w44; have n0_ : Aside0 (Kd.R k28 28 w44 w.heap.size (fun k_ => some k_ ≠ (.slice Ao45 t466.length co45 : Value).ownBlock) (.slice Ao42 t461.length co42) t461) := ⟨by rw [← hq_]; exact (by (with_reducible repeat refine kl ?_); exact Kd.R_mono HO464.out (fun _ hk => hk.2))⟩; have n1_ : Aside0 (Kd.R k28 28 w44 w.heap.size (fun k_ => some k_ ≠ (.slice Ao42 t461.length co42 : Value).ownBlock) (.slice Ao45 t466.length co45) t466) := ⟨by rw [← hq_]; exact (by (with_reducible repeat refine kl ?_); exact Kd.R_mono HO469.out (fun _ hk => hk.2))⟩; have n2_ : Aside0 (Kd.R k37 37 w44 w.heap.size (fun _ => True) (.slice Ao46 t470.length co46) t470) := ⟨by rw [← hq_]; exact (kr HO472.out)⟩; have n3_ : Aside0 (w44.heap[gb459]? = some (.cells #[.int .u64 a2_0, .int .u64 a2_1, .int .i64 a2_2] 49 (0, 0))) := ⟨by rw [← hq_]; exact (bk BK459.out)⟩; have n4_ : Aside0 (Below w.heap.size w w44) := ⟨by rw [← hq_]; exact (bq HB.out)⟩; clear HO464 HO469 HO472 BK459 HB hq_; have HO464 := n0_; have HO469 := n1_; have HO472 := n2_; have BK459 := n3_; have HB := n4_; clear n0_ n1_ n2_ n3_ n4_)); obtain ⟨hcz47_0, hcz47_1, hcz47_2⟩ := zc3 BK459; obtain ⟨hfz47_0, hfz47_1, hfz47_2⟩ := zf3 BK459) | ((with_reducible refine gate_callee (f := 10) rfl ?_); refine goesL_ (some 66) rfl rfl Try.func10 (by kernel_rfl) rfl #[.int .i64 a0, .slice A1 l1.length c1, .agg #[.int .u64 a2_0, .int .u64 a2_1]] rfl (by (try simp only [List.map_toArray, List.map_cons, List.map_nil]); first | done | rfl | (simp only [List.length_drop, List.length_take]; rfl)) ?_; (with_reducible refine (line_At.calls k a0 _ _ l1 a2_0 a2_1 t474 t475 t476 _ ?side1 ?side2 A22.out).mono ?_); (case side1 => repeat (first | exact (Kd.C_below HR1.out HB.out) | (with_reducible refine Kd.C_alloc ?_ _) | (with_reducible refine Kd.C_drewN ?_ _) | (with_reducible refine Kd.C_drew ?_))); (case side2 => exact HC1.out); rintro e w48 ⟨rfl, hb⟩; refine ⟨_, rfl, ?_⟩; replace HO464 := kb HO464 hb; replace HO469 := kb HO469 hb; replace HO472 := kb HO472 hb; replace BK459 := bb BK459 hb; replace HB := bh HB hb; (try clear hb); (try clear hb2); (try clear hk); (try clear hi)) | ((with_reducible refine gate_dst (N := 11) rfl ?_); (try (refine gate_guard (by rfl) ?_; dsimp only)); refine box_event ?hg (N := 11) ?hd (cs := #[.int .u64 0, .int .u64 0]) (t := 28) ?hr ?_; (case hd => rfl); (case hg => rfl); (case hr => first | (go_simp; done) | (go_simp; rfl)); intro gb477 hg w49 hbox hb; have BK477 := Aside0.mk hbox; have GW477 := ge hg HB; have GE477 := ge hg HB; have NB459_477 := nl hg BK459; have NB477_459 := ng hg BK459; replace HO464 := Aside0.mk (Kd.R_below (Kd.R_elderB (kr HO464.out) gb477 (Nat.le_of_eq hg.symm)) hb); replace HO469 := Aside0.mk (Kd.R_below (Kd.R_elderB (kr HO469.out) gb477 (Nat.le_of_eq hg.symm)) hb); replace HO472 := kb HO472 hb; replace BK459 := bb BK459 hb; replace HB := bh HB hb; clear hb hbox hg; have hnb50 := NB477_459.out; have hnc50 := NB459_477.out; obtain ⟨hcz51_0, hcz51_1⟩ := zc2 BK477; obtain ⟨hfz51_0, hfz51_1⟩ := zf2 BK477))
                         have n0_ : Aside0 (Kd.R k28 28 ((w49.setCell ⟨gb477, 0, none⟩ (.int .u64 t474)).setCell ⟨gb477, 1, none⟩ (.int .u64 t475)) w.heap.size (fun k_ => some k_ ≠ (.slice Ao45 t466.length co45 : Value).ownBlock ∧ k_ ≠ gb477) (.slice Ao42 t461.length co42) t461) := ⟨by (with_reducible repeat refine kl ?_); exact Kd.R_mono (Kd.R_far (p := ⟨gb477, 1, none⟩) (Kd.R_far (p := ⟨gb477, 0, none⟩) (Kd.R_mono HO464.out (fun k_ hk => (⟨hk, hk.2⟩ : _ ∧ k_ ≠ gb477))) (fun _ hk => hk.2) (.int .u64 t474)) (fun _ hk => hk.2) (.int .u64 t475)) (fun _ hk => hk.1)⟩
                         have n1_ : Aside0 (Kd.R k28 28 ((w49.setCell ⟨gb477, 0, none⟩ (.int .u64 t474)).setCell ⟨gb477, 1, none⟩ (.int .u64 t475)) w.heap.size (fun k_ => some k_ ≠ (.slice Ao42 t461.length co42 : Value).ownBlock ∧ k_ ≠ gb477) (.slice Ao45 t466.length co45) t466) := ⟨by (with_reducible repeat refine kl ?_); exact Kd.R_mono (Kd.R_far (p := ⟨gb477, 1, none⟩) (Kd.R_far (p := ⟨gb477, 0, none⟩) (Kd.R_mono HO469.out (fun k_ hk => (⟨hk, hk.2⟩ : _ ∧ k_ ≠ gb477))) (fun _ hk => hk.2) (.int .u64 t474)) (fun _ hk => hk.2) (.int .u64 t475)) (fun _ hk => hk.1)⟩
                         have n2_ : Aside0 (Kd.R k37 37 ((w49.setCell ⟨gb477, 0, none⟩ (.int .u64 t474)).setCell ⟨gb477, 1, none⟩ (.int .u64 t475)) w.heap.size (fun _ => True) (.slice Ao46 t470.length co46) t470) := ⟨by (with_reducible repeat refine kl ?_); exact Kd.R_mono (Kd.R_far (p := ⟨gb477, 1, none⟩) (Kd.R_far (p := ⟨gb477, 0, none⟩) (Kd.R_types HO472.out BK477.out (by decide)) (fun _ hk => hk.2) (.int .u64 t474)) (fun _ hk => hk.2) (.int .u64 t475)) (fun _ hk => trivial)⟩
                         have n3_ : Aside0 (((w49.setCell ⟨gb477, 0, none⟩ (.int .u64 t474)).setCell ⟨gb477, 1, none⟩ (.int .u64 t475)).heap[gb459]? = some (.cells #[.int .u64 a2_0, .int .u64 a2_1, .int .i64 a2_2] 49 (0, 0))) := ⟨by (with_reducible repeat refine bl ?_); refine blk_far ?_ NB459_477.out _; (with_reducible repeat refine bl ?_); refine blk_far ?_ NB459_477.out _; (with_reducible repeat refine bl ?_); exact BK459.out⟩
                         have n4_ : Aside0 (((w49.setCell ⟨gb477, 0, none⟩ (.int .u64 t474)).setCell ⟨gb477, 1, none⟩ (.int .u64 t475)).heap[gb477]? = some (.cells #[.int .u64 t474, .int .u64 t475] 28 (0, 0))) := ⟨by (with_reducible repeat refine bl ?_); refine blk_put (cs := #[.int .u64 t474, .int .u64 0]) ?_ 1 _ rfl; (with_reducible repeat refine bl ?_); refine blk_put (cs := #[.int .u64 0, .int .u64 0]) ?_ 0 _ rfl; (with_reducible repeat refine bl ?_); exact BK477.out⟩
                         have n5_ : Aside0 (Below w.heap.size w ((w49.setCell ⟨gb477, 0, none⟩ (.int .u64 t474)).setCell ⟨gb477, 1, none⟩ (.int .u64 t475))) := ⟨bq HB.out⟩
                         (try clear HO464)
                         (try clear HO469)
                         (try clear HO472)
                         (try clear BK459)
                         (try clear BK477)
                         (try clear HB)
                         generalize ((w49.setCell ⟨gb477, 0, none⟩ (.int .u64 t474)).setCell ⟨gb477, 1, none⟩ (.int .u64 t475)) = w52 at n0_ n1_ n2_ n3_ n4_ n5_ ⊢
                         have HO464 := n0_
                         have HO469 := n1_
                         have HO472 := n2_
                         have BK459 := n3_
                         have BK477 := n4_
                         have HB := n5_
                         clear n0_ n1_ n2_ n3_ n4_ n5_
                         replace HO464 := Aside0.mk (Kd.R_drew HO464.out)
                         replace HO469 := Aside0.mk (Kd.R_drew HO469.out)
                         replace HO472 := Aside0.mk (Kd.R_drew HO472.out)
                         replace BK459 := Aside0.mk (blk_drew BK459.out)
                         replace BK477 := Aside0.mk (blk_drew BK477.out)
                         replace HB := Aside0.mk (below_drew1 HB.out)
                         refine start_ (n := 12) (S := fun w' => True) (ds := []) #[false, false, false, false, false, false, false, false, false, false, false, false] (by kernel_rfl) rfl rfl trivial (fun hHeld => ?_); refine with_tabW steeplelaw17_LineBack.tab11 steeplelaw17_LineBack.bits11 (fun HT_ HW_ => ?_)
                         generalize w52.drew = w53 at HO464 HO469 HO472 BK459 BK477 HB hHeld ⊢
                         refine pure_ (i := 0) (N := some 69) (v := ?_) (a' := ?_) #[true, false, false, false, false, false, false, false, false, false, false, false] rfl rfl (any_of HT_.out (by kernel_rfl)) (fun _ _ _ h => h) (Or.inl ⟨by rfl, ?_⟩) ?_ ?_
                         rotate_left
                         ·intro w'
                          go_simp
                          with_reducible rfl
                         rotate_left
                         ·simp only [Act.put, List.setIfInBounds_toArray, List.set_cons_zero, List.set_cons_succ, i64_w, i32_w]
                          rfl
                         refine pure_ (i := 1) (N := some 70) (v := ?_) (a' := ?_) #[true, true, false, false, false, false, false, false, false, false, false, false] rfl rfl (any_of HT_.out (by kernel_rfl)) (fun _ _ _ h => h) (Or.inl ⟨by rfl, ?_⟩) ?_ ?_
                         rotate_left
                         ·intro w'
                          go_simp
                          with_reducible rfl
                         rotate_left
                         ·simp only [Act.put, List.setIfInBounds_toArray, List.set_cons_zero, List.set_cons_succ, i64_w, i32_w]
                          rfl
                         refine pure_ (i := 2) (N := some 71) (v := ?_) (a' := ?_) #[true, true, true, false, false, false, false, false, false, false, false, false] rfl rfl (any_of HT_.out (by kernel_rfl)) (fun _ _ _ h => h) (Or.inl ⟨by rfl, ?_⟩) ?_ ?_
                         rotate_left
                         ·intro w'
                          go_simp
                          with_reducible rfl
                         rotate_left
                         ·simp only [Act.put, List.setIfInBounds_toArray, List.set_cons_zero, List.set_cons_succ, i64_w, i32_w]
                          rfl
                         refine pure_ (i := 3) (N := some 72) (v := undef) (a' := ?_) #[true, true, true, true, false, false, false, false, false, false, false, false] rfl rfl (any_of HT_.out (by kernel_rfl)) (fun _ _ _ h => h) (Or.inr ⟨by rfl, rfl⟩) ?_ ?_
                         rotate_left
                         ·simp only [Act.put, List.setIfInBounds_toArray, List.set_cons_zero, List.set_cons_succ, i64_w, i32_w]
                          rfl
                         refine pure_ (i := 4) (N := some 73) (v := undef) (a' := ?_) #[true, true, true, true, true, false, false, false, false, false, false, false] rfl rfl (any_of HT_.out (by kernel_rfl)) (fun _ _ _ h => h) (Or.inr ⟨by rfl, rfl⟩) ?_ ?_
                         rotate_left
                         ·simp only [Act.put, List.setIfInBounds_toArray, List.set_cons_zero, List.set_cons_succ, i64_w, i32_w]
                          rfl
                         refine pure_ (i := 5) (N := some 74) (v := undef) (a' := ?_) #[true, true, true, true, true, true, false, false, false, false, false, false] rfl rfl (any_of HT_.out (by kernel_rfl)) (fun _ _ _ h => h) (Or.inr ⟨by rfl, rfl⟩) ?_ ?_
                         rotate_left
                         ·simp only [Act.put, List.setIfInBounds_toArray, List.set_cons_zero, List.set_cons_succ, i64_w, i32_w]
                          rfl
                         refine pure_ (i := 6) (N := some 75) (v := undef) (a' := ?_) #[true, true, true, true, true, true, true, false, false, false, false, false] rfl rfl (any_of HT_.out (by kernel_rfl)) (fun _ _ _ h => h) (Or.inr ⟨by rfl, rfl⟩) ?_ ?_
                         rotate_left
                         ·simp only [Act.put, List.setIfInBounds_toArray, List.set_cons_zero, List.set_cons_succ, i64_w, i32_w]
                          rfl
                         refine pure_ (i := 7) (N := some 76) (v := undef) (a' := ?_) #[true, true, true, true, true, true, true, true, false, false, false, false] rfl rfl (any_of HT_.out (by kernel_rfl)) (fun _ _ _ h => h) (Or.inr ⟨by rfl, rfl⟩) ?_ ?_
                         rotate_left
                         ·simp only [Act.put, List.setIfInBounds_toArray, List.set_cons_zero, List.set_cons_succ, i64_w, i32_w]
                          rfl
                         refine pure_ (i := 8) (N := some 77) (v := undef) (a' := ?_) #[true, true, true, true, true, true, true, true, true, false, false, false] rfl rfl (any_of HT_.out (by kernel_rfl)) (fun _ _ _ h => h) (Or.inr ⟨by rfl, rfl⟩) ?_ ?_
                         rotate_left
                         ·simp only [Act.put, List.setIfInBounds_toArray, List.set_cons_zero, List.set_cons_succ, i64_w, i32_w]
                          rfl
                         refine pure_ (i := 9) (N := some 78) (v := undef) (a' := ?_) #[true, true, true, true, true, true, true, true, true, true, false, false] rfl rfl (any_of HT_.out (by kernel_rfl)) (fun _ _ _ h => h) (Or.inr ⟨by rfl, rfl⟩) ?_ ?_
                         rotate_left
                         ·simp only [Act.put, List.setIfInBounds_toArray, List.set_cons_zero, List.set_cons_succ, i64_w, i32_w]
                          rfl
                         refine pure_ (i := 10) (N := some 79) (v := undef) (a' := ?_) #[true, true, true, true, true, true, true, true, true, true, true, false] rfl rfl (any_of HT_.out (by kernel_rfl)) (fun _ _ _ h => h) (Or.inr ⟨by rfl, rfl⟩) ?_ ?_
                         rotate_left
                         ·simp only [Act.put, List.setIfInBounds_toArray, List.set_cons_zero, List.set_cons_succ, i64_w, i32_w]
                          rfl
                         refine pure_ (i := 11) (N := some 80) (v := ?_) (a' := ?_) #[true, true, true, true, true, true, true, true, true, true, true, true] rfl rfl (any_of HT_.out (by kernel_rfl)) (fun _ _ _ h => h) (Or.inl ⟨by rfl, ?_⟩) ?_ ?_
                         rotate_left
                         ·intro w'
                          go_simp
                          with_reducible rfl
                         rotate_left
                         ·simp only [Act.put, List.setIfInBounds_toArray, List.set_cons_zero, List.set_cons_succ, i64_w, i32_w]
                          rfl
                         refine done_ (done_of HT_.out (by kernel_rfl)) ?_
                         try go_wp2
                         go_meet
                         case rel => exact ⟨_, H', ⟨by first | omega | exact Nat.le_refl _⟩, ⟨bk BK459.out⟩, ⟨bq HB.out⟩⟩
                   ·as_aux_lemma =>
                      rw [if_neg c21] at H
                      exact absurd H (by simp)
                ·as_aux_lemma =>
                   replace c20 := Bool.eq_false_iff.mpr c20
                   subst c20
                   have H1 : (none) = some r := by rw [if_neg (show ¬ (false = true) by decide)] at H; exact H
                   clear H
                   have H := H1
                   clear H1
                   exact absurd H (by simp)
             ·as_aux_lemma =>
                rw [if_neg c17] at H
                exact absurd H (by simp)
          ·as_aux_lemma =>
             rw [if_neg c15] at H
             have c15b0 : (t462 == 0) = false := beq_eq_false_iff_ne.mpr c15
             have c15b1 : (t462 != 0) = true := bne_iff_ne.mpr c15
             (first | rw [c15b0] | (simp only [i64_w, i32_w]; rw [c15b0]) | skip)
             have H' := Aside0.mk H
             clear H
             go_wp2
             go_meet
             case rel => exact ⟨_, H', ⟨by first | omega | exact Nat.le_refl _⟩, ⟨bk BK459.out⟩, ⟨bq HB.out⟩⟩
       case rest =>
        as_aux_lemma =>
          clear HC11
          try clear c1
          try clear c2
          try clear p2
          try clear c3
          try clear c4
          try clear c4b0
          try clear c4b1
          try clear c5
          try clear p6
          try clear c7
          try clear c8
          try clear c9
          try clear c10
          try clear c10b0
          try clear c10b1
          try clear c15
          try clear c15b0
          try clear c15b1
          try clear c17
          try clear c17b0
          try clear c17b1
          try clear c19
          try clear c20
          try clear c21
          try clear c21b0
          try clear c21b1
          try clear c21b2
          try clear c23
          try clear c23b0
          try clear c23b1
          try clear c26
          try clear c26b0
          try clear c35
          try clear c50
          try clear hcz32_0
          try clear hcz32_1
          try clear hcz32_2
          try clear hcz36_0
          try clear hcz36_1
          try clear hcz47_0
          try clear hcz47_1
          try clear hcz47_2
          try clear hcz51_0
          try clear hcz51_1
          try clear hfz32_0
          try clear hfz32_1
          try clear hfz32_2
          try clear hfz36_0
          try clear hfz36_1
          try clear hfz47_0
          try clear hfz47_1
          try clear hfz47_2
          try clear hfz51_0
          try clear hfz51_1
          obtain ⟨kq, HA, HJ10, BK459, HB⟩ := hcut
          cases kq with
          | zero => exact absurd HA.out (by simp [steeplelaw17_LineBack.j0])
          | succ kj10 =>
           have H := HA.out
           clear HA
           simp only [steeplelaw17_LineBack.j0] at H
           replace H := Option.bind_eq_some_iff.mp H
           obtain ⟨⟨t483, t484⟩, A540, H⟩ := H
           replace H : (if a0 < 0 then (steeplelaw17_LineBack.j1 kj10 a0 l1 t483 t484 0 true a2_0 a2_1 a2_2) else (steeplelaw17_LineBack.j1 kj10 a0 l1 t483 t484 0 (decide (a0 > 7)) a2_0 a2_1 a2_2)) = some r := H
           have A54 := Aside0.mk A540
           clear A540
           have HC55 := Aside0.mk H
           clear H
           obtain ⟨hcz56_0, hcz56_1, hcz56_2⟩ := zc3 BK459
           obtain ⟨hfz56_0, hfz56_1, hfz56_2⟩ := zf3 BK459
           go_upto_region 15 with (first | ((with_reducible refine gate_callee (f := 21) rfl ?_); refine goesL_ (some 86) rfl rfl Try.func21 (by kernel_rfl) rfl #[.int .i64 a0, .slice A1 l1.length c1, .int .i64 a2_2] rfl (by (try simp only [List.map_toArray, List.map_cons, List.map_nil]); first | done | rfl | (simp only [List.length_drop, List.length_take]; rfl)) ?_; (with_reducible refine (line_Values.calls kj10 a0 _ _ l1 a2_2 t483 t484 _ ?side1 ?side2 A54.out).mono ?_); (case side1 => repeat (first | exact (Kd.C_below HR1.out HB.out) | (with_reducible refine Kd.C_alloc ?_ _) | (with_reducible refine Kd.C_drewN ?_ _) | (with_reducible refine Kd.C_drew ?_))); (case side2 => exact HC1.out); rintro e w57 ⟨v485, rfl, ho0, hb⟩; refine ⟨_, rfl, ?_⟩; have HO486 := kw ho0 HB; replace BK459 := bb BK459 hb; replace HB := bh HB hb; (try clear hb); (try clear hb2); (try clear hk); (try clear hi); (try clear ho0)))
           (try simp only [Act.put, List.setIfInBounds_toArray, List.set_cons_zero, List.set_cons_succ])
           go_cut [94] (fun v94 wc => ∃ (kq : Nat) (x94_54 : Bool), v94 = .bool x94_54 ∧ Aside0 (steeplelaw17_LineBack.j1 kq a0 l1 t483 t484 0 x94_54 a2_0 a2_1 a2_2 = some r) ∧ Aside0 (kq ≤ kj10) ∧ Aside0 (Kd.R k28 28 wc w.heap.size (fun _ => True) v485 t483) ∧ Aside0 (wc.heap[gb459]? = some (.cells #[.int .u64 a2_0, .int .u64 a2_1, .int .i64 a2_2] 49 (0, 0))) ∧ Aside0 (Below w.heap.size w wc))
           case first =>
            as_aux_lemma =>
              have H := HC55.out
              clear HC55
              by_cases c58 : a0 < 0
              ·as_aux_lemma =>
                 rw [if_pos c58] at H
                 have c58b0 : decide (a0 < 0) = true := decide_eq_true c58
                 clear c58
                 (first | rw [c58b0] | (simp only [i64_w, i32_w]; rw [c58b0]) | skip)
                 have H' := Aside0.mk H
                 clear H
                 go_wp2
                 go_meet
                 case rel => exact ⟨_, (true), (by first | rfl | (simp; done) | (simp [*]; done)), H', ⟨by have := HJ10.out; first | omega | exact Nat.le_refl _⟩, ⟨kr HO486.out⟩, ⟨bk BK459.out⟩, ⟨bq HB.out⟩⟩
              ·as_aux_lemma =>
                 rw [if_neg c58] at H
                 have c58b0 : decide (a0 < 0) = false := decide_eq_false c58
                 clear c58
                 (first | rw [c58b0] | (simp only [i64_w, i32_w]; rw [c58b0]) | skip)
                 have H' := Aside0.mk H
                 clear H
                 go_wp2
                 go_meet
                 case rel => exact ⟨_, (decide (a0 > 7)), (by first | rfl | (simp; done) | (simp [*]; done)), H', ⟨by have := HJ10.out; first | omega | exact Nat.le_refl _⟩, ⟨kr HO486.out⟩, ⟨bk BK459.out⟩, ⟨bq HB.out⟩⟩
           case rest =>
            as_aux_lemma =>
              clear HC55
              try clear c1
              try clear c2
              try clear p2
              try clear c3
              try clear c4
              try clear c4b0
              try clear c4b1
              try clear c5
              try clear p6
              try clear c7
              try clear c8
              try clear c9
              try clear c10
              try clear c10b0
              try clear c10b1
              try clear c15
              try clear c15b0
              try clear c15b1
              try clear c17
              try clear c17b0
              try clear c17b1
              try clear c19
              try clear c20
              try clear c21
              try clear c21b0
              try clear c21b1
              try clear c21b2
              try clear c23
              try clear c23b0
              try clear c23b1
              try clear c26
              try clear c26b0
              try clear c35
              try clear c50
              try clear c58
              try clear c58b0
              try clear hcz32_0
              try clear hcz32_1
              try clear hcz32_2
              try clear hcz36_0
              try clear hcz36_1
              try clear hcz47_0
              try clear hcz47_1
              try clear hcz47_2
              try clear hcz51_0
              try clear hcz51_1
              try clear hcz56_0
              try clear hcz56_1
              try clear hcz56_2
              try clear hfz32_0
              try clear hfz32_1
              try clear hfz32_2
              try clear hfz36_0
              try clear hfz36_1
              try clear hfz47_0
              try clear hfz47_1
              try clear hfz47_2
              try clear hfz51_0
              try clear hfz51_1
              try clear hfz56_0
              try clear hfz56_1
              try clear hfz56_2
              try clear p2
              try clear p6
              obtain ⟨kq, x94_54, rfl, HA, HJ54, HO_13, BK459, HB⟩ := hcut
              cases kq with
              | zero => exact absurd HA.out (by simp [steeplelaw17_LineBack.j1])
              | succ kj54 =>
               have H := HA.out
               clear HA
               simp only [steeplelaw17_LineBack.j1] at H
               have HC59 := Aside0.mk H
               clear H
               go_upto_if 94 with (fail)
               go_cut [15] (fun v15 wc => ∃ (kq : Nat) (x15_58 : Int), v15 = .int .i64 x15_58 ∧ Aside0 (steeplelaw17_LineBack.j3 kq a0 l1 t483 t484 x15_58 a2_0 a2_1 a2_2 = some r) ∧ Aside0 (kq ≤ kj54) ∧ Aside0 (Kd.R k28 28 wc w.heap.size (fun _ => True) v485 t483) ∧ Aside0 (wc.heap[gb459]? = some (.cells #[.int .u64 a2_0, .int .u64 a2_1, .int .i64 a2_2] 49 (0, 0))) ∧ Aside0 (Below w.heap.size w wc))
               case first =>
                as_aux_lemma =>
                  have H := HC59.out
                  clear HC59
                  by_cases c60 : x94_54 = true
                  ·as_aux_lemma =>
                     subst c60
                     have H1 : (steeplelaw17_LineBack.j3 kj54 a0 l1 t483 t484 1 a2_0 a2_1 a2_2) = some r := by rw [if_pos rfl] at H; exact H
                     clear H
                     have H := H1
                     clear H1
                     have H' := Aside0.mk H
                     clear H
                     go_wp2
                     go_meet
                     case rel => exact ⟨_, (1), (by first | rfl | (simp; done) | (simp [*]; done)), H', ⟨by have := HJ10.out; have := HJ54.out; first | omega | exact Nat.le_refl _⟩, ⟨kr HO_13.out⟩, ⟨bk BK459.out⟩, ⟨bq HB.out⟩⟩
                  ·as_aux_lemma =>
                     replace c60 := Bool.eq_false_iff.mpr c60
                     subst c60
                     have H1 : ((steepleref17_Fits.f a0 a2_2).bind fun t487 => (if t487 = true then (if (l1.length : Int) = 0 then (steeplelaw17_LineBack.j2 kj54 a0 l1 t483 t484 0 true a2_0 a2_1 a2_2) else (steeplelaw17_LineBack.j2 kj54 a0 l1 t483 t484 0 (decide ((wrap64 ((l1.length : Int) - 1)) > a2_2)) a2_0 a2_1 a2_2)) else (steeplelaw17_LineBack.j2 kj54 a0 l1 t483 t484 0 true a2_0 a2_1 a2_2))) = some r := by rw [if_neg (show ¬ (false = true) by decide)] at H; exact H
                     clear H
                     have H := H1
                     clear H1
                     have HC61 := Aside0.mk H
                     clear H
                     go_upto_region 17 with (fail)
                     go_cut [112] (fun v112 wc => ∃ (kq : Nat) (x112_60 : Bool), v112 = .bool x112_60 ∧ Aside0 (steeplelaw17_LineBack.j2 kq a0 l1 t483 t484 0 x112_60 a2_0 a2_1 a2_2 = some r) ∧ Aside0 (kq ≤ kj54) ∧ Aside0 (Kd.R k28 28 wc w.heap.size (fun _ => True) v485 t483) ∧ Aside0 (wc.heap[gb459]? = some (.cells #[.int .u64 a2_0, .int .u64 a2_1, .int .i64 a2_2] 49 (0, 0))) ∧ Aside0 (Below w.heap.size w wc))
                     case first =>
                      as_aux_lemma =>
                        have H := HC61.out
                        clear HC61
                        replace H := Option.bind_eq_some_iff.mp H
                        obtain ⟨t487, A620, H⟩ := H
                        replace H : (if t487 = true then (if (l1.length : Int) = 0 then (steeplelaw17_LineBack.j2 kj54 a0 l1 t483 t484 0 true a2_0 a2_1 a2_2) else (steeplelaw17_LineBack.j2 kj54 a0 l1 t483 t484 0 (decide ((wrap64 ((l1.length : Int) - 1)) > a2_2)) a2_0 a2_1 a2_2)) else (steeplelaw17_LineBack.j2 kj54 a0 l1 t483 t484 0 true a2_0 a2_1 a2_2)) = some r := H
                        have A62 := Aside0.mk A620
                        clear A620
                        by_cases c63 : t487 = true
                        ·as_aux_lemma =>
                           subst c63
                           have H1 : (if (l1.length : Int) = 0 then (steeplelaw17_LineBack.j2 kj54 a0 l1 t483 t484 0 true a2_0 a2_1 a2_2) else (steeplelaw17_LineBack.j2 kj54 a0 l1 t483 t484 0 (decide ((wrap64 ((l1.length : Int) - 1)) > a2_2)) a2_0 a2_1 a2_2)) = some r := by rw [if_pos rfl] at H; exact H
                           clear H
                           have H := H1
                           clear H1
                           by_cases c64 : (l1.length : Int) = 0
                           ·as_aux_lemma =>
                              rw [if_pos c64] at H
                              have c64b0 : ((l1.length : Int) == 0) = true := beq_iff_eq.mpr c64
                              have c64b1 : ((l1.length : Int) != 0) = false := bne_eq_false_iff_eq.mpr c64
                              clear c64
                              (first | rw [c64b0] | (simp only [i64_w, i32_w]; rw [c64b0]) | skip)
                              have H' := Aside0.mk H
                              clear H
                              obtain ⟨hcz65_0, hcz65_1, hcz65_2⟩ := zc3 BK459
                              obtain ⟨hfz65_0, hfz65_1, hfz65_2⟩ := zf3 BK459
                              go_wp2_with (first | ((with_reducible refine gate_callee (f := 17) rfl ?_); refine goesL_ (some 98) rfl rfl Try.func17 (by kernel_rfl) rfl #[.int .i64 a0, .int .i64 a2_2] rfl (by (try simp only [List.map_toArray, List.map_cons, List.map_nil]); first | done | rfl | (simp only [List.length_drop, List.length_take]; rfl)) ?_; (with_reducible refine (steepleref17_Fits.calls a0 a2_2 true _ A62.out).mono ?_); rintro e w66 ⟨rfl, hb⟩; refine ⟨_, rfl, ?_⟩; replace HO_13 := kb HO_13 hb; replace BK459 := bb BK459 hb; replace HB := bh HB hb; (try clear hb); (try clear hb2); (try clear hk); (try clear hi)))
                              go_meet
                              case rel => exact ⟨_, (true), (by first | rfl | (simp; done) | (simp [*]; done)), H', ⟨by have := HJ10.out; have := HJ54.out; first | omega | exact Nat.le_refl _⟩, ⟨kr HO_13.out⟩, ⟨bk BK459.out⟩, ⟨bq HB.out⟩⟩
                           ·as_aux_lemma =>
                              rw [if_neg c64] at H
                              have c64b0 : ((l1.length : Int) == 0) = false := beq_eq_false_iff_ne.mpr c64
                              have c64b1 : ((l1.length : Int) != 0) = true := bne_iff_ne.mpr c64
                              have c64b2 : ¬ (l1 = []) := fun h_ => c64 (by rw [h_]; rfl)
                              (first | rw [c64b0] | (simp only [i64_w, i32_w]; rw [c64b0]) | skip)
                              have H' := Aside0.mk H
                              clear H
                              obtain ⟨hcz67_0, hcz67_1, hcz67_2⟩ := zc3 BK459
                              obtain ⟨hfz67_0, hfz67_1, hfz67_2⟩ := zf3 BK459
                              go_wp2_with (first | ((with_reducible refine gate_callee (f := 17) rfl ?_); refine goesL_ (some 98) rfl rfl Try.func17 (by kernel_rfl) rfl #[.int .i64 a0, .int .i64 a2_2] rfl (by (try simp only [List.map_toArray, List.map_cons, List.map_nil]); first | done | rfl | (simp only [List.length_drop, List.length_take]; rfl)) ?_; (with_reducible refine (steepleref17_Fits.calls a0 a2_2 true _ A62.out).mono ?_); rintro e w68 ⟨rfl, hb⟩; refine ⟨_, rfl, ?_⟩; replace HO_13 := kb HO_13 hb; replace BK459 := bb BK459 hb; replace HB := bh HB hb; (try clear hb); (try clear hb2); (try clear hk); (try clear hi); obtain ⟨hcz69_0, hcz69_1, hcz69_2⟩ := zc3 BK459; obtain ⟨hfz69_0, hfz69_1, hfz69_2⟩ := zf3 BK459))
                              go_meet
                              case rel => exact ⟨_, (decide ((wrap64 ((l1.length : Int) - 1)) > a2_2)), (by first | rfl | (simp; done) | (simp [*]; done)), H', ⟨by have := HJ10.out; have := HJ54.out; first | omega | exact Nat.le_refl _⟩, ⟨kr HO_13.out⟩, ⟨bk BK459.out⟩, ⟨bq HB.out⟩⟩
                        ·as_aux_lemma =>
                           replace c63 := Bool.eq_false_iff.mpr c63
                           subst c63
                           have H1 : (steeplelaw17_LineBack.j2 kj54 a0 l1 t483 t484 0 true a2_0 a2_1 a2_2) = some r := by rw [if_neg (show ¬ (false = true) by decide)] at H; exact H
                           clear H
                           have H := H1
                           clear H1
                           have H' := Aside0.mk H
                           clear H
                           obtain ⟨hcz70_0, hcz70_1, hcz70_2⟩ := zc3 BK459
                           obtain ⟨hfz70_0, hfz70_1, hfz70_2⟩ := zf3 BK459
                           go_wp2_with (first | ((with_reducible refine gate_callee (f := 17) rfl ?_); refine goesL_ (some 98) rfl rfl Try.func17 (by kernel_rfl) rfl #[.int .i64 a0, .int .i64 a2_2] rfl (by (try simp only [List.map_toArray, List.map_cons, List.map_nil]); first | done | rfl | (simp only [List.length_drop, List.length_take]; rfl)) ?_; (with_reducible refine (steepleref17_Fits.calls a0 a2_2 false _ A62.out).mono ?_); rintro e w71 ⟨rfl, hb⟩; refine ⟨_, rfl, ?_⟩; replace HO_13 := kb HO_13 hb; replace BK459 := bb BK459 hb; replace HB := bh HB hb; (try clear hb); (try clear hb2); (try clear hk); (try clear hi)))
                           go_meet
                           case rel => exact ⟨_, (true), (by first | rfl | (simp; done) | (simp [*]; done)), H', ⟨by have := HJ10.out; have := HJ54.out; first | omega | exact Nat.le_refl _⟩, ⟨kr HO_13.out⟩, ⟨bk BK459.out⟩, ⟨bq HB.out⟩⟩
                     case rest =>
                      as_aux_lemma =>
                        clear HC61
                        try clear c1
                        try clear c2
                        try clear p2
                        try clear c3
                        try clear c4
                        try clear c4b0
                        try clear c4b1
                        try clear c5
                        try clear c6
                        try clear p6
                        try clear c7
                        try clear c8
                        try clear c9
                        try clear c10
                        try clear c10b0
                        try clear c10b1
                        try clear c15
                        try clear c15b0
                        try clear c15b1
                        try clear c17
                        try clear c17b0
                        try clear c17b1
                        try clear c19
                        try clear c20
                        try clear c21
                        try clear c21b0
                        try clear c21b1
                        try clear c21b2
                        try clear c23
                        try clear c23b0
                        try clear c23b1
                        try clear c26
                        try clear c26b0
                        try clear c35
                        try clear c50
                        try clear c58
                        try clear c58b0
                        try clear c60
                        try clear c63
                        try clear c64
                        try clear c64b0
                        try clear c64b1
                        try clear c64b2
                        try clear p64
                        try clear hcz32_0
                        try clear hcz32_1
                        try clear hcz32_2
                        try clear hcz36_0
                        try clear hcz36_1
                        try clear hcz47_0
                        try clear hcz47_1
                        try clear hcz47_2
                        try clear hcz51_0
                        try clear hcz51_1
                        try clear hcz56_0
                        try clear hcz56_1
                        try clear hcz56_2
                        try clear hcz65_0
                        try clear hcz65_1
                        try clear hcz65_2
                        try clear hcz67_0
                        try clear hcz67_1
                        try clear hcz67_2
                        try clear hcz69_0
                        try clear hcz69_1
                        try clear hcz69_2
                        try clear hcz70_0
                        try clear hcz70_1
                        try clear hcz70_2
                        try clear hfz32_0
                        try clear hfz32_1
                        try clear hfz32_2
                        try clear hfz36_0
                        try clear hfz36_1
                        try clear hfz47_0
                        try clear hfz47_1
                        try clear hfz47_2
                        try clear hfz51_0
                        try clear hfz51_1
                        try clear hfz56_0
                        try clear hfz56_1
                        try clear hfz56_2
                        try clear hfz65_0
                        try clear hfz65_1
                        try clear hfz65_2
                        try clear hfz67_0
                        try clear hfz67_1
                        try clear hfz67_2
                        try clear hfz69_0
                        try clear hfz69_1
                        try clear hfz69_2
                        try clear hfz70_0
                        try clear hfz70_1
                        try clear hfz70_2
                        try clear p2
                        try clear p6
                        obtain ⟨kq, x112_60, rfl, HA, HJ60, HO_13, BK459, HB⟩ := hcut
                        cases kq with
                        | zero => exact absurd HA.out (by simp [steeplelaw17_LineBack.j2])
                        | succ kj60 =>
                         have H := HA.out
                         clear HA
                         simp only [steeplelaw17_LineBack.j2] at H
                         by_cases c72 : x112_60 = true
                         ·as_aux_lemma =>
                            subst c72
                            have H1 : (steeplelaw17_LineBack.j3 kj60 a0 l1 t483 t484 6 a2_0 a2_1 a2_2) = some r := by rw [if_pos rfl] at H; exact H
                            clear H
                            have H := H1
                            clear H1
                            have H' := Aside0.mk H
                            clear H
                            go_wp2
                            go_meet
                            case rel => exact ⟨_, (6), (by first | rfl | (simp; done) | (simp [*]; done)), H', ⟨by have := HJ10.out; have := HJ54.out; have := HJ60.out; first | omega | exact Nat.le_refl _⟩, ⟨kr HO_13.out⟩, ⟨bk BK459.out⟩, ⟨bq HB.out⟩⟩
                         ·as_aux_lemma =>
                            replace c72 := Bool.eq_false_iff.mpr c72
                            subst c72
                            have H1 : ((steeplelaw01_Ref.f kj60 l1).bind fun t488 => ((steepleref06_All.f kj60 a0 t488).bind fun t491 => (if t491 = true then (steeplelaw17_LineBack.j3 kj60 a0 l1 t483 t484 0 a2_0 a2_1 a2_2) else (steeplelaw17_LineBack.j3 kj60 a0 l1 t483 t484 5 a2_0 a2_1 a2_2)))) = some r := by rw [if_neg (show ¬ (false = true) by decide)] at H; exact H
                            clear H
                            have H := H1
                            clear H1
                            replace H := Option.bind_eq_some_iff.mp H
                            obtain ⟨t488, A730, H⟩ := H
                            replace H : ((steepleref06_All.f kj60 a0 t488).bind fun t491 => (if t491 = true then (steeplelaw17_LineBack.j3 kj60 a0 l1 t483 t484 0 a2_0 a2_1 a2_2) else (steeplelaw17_LineBack.j3 kj60 a0 l1 t483 t484 5 a2_0 a2_1 a2_2))) = some r := H
                            have A73 := Aside0.mk A730
                            clear A730
                            replace H := Option.bind_eq_some_iff.mp H
                            obtain ⟨t491, A740, H⟩ := H
                            replace H : (if t491 = true then (steeplelaw17_LineBack.j3 kj60 a0 l1 t483 t484 0 a2_0 a2_1 a2_2) else (steeplelaw17_LineBack.j3 kj60 a0 l1 t483 t484 5 a2_0 a2_1 a2_2)) = some r := H
                            have A74 := Aside0.mk A740
                            clear A740
                            by_cases c75 : t491 = true
                            ·as_aux_lemma =>
                               subst c75
                               have H1 : (steeplelaw17_LineBack.j3 kj60 a0 l1 t483 t484 0 a2_0 a2_1 a2_2) = some r := by rw [if_pos rfl] at H; exact H
                               clear H
                               have H := H1
                               clear H1
                               have H' := Aside0.mk H
                               clear H
                               go_wp2_with (first | ((with_reducible refine gate_callee (f := 19) rfl ?_); refine goesL_ (some 115) rfl rfl Try.func19 (by kernel_rfl) rfl #[.slice A1 l1.length c1] rfl (by (try simp only [List.map_toArray, List.map_cons, List.map_nil]); first | done | rfl | (simp only [List.length_drop, List.length_take]; rfl)) ?_; (with_reducible refine (steeplelaw01_Ref.calls kj60 _ _ l1 t488 _ ?side1 ?side2 A73.out).mono ?_); (case side1 => repeat (first | exact (Kd.C_below HR1.out HB.out) | (with_reducible refine Kd.C_alloc ?_ _) | (with_reducible refine Kd.C_drewN ?_ _) | (with_reducible refine Kd.C_drew ?_))); (case side2 => exact HC1.out); rintro e w76 ⟨v489, rfl, ho0, hb⟩; refine ⟨_, rfl, ?_⟩; have HO490 := kw ho0 HB; replace HO_13 := kb HO_13 hb; replace BK459 := bb BK459 hb; replace HB := bh HB hb; (try clear hb); (try clear hb2); (try clear hk); (try clear hi); (try clear ho0); obtain ⟨Ao77, co77, eo77⟩ := Kd.R_slice HO490.out; subst eo77) | ((with_reducible refine gate_callee (f := 24) rfl ?_); refine goesL_ (some 116) rfl rfl Try.func24 (by kernel_rfl) rfl #[.int .i64 a0, .slice Ao77 t488.length co77] rfl (by (try simp only [List.map_toArray, List.map_cons, List.map_nil]); first | done | rfl | (simp only [List.length_drop, List.length_take]; rfl)) ?_; (with_reducible refine (steepleref06_All.calls kj60 a0 _ _ t488 true _ ?side1 ?side2 A74.out).mono ?_); (case side1 => repeat (first | exact (Kd.R_reads' HO490.out).2.2 | (with_reducible refine Kd.C_alloc ?_ _) | (with_reducible refine Kd.C_drewN ?_ _) | (with_reducible refine Kd.C_drew ?_))); (case side2 => exact (Kd.R_reads' HO490.out).2.1); rintro e w78 ⟨rfl, hb⟩; refine ⟨_, rfl, ?_⟩; replace HO_13 := kb HO_13 hb; replace HO490 := kb HO490 hb; replace BK459 := bb BK459 hb; replace HB := bh HB hb; (try clear hb); (try clear hb2); (try clear hk); (try clear hi)))
                               go_meet
                               case rel => exact ⟨_, (0), (by first | rfl | (simp; done) | (simp [*]; done)), H', ⟨by have := HJ10.out; have := HJ54.out; have := HJ60.out; first | omega | exact Nat.le_refl _⟩, ⟨kr HO_13.out⟩, ⟨bk BK459.out⟩, ⟨bq HB.out⟩⟩
                            ·as_aux_lemma =>
                               replace c75 := Bool.eq_false_iff.mpr c75
                               subst c75
                               have H1 : (steeplelaw17_LineBack.j3 kj60 a0 l1 t483 t484 5 a2_0 a2_1 a2_2) = some r := by rw [if_neg (show ¬ (false = true) by decide)] at H; exact H
                               clear H
                               have H := H1
                               clear H1
                               have H' := Aside0.mk H
                               clear H
                               go_wp2_with (first | ((with_reducible refine gate_callee (f := 19) rfl ?_); refine goesL_ (some 115) rfl rfl Try.func19 (by kernel_rfl) rfl #[.slice A1 l1.length c1] rfl (by (try simp only [List.map_toArray, List.map_cons, List.map_nil]); first | done | rfl | (simp only [List.length_drop, List.length_take]; rfl)) ?_; (with_reducible refine (steeplelaw01_Ref.calls kj60 _ _ l1 t488 _ ?side1 ?side2 A73.out).mono ?_); (case side1 => repeat (first | exact (Kd.C_below HR1.out HB.out) | (with_reducible refine Kd.C_alloc ?_ _) | (with_reducible refine Kd.C_drewN ?_ _) | (with_reducible refine Kd.C_drew ?_))); (case side2 => exact HC1.out); rintro e w79 ⟨v489, rfl, ho0, hb⟩; refine ⟨_, rfl, ?_⟩; have HO490 := kw ho0 HB; replace HO_13 := kb HO_13 hb; replace BK459 := bb BK459 hb; replace HB := bh HB hb; (try clear hb); (try clear hb2); (try clear hk); (try clear hi); (try clear ho0); obtain ⟨Ao80, co80, eo80⟩ := Kd.R_slice HO490.out; subst eo80) | ((with_reducible refine gate_callee (f := 24) rfl ?_); refine goesL_ (some 116) rfl rfl Try.func24 (by kernel_rfl) rfl #[.int .i64 a0, .slice Ao80 t488.length co80] rfl (by (try simp only [List.map_toArray, List.map_cons, List.map_nil]); first | done | rfl | (simp only [List.length_drop, List.length_take]; rfl)) ?_; (with_reducible refine (steepleref06_All.calls kj60 a0 _ _ t488 false _ ?side1 ?side2 A74.out).mono ?_); (case side1 => repeat (first | exact (Kd.R_reads' HO490.out).2.2 | (with_reducible refine Kd.C_alloc ?_ _) | (with_reducible refine Kd.C_drewN ?_ _) | (with_reducible refine Kd.C_drew ?_))); (case side2 => exact (Kd.R_reads' HO490.out).2.1); rintro e w81 ⟨rfl, hb⟩; refine ⟨_, rfl, ?_⟩; replace HO_13 := kb HO_13 hb; replace HO490 := kb HO490 hb; replace BK459 := bb BK459 hb; replace HB := bh HB hb; (try clear hb); (try clear hb2); (try clear hk); (try clear hi)))
                               go_meet
                               case rel => exact ⟨_, (5), (by first | rfl | (simp; done) | (simp [*]; done)), H', ⟨by have := HJ10.out; have := HJ54.out; have := HJ60.out; first | omega | exact Nat.le_refl _⟩, ⟨kr HO_13.out⟩, ⟨bk BK459.out⟩, ⟨bq HB.out⟩⟩
               case rest =>
                as_aux_lemma =>
                  clear HC59
                  try clear c1
                  try clear c2
                  try clear p2
                  try clear c3
                  try clear c4
                  try clear c4b0
                  try clear c4b1
                  try clear c5
                  try clear c6
                  try clear p6
                  try clear c7
                  try clear c8
                  try clear c9
                  try clear c10
                  try clear c10b0
                  try clear c10b1
                  try clear c15
                  try clear c15b0
                  try clear c15b1
                  try clear c17
                  try clear c17b0
                  try clear c17b1
                  try clear c19
                  try clear c20
                  try clear c21
                  try clear c21b0
                  try clear c21b1
                  try clear c21b2
                  try clear c23
                  try clear c23b0
                  try clear c23b1
                  try clear c24
                  try clear c26
                  try clear c26b0
                  try clear c35
                  try clear c50
                  try clear c58
                  try clear c58b0
                  try clear c60
                  try clear c63
                  try clear c64
                  try clear c64b0
                  try clear c64b1
                  try clear c64b2
                  try clear p64
                  try clear c72
                  try clear c75
                  try clear hcz32_0
                  try clear hcz32_1
                  try clear hcz32_2
                  try clear hcz36_0
                  try clear hcz36_1
                  try clear hcz47_0
                  try clear hcz47_1
                  try clear hcz47_2
                  try clear hcz51_0
                  try clear hcz51_1
                  try clear hcz56_0
                  try clear hcz56_1
                  try clear hcz56_2
                  try clear hcz65_0
                  try clear hcz65_1
                  try clear hcz65_2
                  try clear hcz67_0
                  try clear hcz67_1
                  try clear hcz67_2
                  try clear hcz69_0
                  try clear hcz69_1
                  try clear hcz69_2
                  try clear hcz70_0
                  try clear hcz70_1
                  try clear hcz70_2
                  try clear hfz32_0
                  try clear hfz32_1
                  try clear hfz32_2
                  try clear hfz36_0
                  try clear hfz36_1
                  try clear hfz47_0
                  try clear hfz47_1
                  try clear hfz47_2
                  try clear hfz51_0
                  try clear hfz51_1
                  try clear hfz56_0
                  try clear hfz56_1
                  try clear hfz56_2
                  try clear hfz65_0
                  try clear hfz65_1
                  try clear hfz65_2
                  try clear hfz67_0
                  try clear hfz67_1
                  try clear hfz67_2
                  try clear hfz69_0
                  try clear hfz69_1
                  try clear hfz69_2
                  try clear hfz70_0
                  try clear hfz70_1
                  try clear hfz70_2
                  try clear p2
                  try clear p6
                  try clear p64
                  obtain ⟨kq, x15_58, rfl, HA, HJ58, HO_13, BK459, HB⟩ := hcut
                  cases kq with
                  | zero => exact absurd HA.out (by simp [steeplelaw17_LineBack.j3])
                  | succ kj58 =>
                   have H := HA.out
                   clear HA
                   simp only [steeplelaw17_LineBack.j3] at H
                   by_cases c82 : t484 = x15_58
                   ·as_aux_lemma =>
                      rw [if_pos c82] at H
                      have c82b0 : (t484 == x15_58) = true := beq_iff_eq.mpr c82
                      have c82b1 : (t484 != x15_58) = false := bne_eq_false_iff_eq.mpr c82
                      clear c82
                      by_cases c83 : t484 = 0
                      ·as_aux_lemma =>
                         rw [if_pos c83] at H
                         have c83b0 : (t484 == 0) = true := beq_iff_eq.mpr c83
                         have c83b1 : (t484 != 0) = false := bne_eq_false_iff_eq.mpr c83
                         clear c83
                         replace H := Option.bind_eq_some_iff.mp H
                         obtain ⟨⟨t493, t494⟩, A840, H⟩ := H
                         replace H : (if t494 = 0 then (if (t493.length : Int) = (wrap64 (a2_2 + 1)) then (steeplelaw17_LineBack.l0 kj58 l1 t493 0) else (none)) else (none)) = some r := H
                         have A84 := Aside0.mk A840
                         clear A840
                         by_cases c85 : t494 = 0
                         ·as_aux_lemma =>
                            rw [if_pos c85] at H
                            have c85b0 : (t494 == 0) = true := beq_iff_eq.mpr c85
                            have c85b1 : (t494 != 0) = false := bne_eq_false_iff_eq.mpr c85
                            clear c85
                            by_cases c86 : (t493.length : Int) = (wrap64 (a2_2 + 1))
                            ·as_aux_lemma =>
                               rw [if_pos c86] at H
                               have c86b0 : ((t493.length : Int) == (wrap64 (a2_2 + 1))) = true := beq_iff_eq.mpr c86
                               have c86b1 : ((t493.length : Int) != (wrap64 (a2_2 + 1))) = false := bne_eq_false_iff_eq.mpr c86
                               clear c86
                               have H' := Aside0.mk H
                               clear H
                               obtain ⟨Ao87, co87, eo87⟩ := Kd.R_slice HO_13.out
                               subst eo87
                               go_wp2_with (first | ((with_reducible refine gate_callee (f := 20) rfl ?_); refine goesL_ (some 132) rfl rfl Try.func20 (by kernel_rfl) rfl #[.int .i64 a0, .slice Ao87 t483.length co87] rfl (by (try simp only [List.map_toArray, List.map_cons, List.map_nil]); first | done | rfl | (simp only [List.length_drop, List.length_take]; rfl)) ?_; (with_reducible refine (line_Powers.calls kj58 a0 _ _ t483 t493 t494 _ ?side1 ?side2 A84.out).mono ?_); (case side1 => repeat (first | exact (Kd.R_reads' HO_13.out).2.2 | (with_reducible refine Kd.C_alloc ?_ _) | (with_reducible refine Kd.C_drewN ?_ _) | (with_reducible refine Kd.C_drew ?_))); (case side2 => exact (Kd.R_reads' HO_13.out).2.1); rintro e w88 ⟨v495, rfl, ho0, hb⟩; refine ⟨_, rfl, ?_⟩; have HO496 := Aside0.mk (Kd.R_lower (Kd.R_new' ho0 (Kd.R_lt (kr HO_13.out))) (below_size (bq HB.out))); replace HO_13 := Aside0.mk (Kd.R_elder' (kr HO_13.out) (Kd.R_base ho0) hb); replace BK459 := bb BK459 hb; replace HB := bh HB hb; (try clear hb); (try clear hb2); (try clear hk); (try clear hi); (try clear ho0); obtain ⟨Ao89, co89, eo89⟩ := Kd.R_slice HO496.out; subst eo89; obtain ⟨hcz90_0, hcz90_1, hcz90_2⟩ := zc3 BK459; obtain ⟨hfz90_0, hfz90_1, hfz90_2⟩ := zf3 BK459))
                               go_loopg [18] kj58 (fun kq v18 w' => ∃ (x18_4 : Int), v18 = .int .i64 x18_4 ∧ Aside0 (steeplelaw17_LineBack.l0 kq l1 t493 x18_4 = some r) ∧ Aside0 (kq ≤ kj58) ∧ Aside0 (Kd.R k28 28 w' w.heap.size (fun _ => True) (.slice Ao89 t493.length co89) t493) ∧ Aside0 (w'.heap[gb459]? = some (.cells #[.int .u64 a2_0, .int .u64 a2_1, .int .i64 a2_2] 49 (0, 0))) ∧ Aside0 (Below w.heap.size w w'))
                               case atStart => exact ⟨(0), (by first | rfl | (simp; done) | (simp [*]; done)), H', ⟨Nat.le_refl _⟩, ⟨by (with_reducible repeat refine kl ?_); exact Kd.R_mono HO496.out (fun _ hk => trivial)⟩, ⟨bk BK459.out⟩, ⟨bq HB.out⟩⟩
                               case round =>
                                clear H'
                                try clear c1
                                try clear c2
                                try clear p2
                                try clear c3
                                try clear c4
                                try clear c4b0
                                try clear c4b1
                                try clear c5
                                try clear c6
                                try clear p6
                                try clear c7
                                try clear c8
                                try clear c9
                                try clear c10
                                try clear c10b0
                                try clear c10b1
                                try clear c15
                                try clear c15b0
                                try clear c15b1
                                try clear c17
                                try clear c17b0
                                try clear c17b1
                                try clear c19
                                try clear c20
                                try clear c21
                                try clear c21b0
                                try clear c21b1
                                try clear c21b2
                                try clear c23
                                try clear c23b0
                                try clear c23b1
                                try clear c24
                                try clear c26
                                try clear c26b0
                                try clear c35
                                try clear c50
                                try clear c58
                                try clear c58b0
                                try clear c60
                                try clear c63
                                try clear c64
                                try clear c64b0
                                try clear c64b1
                                try clear c64b2
                                try clear p64
                                try clear c72
                                try clear c75
                                try clear c82
                                try clear c82b0
                                try clear c82b1
                                try clear c83
                                try clear c83b0
                                try clear c83b1
                                try clear c85
                                try clear c85b0
                                try clear c85b1
                                try clear c86
                                try clear c86b0
                                try clear c86b1
                                try clear hcz32_0
                                try clear hcz32_1
                                try clear hcz32_2
                                try clear hcz36_0
                                try clear hcz36_1
                                try clear hcz47_0
                                try clear hcz47_1
                                try clear hcz47_2
                                try clear hcz51_0
                                try clear hcz51_1
                                try clear hcz56_0
                                try clear hcz56_1
                                try clear hcz56_2
                                try clear hcz65_0
                                try clear hcz65_1
                                try clear hcz65_2
                                try clear hcz67_0
                                try clear hcz67_1
                                try clear hcz67_2
                                try clear hcz69_0
                                try clear hcz69_1
                                try clear hcz69_2
                                try clear hcz70_0
                                try clear hcz70_1
                                try clear hcz70_2
                                try clear hcz90_0
                                try clear hcz90_1
                                try clear hcz90_2
                                try clear hfz32_0
                                try clear hfz32_1
                                try clear hfz32_2
                                try clear hfz36_0
                                try clear hfz36_1
                                try clear hfz47_0
                                try clear hfz47_1
                                try clear hfz47_2
                                try clear hfz51_0
                                try clear hfz51_1
                                try clear hfz56_0
                                try clear hfz56_1
                                try clear hfz56_2
                                try clear hfz65_0
                                try clear hfz65_1
                                try clear hfz65_2
                                try clear hfz67_0
                                try clear hfz67_1
                                try clear hfz67_2
                                try clear hfz69_0
                                try clear hfz69_1
                                try clear hfz69_2
                                try clear hfz70_0
                                try clear hfz70_1
                                try clear hfz70_2
                                try clear hfz90_0
                                try clear hfz90_1
                                try clear hfz90_2
                                try clear p2
                                try clear p6
                                try clear p64
                                obtain ⟨x18_4, rfl, HA, HK4, HO_16, BK459, HB⟩ := hrel
                                cases gk with
                                | zero => exact absurd HA.out (by simp [steeplelaw17_LineBack.l0])
                                | succ k4 =>
                                 have H := HA.out
                                 clear HA
                                 simp only [steeplelaw17_LineBack.l0] at H
                                 by_cases c91 : x18_4 < (t493.length : Int)
                                 ·as_aux_lemma =>
                                    rw [if_pos c91] at H
                                    have c91b0 : decide (x18_4 < (t493.length : Int)) = true := decide_eq_true c91
                                    clear c91
                                    by_cases c92 : x18_4 < (l1.length : Int)
                                    ·as_aux_lemma =>
                                       rw [if_pos c92] at H
                                       have c92b0 : decide (x18_4 < (l1.length : Int)) = true := decide_eq_true c92
                                       clear c92
                                       by_cases c93 : 0 ≤ x18_4
                                       ·as_aux_lemma =>
                                          rw [if_pos c93] at H
                                          have c93b0 : decide (0 ≤ x18_4) = true := decide_eq_true c93
                                          clear c93
                                          by_cases c94 : (!(((rd_T28 t493 x18_4).f0) == ((rd_T28 l1 x18_4).f0)) || (!(((rd_T28 t493 x18_4).f1) == ((rd_T28 l1 x18_4).f1)))) = true
                                          ·as_aux_lemma =>
                                             rw [if_pos c94] at H
                                             have c94b0 : (!(((rd_T28 t493 x18_4).f0) == ((rd_T28 l1 x18_4).f0)) || (!(((rd_T28 t493 x18_4).f1) == ((rd_T28 l1 x18_4).f1)))) = true := c94
                                             clear c94
                                             exact absurd H (by simp)
                                          ·as_aux_lemma =>
                                             rw [if_neg c94] at H
                                             have c94b0 : (!(((rd_T28 t493 x18_4).f0) == ((rd_T28 l1 x18_4).f0)) || (!(((rd_T28 t493 x18_4).f1) == ((rd_T28 l1 x18_4).f1)))) = false := by simpa using c94
                                             clear c94
                                             by_cases c95 : x18_4 ≥ (l1.length : Int)
                                             ·as_aux_lemma =>
                                                rw [if_pos c95] at H
                                                have c95b0 : decide ((l1.length : Int) ≤ x18_4) = true := decide_eq_true c95
                                                clear c95
                                                by_cases c96 : (!(((rd_T28 t493 x18_4).f0) == 0) || (!(((rd_T28 t493 x18_4).f1) == 0))) = true
                                                ·as_aux_lemma =>
                                                   rw [if_pos c96] at H
                                                   exact absurd H (by simp)
                                                ·as_aux_lemma =>
                                                   rw [if_neg c96] at H
                                                   have c96b0 : (!(((rd_T28 t493 x18_4).f0) == 0) || (!(((rd_T28 t493 x18_4).f1) == 0))) = false := by simpa using c96
                                                   clear c96
                                                   have H' := Aside0.mk H
                                                   clear H
                                                   try go_wp2
                                                   replace HO_16 := Aside0.mk (Kd.R_drew HO_16.out)
                                                   replace BK459 := Aside0.mk (blk_drew BK459.out)
                                                   replace HB := Aside0.mk (below_drew1 HB.out)
                                                   have p497 : 0 ≤ (x18_4 : Int) := of_decide_eq_true (by first | (with_reducible assumption) | assumption)
                                                   have q497 : x18_4 < (t493.length : Int) := of_decide_eq_true (by first | (with_reducible assumption) | assumption)
                                                   (try (obtain ⟨Ap_, cp_, ep_⟩ := Kd.R_slice HO_16.out; subst ep_))
                                                   obtain ⟨ad497, e497, hx497_0, hx497_1⟩ := at_T28 (Kd.R_reads' HO_16.out).2.2 x18_4 p497 q497
                                                   cases e497
                                                   replace p497 := eq_true p497
                                                   replace q497 := eq_true q497
                                                   have p498 : 0 ≤ (x18_4 : Int) := of_decide_eq_true (by first | (with_reducible assumption) | assumption)
                                                   have q498 : x18_4 < (l1.length : Int) := of_decide_eq_true (by first | (with_reducible assumption) | assumption)
                                                   obtain ⟨ad498, e498, hx498_0, hx498_1⟩ := at_T28 HR1.out x18_4 p498 q498
                                                   have hw498_1 := hx498_1
                                                   have hw498_0 := hx498_0
                                                   cases e498
                                                   replace hx498_0 := (HB.out.cell (World.block_lt_of_cell? w _ hx498_0)).trans hx498_0
                                                   replace hx498_1 := (HB.out.cell (World.block_lt_of_cell? w _ hx498_1)).trans hx498_1
                                                   replace p498 := eq_true p498
                                                   replace q498 := eq_true q498
                                                   have p499 : 0 ≤ (x18_4 : Int) := of_decide_eq_true (by first | (with_reducible assumption) | assumption)
                                                   have q499 : x18_4 < (t493.length : Int) := of_decide_eq_true (by first | (with_reducible assumption) | assumption)
                                                   (try (obtain ⟨Ap_, cp_, ep_⟩ := Kd.R_slice HO_16.out; subst ep_))
                                                   obtain ⟨ad499, e499, hx499_0, hx499_1⟩ := at_T28 (Kd.R_reads' HO_16.out).2.2 x18_4 p499 q499
                                                   obtain rfl : ad497 = ad499 := (by injection e499)
                                                   replace p499 := eq_true p499
                                                   replace q499 := eq_true q499
                                                   refine start_ (n := 29) (S := fun w' => w'.cell? (ad497.add ((x18_4).toNat * 2)) = some (.int .u64 ((rd_T28 t493 x18_4).f0)) ∧ w'.cell? ⟨(ad497.add ((x18_4).toNat * 2)).block, (ad497.add ((x18_4).toNat * 2)).off + 1, none⟩ = some (.int .u64 ((rd_T28 t493 x18_4).f1)) ∧ w'.cell? (ad498.add ((x18_4).toNat * 2)) = some (.int .u64 ((rd_T28 l1 x18_4).f0)) ∧ w'.cell? ⟨(ad498.add ((x18_4).toNat * 2)).block, (ad498.add ((x18_4).toNat * 2)).off + 1, none⟩ = some (.int .u64 ((rd_T28 l1 x18_4).f1)) ∧ w'.cell? (ad497.add ((x18_4).toNat * 2)) = some (.int .u64 ((rd_T28 t493 x18_4).f0)) ∧ w'.cell? ⟨(ad497.add ((x18_4).toNat * 2)).block, (ad497.add ((x18_4).toNat * 2)).off + 1, none⟩ = some (.int .u64 ((rd_T28 t493 x18_4).f1))) (ds := []) #[false, false, false, false, false, false, false, false, false, false, false, false, false, false, false, false, false, false, false, false, false, false, false, false, false, false, false, false, false] (by kernel_rfl) rfl rfl ⟨hx497_0, hx497_1, ((HB.out.cell (World.block_lt_of_cell? w _ hw498_0)).trans hw498_0), ((HB.out.cell (World.block_lt_of_cell? w _ hw498_1)).trans hw498_1), hx499_0, hx499_1⟩ (fun hHeld => ?_); refine with_tabW steeplelaw17_LineBack.tab31 steeplelaw17_LineBack.bits31 (fun HT_ HW_ => ?_)
                                                   generalize wr.drew = w97 at HO_16 BK459 HB hx497_0 hx497_1 hx498_0 hx498_1 hx499_0 hx499_1 hHeld ⊢
                                                   refine pure_ (i := 0) (N := some 151) (v := ?_) (a' := ?_) #[true, false, false, false, false, false, false, false, false, false, false, false, false, false, false, false, false, false, false, false, false, false, false, false, false, false, false, false, false] rfl rfl (any_of HT_.out (by kernel_rfl)) (fun _ _ _ h => h) (Or.inl ⟨by rfl, ?_⟩) ?_ ?_
                                                   rotate_left
                                                   ·intro w'
                                                    go_simp
                                                    with_reducible rfl
                                                   rotate_left
                                                   ·simp only [Act.put, List.setIfInBounds_toArray, List.set_cons_zero, List.set_cons_succ, i64_w, i32_w]
                                                    rfl
                                                   refine pure_ (i := 1) (N := some 152) (v := ?_) (a' := ?_) #[true, true, false, false, false, false, false, false, false, false, false, false, false, false, false, false, false, false, false, false, false, false, false, false, false, false, false, false, false] rfl rfl (any_of HT_.out (by kernel_rfl)) (fun _ _ _ h => h) (Or.inl ⟨by rfl, ?_⟩) ?_ ?_
                                                   rotate_left
                                                   ·intro w'
                                                    go_simp
                                                    with_reducible rfl
                                                   rotate_left
                                                   ·simp only [Act.put, List.setIfInBounds_toArray, List.set_cons_zero, List.set_cons_succ, i64_w, i32_w]
                                                    rfl
                                                   refine pure_ (i := 2) (N := some 153) (v := ?_) (a' := ?_) #[true, true, true, false, false, false, false, false, false, false, false, false, false, false, false, false, false, false, false, false, false, false, false, false, false, false, false, false, false] rfl rfl (any_of HT_.out (by kernel_rfl)) (fun _ _ _ h => h) (Or.inl ⟨by rfl, ?_⟩) ?_ ?_
                                                   rotate_left
                                                   ·intro w'
                                                    go_simp
                                                    with_reducible rfl
                                                   rotate_left
                                                   ·simp only [Act.put, List.setIfInBounds_toArray, List.set_cons_zero, List.set_cons_succ, i64_w, i32_w]
                                                    rfl
                                                   refine pure_ (i := 3) (N := some 154) (v := ?_) (a' := ?_) #[true, true, true, true, false, false, false, false, false, false, false, false, false, false, false, false, false, false, false, false, false, false, false, false, false, false, false, false, false] rfl rfl (any_of HT_.out (by kernel_rfl)) (fun _ _ _ h => h) (Or.inl ⟨by rfl, ?_⟩) ?_ ?_
                                                   rotate_left
                                                   ·intro w'
                                                    go_simp
                                                    with_reducible rfl
                                                   rotate_left
                                                   ·simp only [Act.put, List.setIfInBounds_toArray, List.set_cons_zero, List.set_cons_succ, i64_w, i32_w]
                                                    rfl
                                                   refine pure_ (i := 4) (N := some 155) (v := ?_) (a' := ?_) #[true, true, true, true, true, false, false, false, false, false, false, false, false, false, false, false, false, false, false, false, false, false, false, false, false, false, false, false, false] rfl rfl (any_of HT_.out (by kernel_rfl)) (fun _ _ _ h => h) (Or.inl ⟨by rfl, ?_⟩) ?_ ?_
                                                   rotate_left
                                                   ·intro w'
                                                    go_simp
                                                    with_reducible rfl
                                                   rotate_left
                                                   ·simp only [Act.put, List.setIfInBounds_toArray, List.set_cons_zero, List.set_cons_succ, i64_w, i32_w]
                                                    rfl
                                                   refine pure_ (i := 5) (N := some 156) (v := ?_) (a' := ?_) #[true, true, true, true, true, true, false, false, false, false, false, false, false, false, false, false, false, false, false, false, false, false, false, false, false, false, false, false, false] rfl rfl (any_of HT_.out (by kernel_rfl)) (fun _ _ _ h => h) (Or.inl ⟨by rfl, ?_⟩) ?_ ?_
                                                   rotate_left
                                                   ·intro w'
                                                    go_simp
                                                    with_reducible rfl
                                                   rotate_left
                                                   ·simp only [Act.put, List.setIfInBounds_toArray, List.set_cons_zero, List.set_cons_succ, i64_w, i32_w]
                                                    rfl
                                                   refine pure_ (i := 6) (N := some 157) (v := ?_) (a' := ?_) #[true, true, true, true, true, true, true, false, false, false, false, false, false, false, false, false, false, false, false, false, false, false, false, false, false, false, false, false, false] rfl rfl (any_of HT_.out (by kernel_rfl)) (fun _ _ _ h => h) (Or.inl ⟨by rfl, ?_⟩) ?_ ?_
                                                   rotate_left
                                                   ·intro w'
                                                    go_simp
                                                    with_reducible rfl
                                                   rotate_left
                                                   ·simp only [Act.put, List.setIfInBounds_toArray, List.set_cons_zero, List.set_cons_succ, i64_w, i32_w]
                                                    rfl
                                                   refine pure_ (i := 7) (N := some 158) (v := ?_) (a' := ?_) #[true, true, true, true, true, true, true, true, false, false, false, false, false, false, false, false, false, false, false, false, false, false, false, false, false, false, false, false, false] rfl rfl (any_of HT_.out (by kernel_rfl)) (fun _ _ _ h => h) (Or.inl ⟨by rfl, ?_⟩) ?_ ?_
                                                   rotate_left
                                                   ·intro w'
                                                    go_simp
                                                    with_reducible rfl
                                                   rotate_left
                                                   ·simp only [Act.put, List.setIfInBounds_toArray, List.set_cons_zero, List.set_cons_succ, i64_w, i32_w]
                                                    rfl
                                                   refine pure_ (i := 9) (N := some 160) (v := ?_) (a' := ?_) #[true, true, true, true, true, true, true, true, false, true, false, false, false, false, false, false, false, false, false, false, false, false, false, false, false, false, false, false, false] rfl rfl (any_of HT_.out (by kernel_rfl)) (fun _ _ _ h => h) (Or.inl ⟨by rfl, ?_⟩) ?_ ?_
                                                   rotate_left
                                                   ·intro w'
                                                    go_simp
                                                    with_reducible rfl
                                                   rotate_left
                                                   ·simp only [Act.put, List.setIfInBounds_toArray, List.set_cons_zero, List.set_cons_succ, i64_w, i32_w]
                                                    rfl
                                                   refine pure_ (i := 10) (N := some 161) (v := ?_) (a' := ?_) #[true, true, true, true, true, true, true, true, false, true, true, false, false, false, false, false, false, false, false, false, false, false, false, false, false, false, false, false, false] rfl rfl (any_of HT_.out (by kernel_rfl)) (fun _ _ _ h => h) (Or.inl ⟨by rfl, ?_⟩) ?_ ?_
                                                   rotate_left
                                                   ·intro w'
                                                    go_simp
                                                    with_reducible rfl
                                                   rotate_left
                                                   ·simp only [Act.put, List.setIfInBounds_toArray, List.set_cons_zero, List.set_cons_succ, i64_w, i32_w]
                                                    rfl
                                                   refine pure_ (i := 11) (N := some 162) (v := ?_) (a' := ?_) #[true, true, true, true, true, true, true, true, false, true, true, true, false, false, false, false, false, false, false, false, false, false, false, false, false, false, false, false, false] rfl rfl (any_of HT_.out (by kernel_rfl)) (fun _ _ _ h => h) (Or.inl ⟨by rfl, ?_⟩) ?_ ?_
                                                   rotate_left
                                                   ·intro w'
                                                    go_simp
                                                    with_reducible rfl
                                                   rotate_left
                                                   ·simp only [Act.put, List.setIfInBounds_toArray, List.set_cons_zero, List.set_cons_succ, i64_w, i32_w]
                                                    rfl
                                                   refine take_ (i := 8) (N := some 159) (v := ?_) (a' := ?_) #[true, true, true, true, true, true, true, true, true, true, true, true, false, false, false, false, false, false, false, false, false, false, false, false, false, false, false, false, false] rfl rfl (take_ofW HT_.out HW_.out (by kernel_rfl)) (fun _ _ _ h => h) (Or.inl ⟨by rfl, ?_⟩) hHeld ?_ ?_
                                                   rotate_left
                                                   ·rintro w' ⟨s0, s1, s2, s3, s4, s5⟩
                                                    go_simp
                                                    with_reducible rfl
                                                   rotate_left
                                                   ·simp only [Act.put, List.setIfInBounds_toArray, List.set_cons_zero, List.set_cons_succ, i64_w, i32_w]
                                                    rfl
                                                   refine take_ (i := 12) (N := some 163) (v := ?_) (a' := ?_) #[true, true, true, true, true, true, true, true, true, true, true, true, true, false, false, false, false, false, false, false, false, false, false, false, false, false, false, false, false] rfl rfl (take_ofW HT_.out HW_.out (by kernel_rfl)) (fun _ _ _ h => h) (Or.inl ⟨by rfl, ?_⟩) hHeld ?_ ?_
                                                   rotate_left
                                                   ·rintro w' ⟨s0, s1, s2, s3, s4, s5⟩
                                                    go_simp
                                                    with_reducible rfl
                                                   rotate_left
                                                   ·simp only [Act.put, List.setIfInBounds_toArray, List.set_cons_zero, List.set_cons_succ, i64_w, i32_w]
                                                    rfl
                                                   refine pure_ (i := 13) (N := some 164) (v := ?_) (a' := ?_) #[true, true, true, true, true, true, true, true, true, true, true, true, true, true, false, false, false, false, false, false, false, false, false, false, false, false, false, false, false] rfl rfl (any_of HT_.out (by kernel_rfl)) (fun _ _ _ h => h) (Or.inl ⟨by rfl, ?_⟩) ?_ ?_
                                                   rotate_left
                                                   ·intro w'
                                                    go_simp
                                                    with_reducible rfl
                                                   rotate_left
                                                   ·simp only [Act.put, List.setIfInBounds_toArray, List.set_cons_zero, List.set_cons_succ, i64_w, i32_w]
                                                    rfl
                                                   refine pure_ (i := 14) (N := some 165) (v := ?_) (a' := ?_) #[true, true, true, true, true, true, true, true, true, true, true, true, true, true, true, false, false, false, false, false, false, false, false, false, false, false, false, false, false] rfl rfl (any_of HT_.out (by kernel_rfl)) (fun _ _ _ h => h) (Or.inl ⟨by rfl, ?_⟩) ?_ ?_
                                                   rotate_left
                                                   ·intro w'
                                                    go_simp
                                                    with_reducible rfl
                                                   rotate_left
                                                   ·simp only [Act.put, List.setIfInBounds_toArray, List.set_cons_zero, List.set_cons_succ, i64_w, i32_w]
                                                    rfl
                                                   refine pure_ (i := 15) (N := some 166) (v := ?_) (a' := ?_) #[true, true, true, true, true, true, true, true, true, true, true, true, true, true, true, true, false, false, false, false, false, false, false, false, false, false, false, false, false] rfl rfl (any_of HT_.out (by kernel_rfl)) (fun _ _ _ h => h) (Or.inl ⟨by rfl, ?_⟩) ?_ ?_
                                                   rotate_left
                                                   ·intro w'
                                                    go_simp
                                                    with_reducible rfl
                                                   rotate_left
                                                   ·simp only [Act.put, List.setIfInBounds_toArray, List.set_cons_zero, List.set_cons_succ, i64_w, i32_w]
                                                    rfl
                                                   refine pure_ (i := 16) (N := some 167) (v := ?_) (a' := ?_) #[true, true, true, true, true, true, true, true, true, true, true, true, true, true, true, true, true, false, false, false, false, false, false, false, false, false, false, false, false] rfl rfl (any_of HT_.out (by kernel_rfl)) (fun _ _ _ h => h) (Or.inl ⟨by rfl, ?_⟩) ?_ ?_
                                                   rotate_left
                                                   ·intro w'
                                                    go_simp
                                                    with_reducible rfl
                                                   rotate_left
                                                   ·simp only [Act.put, List.setIfInBounds_toArray, List.set_cons_zero, List.set_cons_succ, i64_w, i32_w]
                                                    rfl
                                                   refine pure_ (i := 17) (N := some 168) (v := ?_) (a' := ?_) #[true, true, true, true, true, true, true, true, true, true, true, true, true, true, true, true, true, true, false, false, false, false, false, false, false, false, false, false, false] rfl rfl (any_of HT_.out (by kernel_rfl)) (fun _ _ _ h => h) (Or.inl ⟨by rfl, ?_⟩) ?_ ?_
                                                   rotate_left
                                                   ·intro w'
                                                    go_simp
                                                    with_reducible rfl
                                                   rotate_left
                                                   ·simp only [Act.put, List.setIfInBounds_toArray, List.set_cons_zero, List.set_cons_succ, i64_w, i32_w]
                                                    rfl
                                                   refine pure_ (i := 18) (N := some 169) (v := ?_) (a' := ?_) #[true, true, true, true, true, true, true, true, true, true, true, true, true, true, true, true, true, true, true, false, false, false, false, false, false, false, false, false, false] rfl rfl (any_of HT_.out (by kernel_rfl)) (fun _ _ _ h => h) (Or.inl ⟨by rfl, ?_⟩) ?_ ?_
                                                   rotate_left
                                                   ·intro w'
                                                    go_simp
                                                    with_reducible rfl
                                                   rotate_left
                                                   ·simp only [Act.put, List.setIfInBounds_toArray, List.set_cons_zero, List.set_cons_succ, i64_w, i32_w]
                                                    rfl
                                                   refine pure_ (i := 19) (N := some 170) (v := ?_) (a' := ?_) #[true, true, true, true, true, true, true, true, true, true, true, true, true, true, true, true, true, true, true, true, false, false, false, false, false, false, false, false, false] rfl rfl (any_of HT_.out (by kernel_rfl)) (fun _ _ _ h => h) (Or.inl ⟨by rfl, ?_⟩) ?_ ?_
                                                   rotate_left
                                                   ·intro w'
                                                    go_simp
                                                    with_reducible rfl
                                                   rotate_left
                                                   ·simp only [Act.put, List.setIfInBounds_toArray, List.set_cons_zero, List.set_cons_succ, i64_w, i32_w]
                                                    rfl
                                                   refine pure_ (i := 20) (N := some 171) (v := ?_) (a' := ?_) #[true, true, true, true, true, true, true, true, true, true, true, true, true, true, true, true, true, true, true, true, true, false, false, false, false, false, false, false, false] rfl rfl (any_of HT_.out (by kernel_rfl)) (fun _ _ _ h => h) (Or.inl ⟨by rfl, ?_⟩) ?_ ?_
                                                   rotate_left
                                                   ·intro w'
                                                    go_simp
                                                    with_reducible rfl
                                                   rotate_left
                                                   ·simp only [Act.put, List.setIfInBounds_toArray, List.set_cons_zero, List.set_cons_succ, i64_w, i32_w]
                                                    rfl
                                                   refine pure_ (i := 21) (N := some 172) (v := ?_) (a' := ?_) #[true, true, true, true, true, true, true, true, true, true, true, true, true, true, true, true, true, true, true, true, true, true, false, false, false, false, false, false, false] rfl rfl (any_of HT_.out (by kernel_rfl)) (fun _ _ _ h => h) (Or.inl ⟨by rfl, ?_⟩) ?_ ?_
                                                   rotate_left
                                                   ·intro w'
                                                    go_simp
                                                    with_reducible rfl
                                                   rotate_left
                                                   ·simp only [Act.put, List.setIfInBounds_toArray, List.set_cons_zero, List.set_cons_succ, i64_w, i32_w]
                                                    rfl
                                                   refine pure_ (i := 22) (N := some 173) (v := ?_) (a' := ?_) #[true, true, true, true, true, true, true, true, true, true, true, true, true, true, true, true, true, true, true, true, true, true, true, false, false, false, false, false, false] rfl rfl (any_of HT_.out (by kernel_rfl)) (fun _ _ _ h => h) (Or.inl ⟨by rfl, ?_⟩) ?_ ?_
                                                   rotate_left
                                                   ·intro w'
                                                    go_simp
                                                    with_reducible rfl
                                                   rotate_left
                                                   ·simp only [Act.put, List.setIfInBounds_toArray, List.set_cons_zero, List.set_cons_succ, i64_w, i32_w]
                                                    rfl
                                                   refine pure_ (i := 23) (N := some 174) (v := ?_) (a' := ?_) #[true, true, true, true, true, true, true, true, true, true, true, true, true, true, true, true, true, true, true, true, true, true, true, true, false, false, false, false, false] rfl rfl (any_of HT_.out (by kernel_rfl)) (fun _ _ _ h => h) (Or.inl ⟨by rfl, ?_⟩) ?_ ?_
                                                   rotate_left
                                                   ·intro w'
                                                    go_simp
                                                    with_reducible rfl
                                                   rotate_left
                                                   ·simp only [Act.put, List.setIfInBounds_toArray, List.set_cons_zero, List.set_cons_succ, i64_w, i32_w]
                                                    rfl
                                                   refine pure_ (i := 25) (N := some 176) (v := ?_) (a' := ?_) #[true, true, true, true, true, true, true, true, true, true, true, true, true, true, true, true, true, true, true, true, true, true, true, true, false, true, false, false, false] rfl rfl (any_of HT_.out (by kernel_rfl)) (fun _ _ _ h => h) (Or.inl ⟨by rfl, ?_⟩) ?_ ?_
                                                   rotate_left
                                                   ·intro w'
                                                    go_simp
                                                    with_reducible rfl
                                                   rotate_left
                                                   ·simp only [Act.put, List.setIfInBounds_toArray, List.set_cons_zero, List.set_cons_succ, i64_w, i32_w]
                                                    rfl
                                                   refine take_ (i := 24) (N := some 175) (v := ?_) (a' := ?_) #[true, true, true, true, true, true, true, true, true, true, true, true, true, true, true, true, true, true, true, true, true, true, true, true, true, true, false, false, false] rfl rfl (take_ofW HT_.out HW_.out (by kernel_rfl)) (fun _ _ _ h => h) (Or.inl ⟨by rfl, ?_⟩) hHeld ?_ ?_
                                                   rotate_left
                                                   ·rintro w' ⟨s0, s1, s2, s3, s4, s5⟩
                                                    go_simp
                                                    with_reducible rfl
                                                   rotate_left
                                                   ·simp only [Act.put, List.setIfInBounds_toArray, List.set_cons_zero, List.set_cons_succ, i64_w, i32_w]
                                                    rfl
                                                   refine pure_ (i := 26) (N := some 177) (v := ?_) (a' := ?_) #[true, true, true, true, true, true, true, true, true, true, true, true, true, true, true, true, true, true, true, true, true, true, true, true, true, true, true, false, false] rfl rfl (any_of HT_.out (by kernel_rfl)) (fun _ _ _ h => h) (Or.inl ⟨by rfl, ?_⟩) ?_ ?_
                                                   rotate_left
                                                   ·intro w'
                                                    go_simp
                                                    with_reducible rfl
                                                   rotate_left
                                                   ·simp only [Act.put, List.setIfInBounds_toArray, List.set_cons_zero, List.set_cons_succ, i64_w, i32_w]
                                                    rfl
                                                   refine pure_ (i := 27) (N := some 178) (v := ?_) (a' := ?_) #[true, true, true, true, true, true, true, true, true, true, true, true, true, true, true, true, true, true, true, true, true, true, true, true, true, true, true, true, false] rfl rfl (any_of HT_.out (by kernel_rfl)) (fun _ _ _ h => h) (Or.inl ⟨by rfl, ?_⟩) ?_ ?_
                                                   rotate_left
                                                   ·intro w'
                                                    go_simp
                                                    with_reducible rfl
                                                   rotate_left
                                                   ·simp only [Act.put, List.setIfInBounds_toArray, List.set_cons_zero, List.set_cons_succ, i64_w, i32_w]
                                                    rfl
                                                   refine pure_ (i := 28) (N := some 179) (v := ?_) (a' := ?_) #[true, true, true, true, true, true, true, true, true, true, true, true, true, true, true, true, true, true, true, true, true, true, true, true, true, true, true, true, true] rfl rfl (any_of HT_.out (by kernel_rfl)) (fun _ _ _ h => h) (Or.inl ⟨by rfl, ?_⟩) ?_ ?_
                                                   rotate_left
                                                   ·intro w'
                                                    go_simp
                                                    with_reducible rfl
                                                   rotate_left
                                                   ·simp only [Act.put, List.setIfInBounds_toArray, List.set_cons_zero, List.set_cons_succ, i64_w, i32_w]
                                                    rfl
                                                   refine done_ (done_of HT_.out (by kernel_rfl)) ?_
                                                   try go_wp2
                                                   go_roundg k4
                                                   case measure => have := HJ10.out; have := HJ54.out; have := HJ58.out; have := HK4.out; omega
                                                   case rel => exact ⟨(wrap64 (x18_4 + 1)), (by first | rfl | (simp; done) | (simp [*]; done)), H', ⟨by have := HJ10.out; have := HJ54.out; have := HJ58.out; have := HK4.out; omega⟩, ⟨kr HO_16.out⟩, ⟨bk BK459.out⟩, ⟨bq HB.out⟩⟩
                                             ·as_aux_lemma =>
                                                rw [if_neg c95] at H
                                                have c95b0 : decide ((l1.length : Int) ≤ x18_4) = false := decide_eq_false c95
                                                clear c95
                                                have H' := Aside0.mk H
                                                clear H
                                                try go_wp2
                                                replace HO_16 := Aside0.mk (Kd.R_drew HO_16.out)
                                                replace BK459 := Aside0.mk (blk_drew BK459.out)
                                                replace HB := Aside0.mk (below_drew1 HB.out)
                                                have p497 : 0 ≤ (x18_4 : Int) := of_decide_eq_true (by first | (with_reducible assumption) | assumption)
                                                have q497 : x18_4 < (t493.length : Int) := of_decide_eq_true (by first | (with_reducible assumption) | assumption)
                                                (try (obtain ⟨Ap_, cp_, ep_⟩ := Kd.R_slice HO_16.out; subst ep_))
                                                obtain ⟨ad497, e497, hx497_0, hx497_1⟩ := at_T28 (Kd.R_reads' HO_16.out).2.2 x18_4 p497 q497
                                                cases e497
                                                replace p497 := eq_true p497
                                                replace q497 := eq_true q497
                                                have p498 : 0 ≤ (x18_4 : Int) := of_decide_eq_true (by first | (with_reducible assumption) | assumption)
                                                have q498 : x18_4 < (l1.length : Int) := of_decide_eq_true (by first | (with_reducible assumption) | assumption)
                                                obtain ⟨ad498, e498, hx498_0, hx498_1⟩ := at_T28 HR1.out x18_4 p498 q498
                                                have hw498_1 := hx498_1
                                                have hw498_0 := hx498_0
                                                cases e498
                                                replace hx498_0 := (HB.out.cell (World.block_lt_of_cell? w _ hx498_0)).trans hx498_0
                                                replace hx498_1 := (HB.out.cell (World.block_lt_of_cell? w _ hx498_1)).trans hx498_1
                                                replace p498 := eq_true p498
                                                replace q498 := eq_true q498
                                                refine start_ (n := 29) (S := fun w' => w'.cell? (ad497.add ((x18_4).toNat * 2)) = some (.int .u64 ((rd_T28 t493 x18_4).f0)) ∧ w'.cell? ⟨(ad497.add ((x18_4).toNat * 2)).block, (ad497.add ((x18_4).toNat * 2)).off + 1, none⟩ = some (.int .u64 ((rd_T28 t493 x18_4).f1)) ∧ w'.cell? (ad498.add ((x18_4).toNat * 2)) = some (.int .u64 ((rd_T28 l1 x18_4).f0)) ∧ w'.cell? ⟨(ad498.add ((x18_4).toNat * 2)).block, (ad498.add ((x18_4).toNat * 2)).off + 1, none⟩ = some (.int .u64 ((rd_T28 l1 x18_4).f1))) (ds := []) #[false, false, false, false, false, false, false, false, false, false, false, false, false, false, false, false, false, false, false, false, false, false, false, false, false, false, false, false, false] (by kernel_rfl) rfl rfl ⟨hx497_0, hx497_1, ((HB.out.cell (World.block_lt_of_cell? w _ hw498_0)).trans hw498_0), ((HB.out.cell (World.block_lt_of_cell? w _ hw498_1)).trans hw498_1)⟩ (fun hHeld => ?_); refine with_tabW steeplelaw17_LineBack.tab31 steeplelaw17_LineBack.bits31 (fun HT_ HW_ => ?_)
                                                generalize wr.drew = w98 at HO_16 BK459 HB hx497_0 hx497_1 hx498_0 hx498_1 hHeld ⊢
                                                refine pure_ (i := 0) (N := some 151) (v := ?_) (a' := ?_) #[true, false, false, false, false, false, false, false, false, false, false, false, false, false, false, false, false, false, false, false, false, false, false, false, false, false, false, false, false] rfl rfl (any_of HT_.out (by kernel_rfl)) (fun _ _ _ h => h) (Or.inl ⟨by rfl, ?_⟩) ?_ ?_
                                                rotate_left
                                                ·intro w'
                                                 go_simp
                                                 with_reducible rfl
                                                rotate_left
                                                ·simp only [Act.put, List.setIfInBounds_toArray, List.set_cons_zero, List.set_cons_succ, i64_w, i32_w]
                                                 rfl
                                                refine pure_ (i := 1) (N := some 152) (v := ?_) (a' := ?_) #[true, true, false, false, false, false, false, false, false, false, false, false, false, false, false, false, false, false, false, false, false, false, false, false, false, false, false, false, false] rfl rfl (any_of HT_.out (by kernel_rfl)) (fun _ _ _ h => h) (Or.inl ⟨by rfl, ?_⟩) ?_ ?_
                                                rotate_left
                                                ·intro w'
                                                 go_simp
                                                 with_reducible rfl
                                                rotate_left
                                                ·simp only [Act.put, List.setIfInBounds_toArray, List.set_cons_zero, List.set_cons_succ, i64_w, i32_w]
                                                 rfl
                                                refine pure_ (i := 2) (N := some 153) (v := ?_) (a' := ?_) #[true, true, true, false, false, false, false, false, false, false, false, false, false, false, false, false, false, false, false, false, false, false, false, false, false, false, false, false, false] rfl rfl (any_of HT_.out (by kernel_rfl)) (fun _ _ _ h => h) (Or.inl ⟨by rfl, ?_⟩) ?_ ?_
                                                rotate_left
                                                ·intro w'
                                                 go_simp
                                                 with_reducible rfl
                                                rotate_left
                                                ·simp only [Act.put, List.setIfInBounds_toArray, List.set_cons_zero, List.set_cons_succ, i64_w, i32_w]
                                                 rfl
                                                refine pure_ (i := 3) (N := some 154) (v := ?_) (a' := ?_) #[true, true, true, true, false, false, false, false, false, false, false, false, false, false, false, false, false, false, false, false, false, false, false, false, false, false, false, false, false] rfl rfl (any_of HT_.out (by kernel_rfl)) (fun _ _ _ h => h) (Or.inl ⟨by rfl, ?_⟩) ?_ ?_
                                                rotate_left
                                                ·intro w'
                                                 go_simp
                                                 with_reducible rfl
                                                rotate_left
                                                ·simp only [Act.put, List.setIfInBounds_toArray, List.set_cons_zero, List.set_cons_succ, i64_w, i32_w]
                                                 rfl
                                                refine pure_ (i := 4) (N := some 155) (v := ?_) (a' := ?_) #[true, true, true, true, true, false, false, false, false, false, false, false, false, false, false, false, false, false, false, false, false, false, false, false, false, false, false, false, false] rfl rfl (any_of HT_.out (by kernel_rfl)) (fun _ _ _ h => h) (Or.inl ⟨by rfl, ?_⟩) ?_ ?_
                                                rotate_left
                                                ·intro w'
                                                 go_simp
                                                 with_reducible rfl
                                                rotate_left
                                                ·simp only [Act.put, List.setIfInBounds_toArray, List.set_cons_zero, List.set_cons_succ, i64_w, i32_w]
                                                 rfl
                                                refine pure_ (i := 5) (N := some 156) (v := ?_) (a' := ?_) #[true, true, true, true, true, true, false, false, false, false, false, false, false, false, false, false, false, false, false, false, false, false, false, false, false, false, false, false, false] rfl rfl (any_of HT_.out (by kernel_rfl)) (fun _ _ _ h => h) (Or.inl ⟨by rfl, ?_⟩) ?_ ?_
                                                rotate_left
                                                ·intro w'
                                                 go_simp
                                                 with_reducible rfl
                                                rotate_left
                                                ·simp only [Act.put, List.setIfInBounds_toArray, List.set_cons_zero, List.set_cons_succ, i64_w, i32_w]
                                                 rfl
                                                refine pure_ (i := 6) (N := some 157) (v := ?_) (a' := ?_) #[true, true, true, true, true, true, true, false, false, false, false, false, false, false, false, false, false, false, false, false, false, false, false, false, false, false, false, false, false] rfl rfl (any_of HT_.out (by kernel_rfl)) (fun _ _ _ h => h) (Or.inl ⟨by rfl, ?_⟩) ?_ ?_
                                                rotate_left
                                                ·intro w'
                                                 go_simp
                                                 with_reducible rfl
                                                rotate_left
                                                ·simp only [Act.put, List.setIfInBounds_toArray, List.set_cons_zero, List.set_cons_succ, i64_w, i32_w]
                                                 rfl
                                                refine pure_ (i := 7) (N := some 158) (v := ?_) (a' := ?_) #[true, true, true, true, true, true, true, true, false, false, false, false, false, false, false, false, false, false, false, false, false, false, false, false, false, false, false, false, false] rfl rfl (any_of HT_.out (by kernel_rfl)) (fun _ _ _ h => h) (Or.inl ⟨by rfl, ?_⟩) ?_ ?_
                                                rotate_left
                                                ·intro w'
                                                 go_simp
                                                 with_reducible rfl
                                                rotate_left
                                                ·simp only [Act.put, List.setIfInBounds_toArray, List.set_cons_zero, List.set_cons_succ, i64_w, i32_w]
                                                 rfl
                                                refine pure_ (i := 9) (N := some 160) (v := ?_) (a' := ?_) #[true, true, true, true, true, true, true, true, false, true, false, false, false, false, false, false, false, false, false, false, false, false, false, false, false, false, false, false, false] rfl rfl (any_of HT_.out (by kernel_rfl)) (fun _ _ _ h => h) (Or.inl ⟨by rfl, ?_⟩) ?_ ?_
                                                rotate_left
                                                ·intro w'
                                                 go_simp
                                                 with_reducible rfl
                                                rotate_left
                                                ·simp only [Act.put, List.setIfInBounds_toArray, List.set_cons_zero, List.set_cons_succ, i64_w, i32_w]
                                                 rfl
                                                refine pure_ (i := 10) (N := some 161) (v := ?_) (a' := ?_) #[true, true, true, true, true, true, true, true, false, true, true, false, false, false, false, false, false, false, false, false, false, false, false, false, false, false, false, false, false] rfl rfl (any_of HT_.out (by kernel_rfl)) (fun _ _ _ h => h) (Or.inl ⟨by rfl, ?_⟩) ?_ ?_
                                                rotate_left
                                                ·intro w'
                                                 go_simp
                                                 with_reducible rfl
                                                rotate_left
                                                ·simp only [Act.put, List.setIfInBounds_toArray, List.set_cons_zero, List.set_cons_succ, i64_w, i32_w]
                                                 rfl
                                                refine pure_ (i := 11) (N := some 162) (v := ?_) (a' := ?_) #[true, true, true, true, true, true, true, true, false, true, true, true, false, false, false, false, false, false, false, false, false, false, false, false, false, false, false, false, false] rfl rfl (any_of HT_.out (by kernel_rfl)) (fun _ _ _ h => h) (Or.inl ⟨by rfl, ?_⟩) ?_ ?_
                                                rotate_left
                                                ·intro w'
                                                 go_simp
                                                 with_reducible rfl
                                                rotate_left
                                                ·simp only [Act.put, List.setIfInBounds_toArray, List.set_cons_zero, List.set_cons_succ, i64_w, i32_w]
                                                 rfl
                                                refine take_ (i := 8) (N := some 159) (v := ?_) (a' := ?_) #[true, true, true, true, true, true, true, true, true, true, true, true, false, false, false, false, false, false, false, false, false, false, false, false, false, false, false, false, false] rfl rfl (take_ofW HT_.out HW_.out (by kernel_rfl)) (fun _ _ _ h => h) (Or.inl ⟨by rfl, ?_⟩) hHeld ?_ ?_
                                                rotate_left
                                                ·rintro w' ⟨s0, s1, s2, s3⟩
                                                 go_simp
                                                 with_reducible rfl
                                                rotate_left
                                                ·simp only [Act.put, List.setIfInBounds_toArray, List.set_cons_zero, List.set_cons_succ, i64_w, i32_w]
                                                 rfl
                                                refine take_ (i := 12) (N := some 163) (v := ?_) (a' := ?_) #[true, true, true, true, true, true, true, true, true, true, true, true, true, false, false, false, false, false, false, false, false, false, false, false, false, false, false, false, false] rfl rfl (take_ofW HT_.out HW_.out (by kernel_rfl)) (fun _ _ _ h => h) (Or.inl ⟨by rfl, ?_⟩) hHeld ?_ ?_
                                                rotate_left
                                                ·rintro w' ⟨s0, s1, s2, s3⟩
                                                 go_simp
                                                 with_reducible rfl
                                                rotate_left
                                                ·simp only [Act.put, List.setIfInBounds_toArray, List.set_cons_zero, List.set_cons_succ, i64_w, i32_w]
                                                 rfl
                                                refine pure_ (i := 13) (N := some 164) (v := ?_) (a' := ?_) #[true, true, true, true, true, true, true, true, true, true, true, true, true, true, false, false, false, false, false, false, false, false, false, false, false, false, false, false, false] rfl rfl (any_of HT_.out (by kernel_rfl)) (fun _ _ _ h => h) (Or.inl ⟨by rfl, ?_⟩) ?_ ?_
                                                rotate_left
                                                ·intro w'
                                                 go_simp
                                                 with_reducible rfl
                                                rotate_left
                                                ·simp only [Act.put, List.setIfInBounds_toArray, List.set_cons_zero, List.set_cons_succ, i64_w, i32_w]
                                                 rfl
                                                refine pure_ (i := 14) (N := some 165) (v := ?_) (a' := ?_) #[true, true, true, true, true, true, true, true, true, true, true, true, true, true, true, false, false, false, false, false, false, false, false, false, false, false, false, false, false] rfl rfl (any_of HT_.out (by kernel_rfl)) (fun _ _ _ h => h) (Or.inl ⟨by rfl, ?_⟩) ?_ ?_
                                                rotate_left
                                                ·intro w'
                                                 go_simp
                                                 with_reducible rfl
                                                rotate_left
                                                ·simp only [Act.put, List.setIfInBounds_toArray, List.set_cons_zero, List.set_cons_succ, i64_w, i32_w]
                                                 rfl
                                                refine pure_ (i := 15) (N := some 166) (v := ?_) (a' := ?_) #[true, true, true, true, true, true, true, true, true, true, true, true, true, true, true, true, false, false, false, false, false, false, false, false, false, false, false, false, false] rfl rfl (any_of HT_.out (by kernel_rfl)) (fun _ _ _ h => h) (Or.inl ⟨by rfl, ?_⟩) ?_ ?_
                                                rotate_left
                                                ·intro w'
                                                 go_simp
                                                 with_reducible rfl
                                                rotate_left
                                                ·simp only [Act.put, List.setIfInBounds_toArray, List.set_cons_zero, List.set_cons_succ, i64_w, i32_w]
                                                 rfl
                                                refine pure_ (i := 16) (N := some 167) (v := ?_) (a' := ?_) #[true, true, true, true, true, true, true, true, true, true, true, true, true, true, true, true, true, false, false, false, false, false, false, false, false, false, false, false, false] rfl rfl (any_of HT_.out (by kernel_rfl)) (fun _ _ _ h => h) (Or.inl ⟨by rfl, ?_⟩) ?_ ?_
                                                rotate_left
                                                ·intro w'
                                                 go_simp
                                                 with_reducible rfl
                                                rotate_left
                                                ·simp only [Act.put, List.setIfInBounds_toArray, List.set_cons_zero, List.set_cons_succ, i64_w, i32_w]
                                                 rfl
                                                refine pure_ (i := 17) (N := some 168) (v := ?_) (a' := ?_) #[true, true, true, true, true, true, true, true, true, true, true, true, true, true, true, true, true, true, false, false, false, false, false, false, false, false, false, false, false] rfl rfl (any_of HT_.out (by kernel_rfl)) (fun _ _ _ h => h) (Or.inl ⟨by rfl, ?_⟩) ?_ ?_
                                                rotate_left
                                                ·intro w'
                                                 go_simp
                                                 with_reducible rfl
                                                rotate_left
                                                ·simp only [Act.put, List.setIfInBounds_toArray, List.set_cons_zero, List.set_cons_succ, i64_w, i32_w]
                                                 rfl
                                                refine pure_ (i := 18) (N := some 169) (v := ?_) (a' := ?_) #[true, true, true, true, true, true, true, true, true, true, true, true, true, true, true, true, true, true, true, false, false, false, false, false, false, false, false, false, false] rfl rfl (any_of HT_.out (by kernel_rfl)) (fun _ _ _ h => h) (Or.inl ⟨by rfl, ?_⟩) ?_ ?_
                                                rotate_left
                                                ·intro w'
                                                 go_simp
                                                 with_reducible rfl
                                                rotate_left
                                                ·simp only [Act.put, List.setIfInBounds_toArray, List.set_cons_zero, List.set_cons_succ, i64_w, i32_w]
                                                 rfl
                                                refine pure_ (i := 19) (N := some 170) (v := ?_) (a' := ?_) #[true, true, true, true, true, true, true, true, true, true, true, true, true, true, true, true, true, true, true, true, false, false, false, false, false, false, false, false, false] rfl rfl (any_of HT_.out (by kernel_rfl)) (fun _ _ _ h => h) (Or.inl ⟨by rfl, ?_⟩) ?_ ?_
                                                rotate_left
                                                ·intro w'
                                                 go_simp
                                                 with_reducible rfl
                                                rotate_left
                                                ·simp only [Act.put, List.setIfInBounds_toArray, List.set_cons_zero, List.set_cons_succ, i64_w, i32_w]
                                                 rfl
                                                refine pure_ (i := 20) (N := some 171) (v := ?_) (a' := ?_) #[true, true, true, true, true, true, true, true, true, true, true, true, true, true, true, true, true, true, true, true, true, false, false, false, false, false, false, false, false] rfl rfl (any_of HT_.out (by kernel_rfl)) (fun _ _ _ h => h) (Or.inl ⟨by rfl, ?_⟩) ?_ ?_
                                                rotate_left
                                                ·intro w'
                                                 go_simp
                                                 with_reducible rfl
                                                rotate_left
                                                ·simp only [Act.put, List.setIfInBounds_toArray, List.set_cons_zero, List.set_cons_succ, i64_w, i32_w]
                                                 rfl
                                                refine pure_ (i := 21) (N := some 172) (v := undef) (a' := ?_) #[true, true, true, true, true, true, true, true, true, true, true, true, true, true, true, true, true, true, true, true, true, true, false, false, false, false, false, false, false] rfl rfl (any_of HT_.out (by kernel_rfl)) (fun _ _ _ h => h) (Or.inr ⟨by rfl, rfl⟩) ?_ ?_
                                                rotate_left
                                                ·simp only [Act.put, List.setIfInBounds_toArray, List.set_cons_zero, List.set_cons_succ, i64_w, i32_w]
                                                 rfl
                                                refine pure_ (i := 22) (N := some 173) (v := undef) (a' := ?_) #[true, true, true, true, true, true, true, true, true, true, true, true, true, true, true, true, true, true, true, true, true, true, true, false, false, false, false, false, false] rfl rfl (any_of HT_.out (by kernel_rfl)) (fun _ _ _ h => h) (Or.inr ⟨by rfl, rfl⟩) ?_ ?_
                                                rotate_left
                                                ·simp only [Act.put, List.setIfInBounds_toArray, List.set_cons_zero, List.set_cons_succ, i64_w, i32_w]
                                                 rfl
                                                refine pure_ (i := 23) (N := some 174) (v := undef) (a' := ?_) #[true, true, true, true, true, true, true, true, true, true, true, true, true, true, true, true, true, true, true, true, true, true, true, true, false, false, false, false, false] rfl rfl (any_of HT_.out (by kernel_rfl)) (fun _ _ _ h => h) (Or.inr ⟨by rfl, rfl⟩) ?_ ?_
                                                rotate_left
                                                ·simp only [Act.put, List.setIfInBounds_toArray, List.set_cons_zero, List.set_cons_succ, i64_w, i32_w]
                                                 rfl
                                                refine pure_ (i := 24) (N := some 175) (v := undef) (a' := ?_) #[true, true, true, true, true, true, true, true, true, true, true, true, true, true, true, true, true, true, true, true, true, true, true, true, true, false, false, false, false] rfl rfl (any_of HT_.out (by kernel_rfl)) (fun _ _ _ h => h) (Or.inr ⟨by rfl, rfl⟩) ?_ ?_
                                                rotate_left
                                                ·simp only [Act.put, List.setIfInBounds_toArray, List.set_cons_zero, List.set_cons_succ, i64_w, i32_w]
                                                 rfl
                                                refine pure_ (i := 25) (N := some 176) (v := undef) (a' := ?_) #[true, true, true, true, true, true, true, true, true, true, true, true, true, true, true, true, true, true, true, true, true, true, true, true, true, true, false, false, false] rfl rfl (any_of HT_.out (by kernel_rfl)) (fun _ _ _ h => h) (Or.inr ⟨by rfl, rfl⟩) ?_ ?_
                                                rotate_left
                                                ·simp only [Act.put, List.setIfInBounds_toArray, List.set_cons_zero, List.set_cons_succ, i64_w, i32_w]
                                                 rfl
                                                refine pure_ (i := 26) (N := some 177) (v := undef) (a' := ?_) #[true, true, true, true, true, true, true, true, true, true, true, true, true, true, true, true, true, true, true, true, true, true, true, true, true, true, true, false, false] rfl rfl (any_of HT_.out (by kernel_rfl)) (fun _ _ _ h => h) (Or.inr ⟨by rfl, rfl⟩) ?_ ?_
                                                rotate_left
                                                ·simp only [Act.put, List.setIfInBounds_toArray, List.set_cons_zero, List.set_cons_succ, i64_w, i32_w]
                                                 rfl
                                                refine pure_ (i := 27) (N := some 178) (v := ?_) (a' := ?_) #[true, true, true, true, true, true, true, true, true, true, true, true, true, true, true, true, true, true, true, true, true, true, true, true, true, true, true, true, false] rfl rfl (any_of HT_.out (by kernel_rfl)) (fun _ _ _ h => h) (Or.inl ⟨by rfl, ?_⟩) ?_ ?_
                                                rotate_left
                                                ·intro w'
                                                 go_simp
                                                 with_reducible rfl
                                                rotate_left
                                                ·simp only [Act.put, List.setIfInBounds_toArray, List.set_cons_zero, List.set_cons_succ, i64_w, i32_w]
                                                 rfl
                                                refine pure_ (i := 28) (N := some 179) (v := ?_) (a' := ?_) #[true, true, true, true, true, true, true, true, true, true, true, true, true, true, true, true, true, true, true, true, true, true, true, true, true, true, true, true, true] rfl rfl (any_of HT_.out (by kernel_rfl)) (fun _ _ _ h => h) (Or.inl ⟨by rfl, ?_⟩) ?_ ?_
                                                rotate_left
                                                ·intro w'
                                                 go_simp
                                                 with_reducible rfl
                                                rotate_left
                                                ·simp only [Act.put, List.setIfInBounds_toArray, List.set_cons_zero, List.set_cons_succ, i64_w, i32_w]
                                                 rfl
                                                refine done_ (done_of HT_.out (by kernel_rfl)) ?_
                                                try go_wp2
                                                go_roundg k4
                                                case measure => have := HJ10.out; have := HJ54.out; have := HJ58.out; have := HK4.out; omega
                                                case rel => exact ⟨(wrap64 (x18_4 + 1)), (by first | rfl | (simp; done) | (simp [*]; done)), H', ⟨by have := HJ10.out; have := HJ54.out; have := HJ58.out; have := HK4.out; omega⟩, ⟨kr HO_16.out⟩, ⟨bk BK459.out⟩, ⟨bq HB.out⟩⟩
                                       ·as_aux_lemma =>
                                          rw [if_neg c93] at H
                                          exact absurd H (by simp)
                                    ·as_aux_lemma =>
                                       rw [if_neg c92] at H
                                       have c92b0 : decide (x18_4 < (l1.length : Int)) = false := decide_eq_false c92
                                       clear c92
                                       by_cases c99 : x18_4 ≥ (l1.length : Int)
                                       ·as_aux_lemma =>
                                          rw [if_pos c99] at H
                                          have c99b0 : decide ((l1.length : Int) ≤ x18_4) = true := decide_eq_true c99
                                          clear c99
                                          by_cases c100 : 0 ≤ x18_4
                                          ·as_aux_lemma =>
                                             rw [if_pos c100] at H
                                             have c100b0 : decide (0 ≤ x18_4) = true := decide_eq_true c100
                                             clear c100
                                             by_cases c101 : (!(((rd_T28 t493 x18_4).f0) == 0) || (!(((rd_T28 t493 x18_4).f1) == 0))) = true
                                             ·as_aux_lemma =>
                                                rw [if_pos c101] at H
                                                exact absurd H (by simp)
                                             ·as_aux_lemma =>
                                                rw [if_neg c101] at H
                                                have c101b0 : (!(((rd_T28 t493 x18_4).f0) == 0) || (!(((rd_T28 t493 x18_4).f1) == 0))) = false := by simpa using c101
                                                clear c101
                                                have H' := Aside0.mk H
                                                clear H
                                                try go_wp2
                                                replace HO_16 := Aside0.mk (Kd.R_drew HO_16.out)
                                                replace BK459 := Aside0.mk (blk_drew BK459.out)
                                                replace HB := Aside0.mk (below_drew1 HB.out)
                                                have p500 : 0 ≤ (x18_4 : Int) := of_decide_eq_true (by first | (with_reducible assumption) | assumption)
                                                have q500 : x18_4 < (t493.length : Int) := of_decide_eq_true (by first | (with_reducible assumption) | assumption)
                                                (try (obtain ⟨Ap_, cp_, ep_⟩ := Kd.R_slice HO_16.out; subst ep_))
                                                obtain ⟨ad500, e500, hx500_0, hx500_1⟩ := at_T28 (Kd.R_reads' HO_16.out).2.2 x18_4 p500 q500
                                                cases e500
                                                replace p500 := eq_true p500
                                                replace q500 := eq_true q500
                                                refine start_ (n := 29) (S := fun w' => w'.cell? (ad500.add ((x18_4).toNat * 2)) = some (.int .u64 ((rd_T28 t493 x18_4).f0)) ∧ w'.cell? ⟨(ad500.add ((x18_4).toNat * 2)).block, (ad500.add ((x18_4).toNat * 2)).off + 1, none⟩ = some (.int .u64 ((rd_T28 t493 x18_4).f1))) (ds := []) #[false, false, false, false, false, false, false, false, false, false, false, false, false, false, false, false, false, false, false, false, false, false, false, false, false, false, false, false, false] (by kernel_rfl) rfl rfl ⟨hx500_0, hx500_1⟩ (fun hHeld => ?_); refine with_tabW steeplelaw17_LineBack.tab31 steeplelaw17_LineBack.bits31 (fun HT_ HW_ => ?_)
                                                generalize wr.drew = w102 at HO_16 BK459 HB hx500_0 hx500_1 hHeld ⊢
                                                refine pure_ (i := 0) (N := some 151) (v := ?_) (a' := ?_) #[true, false, false, false, false, false, false, false, false, false, false, false, false, false, false, false, false, false, false, false, false, false, false, false, false, false, false, false, false] rfl rfl (any_of HT_.out (by kernel_rfl)) (fun _ _ _ h => h) (Or.inl ⟨by rfl, ?_⟩) ?_ ?_
                                                rotate_left
                                                ·intro w'
                                                 go_simp
                                                 with_reducible rfl
                                                rotate_left
                                                ·simp only [Act.put, List.setIfInBounds_toArray, List.set_cons_zero, List.set_cons_succ, i64_w, i32_w]
                                                 rfl
                                                refine pure_ (i := 1) (N := some 152) (v := ?_) (a' := ?_) #[true, true, false, false, false, false, false, false, false, false, false, false, false, false, false, false, false, false, false, false, false, false, false, false, false, false, false, false, false] rfl rfl (any_of HT_.out (by kernel_rfl)) (fun _ _ _ h => h) (Or.inl ⟨by rfl, ?_⟩) ?_ ?_
                                                rotate_left
                                                ·intro w'
                                                 go_simp
                                                 with_reducible rfl
                                                rotate_left
                                                ·simp only [Act.put, List.setIfInBounds_toArray, List.set_cons_zero, List.set_cons_succ, i64_w, i32_w]
                                                 rfl
                                                refine pure_ (i := 2) (N := some 153) (v := ?_) (a' := ?_) #[true, true, true, false, false, false, false, false, false, false, false, false, false, false, false, false, false, false, false, false, false, false, false, false, false, false, false, false, false] rfl rfl (any_of HT_.out (by kernel_rfl)) (fun _ _ _ h => h) (Or.inl ⟨by rfl, ?_⟩) ?_ ?_
                                                rotate_left
                                                ·intro w'
                                                 go_simp
                                                 with_reducible rfl
                                                rotate_left
                                                ·simp only [Act.put, List.setIfInBounds_toArray, List.set_cons_zero, List.set_cons_succ, i64_w, i32_w]
                                                 rfl
                                                refine pure_ (i := 3) (N := some 154) (v := ?_) (a' := ?_) #[true, true, true, true, false, false, false, false, false, false, false, false, false, false, false, false, false, false, false, false, false, false, false, false, false, false, false, false, false] rfl rfl (any_of HT_.out (by kernel_rfl)) (fun _ _ _ h => h) (Or.inl ⟨by rfl, ?_⟩) ?_ ?_
                                                rotate_left
                                                ·intro w'
                                                 go_simp
                                                 with_reducible rfl
                                                rotate_left
                                                ·simp only [Act.put, List.setIfInBounds_toArray, List.set_cons_zero, List.set_cons_succ, i64_w, i32_w]
                                                 rfl
                                                refine pure_ (i := 4) (N := some 155) (v := ?_) (a' := ?_) #[true, true, true, true, true, false, false, false, false, false, false, false, false, false, false, false, false, false, false, false, false, false, false, false, false, false, false, false, false] rfl rfl (any_of HT_.out (by kernel_rfl)) (fun _ _ _ h => h) (Or.inl ⟨by rfl, ?_⟩) ?_ ?_
                                                rotate_left
                                                ·intro w'
                                                 go_simp
                                                 with_reducible rfl
                                                rotate_left
                                                ·simp only [Act.put, List.setIfInBounds_toArray, List.set_cons_zero, List.set_cons_succ, i64_w, i32_w]
                                                 rfl
                                                refine pure_ (i := 5) (N := some 156) (v := undef) (a' := ?_) #[true, true, true, true, true, true, false, false, false, false, false, false, false, false, false, false, false, false, false, false, false, false, false, false, false, false, false, false, false] rfl rfl (any_of HT_.out (by kernel_rfl)) (fun _ _ _ h => h) (Or.inr ⟨by rfl, rfl⟩) ?_ ?_
                                                rotate_left
                                                ·simp only [Act.put, List.setIfInBounds_toArray, List.set_cons_zero, List.set_cons_succ, i64_w, i32_w]
                                                 rfl
                                                refine pure_ (i := 6) (N := some 157) (v := undef) (a' := ?_) #[true, true, true, true, true, true, true, false, false, false, false, false, false, false, false, false, false, false, false, false, false, false, false, false, false, false, false, false, false] rfl rfl (any_of HT_.out (by kernel_rfl)) (fun _ _ _ h => h) (Or.inr ⟨by rfl, rfl⟩) ?_ ?_
                                                rotate_left
                                                ·simp only [Act.put, List.setIfInBounds_toArray, List.set_cons_zero, List.set_cons_succ, i64_w, i32_w]
                                                 rfl
                                                refine pure_ (i := 7) (N := some 158) (v := undef) (a' := ?_) #[true, true, true, true, true, true, true, true, false, false, false, false, false, false, false, false, false, false, false, false, false, false, false, false, false, false, false, false, false] rfl rfl (any_of HT_.out (by kernel_rfl)) (fun _ _ _ h => h) (Or.inr ⟨by rfl, rfl⟩) ?_ ?_
                                                rotate_left
                                                ·simp only [Act.put, List.setIfInBounds_toArray, List.set_cons_zero, List.set_cons_succ, i64_w, i32_w]
                                                 rfl
                                                refine pure_ (i := 8) (N := some 159) (v := undef) (a' := ?_) #[true, true, true, true, true, true, true, true, true, false, false, false, false, false, false, false, false, false, false, false, false, false, false, false, false, false, false, false, false] rfl rfl (any_of HT_.out (by kernel_rfl)) (fun _ _ _ h => h) (Or.inr ⟨by rfl, rfl⟩) ?_ ?_
                                                rotate_left
                                                ·simp only [Act.put, List.setIfInBounds_toArray, List.set_cons_zero, List.set_cons_succ, i64_w, i32_w]
                                                 rfl
                                                refine pure_ (i := 9) (N := some 160) (v := undef) (a' := ?_) #[true, true, true, true, true, true, true, true, true, true, false, false, false, false, false, false, false, false, false, false, false, false, false, false, false, false, false, false, false] rfl rfl (any_of HT_.out (by kernel_rfl)) (fun _ _ _ h => h) (Or.inr ⟨by rfl, rfl⟩) ?_ ?_
                                                rotate_left
                                                ·simp only [Act.put, List.setIfInBounds_toArray, List.set_cons_zero, List.set_cons_succ, i64_w, i32_w]
                                                 rfl
                                                refine pure_ (i := 10) (N := some 161) (v := undef) (a' := ?_) #[true, true, true, true, true, true, true, true, true, true, true, false, false, false, false, false, false, false, false, false, false, false, false, false, false, false, false, false, false] rfl rfl (any_of HT_.out (by kernel_rfl)) (fun _ _ _ h => h) (Or.inr ⟨by rfl, rfl⟩) ?_ ?_
                                                rotate_left
                                                ·simp only [Act.put, List.setIfInBounds_toArray, List.set_cons_zero, List.set_cons_succ, i64_w, i32_w]
                                                 rfl
                                                refine pure_ (i := 11) (N := some 162) (v := undef) (a' := ?_) #[true, true, true, true, true, true, true, true, true, true, true, true, false, false, false, false, false, false, false, false, false, false, false, false, false, false, false, false, false] rfl rfl (any_of HT_.out (by kernel_rfl)) (fun _ _ _ h => h) (Or.inr ⟨by rfl, rfl⟩) ?_ ?_
                                                rotate_left
                                                ·simp only [Act.put, List.setIfInBounds_toArray, List.set_cons_zero, List.set_cons_succ, i64_w, i32_w]
                                                 rfl
                                                refine pure_ (i := 12) (N := some 163) (v := undef) (a' := ?_) #[true, true, true, true, true, true, true, true, true, true, true, true, true, false, false, false, false, false, false, false, false, false, false, false, false, false, false, false, false] rfl rfl (any_of HT_.out (by kernel_rfl)) (fun _ _ _ h => h) (Or.inr ⟨by rfl, rfl⟩) ?_ ?_
                                                rotate_left
                                                ·simp only [Act.put, List.setIfInBounds_toArray, List.set_cons_zero, List.set_cons_succ, i64_w, i32_w]
                                                 rfl
                                                refine pure_ (i := 13) (N := some 164) (v := undef) (a' := ?_) #[true, true, true, true, true, true, true, true, true, true, true, true, true, true, false, false, false, false, false, false, false, false, false, false, false, false, false, false, false] rfl rfl (any_of HT_.out (by kernel_rfl)) (fun _ _ _ h => h) (Or.inr ⟨by rfl, rfl⟩) ?_ ?_
                                                rotate_left
                                                ·simp only [Act.put, List.setIfInBounds_toArray, List.set_cons_zero, List.set_cons_succ, i64_w, i32_w]
                                                 rfl
                                                refine pure_ (i := 14) (N := some 165) (v := ?_) (a' := ?_) #[true, true, true, true, true, true, true, true, true, true, true, true, true, true, true, false, false, false, false, false, false, false, false, false, false, false, false, false, false] rfl rfl (any_of HT_.out (by kernel_rfl)) (fun _ _ _ h => h) (Or.inl ⟨by rfl, ?_⟩) ?_ ?_
                                                rotate_left
                                                ·intro w'
                                                 go_simp
                                                 with_reducible rfl
                                                rotate_left
                                                ·simp only [Act.put, List.setIfInBounds_toArray, List.set_cons_zero, List.set_cons_succ, i64_w, i32_w]
                                                 rfl
                                                refine pure_ (i := 15) (N := some 166) (v := ?_) (a' := ?_) #[true, true, true, true, true, true, true, true, true, true, true, true, true, true, true, true, false, false, false, false, false, false, false, false, false, false, false, false, false] rfl rfl (any_of HT_.out (by kernel_rfl)) (fun _ _ _ h => h) (Or.inl ⟨by rfl, ?_⟩) ?_ ?_
                                                rotate_left
                                                ·intro w'
                                                 go_simp
                                                 with_reducible rfl
                                                rotate_left
                                                ·simp only [Act.put, List.setIfInBounds_toArray, List.set_cons_zero, List.set_cons_succ, i64_w, i32_w]
                                                 rfl
                                                refine pure_ (i := 16) (N := some 167) (v := ?_) (a' := ?_) #[true, true, true, true, true, true, true, true, true, true, true, true, true, true, true, true, true, false, false, false, false, false, false, false, false, false, false, false, false] rfl rfl (any_of HT_.out (by kernel_rfl)) (fun _ _ _ h => h) (Or.inl ⟨by rfl, ?_⟩) ?_ ?_
                                                rotate_left
                                                ·intro w'
                                                 go_simp
                                                 with_reducible rfl
                                                rotate_left
                                                ·simp only [Act.put, List.setIfInBounds_toArray, List.set_cons_zero, List.set_cons_succ, i64_w, i32_w]
                                                 rfl
                                                refine pure_ (i := 17) (N := some 168) (v := ?_) (a' := ?_) #[true, true, true, true, true, true, true, true, true, true, true, true, true, true, true, true, true, true, false, false, false, false, false, false, false, false, false, false, false] rfl rfl (any_of HT_.out (by kernel_rfl)) (fun _ _ _ h => h) (Or.inl ⟨by rfl, ?_⟩) ?_ ?_
                                                rotate_left
                                                ·intro w'
                                                 go_simp
                                                 with_reducible rfl
                                                rotate_left
                                                ·simp only [Act.put, List.setIfInBounds_toArray, List.set_cons_zero, List.set_cons_succ, i64_w, i32_w]
                                                 rfl
                                                refine pure_ (i := 18) (N := some 169) (v := ?_) (a' := ?_) #[true, true, true, true, true, true, true, true, true, true, true, true, true, true, true, true, true, true, true, false, false, false, false, false, false, false, false, false, false] rfl rfl (any_of HT_.out (by kernel_rfl)) (fun _ _ _ h => h) (Or.inl ⟨by rfl, ?_⟩) ?_ ?_
                                                rotate_left
                                                ·intro w'
                                                 go_simp
                                                 with_reducible rfl
                                                rotate_left
                                                ·simp only [Act.put, List.setIfInBounds_toArray, List.set_cons_zero, List.set_cons_succ, i64_w, i32_w]
                                                 rfl
                                                refine pure_ (i := 19) (N := some 170) (v := ?_) (a' := ?_) #[true, true, true, true, true, true, true, true, true, true, true, true, true, true, true, true, true, true, true, true, false, false, false, false, false, false, false, false, false] rfl rfl (any_of HT_.out (by kernel_rfl)) (fun _ _ _ h => h) (Or.inl ⟨by rfl, ?_⟩) ?_ ?_
                                                rotate_left
                                                ·intro w'
                                                 go_simp
                                                 with_reducible rfl
                                                rotate_left
                                                ·simp only [Act.put, List.setIfInBounds_toArray, List.set_cons_zero, List.set_cons_succ, i64_w, i32_w]
                                                 rfl
                                                refine pure_ (i := 20) (N := some 171) (v := ?_) (a' := ?_) #[true, true, true, true, true, true, true, true, true, true, true, true, true, true, true, true, true, true, true, true, true, false, false, false, false, false, false, false, false] rfl rfl (any_of HT_.out (by kernel_rfl)) (fun _ _ _ h => h) (Or.inl ⟨by rfl, ?_⟩) ?_ ?_
                                                rotate_left
                                                ·intro w'
                                                 go_simp
                                                 with_reducible rfl
                                                rotate_left
                                                ·simp only [Act.put, List.setIfInBounds_toArray, List.set_cons_zero, List.set_cons_succ, i64_w, i32_w]
                                                 rfl
                                                refine pure_ (i := 21) (N := some 172) (v := ?_) (a' := ?_) #[true, true, true, true, true, true, true, true, true, true, true, true, true, true, true, true, true, true, true, true, true, true, false, false, false, false, false, false, false] rfl rfl (any_of HT_.out (by kernel_rfl)) (fun _ _ _ h => h) (Or.inl ⟨by rfl, ?_⟩) ?_ ?_
                                                rotate_left
                                                ·intro w'
                                                 go_simp
                                                 with_reducible rfl
                                                rotate_left
                                                ·simp only [Act.put, List.setIfInBounds_toArray, List.set_cons_zero, List.set_cons_succ, i64_w, i32_w]
                                                 rfl
                                                refine pure_ (i := 22) (N := some 173) (v := ?_) (a' := ?_) #[true, true, true, true, true, true, true, true, true, true, true, true, true, true, true, true, true, true, true, true, true, true, true, false, false, false, false, false, false] rfl rfl (any_of HT_.out (by kernel_rfl)) (fun _ _ _ h => h) (Or.inl ⟨by rfl, ?_⟩) ?_ ?_
                                                rotate_left
                                                ·intro w'
                                                 go_simp
                                                 with_reducible rfl
                                                rotate_left
                                                ·simp only [Act.put, List.setIfInBounds_toArray, List.set_cons_zero, List.set_cons_succ, i64_w, i32_w]
                                                 rfl
                                                refine pure_ (i := 23) (N := some 174) (v := ?_) (a' := ?_) #[true, true, true, true, true, true, true, true, true, true, true, true, true, true, true, true, true, true, true, true, true, true, true, true, false, false, false, false, false] rfl rfl (any_of HT_.out (by kernel_rfl)) (fun _ _ _ h => h) (Or.inl ⟨by rfl, ?_⟩) ?_ ?_
                                                rotate_left
                                                ·intro w'
                                                 go_simp
                                                 with_reducible rfl
                                                rotate_left
                                                ·simp only [Act.put, List.setIfInBounds_toArray, List.set_cons_zero, List.set_cons_succ, i64_w, i32_w]
                                                 rfl
                                                refine pure_ (i := 25) (N := some 176) (v := ?_) (a' := ?_) #[true, true, true, true, true, true, true, true, true, true, true, true, true, true, true, true, true, true, true, true, true, true, true, true, false, true, false, false, false] rfl rfl (any_of HT_.out (by kernel_rfl)) (fun _ _ _ h => h) (Or.inl ⟨by rfl, ?_⟩) ?_ ?_
                                                rotate_left
                                                ·intro w'
                                                 go_simp
                                                 with_reducible rfl
                                                rotate_left
                                                ·simp only [Act.put, List.setIfInBounds_toArray, List.set_cons_zero, List.set_cons_succ, i64_w, i32_w]
                                                 rfl
                                                refine take_ (i := 24) (N := some 175) (v := ?_) (a' := ?_) #[true, true, true, true, true, true, true, true, true, true, true, true, true, true, true, true, true, true, true, true, true, true, true, true, true, true, false, false, false] rfl rfl (take_ofW HT_.out HW_.out (by kernel_rfl)) (fun _ _ _ h => h) (Or.inl ⟨by rfl, ?_⟩) hHeld ?_ ?_
                                                rotate_left
                                                ·rintro w' ⟨s0, s1⟩
                                                 go_simp
                                                 with_reducible rfl
                                                rotate_left
                                                ·simp only [Act.put, List.setIfInBounds_toArray, List.set_cons_zero, List.set_cons_succ, i64_w, i32_w]
                                                 rfl
                                                refine pure_ (i := 26) (N := some 177) (v := ?_) (a' := ?_) #[true, true, true, true, true, true, true, true, true, true, true, true, true, true, true, true, true, true, true, true, true, true, true, true, true, true, true, false, false] rfl rfl (any_of HT_.out (by kernel_rfl)) (fun _ _ _ h => h) (Or.inl ⟨by rfl, ?_⟩) ?_ ?_
                                                rotate_left
                                                ·intro w'
                                                 go_simp
                                                 with_reducible rfl
                                                rotate_left
                                                ·simp only [Act.put, List.setIfInBounds_toArray, List.set_cons_zero, List.set_cons_succ, i64_w, i32_w]
                                                 rfl
                                                refine pure_ (i := 27) (N := some 178) (v := ?_) (a' := ?_) #[true, true, true, true, true, true, true, true, true, true, true, true, true, true, true, true, true, true, true, true, true, true, true, true, true, true, true, true, false] rfl rfl (any_of HT_.out (by kernel_rfl)) (fun _ _ _ h => h) (Or.inl ⟨by rfl, ?_⟩) ?_ ?_
                                                rotate_left
                                                ·intro w'
                                                 go_simp
                                                 with_reducible rfl
                                                rotate_left
                                                ·simp only [Act.put, List.setIfInBounds_toArray, List.set_cons_zero, List.set_cons_succ, i64_w, i32_w]
                                                 rfl
                                                refine pure_ (i := 28) (N := some 179) (v := ?_) (a' := ?_) #[true, true, true, true, true, true, true, true, true, true, true, true, true, true, true, true, true, true, true, true, true, true, true, true, true, true, true, true, true] rfl rfl (any_of HT_.out (by kernel_rfl)) (fun _ _ _ h => h) (Or.inl ⟨by rfl, ?_⟩) ?_ ?_
                                                rotate_left
                                                ·intro w'
                                                 go_simp
                                                 with_reducible rfl
                                                rotate_left
                                                ·simp only [Act.put, List.setIfInBounds_toArray, List.set_cons_zero, List.set_cons_succ, i64_w, i32_w]
                                                 rfl
                                                refine done_ (done_of HT_.out (by kernel_rfl)) ?_
                                                try go_wp2
                                                go_roundg k4
                                                case measure => have := HJ10.out; have := HJ54.out; have := HJ58.out; have := HK4.out; omega
                                                case rel => exact ⟨(wrap64 (x18_4 + 1)), (by first | rfl | (simp; done) | (simp [*]; done)), H', ⟨by have := HJ10.out; have := HJ54.out; have := HJ58.out; have := HK4.out; omega⟩, ⟨kr HO_16.out⟩, ⟨bk BK459.out⟩, ⟨bq HB.out⟩⟩
                                          ·as_aux_lemma =>
                                             rw [if_neg c100] at H
                                             exact absurd H (by simp)
                                       ·as_aux_lemma =>
                                          rw [if_neg c99] at H
                                          have c99b0 : decide ((l1.length : Int) ≤ x18_4) = false := decide_eq_false c99
                                          clear c99
                                          have H' := Aside0.mk H
                                          clear H
                                          try go_wp2
                                          replace HO_16 := Aside0.mk (Kd.R_drew HO_16.out)
                                          replace BK459 := Aside0.mk (blk_drew BK459.out)
                                          replace HB := Aside0.mk (below_drew1 HB.out)
                                          refine start_ (n := 29) (S := fun w' => True) (ds := []) #[false, false, false, false, false, false, false, false, false, false, false, false, false, false, false, false, false, false, false, false, false, false, false, false, false, false, false, false, false] (by kernel_rfl) rfl rfl trivial (fun hHeld => ?_); refine with_tabW steeplelaw17_LineBack.tab31 steeplelaw17_LineBack.bits31 (fun HT_ HW_ => ?_)
                                          generalize wr.drew = w103 at HO_16 BK459 HB hHeld ⊢
                                          refine pure_ (i := 0) (N := some 151) (v := ?_) (a' := ?_) #[true, false, false, false, false, false, false, false, false, false, false, false, false, false, false, false, false, false, false, false, false, false, false, false, false, false, false, false, false] rfl rfl (any_of HT_.out (by kernel_rfl)) (fun _ _ _ h => h) (Or.inl ⟨by rfl, ?_⟩) ?_ ?_
                                          rotate_left
                                          ·intro w'
                                           go_simp
                                           with_reducible rfl
                                          rotate_left
                                          ·simp only [Act.put, List.setIfInBounds_toArray, List.set_cons_zero, List.set_cons_succ, i64_w, i32_w]
                                           rfl
                                          refine pure_ (i := 1) (N := some 152) (v := ?_) (a' := ?_) #[true, true, false, false, false, false, false, false, false, false, false, false, false, false, false, false, false, false, false, false, false, false, false, false, false, false, false, false, false] rfl rfl (any_of HT_.out (by kernel_rfl)) (fun _ _ _ h => h) (Or.inl ⟨by rfl, ?_⟩) ?_ ?_
                                          rotate_left
                                          ·intro w'
                                           go_simp
                                           with_reducible rfl
                                          rotate_left
                                          ·simp only [Act.put, List.setIfInBounds_toArray, List.set_cons_zero, List.set_cons_succ, i64_w, i32_w]
                                           rfl
                                          refine pure_ (i := 2) (N := some 153) (v := ?_) (a' := ?_) #[true, true, true, false, false, false, false, false, false, false, false, false, false, false, false, false, false, false, false, false, false, false, false, false, false, false, false, false, false] rfl rfl (any_of HT_.out (by kernel_rfl)) (fun _ _ _ h => h) (Or.inl ⟨by rfl, ?_⟩) ?_ ?_
                                          rotate_left
                                          ·intro w'
                                           go_simp
                                           with_reducible rfl
                                          rotate_left
                                          ·simp only [Act.put, List.setIfInBounds_toArray, List.set_cons_zero, List.set_cons_succ, i64_w, i32_w]
                                           rfl
                                          refine pure_ (i := 3) (N := some 154) (v := ?_) (a' := ?_) #[true, true, true, true, false, false, false, false, false, false, false, false, false, false, false, false, false, false, false, false, false, false, false, false, false, false, false, false, false] rfl rfl (any_of HT_.out (by kernel_rfl)) (fun _ _ _ h => h) (Or.inl ⟨by rfl, ?_⟩) ?_ ?_
                                          rotate_left
                                          ·intro w'
                                           go_simp
                                           with_reducible rfl
                                          rotate_left
                                          ·simp only [Act.put, List.setIfInBounds_toArray, List.set_cons_zero, List.set_cons_succ, i64_w, i32_w]
                                           rfl
                                          refine pure_ (i := 4) (N := some 155) (v := ?_) (a' := ?_) #[true, true, true, true, true, false, false, false, false, false, false, false, false, false, false, false, false, false, false, false, false, false, false, false, false, false, false, false, false] rfl rfl (any_of HT_.out (by kernel_rfl)) (fun _ _ _ h => h) (Or.inl ⟨by rfl, ?_⟩) ?_ ?_
                                          rotate_left
                                          ·intro w'
                                           go_simp
                                           with_reducible rfl
                                          rotate_left
                                          ·simp only [Act.put, List.setIfInBounds_toArray, List.set_cons_zero, List.set_cons_succ, i64_w, i32_w]
                                           rfl
                                          refine pure_ (i := 5) (N := some 156) (v := undef) (a' := ?_) #[true, true, true, true, true, true, false, false, false, false, false, false, false, false, false, false, false, false, false, false, false, false, false, false, false, false, false, false, false] rfl rfl (any_of HT_.out (by kernel_rfl)) (fun _ _ _ h => h) (Or.inr ⟨by rfl, rfl⟩) ?_ ?_
                                          rotate_left
                                          ·simp only [Act.put, List.setIfInBounds_toArray, List.set_cons_zero, List.set_cons_succ, i64_w, i32_w]
                                           rfl
                                          refine pure_ (i := 6) (N := some 157) (v := undef) (a' := ?_) #[true, true, true, true, true, true, true, false, false, false, false, false, false, false, false, false, false, false, false, false, false, false, false, false, false, false, false, false, false] rfl rfl (any_of HT_.out (by kernel_rfl)) (fun _ _ _ h => h) (Or.inr ⟨by rfl, rfl⟩) ?_ ?_
                                          rotate_left
                                          ·simp only [Act.put, List.setIfInBounds_toArray, List.set_cons_zero, List.set_cons_succ, i64_w, i32_w]
                                           rfl
                                          refine pure_ (i := 7) (N := some 158) (v := undef) (a' := ?_) #[true, true, true, true, true, true, true, true, false, false, false, false, false, false, false, false, false, false, false, false, false, false, false, false, false, false, false, false, false] rfl rfl (any_of HT_.out (by kernel_rfl)) (fun _ _ _ h => h) (Or.inr ⟨by rfl, rfl⟩) ?_ ?_
                                          rotate_left
                                          ·simp only [Act.put, List.setIfInBounds_toArray, List.set_cons_zero, List.set_cons_succ, i64_w, i32_w]
                                           rfl
                                          refine pure_ (i := 8) (N := some 159) (v := undef) (a' := ?_) #[true, true, true, true, true, true, true, true, true, false, false, false, false, false, false, false, false, false, false, false, false, false, false, false, false, false, false, false, false] rfl rfl (any_of HT_.out (by kernel_rfl)) (fun _ _ _ h => h) (Or.inr ⟨by rfl, rfl⟩) ?_ ?_
                                          rotate_left
                                          ·simp only [Act.put, List.setIfInBounds_toArray, List.set_cons_zero, List.set_cons_succ, i64_w, i32_w]
                                           rfl
                                          refine pure_ (i := 9) (N := some 160) (v := undef) (a' := ?_) #[true, true, true, true, true, true, true, true, true, true, false, false, false, false, false, false, false, false, false, false, false, false, false, false, false, false, false, false, false] rfl rfl (any_of HT_.out (by kernel_rfl)) (fun _ _ _ h => h) (Or.inr ⟨by rfl, rfl⟩) ?_ ?_
                                          rotate_left
                                          ·simp only [Act.put, List.setIfInBounds_toArray, List.set_cons_zero, List.set_cons_succ, i64_w, i32_w]
                                           rfl
                                          refine pure_ (i := 10) (N := some 161) (v := undef) (a' := ?_) #[true, true, true, true, true, true, true, true, true, true, true, false, false, false, false, false, false, false, false, false, false, false, false, false, false, false, false, false, false] rfl rfl (any_of HT_.out (by kernel_rfl)) (fun _ _ _ h => h) (Or.inr ⟨by rfl, rfl⟩) ?_ ?_
                                          rotate_left
                                          ·simp only [Act.put, List.setIfInBounds_toArray, List.set_cons_zero, List.set_cons_succ, i64_w, i32_w]
                                           rfl
                                          refine pure_ (i := 11) (N := some 162) (v := undef) (a' := ?_) #[true, true, true, true, true, true, true, true, true, true, true, true, false, false, false, false, false, false, false, false, false, false, false, false, false, false, false, false, false] rfl rfl (any_of HT_.out (by kernel_rfl)) (fun _ _ _ h => h) (Or.inr ⟨by rfl, rfl⟩) ?_ ?_
                                          rotate_left
                                          ·simp only [Act.put, List.setIfInBounds_toArray, List.set_cons_zero, List.set_cons_succ, i64_w, i32_w]
                                           rfl
                                          refine pure_ (i := 12) (N := some 163) (v := undef) (a' := ?_) #[true, true, true, true, true, true, true, true, true, true, true, true, true, false, false, false, false, false, false, false, false, false, false, false, false, false, false, false, false] rfl rfl (any_of HT_.out (by kernel_rfl)) (fun _ _ _ h => h) (Or.inr ⟨by rfl, rfl⟩) ?_ ?_
                                          rotate_left
                                          ·simp only [Act.put, List.setIfInBounds_toArray, List.set_cons_zero, List.set_cons_succ, i64_w, i32_w]
                                           rfl
                                          refine pure_ (i := 13) (N := some 164) (v := undef) (a' := ?_) #[true, true, true, true, true, true, true, true, true, true, true, true, true, true, false, false, false, false, false, false, false, false, false, false, false, false, false, false, false] rfl rfl (any_of HT_.out (by kernel_rfl)) (fun _ _ _ h => h) (Or.inr ⟨by rfl, rfl⟩) ?_ ?_
                                          rotate_left
                                          ·simp only [Act.put, List.setIfInBounds_toArray, List.set_cons_zero, List.set_cons_succ, i64_w, i32_w]
                                           rfl
                                          refine pure_ (i := 14) (N := some 165) (v := ?_) (a' := ?_) #[true, true, true, true, true, true, true, true, true, true, true, true, true, true, true, false, false, false, false, false, false, false, false, false, false, false, false, false, false] rfl rfl (any_of HT_.out (by kernel_rfl)) (fun _ _ _ h => h) (Or.inl ⟨by rfl, ?_⟩) ?_ ?_
                                          rotate_left
                                          ·intro w'
                                           go_simp
                                           with_reducible rfl
                                          rotate_left
                                          ·simp only [Act.put, List.setIfInBounds_toArray, List.set_cons_zero, List.set_cons_succ, i64_w, i32_w]
                                           rfl
                                          refine pure_ (i := 15) (N := some 166) (v := ?_) (a' := ?_) #[true, true, true, true, true, true, true, true, true, true, true, true, true, true, true, true, false, false, false, false, false, false, false, false, false, false, false, false, false] rfl rfl (any_of HT_.out (by kernel_rfl)) (fun _ _ _ h => h) (Or.inl ⟨by rfl, ?_⟩) ?_ ?_
                                          rotate_left
                                          ·intro w'
                                           go_simp
                                           with_reducible rfl
                                          rotate_left
                                          ·simp only [Act.put, List.setIfInBounds_toArray, List.set_cons_zero, List.set_cons_succ, i64_w, i32_w]
                                           rfl
                                          refine pure_ (i := 16) (N := some 167) (v := ?_) (a' := ?_) #[true, true, true, true, true, true, true, true, true, true, true, true, true, true, true, true, true, false, false, false, false, false, false, false, false, false, false, false, false] rfl rfl (any_of HT_.out (by kernel_rfl)) (fun _ _ _ h => h) (Or.inl ⟨by rfl, ?_⟩) ?_ ?_
                                          rotate_left
                                          ·intro w'
                                           go_simp
                                           with_reducible rfl
                                          rotate_left
                                          ·simp only [Act.put, List.setIfInBounds_toArray, List.set_cons_zero, List.set_cons_succ, i64_w, i32_w]
                                           rfl
                                          refine pure_ (i := 17) (N := some 168) (v := ?_) (a' := ?_) #[true, true, true, true, true, true, true, true, true, true, true, true, true, true, true, true, true, true, false, false, false, false, false, false, false, false, false, false, false] rfl rfl (any_of HT_.out (by kernel_rfl)) (fun _ _ _ h => h) (Or.inl ⟨by rfl, ?_⟩) ?_ ?_
                                          rotate_left
                                          ·intro w'
                                           go_simp
                                           with_reducible rfl
                                          rotate_left
                                          ·simp only [Act.put, List.setIfInBounds_toArray, List.set_cons_zero, List.set_cons_succ, i64_w, i32_w]
                                           rfl
                                          refine pure_ (i := 18) (N := some 169) (v := ?_) (a' := ?_) #[true, true, true, true, true, true, true, true, true, true, true, true, true, true, true, true, true, true, true, false, false, false, false, false, false, false, false, false, false] rfl rfl (any_of HT_.out (by kernel_rfl)) (fun _ _ _ h => h) (Or.inl ⟨by rfl, ?_⟩) ?_ ?_
                                          rotate_left
                                          ·intro w'
                                           go_simp
                                           with_reducible rfl
                                          rotate_left
                                          ·simp only [Act.put, List.setIfInBounds_toArray, List.set_cons_zero, List.set_cons_succ, i64_w, i32_w]
                                           rfl
                                          refine pure_ (i := 19) (N := some 170) (v := ?_) (a' := ?_) #[true, true, true, true, true, true, true, true, true, true, true, true, true, true, true, true, true, true, true, true, false, false, false, false, false, false, false, false, false] rfl rfl (any_of HT_.out (by kernel_rfl)) (fun _ _ _ h => h) (Or.inl ⟨by rfl, ?_⟩) ?_ ?_
                                          rotate_left
                                          ·intro w'
                                           go_simp
                                           with_reducible rfl
                                          rotate_left
                                          ·simp only [Act.put, List.setIfInBounds_toArray, List.set_cons_zero, List.set_cons_succ, i64_w, i32_w]
                                           rfl
                                          refine pure_ (i := 20) (N := some 171) (v := ?_) (a' := ?_) #[true, true, true, true, true, true, true, true, true, true, true, true, true, true, true, true, true, true, true, true, true, false, false, false, false, false, false, false, false] rfl rfl (any_of HT_.out (by kernel_rfl)) (fun _ _ _ h => h) (Or.inl ⟨by rfl, ?_⟩) ?_ ?_
                                          rotate_left
                                          ·intro w'
                                           go_simp
                                           with_reducible rfl
                                          rotate_left
                                          ·simp only [Act.put, List.setIfInBounds_toArray, List.set_cons_zero, List.set_cons_succ, i64_w, i32_w]
                                           rfl
                                          refine pure_ (i := 21) (N := some 172) (v := undef) (a' := ?_) #[true, true, true, true, true, true, true, true, true, true, true, true, true, true, true, true, true, true, true, true, true, true, false, false, false, false, false, false, false] rfl rfl (any_of HT_.out (by kernel_rfl)) (fun _ _ _ h => h) (Or.inr ⟨by rfl, rfl⟩) ?_ ?_
                                          rotate_left
                                          ·simp only [Act.put, List.setIfInBounds_toArray, List.set_cons_zero, List.set_cons_succ, i64_w, i32_w]
                                           rfl
                                          refine pure_ (i := 22) (N := some 173) (v := undef) (a' := ?_) #[true, true, true, true, true, true, true, true, true, true, true, true, true, true, true, true, true, true, true, true, true, true, true, false, false, false, false, false, false] rfl rfl (any_of HT_.out (by kernel_rfl)) (fun _ _ _ h => h) (Or.inr ⟨by rfl, rfl⟩) ?_ ?_
                                          rotate_left
                                          ·simp only [Act.put, List.setIfInBounds_toArray, List.set_cons_zero, List.set_cons_succ, i64_w, i32_w]
                                           rfl
                                          refine pure_ (i := 23) (N := some 174) (v := undef) (a' := ?_) #[true, true, true, true, true, true, true, true, true, true, true, true, true, true, true, true, true, true, true, true, true, true, true, true, false, false, false, false, false] rfl rfl (any_of HT_.out (by kernel_rfl)) (fun _ _ _ h => h) (Or.inr ⟨by rfl, rfl⟩) ?_ ?_
                                          rotate_left
                                          ·simp only [Act.put, List.setIfInBounds_toArray, List.set_cons_zero, List.set_cons_succ, i64_w, i32_w]
                                           rfl
                                          refine pure_ (i := 24) (N := some 175) (v := undef) (a' := ?_) #[true, true, true, true, true, true, true, true, true, true, true, true, true, true, true, true, true, true, true, true, true, true, true, true, true, false, false, false, false] rfl rfl (any_of HT_.out (by kernel_rfl)) (fun _ _ _ h => h) (Or.inr ⟨by rfl, rfl⟩) ?_ ?_
                                          rotate_left
                                          ·simp only [Act.put, List.setIfInBounds_toArray, List.set_cons_zero, List.set_cons_succ, i64_w, i32_w]
                                           rfl
                                          refine pure_ (i := 25) (N := some 176) (v := undef) (a' := ?_) #[true, true, true, true, true, true, true, true, true, true, true, true, true, true, true, true, true, true, true, true, true, true, true, true, true, true, false, false, false] rfl rfl (any_of HT_.out (by kernel_rfl)) (fun _ _ _ h => h) (Or.inr ⟨by rfl, rfl⟩) ?_ ?_
                                          rotate_left
                                          ·simp only [Act.put, List.setIfInBounds_toArray, List.set_cons_zero, List.set_cons_succ, i64_w, i32_w]
                                           rfl
                                          refine pure_ (i := 26) (N := some 177) (v := undef) (a' := ?_) #[true, true, true, true, true, true, true, true, true, true, true, true, true, true, true, true, true, true, true, true, true, true, true, true, true, true, true, false, false] rfl rfl (any_of HT_.out (by kernel_rfl)) (fun _ _ _ h => h) (Or.inr ⟨by rfl, rfl⟩) ?_ ?_
                                          rotate_left
                                          ·simp only [Act.put, List.setIfInBounds_toArray, List.set_cons_zero, List.set_cons_succ, i64_w, i32_w]
                                           rfl
                                          refine pure_ (i := 27) (N := some 178) (v := ?_) (a' := ?_) #[true, true, true, true, true, true, true, true, true, true, true, true, true, true, true, true, true, true, true, true, true, true, true, true, true, true, true, true, false] rfl rfl (any_of HT_.out (by kernel_rfl)) (fun _ _ _ h => h) (Or.inl ⟨by rfl, ?_⟩) ?_ ?_
                                          rotate_left
                                          ·intro w'
                                           go_simp
                                           with_reducible rfl
                                          rotate_left
                                          ·simp only [Act.put, List.setIfInBounds_toArray, List.set_cons_zero, List.set_cons_succ, i64_w, i32_w]
                                           rfl
                                          refine pure_ (i := 28) (N := some 179) (v := ?_) (a' := ?_) #[true, true, true, true, true, true, true, true, true, true, true, true, true, true, true, true, true, true, true, true, true, true, true, true, true, true, true, true, true] rfl rfl (any_of HT_.out (by kernel_rfl)) (fun _ _ _ h => h) (Or.inl ⟨by rfl, ?_⟩) ?_ ?_
                                          rotate_left
                                          ·intro w'
                                           go_simp
                                           with_reducible rfl
                                          rotate_left
                                          ·simp only [Act.put, List.setIfInBounds_toArray, List.set_cons_zero, List.set_cons_succ, i64_w, i32_w]
                                           rfl
                                          refine done_ (done_of HT_.out (by kernel_rfl)) ?_
                                          try go_wp2
                                          go_roundg k4
                                          case measure => have := HJ10.out; have := HJ54.out; have := HJ58.out; have := HK4.out; omega
                                          case rel => exact ⟨(wrap64 (x18_4 + 1)), (by first | rfl | (simp; done) | (simp [*]; done)), H', ⟨by have := HJ10.out; have := HJ54.out; have := HJ58.out; have := HK4.out; omega⟩, ⟨kr HO_16.out⟩, ⟨bk BK459.out⟩, ⟨bq HB.out⟩⟩
                                 ·as_aux_lemma =>
                                    rw [if_neg c91] at H
                                    have c91b0 : decide (x18_4 < (t493.length : Int)) = false := decide_eq_false c91
                                    clear c91
                                    replace H := Option.bind_eq_some_iff.mp H
                                    obtain ⟨t501, A1040, H⟩ := H
                                    replace H : (some t501) = some r := H
                                    have A104 := Aside0.mk A1040
                                    clear A1040
                                    obtain rfl := Option.some.inj H
                                    go_wp2_with (first | ((with_reducible refine gate_callee (f := 9) rfl ?_); refine goesL_ (some 180) rfl rfl Try.func9 (by kernel_rfl) rfl #[] rfl (by (try simp only [List.map_toArray, List.map_cons, List.map_nil]); first | done | rfl | (simp only [List.length_drop, List.length_take]; rfl)) ?_; (with_reducible refine (steeplelaw17_awake.calls k4  t501 _ A104.out).mono ?_); rintro e w105 ⟨rfl, hb⟩; refine ⟨_, rfl, ?_⟩; replace HO_16 := kb HO_16 hb; replace BK459 := bb BK459 hb; replace HB := bh HB hb; (try clear hb); (try clear hb2); (try clear hk); (try clear hi)))
                                    go_ret
                                    exact ⟨by first | rfl | (simp [errW_none, errW_some] <;> rfl) | (simp [*, errW_none, errW_some] <;> rfl), bq HB.out⟩
                            ·as_aux_lemma =>
                               rw [if_neg c86] at H
                               exact absurd H (by simp)
                         ·as_aux_lemma =>
                            rw [if_neg c85] at H
                            exact absurd H (by simp)
                      ·as_aux_lemma =>
                         rw [if_neg c83] at H
                         have c83b0 : (t484 == 0) = false := beq_eq_false_iff_ne.mpr c83
                         have c83b1 : (t484 != 0) = true := bne_iff_ne.mpr c83
                         replace H := Option.bind_eq_some_iff.mp H
                         obtain ⟨t492, A1060, H⟩ := H
                         replace H : (if t492 = true then (some ((t483.length : Int) == 0)) else (none)) = some r := H
                         have A106 := Aside0.mk A1060
                         clear A1060
                         by_cases c107 : t492 = true
                         ·as_aux_lemma =>
                            subst c107
                            have H1 : (some ((t483.length : Int) == 0)) = some r := by rw [if_pos rfl] at H; exact H
                            clear H
                            have H := H1
                            clear H1
                            obtain rfl := Option.some.inj H
                            go_wp2_with (first | ((with_reducible refine gate_callee (f := 9) rfl ?_); refine goesL_ (some 123) rfl rfl Try.func9 (by kernel_rfl) rfl #[] rfl (by (try simp only [List.map_toArray, List.map_cons, List.map_nil]); first | done | rfl | (simp only [List.length_drop, List.length_take]; rfl)) ?_; (with_reducible refine (steeplelaw17_awake.calls kj58  true _ A106.out).mono ?_); rintro e w108 ⟨rfl, hb⟩; refine ⟨_, rfl, ?_⟩; replace HO_13 := kb HO_13 hb; replace BK459 := bb BK459 hb; replace HB := bh HB hb; (try clear hb); (try clear hb2); (try clear hk); (try clear hi); obtain ⟨Ao109, co109, eo109⟩ := Kd.R_slice HO_13.out; subst eo109))
                            go_ret
                            exact ⟨by first | rfl | (simp [errW_none, errW_some] <;> rfl) | (simp [*, errW_none, errW_some] <;> rfl), bq HB.out⟩
                         ·as_aux_lemma =>
                            replace c107 := Bool.eq_false_iff.mpr c107
                            subst c107
                            have H1 : (none) = some r := by rw [if_neg (show ¬ (false = true) by decide)] at H; exact H
                            clear H
                            have H := H1
                            clear H1
                            exact absurd H (by simp)
                   ·as_aux_lemma =>
                      rw [if_neg c82] at H
                      exact absurd H (by simp)
    ·as_aux_lemma =>
       rw [if_neg c10] at H
       exact absurd H (by simp)
    
/-- THE ONE PURE STATEMENT of steeplelaw17_LineBack. -/
def steeplelaw17_LineBack.Pure : Prop := ∀ (x0 : Int) (x1 : List (S28)) (x2 : S49), (Lit.int .i64 x0).wf = true → (x1.length ≤ maxLen ∧ x1.length * 16 ≤ 140737488351232 ∧ ∀ y0 ∈ x1, ((Lit.int .u64 y0.f0).wf = true ∧ (Lit.int .u64 y0.f1).wf = true)) → (((Lit.int .u64 x2.f0.f0).wf = true ∧ (Lit.int .u64 x2.f0.f1).wf = true) ∧ (Lit.int .i64 x2.f1).wf = true) → ∃ k, steeplelaw17_LineBack.f k x0 x1 x2.f0.f0 x2.f0.f1 x2.f1 = some true

end Go.Proofs.Ythnaalocgoeddaa.P
