/- Written by a program of this session: functions that the law reaches, as Lean functions, and that the code comes to their answers. Conditions: those that each theorem names. -/
import Derived.Test.YtceneggampgboaaPx0
import Derived.Test.YtceneggampgboaaPx1
import Derived.Test.YtceneggampgboaaPx2
import Derived.Test.YtceneggampgboaaPx5
import Derived.Test.YtceneggampgboaaPx6
import Derived.Test.YtceneggampgboaaPx8
import Derived.Test.YtceneggampgboaaPx12
import Derived.Test.YtceneggampgboaaPx16
import Derived.Test.YtceneggampgboaaPx20
import Derived.Test.YtceneggampgboaaPx21
namespace Go.Proofs.Ytceneggampgboaa.P
open Go.RowKit Go.Proofs.YtceneggampgboaaX Go.Proofs.YtceneggampgboaaW.PrintWords Go.Proofs.YtceneggampgboaaW.PrintLast Go.Proofs.YtceneggampgboaaW.PrintMore
attribute [local go_sem] max2_int min2_int max_two min_two max_three min_three max_four min_four   -- for this text's walks alone
set_option linter.unusedVariables false
set_option linter.unusedSimpArgs false

attribute [local go_sem high] eqA25 eqA44
/-! ### steeplelaw03_PackReckons: function 6 -/
def steeplelaw03_PackReckons.l0 : Nat → Int → Int → Int → Int → Int → Int → Int → Int → List Int → Int → Int → List Int → Int → List (S44) → Int → List (S44) → Int → Int → List Int → Int → Int → List Int → Int → Int → Int → List (S44) → Int → List (S44) → Int → Int → Option (Bool)
 | 0, _, _, _, _, _, _, _, _, _, _, _, _, _, _, _, _, _, _, _, _, _, _, _, _, _, _, _, _, _, _ => none
 | k + 1, x9, x11, x13, x15, x17, x19, x650000, x650001, x650002, x651000, x651001, x651002, x656000, x656001, x660000, x660001, x667000, x667001, x667002, x674000, x674001, x674002, x678000, x678001, x684000, x684001, x690000, x690001, x691000, x691001 => if x19 < (x690001.length : Int) then (if 0 ≤ x19 then ((steepleref02_Add.f x691000 x691001 ((rd_T44 x690001 x19).f0) ((rd_T44 x690001 x19).f1)).bind fun bt692 => (steeplelaw03_PackReckons.l0 k x9 x11 x13 x15 x17 (wrap64 (x19 + 1)) x650000 x650001 x650002 x651000 x651001 x651002 x656000 x656001 x660000 x660001 x667000 x667001 x667002 x674000 x674001 x674002 x678000 x678001 x684000 x684001 x690000 x690001 bt692.1 bt692.2)) else (none)) else ((steeplelaw03_awake.f k).bind fun t694 => (if t694 = true then (if x9 = x15 then ((steeplelaw03_same.f k x667000 x667001 x667002 x684000 x684001).bind fun t695 => (if t695 = true then (if x11 = x17 then ((steeplelaw03_same.f k x674000 x674001 x674002 x690000 x690001).bind fun t696 => (if t696 = true then (if x13 = x17 then (if (x678000 == x691000 && (x678001 == x691001)) = true then ((steeplelaw03_same.f k x650000 x650001 x650002 x656000 x656001).bind fun t697 => (if t697 = true then ((steeplelaw03_same.f k x651000 x651001 x651002 x660000 x660001).bind fun t698 => (some t698)) else (none))) else (none)) else (none)) else (none))) else (none)) else (none))) else (none)) else (none)))
def steeplelaw03_PackReckons.f (k : Nat) (a0_0 : Int) (a0_1 : Int) (l0_2 : List (S25)) (l0_3 : List (S25)) : Option (Bool) := (steeplelaw03_Pair_made.f k a0_0 a0_1 l0_2 l0_3).bind fun bt638 => (if bt638.2.2.2.2.2.2 = true then ((steeplelaw01_Ref.f k l0_2).bind fun t652 => ((steeplelaw01_Ref.f k l0_3).bind fun t656 => ((pack_Add.f k bt638.1 bt638.2.1 bt638.2.2.1 bt638.2.2.2.1 bt638.2.2.2.2.1 bt638.2.2.2.2.2.1).bind fun bt660 => ((pack_Mul.f k bt638.1 bt638.2.1 bt638.2.2.1 bt638.2.2.2.1 bt638.2.2.2.2.1 bt638.2.2.2.2.2.1).bind fun bt667 => ((pack_Dot.f k bt638.1 bt638.2.1 bt638.2.2.1 bt638.2.2.2.1 bt638.2.2.2.2.1 bt638.2.2.2.2.2.1).bind fun bt674 => ((steepleref03_Both.f k a0_0 t652 a0_1 t656 0).bind fun bt678 => ((steepleref03_Both.f k a0_0 t652 a0_1 t656 1).bind fun bt684 => (steeplelaw03_PackReckons.l0 k bt660.2.2.2 bt667.2.2.2 bt674.2.2 bt678.2.2 bt684.2.2 0 bt638.1 bt638.2.1 bt638.2.2.1 bt638.2.2.2.1 bt638.2.2.2.2.1 bt638.2.2.2.2.2.1 a0_0 t652 a0_1 t656 bt660.1 bt660.2.1 bt660.2.2.1 bt667.1 bt667.2.1 bt667.2.2.1 bt674.1 bt674.2.1 bt678.1 bt678.2.1 bt684.1 bt684.2.1 0 0)))))))) else ((steeplelaw03_awake.f k).bind fun t651 => (some t651)))
theorem steeplelaw03_PackReckons.mono_l : ∀ k, (∀ y0 y1 y2 y3 y4 y5 y6 y7 y8 y9 y10 y11 y12 y13 y14 y15 y16 y17 y18 y19 y20 y21 y22 y23 y24 y25 y26 y27 y28 y29, LeO (steeplelaw03_PackReckons.l0 k y0 y1 y2 y3 y4 y5 y6 y7 y8 y9 y10 y11 y12 y13 y14 y15 y16 y17 y18 y19 y20 y21 y22 y23 y24 y25 y26 y27 y28 y29) (steeplelaw03_PackReckons.l0 (k + 1) y0 y1 y2 y3 y4 y5 y6 y7 y8 y9 y10 y11 y12 y13 y14 y15 y16 y17 y18 y19 y20 y21 y22 y23 y24 y25 y26 y27 y28 y29))
 | 0 => fun _ _ _ _ _ _ _ _ _ _ _ _ _ _ _ _ _ _ _ _ _ _ _ _ _ _ _ _ _ _ r h => by simp [steeplelaw03_PackReckons.l0] at h
 | k + 1 => by
  have ih0 := steeplelaw03_PackReckons.mono_l k
  ·intro y0 y1 y2 y3 y4 y5 y6 y7 y8 y9 y10 y11 y12 y13 y14 y15 y16 y17 y18 y19 y20 y21 y22 y23 y24 y25 y26 y27 y28 y29
   unfold steeplelaw03_PackReckons.l0
   repeat' first
   | (with_reducible exact ih0 _ _ _ _ _ _ _ _ _ _ _ _ _ _ _ _ _ _ _ _ _ _ _ _ _ _ _ _ _ _)
   | (with_reducible exact pack_Add.mono _ _ _ _ _ _ _)
   | (with_reducible exact pack_Dot.mono _ _ _ _ _ _ _)
   | (with_reducible exact pack_Mul.mono _ _ _ _ _ _ _)
   | (with_reducible exact steeplelaw01_Ref.mono _ _)
   | (with_reducible exact steeplelaw03_Pair_made.mono _ _ _ _ _)
   | (with_reducible exact steeplelaw03_awake.mono _)
   | (with_reducible exact steeplelaw03_same.mono _ _ _ _ _ _)
   | (with_reducible exact steepleref03_Both.mono _ _ _ _ _ _)
   | (with_reducible exact LeO.refl _)
   | (with_reducible exact LeO.none _)
   | (with_reducible refine LeO.ite ?_ ?_)
   | (with_reducible refine LeO.bind ?_ (fun _ => ?_))
   | exact ih0 _ _ _ _ _ _ _ _ _ _ _ _ _ _ _ _ _ _ _ _ _ _ _ _ _ _ _ _ _ _
   | exact pack_Add.mono _ _ _ _ _ _ _
   | exact pack_Dot.mono _ _ _ _ _ _ _
   | exact pack_Mul.mono _ _ _ _ _ _ _
   | exact steeplelaw01_Ref.mono _ _
   | exact steeplelaw03_Pair_made.mono _ _ _ _ _
   | exact steeplelaw03_awake.mono _
   | exact steeplelaw03_same.mono _ _ _ _ _ _
   | exact steepleref03_Both.mono _ _ _ _ _ _
   | exact LeO.none _
   | refine LeO.ite ?_ ?_
   | refine LeO.bind ?_ (fun _ => ?_)
theorem steeplelaw03_PackReckons.mono : ∀ a0 a1 a2 a3 k, LeO (steeplelaw03_PackReckons.f k a0 a1 a2 a3) (steeplelaw03_PackReckons.f (k + 1) a0 a1 a2 a3) := by
 intro a0 a1 a2 a3 k
 have ih0 := steeplelaw03_PackReckons.mono_l k
 unfold steeplelaw03_PackReckons.f
 repeat' first
   | (with_reducible exact ih0 _ _ _ _ _ _ _ _ _ _ _ _ _ _ _ _ _ _ _ _ _ _ _ _ _ _ _ _ _ _)
   | (with_reducible exact pack_Add.mono _ _ _ _ _ _ _)
   | (with_reducible exact pack_Dot.mono _ _ _ _ _ _ _)
   | (with_reducible exact pack_Mul.mono _ _ _ _ _ _ _)
   | (with_reducible exact steeplelaw01_Ref.mono _ _)
   | (with_reducible exact steeplelaw03_Pair_made.mono _ _ _ _ _)
   | (with_reducible exact steeplelaw03_awake.mono _)
   | (with_reducible exact steeplelaw03_same.mono _ _ _ _ _ _)
   | (with_reducible exact steepleref03_Both.mono _ _ _ _ _ _)
   | (with_reducible exact LeO.refl _)
   | (with_reducible exact LeO.none _)
   | (with_reducible refine LeO.ite ?_ ?_)
   | (with_reducible refine LeO.bind ?_ (fun _ => ?_))
   | exact ih0 _ _ _ _ _ _ _ _ _ _ _ _ _ _ _ _ _ _ _ _ _ _ _ _ _ _ _ _ _ _
   | exact pack_Add.mono _ _ _ _ _ _ _
   | exact pack_Dot.mono _ _ _ _ _ _ _
   | exact pack_Mul.mono _ _ _ _ _ _ _
   | exact steeplelaw01_Ref.mono _ _
   | exact steeplelaw03_Pair_made.mono _ _ _ _ _
   | exact steeplelaw03_awake.mono _
   | exact steeplelaw03_same.mono _ _ _ _ _ _
   | exact steepleref03_Both.mono _ _ _ _ _ _
   | exact LeO.none _
   | refine LeO.ite ?_ ?_
   | refine LeO.bind ?_ (fun _ => ?_)
def steeplelaw03_PackReckons.T4 : Bool × List (List Nat × List Nat) := (true, [([], []), ([0], [0]), ([], []), ([2], [2]), ([3], [3]), ([1, 4], [1, 4]), ([], []), ([6, 5, 4, 0, 1, 2, 3, 4, 5, 6], [5, 6])])
def steeplelaw03_PackReckons.B4 : List Nat := [0, 1, 0, 4, 12, 31, 0, 127]
theorem steeplelaw03_PackReckons.tab4 : rtab .any (opsOf Try.f6 4) = steeplelaw03_PackReckons.T4 := by kernel_rfl
theorem steeplelaw03_PackReckons.bits4 : waitsOk steeplelaw03_PackReckons.T4.2 steeplelaw03_PackReckons.B4 = true := by kernel_rfl
def steeplelaw03_PackReckons.T5 : Bool × List (List Nat × List Nat) := (true, [([], []), ([0], [0]), ([], []), ([2], [2]), ([3], [3]), ([1, 4], [1, 4]), ([], []), ([6, 5, 4, 0, 1, 2, 3, 4, 5, 6], [5, 6])])
def steeplelaw03_PackReckons.B5 : List Nat := [0, 1, 0, 4, 12, 31, 0, 127]
theorem steeplelaw03_PackReckons.tab5 : rtab .any (opsOf Try.f6 5) = steeplelaw03_PackReckons.T5 := by kernel_rfl
theorem steeplelaw03_PackReckons.bits5 : waitsOk steeplelaw03_PackReckons.T5.2 steeplelaw03_PackReckons.B5 = true := by kernel_rfl
def steeplelaw03_PackReckons.T15 : Bool × List (List Nat × List Nat) := (true, [([], []), ([], []), ([1], [1]), ([], []), ([2, 3], [2, 3]), ([4], [4]), ([0, 5], [0, 5]), ([6, 6, 0, 1, 2, 3, 4, 5, 6], [6])])
def steeplelaw03_PackReckons.B15 : List Nat := [0, 0, 2, 0, 14, 30, 63, 127]
theorem steeplelaw03_PackReckons.tab15 : rtab .any (opsOf Try.f6 15) = steeplelaw03_PackReckons.T15 := by kernel_rfl
theorem steeplelaw03_PackReckons.bits15 : waitsOk steeplelaw03_PackReckons.T15.2 steeplelaw03_PackReckons.B15 = true := by kernel_rfl
set_option maxHeartbeats 8000000 in
set_option maxRecDepth 100000 in
theorem steeplelaw03_PackReckons.calls (k : Nat) (a0_0 : Int) (a0_1 : Int) (A0_2 : Option Addr) (c0_2 : Nat) (l0_2 : List (S25)) (A0_3 : Option Addr) (c0_3 : Nat) (l0_3 : List (S25)) (r : Bool) (w : World) (hr0_2 : Kd.C k25 w A0_2 l0_2.length l0_2) (hc0_2 : l0_2.length ≤ c0_2) (hr0_3 : Kd.C k25 w A0_3 l0_3.length l0_3) (hc0_3 : l0_3.length ≤ c0_3) (h : steeplelaw03_PackReckons.f k a0_0 a0_1 l0_2 l0_3 = some r) :
  Calls Try.prog 6 #[.agg #[.int .i64 a0_0, .int .i64 a0_1, .slice A0_2 l0_2.length c0_2, .slice A0_3 l0_3.length c0_3]] w fun e w' => e = .returned (.bool r) ∧ Below w.heap.size w w' := by
 have hu49 := Try.underlying49
 have hu31 := Try.underlying31
 have hu37 := Try.underlying37
 have hu25 := Try.underlying25
 have hu44 := Try.underlying44
 have HR0_2 := Aside0.mk hr0_2
 have HC0_2 := Aside0.mk hc0_2
 clear hr0_2 hc0_2
 have HR0_3 := Aside0.mk hr0_3
 have HC0_3 := Aside0.mk hc0_3
 clear hr0_3 hc0_3
 have HB := Aside0.mk (Below.refl w.heap.size w)
 have H : ((steeplelaw03_Pair_made.f k a0_0 a0_1 l0_2 l0_3).bind fun bt638 => (if bt638.2.2.2.2.2.2 = true then ((steeplelaw01_Ref.f k l0_2).bind fun t652 => ((steeplelaw01_Ref.f k l0_3).bind fun t656 => ((pack_Add.f k bt638.1 bt638.2.1 bt638.2.2.1 bt638.2.2.2.1 bt638.2.2.2.2.1 bt638.2.2.2.2.2.1).bind fun bt660 => ((pack_Mul.f k bt638.1 bt638.2.1 bt638.2.2.1 bt638.2.2.2.1 bt638.2.2.2.2.1 bt638.2.2.2.2.2.1).bind fun bt667 => ((pack_Dot.f k bt638.1 bt638.2.1 bt638.2.2.1 bt638.2.2.2.1 bt638.2.2.2.2.1 bt638.2.2.2.2.2.1).bind fun bt674 => ((steepleref03_Both.f k a0_0 t652 a0_1 t656 0).bind fun bt678 => ((steepleref03_Both.f k a0_0 t652 a0_1 t656 1).bind fun bt684 => (steeplelaw03_PackReckons.l0 k bt660.2.2.2 bt667.2.2.2 bt674.2.2 bt678.2.2 bt684.2.2 0 bt638.1 bt638.2.1 bt638.2.2.1 bt638.2.2.2.1 bt638.2.2.2.2.1 bt638.2.2.2.2.2.1 a0_0 t652 a0_1 t656 bt660.1 bt660.2.1 bt660.2.2.1 bt667.1 bt667.2.1 bt667.2.2.1 bt674.1 bt674.2.1 bt678.1 bt678.2.1 bt684.1 bt684.2.1 0 0)))))))) else ((steeplelaw03_awake.f k).bind fun t651 => (some t651)))) = some r := h
 clear h
 replace H := Option.bind_eq_some_iff.mp H
 obtain ⟨⟨t638, t639, t640, t643, t644, t645, t648⟩, A20, H⟩ := H
 replace H : (if t648 = true then ((steeplelaw01_Ref.f k l0_2).bind fun t652 => ((steeplelaw01_Ref.f k l0_3).bind fun t656 => ((pack_Add.f k t638 t639 t640 t643 t644 t645).bind fun bt660 => ((pack_Mul.f k t638 t639 t640 t643 t644 t645).bind fun bt667 => ((pack_Dot.f k t638 t639 t640 t643 t644 t645).bind fun bt674 => ((steepleref03_Both.f k a0_0 t652 a0_1 t656 0).bind fun bt678 => ((steepleref03_Both.f k a0_0 t652 a0_1 t656 1).bind fun bt684 => (steeplelaw03_PackReckons.l0 k bt660.2.2.2 bt667.2.2.2 bt674.2.2 bt678.2.2 bt684.2.2 0 t638 t639 t640 t643 t644 t645 a0_0 t652 a0_1 t656 bt660.1 bt660.2.1 bt660.2.2.1 bt667.1 bt667.2.1 bt667.2.2.1 bt674.1 bt674.2.1 bt678.1 bt678.2.1 bt684.1 bt684.2.1 0 0)))))))) else ((steeplelaw03_awake.f k).bind fun t651 => (some t651))) = some r := H
 have A2 := Aside0.mk A20
 clear A20
 by_cases c3 : t648 = true
 ·subst c3
  have H1 : ((steeplelaw01_Ref.f k l0_2).bind fun t652 => ((steeplelaw01_Ref.f k l0_3).bind fun t656 => ((pack_Add.f k t638 t639 t640 t643 t644 t645).bind fun bt660 => ((pack_Mul.f k t638 t639 t640 t643 t644 t645).bind fun bt667 => ((pack_Dot.f k t638 t639 t640 t643 t644 t645).bind fun bt674 => ((steepleref03_Both.f k a0_0 t652 a0_1 t656 0).bind fun bt678 => ((steepleref03_Both.f k a0_0 t652 a0_1 t656 1).bind fun bt684 => (steeplelaw03_PackReckons.l0 k bt660.2.2.2 bt667.2.2.2 bt674.2.2 bt678.2.2 bt684.2.2 0 t638 t639 t640 t643 t644 t645 a0_0 t652 a0_1 t656 bt660.1 bt660.2.1 bt660.2.2.1 bt667.1 bt667.2.1 bt667.2.2.1 bt674.1 bt674.2.1 bt678.1 bt678.2.1 bt684.1 bt684.2.1 0 0)))))))) = some r := by rw [if_pos rfl] at H; exact H
  clear H
  have H := H1
  clear H1
  replace H := Option.bind_eq_some_iff.mp H
  obtain ⟨t652, A40, H⟩ := H
  replace H : ((steeplelaw01_Ref.f k l0_3).bind fun t656 => ((pack_Add.f k t638 t639 t640 t643 t644 t645).bind fun bt660 => ((pack_Mul.f k t638 t639 t640 t643 t644 t645).bind fun bt667 => ((pack_Dot.f k t638 t639 t640 t643 t644 t645).bind fun bt674 => ((steepleref03_Both.f k a0_0 t652 a0_1 t656 0).bind fun bt678 => ((steepleref03_Both.f k a0_0 t652 a0_1 t656 1).bind fun bt684 => (steeplelaw03_PackReckons.l0 k bt660.2.2.2 bt667.2.2.2 bt674.2.2 bt678.2.2 bt684.2.2 0 t638 t639 t640 t643 t644 t645 a0_0 t652 a0_1 t656 bt660.1 bt660.2.1 bt660.2.2.1 bt667.1 bt667.2.1 bt667.2.2.1 bt674.1 bt674.2.1 bt678.1 bt678.2.1 bt684.1 bt684.2.1 0 0))))))) = some r := H
  have A4 := Aside0.mk A40
  clear A40
  replace H := Option.bind_eq_some_iff.mp H
  obtain ⟨t656, A50, H⟩ := H
  replace H : ((pack_Add.f k t638 t639 t640 t643 t644 t645).bind fun bt660 => ((pack_Mul.f k t638 t639 t640 t643 t644 t645).bind fun bt667 => ((pack_Dot.f k t638 t639 t640 t643 t644 t645).bind fun bt674 => ((steepleref03_Both.f k a0_0 t652 a0_1 t656 0).bind fun bt678 => ((steepleref03_Both.f k a0_0 t652 a0_1 t656 1).bind fun bt684 => (steeplelaw03_PackReckons.l0 k bt660.2.2.2 bt667.2.2.2 bt674.2.2 bt678.2.2 bt684.2.2 0 t638 t639 t640 t643 t644 t645 a0_0 t652 a0_1 t656 bt660.1 bt660.2.1 bt660.2.2.1 bt667.1 bt667.2.1 bt667.2.2.1 bt674.1 bt674.2.1 bt678.1 bt678.2.1 bt684.1 bt684.2.1 0 0)))))) = some r := H
  have A5 := Aside0.mk A50
  clear A50
  replace H := Option.bind_eq_some_iff.mp H
  obtain ⟨⟨t660, t661, t662, t665⟩, A60, H⟩ := H
  replace H : ((pack_Mul.f k t638 t639 t640 t643 t644 t645).bind fun bt667 => ((pack_Dot.f k t638 t639 t640 t643 t644 t645).bind fun bt674 => ((steepleref03_Both.f k a0_0 t652 a0_1 t656 0).bind fun bt678 => ((steepleref03_Both.f k a0_0 t652 a0_1 t656 1).bind fun bt684 => (steeplelaw03_PackReckons.l0 k t665 bt667.2.2.2 bt674.2.2 bt678.2.2 bt684.2.2 0 t638 t639 t640 t643 t644 t645 a0_0 t652 a0_1 t656 t660 t661 t662 bt667.1 bt667.2.1 bt667.2.2.1 bt674.1 bt674.2.1 bt678.1 bt678.2.1 bt684.1 bt684.2.1 0 0))))) = some r := H
  have A6 := Aside0.mk A60
  clear A60
  replace H := Option.bind_eq_some_iff.mp H
  obtain ⟨⟨t667, t668, t669, t672⟩, A70, H⟩ := H
  replace H : ((pack_Dot.f k t638 t639 t640 t643 t644 t645).bind fun bt674 => ((steepleref03_Both.f k a0_0 t652 a0_1 t656 0).bind fun bt678 => ((steepleref03_Both.f k a0_0 t652 a0_1 t656 1).bind fun bt684 => (steeplelaw03_PackReckons.l0 k t665 t672 bt674.2.2 bt678.2.2 bt684.2.2 0 t638 t639 t640 t643 t644 t645 a0_0 t652 a0_1 t656 t660 t661 t662 t667 t668 t669 bt674.1 bt674.2.1 bt678.1 bt678.2.1 bt684.1 bt684.2.1 0 0)))) = some r := H
  have A7 := Aside0.mk A70
  clear A70
  replace H := Option.bind_eq_some_iff.mp H
  obtain ⟨⟨t674, t675, t676⟩, A80, H⟩ := H
  replace H : ((steepleref03_Both.f k a0_0 t652 a0_1 t656 0).bind fun bt678 => ((steepleref03_Both.f k a0_0 t652 a0_1 t656 1).bind fun bt684 => (steeplelaw03_PackReckons.l0 k t665 t672 t676 bt678.2.2 bt684.2.2 0 t638 t639 t640 t643 t644 t645 a0_0 t652 a0_1 t656 t660 t661 t662 t667 t668 t669 t674 t675 bt678.1 bt678.2.1 bt684.1 bt684.2.1 0 0))) = some r := H
  have A8 := Aside0.mk A80
  clear A80
  replace H := Option.bind_eq_some_iff.mp H
  obtain ⟨⟨t678, t679, t682⟩, A90, H⟩ := H
  replace H : ((steepleref03_Both.f k a0_0 t652 a0_1 t656 1).bind fun bt684 => (steeplelaw03_PackReckons.l0 k t665 t672 t676 t682 bt684.2.2 0 t638 t639 t640 t643 t644 t645 a0_0 t652 a0_1 t656 t660 t661 t662 t667 t668 t669 t674 t675 t678 t679 bt684.1 bt684.2.1 0 0)) = some r := H
  have A9 := Aside0.mk A90
  clear A90
  replace H := Option.bind_eq_some_iff.mp H
  obtain ⟨⟨t684, t685, t688⟩, A100, H⟩ := H
  replace H : (steeplelaw03_PackReckons.l0 k t665 t672 t676 t682 t688 0 t638 t639 t640 t643 t644 t645 a0_0 t652 a0_1 t656 t660 t661 t662 t667 t668 t669 t674 t675 t678 t679 t684 t685 0 0) = some r := H
  have A10 := Aside0.mk A100
  clear A100
  have H' := Aside0.mk H
  clear H
  go_enter Try.func6, Try.ntmps6
  try go_wp2_with (first | ((with_reducible refine gate_dst (N := 1) rfl ?_); refine box_event ?hg (N := 1) ?hd (cs := #[.int .i64 a0_0, .int .i64 a0_1, .slice A0_2 l0_2.length c0_2, .slice A0_3 l0_3.length c0_3]) (t := 49) ?hr ?_; (case hd => rfl); (case hg => rfl); (case hr => first | (go_simp; done) | (go_simp; rfl)); intro gb637 hg w11 hbox hb; have BK637 := Aside0.mk hbox; have GW637 := ge hg HB; have GE637 := ge hg HB; replace HB := bh HB hb; clear hb hbox hg; obtain ⟨hcz12_0, hcz12_1, hcz12_2, hcz12_3⟩ := zc4 BK637; obtain ⟨hfz12_0, hfz12_1, hfz12_2, hfz12_3⟩ := zf4 BK637) | ((with_reducible refine gate_callee (f := 16) rfl ?_); refine goesL_ (some 22) rfl rfl Try.func16 (by kernel_rfl) rfl #[.agg #[.int .i64 a0_0, .int .i64 a0_1, .slice A0_2 l0_2.length c0_2, .slice A0_3 l0_3.length c0_3]] rfl (by (try simp only [List.map_toArray, List.map_cons, List.map_nil]); first | done | rfl | (simp only [List.length_drop, List.length_take]; rfl)) ?_; (with_reducible refine (steeplelaw03_Pair_made.calls k a0_0 a0_1 _ _ l0_2 _ _ l0_3 t638 t639 t640 t643 t644 t645 true _ ?side1 ?side2 ?side3 ?side4 A2.out).mono ?_); (case side1 => repeat (first | exact (Kd.C_below HR0_2.out HB.out) | (with_reducible refine Kd.C_alloc ?_ _) | (with_reducible refine Kd.C_drewN ?_ _) | (with_reducible refine Kd.C_drew ?_))); (case side2 => exact HC0_2.out); (case side3 => repeat (first | exact (Kd.C_below HR0_3.out HB.out) | (with_reducible refine Kd.C_alloc ?_ _) | (with_reducible refine Kd.C_drewN ?_ _) | (with_reducible refine Kd.C_drew ?_))); (case side4 => exact HC0_3.out); rintro e w13 ⟨v641, v646, rfl, ho0, ho1, hb⟩; refine ⟨_, rfl, ?_⟩; have HO642 := kw ho0 HB; have HO647 := kw ho1 HB; replace BK637 := bb BK637 hb; replace HB := bh HB hb; (try clear hb); (try clear hb2); (try clear hk); (try clear hi); (try clear ho0); (try clear ho1)) | ((with_reducible refine gate_dst (N := 3) rfl ?_); refine box_event ?hg (N := 3) ?hd (cs := #[.int .i64 0, .int .i64 0, .slice none 0 0]) (t := 31) ?hr ?_; (case hd => rfl); (case hg => rfl); (case hr => first | (go_simp; done) | (go_simp; rfl)); intro gb649 hg w14 hbox hb; have BK649 := Aside0.mk hbox; have GW649 := ge hg HB; have GE649 := ge hg HB; have NB637_649 := nl hg BK637; have NB649_637 := ng hg BK637; replace HO642 := kb HO642 hb; replace HO647 := kb HO647 hb; replace BK637 := bb BK637 hb; replace HB := bh HB hb; clear hb hbox hg) | ((with_reducible refine gate_dst (N := 4) rfl ?_); refine box_event ?hg (N := 4) ?hd (cs := #[.int .i64 0, .int .i64 0, .slice none 0 0]) (t := 31) ?hr ?_; (case hd => rfl); (case hg => rfl); (case hr => first | (go_simp; done) | (go_simp; rfl)); intro gb650 hg w15 hbox hb; have BK650 := Aside0.mk hbox; have GW650 := ge hg HB; have GE650 := ge hg HB; have NB637_650 := nl hg BK637; have NB650_637 := ng hg BK637; have NB649_650 := nl hg BK649; have NB650_649 := ng hg BK649; replace HO642 := kb HO642 hb; replace HO647 := kb HO647 hb; replace BK637 := bb BK637 hb; replace BK649 := bb BK649 hb; replace HB := bh HB hb; clear hb hbox hg; have hnb16 := NB649_637.out; have hnc16 := NB637_649.out; have hnb17 := NB649_650.out; have hnc17 := NB650_649.out; obtain ⟨hcz18_0, hcz18_1, hcz18_2⟩ := zc3 BK649; obtain ⟨hfz18_0, hfz18_1, hfz18_2⟩ := zf3 BK649; obtain ⟨Ao19, co19, eo19⟩ := Kd.R_slice HO642.out; subst eo19; have hnb20 := NB650_637.out; have hnc20 := NB637_650.out; obtain ⟨hcz21_0, hcz21_1, hcz21_2⟩ := zc3 BK650; obtain ⟨hfz21_0, hfz21_1, hfz21_2⟩ := zf3 BK650; obtain ⟨Ao22, co22, eo22⟩ := Kd.R_slice HO647.out; subst eo22))
  have n0_ : Aside0 (Kd.R (Kd.int .u64) 23 ((((((w15.setCell ⟨gb649, 0, none⟩ (.int .i64 t638)).setCell ⟨gb649, 1, none⟩ (.int .i64 t639)).setCell ⟨gb649, 2, none⟩ (.slice Ao19 t640.length co19)).setCell ⟨gb650, 0, none⟩ (.int .i64 t643)).setCell ⟨gb650, 1, none⟩ (.int .i64 t644)).setCell ⟨gb650, 2, none⟩ (.slice Ao22 t645.length co22)) w.heap.size (fun k_ => some k_ ≠ (.slice Ao22 t645.length co22 : Value).ownBlock) (.slice Ao19 t640.length co19) t640) := ⟨by (with_reducible repeat refine kl ?_); exact Kd.R_mono (Kd.R_far (p := ⟨gb650, 2, none⟩) (Kd.R_far (p := ⟨gb650, 1, none⟩) (Kd.R_far (p := ⟨gb650, 0, none⟩) (Kd.R_far (p := ⟨gb649, 2, none⟩) (Kd.R_far (p := ⟨gb649, 1, none⟩) (Kd.R_far (p := ⟨gb649, 0, none⟩) (Kd.R_types (Kd.R_types HO642.out BK649.out (by decide)) BK650.out (by decide)) (fun _ hk => hk.1.2) (.int .i64 t638)) (fun _ hk => hk.1.2) (.int .i64 t639)) (fun _ hk => hk.1.2) (.slice Ao19 t640.length co19)) (fun _ hk => hk.2) (.int .i64 t643)) (fun _ hk => hk.2) (.int .i64 t644)) (fun _ hk => hk.2) (.slice Ao22 t645.length co22)) (fun _ hk => hk.1.1)⟩
  have n1_ : Aside0 (Kd.R (Kd.int .u64) 23 ((((((w15.setCell ⟨gb649, 0, none⟩ (.int .i64 t638)).setCell ⟨gb649, 1, none⟩ (.int .i64 t639)).setCell ⟨gb649, 2, none⟩ (.slice Ao19 t640.length co19)).setCell ⟨gb650, 0, none⟩ (.int .i64 t643)).setCell ⟨gb650, 1, none⟩ (.int .i64 t644)).setCell ⟨gb650, 2, none⟩ (.slice Ao22 t645.length co22)) w.heap.size (fun k_ => some k_ ≠ (.slice Ao19 t640.length co19 : Value).ownBlock) (.slice Ao22 t645.length co22) t645) := ⟨by (with_reducible repeat refine kl ?_); exact Kd.R_mono (Kd.R_far (p := ⟨gb650, 2, none⟩) (Kd.R_far (p := ⟨gb650, 1, none⟩) (Kd.R_far (p := ⟨gb650, 0, none⟩) (Kd.R_far (p := ⟨gb649, 2, none⟩) (Kd.R_far (p := ⟨gb649, 1, none⟩) (Kd.R_far (p := ⟨gb649, 0, none⟩) (Kd.R_types (Kd.R_types HO647.out BK649.out (by decide)) BK650.out (by decide)) (fun _ hk => hk.1.2) (.int .i64 t638)) (fun _ hk => hk.1.2) (.int .i64 t639)) (fun _ hk => hk.1.2) (.slice Ao19 t640.length co19)) (fun _ hk => hk.2) (.int .i64 t643)) (fun _ hk => hk.2) (.int .i64 t644)) (fun _ hk => hk.2) (.slice Ao22 t645.length co22)) (fun _ hk => hk.1.1)⟩
  have n2_ : Aside0 (((((((w15.setCell ⟨gb649, 0, none⟩ (.int .i64 t638)).setCell ⟨gb649, 1, none⟩ (.int .i64 t639)).setCell ⟨gb649, 2, none⟩ (.slice Ao19 t640.length co19)).setCell ⟨gb650, 0, none⟩ (.int .i64 t643)).setCell ⟨gb650, 1, none⟩ (.int .i64 t644)).setCell ⟨gb650, 2, none⟩ (.slice Ao22 t645.length co22)).heap[gb637]? = some (.cells #[.int .i64 a0_0, .int .i64 a0_1, .slice A0_2 l0_2.length c0_2, .slice A0_3 l0_3.length c0_3] 49 (0, 0))) := ⟨by (with_reducible repeat refine bl ?_); refine blk_far ?_ NB637_650.out _; (with_reducible repeat refine bl ?_); refine blk_far ?_ NB637_650.out _; (with_reducible repeat refine bl ?_); refine blk_far ?_ NB637_650.out _; (with_reducible repeat refine bl ?_); refine blk_far ?_ NB637_649.out _; (with_reducible repeat refine bl ?_); refine blk_far ?_ NB637_649.out _; (with_reducible repeat refine bl ?_); refine blk_far ?_ NB637_649.out _; (with_reducible repeat refine bl ?_); exact BK637.out⟩
  have n3_ : Aside0 (((((((w15.setCell ⟨gb649, 0, none⟩ (.int .i64 t638)).setCell ⟨gb649, 1, none⟩ (.int .i64 t639)).setCell ⟨gb649, 2, none⟩ (.slice Ao19 t640.length co19)).setCell ⟨gb650, 0, none⟩ (.int .i64 t643)).setCell ⟨gb650, 1, none⟩ (.int .i64 t644)).setCell ⟨gb650, 2, none⟩ (.slice Ao22 t645.length co22)).heap[gb649]? = some (.cells #[.int .i64 t638, .int .i64 t639, .slice Ao19 t640.length co19] 31 (0, 0))) := ⟨by (with_reducible repeat refine bl ?_); refine blk_far ?_ NB649_650.out _; (with_reducible repeat refine bl ?_); refine blk_far ?_ NB649_650.out _; (with_reducible repeat refine bl ?_); refine blk_far ?_ NB649_650.out _; (with_reducible repeat refine bl ?_); refine blk_put (cs := #[.int .i64 t638, .int .i64 t639, .slice none 0 0]) ?_ 2 _ rfl; (with_reducible repeat refine bl ?_); refine blk_put (cs := #[.int .i64 t638, .int .i64 0, .slice none 0 0]) ?_ 1 _ rfl; (with_reducible repeat refine bl ?_); refine blk_put (cs := #[.int .i64 0, .int .i64 0, .slice none 0 0]) ?_ 0 _ rfl; (with_reducible repeat refine bl ?_); exact BK649.out⟩
  have n4_ : Aside0 (((((((w15.setCell ⟨gb649, 0, none⟩ (.int .i64 t638)).setCell ⟨gb649, 1, none⟩ (.int .i64 t639)).setCell ⟨gb649, 2, none⟩ (.slice Ao19 t640.length co19)).setCell ⟨gb650, 0, none⟩ (.int .i64 t643)).setCell ⟨gb650, 1, none⟩ (.int .i64 t644)).setCell ⟨gb650, 2, none⟩ (.slice Ao22 t645.length co22)).heap[gb650]? = some (.cells #[.int .i64 t643, .int .i64 t644, .slice Ao22 t645.length co22] 31 (0, 0))) := ⟨by (with_reducible repeat refine bl ?_); refine blk_put (cs := #[.int .i64 t643, .int .i64 t644, .slice none 0 0]) ?_ 2 _ rfl; (with_reducible repeat refine bl ?_); refine blk_put (cs := #[.int .i64 t643, .int .i64 0, .slice none 0 0]) ?_ 1 _ rfl; (with_reducible repeat refine bl ?_); refine blk_put (cs := #[.int .i64 0, .int .i64 0, .slice none 0 0]) ?_ 0 _ rfl; (with_reducible repeat refine bl ?_); refine blk_far ?_ NB650_649.out _; (with_reducible repeat refine bl ?_); refine blk_far ?_ NB650_649.out _; (with_reducible repeat refine bl ?_); refine blk_far ?_ NB650_649.out _; (with_reducible repeat refine bl ?_); exact BK650.out⟩
  have n5_ : Aside0 (Below w.heap.size w ((((((w15.setCell ⟨gb649, 0, none⟩ (.int .i64 t638)).setCell ⟨gb649, 1, none⟩ (.int .i64 t639)).setCell ⟨gb649, 2, none⟩ (.slice Ao19 t640.length co19)).setCell ⟨gb650, 0, none⟩ (.int .i64 t643)).setCell ⟨gb650, 1, none⟩ (.int .i64 t644)).setCell ⟨gb650, 2, none⟩ (.slice Ao22 t645.length co22))) := ⟨bq HB.out⟩
  (try clear HO642)
  (try clear HO647)
  (try clear BK637)
  (try clear BK649)
  (try clear BK650)
  (try clear HB)
  generalize ((((((w15.setCell ⟨gb649, 0, none⟩ (.int .i64 t638)).setCell ⟨gb649, 1, none⟩ (.int .i64 t639)).setCell ⟨gb649, 2, none⟩ (.slice Ao19 t640.length co19)).setCell ⟨gb650, 0, none⟩ (.int .i64 t643)).setCell ⟨gb650, 1, none⟩ (.int .i64 t644)).setCell ⟨gb650, 2, none⟩ (.slice Ao22 t645.length co22)) = w23 at n0_ n1_ n2_ n3_ n4_ n5_ ⊢
  have HO642 := n0_
  have HO647 := n1_
  have BK637 := n2_
  have BK649 := n3_
  have BK650 := n4_
  have HB := n5_
  clear n0_ n1_ n2_ n3_ n4_ n5_
  replace HO642 := Aside0.mk (Kd.R_drew HO642.out)
  replace HO647 := Aside0.mk (Kd.R_drew HO647.out)
  replace BK637 := Aside0.mk (blk_drew BK637.out)
  replace BK649 := Aside0.mk (blk_drew BK649.out)
  replace BK650 := Aside0.mk (blk_drew BK650.out)
  replace HB := Aside0.mk (below_drew1 HB.out)
  refine start_ (n := 8) (S := fun w' => w'.cell? ⟨gb637, 0, none⟩ = some (.int .i64 a0_0) ∧ w'.cell? ⟨gb637, 1, none⟩ = some (.int .i64 a0_1) ∧ w'.cell? ⟨gb637, 2, none⟩ = some (.slice A0_2 l0_2.length c0_2) ∧ w'.cell? ⟨gb637, 3, none⟩ = some (.slice A0_3 l0_3.length c0_3)) (ds := []) #[false, false, false, false, false, false, false, false] (by kernel_rfl) rfl rfl ⟨(blk_cell BK637.out 0).trans rfl, (blk_cell BK637.out 1).trans rfl, (blk_cell BK637.out 2).trans rfl, (blk_cell BK637.out 3).trans rfl⟩ (fun hHeld => ?_); refine with_tabW steeplelaw03_PackReckons.tab4 steeplelaw03_PackReckons.bits4 (fun HT_ HW_ => ?_)
  generalize w23.drew = w24 at HO642 HO647 BK637 BK649 BK650 HB hHeld ⊢
  refine pure_ (i := 0) (N := some 29) (v := ?_) (a' := ?_) #[true, false, false, false, false, false, false, false] rfl rfl (any_of HT_.out (by kernel_rfl)) (fun _ _ _ h => h) (Or.inl ⟨by rfl, ?_⟩) ?_ ?_
  rotate_left
  ·intro w'
   go_simp
   with_reducible rfl
  rotate_left
  ·simp only [Act.put, List.setIfInBounds_toArray, List.set_cons_zero, List.set_cons_succ, i64_w, i32_w]
   rfl
  refine pure_ (i := 2) (N := some 31) (v := ?_) (a' := ?_) #[true, false, true, false, false, false, false, false] rfl rfl (any_of HT_.out (by kernel_rfl)) (fun _ _ _ h => h) (Or.inl ⟨by rfl, ?_⟩) ?_ ?_
  rotate_left
  ·intro w'
   go_simp
   with_reducible rfl
  rotate_left
  ·simp only [Act.put, List.setIfInBounds_toArray, List.set_cons_zero, List.set_cons_succ, i64_w, i32_w]
   rfl
  refine take_ (i := 1) (N := some 30) (v := ?_) (a' := ?_) #[true, true, true, false, false, false, false, false] rfl rfl (take_ofW HT_.out HW_.out (by kernel_rfl)) (fun _ _ _ h => h) (Or.inl ⟨by rfl, ?_⟩) hHeld ?_ ?_
  rotate_left
  ·rintro w' ⟨s0, s1, s2, s3⟩
   go_simp
   with_reducible rfl
  rotate_left
  ·simp only [Act.put, List.setIfInBounds_toArray, List.set_cons_zero, List.set_cons_succ, i64_w, i32_w]
   rfl
  refine take_ (i := 3) (N := some 32) (v := ?_) (a' := ?_) #[true, true, true, true, false, false, false, false] rfl rfl (take_ofW HT_.out HW_.out (by kernel_rfl)) (fun _ _ _ h => h) (Or.inl ⟨by rfl, ?_⟩) hHeld ?_ ?_
  rotate_left
  ·rintro w' ⟨s0, s1, s2, s3⟩
   go_simp
   with_reducible rfl
  rotate_left
  ·simp only [Act.put, List.setIfInBounds_toArray, List.set_cons_zero, List.set_cons_succ, i64_w, i32_w]
   rfl
  refine join_ (σ := Value × Nat) 1 #[true, true, true, true, true, true, true, false] (fun s_ => [(33, s_.1), (6, .pointer (some ⟨s_.2, 0, none⟩)), (34, .agg #[.int .i64 a0_0, s_.1])]) (fun s_ w' => (w'.cell? ⟨gb637, 0, none⟩ = some (.int .i64 a0_0) ∧ w'.cell? ⟨gb637, 1, none⟩ = some (.int .i64 a0_1) ∧ w'.cell? ⟨gb637, 2, none⟩ = some (.slice A0_2 l0_2.length c0_2) ∧ w'.cell? ⟨gb637, 3, none⟩ = some (.slice A0_3 l0_3.length c0_3)) ∧ (Kd.R (Kd.int .u64) 23 w' w.heap.size (fun k_ => some k_ ≠ (.slice Ao22 t645.length co22 : Value).ownBlock) (.slice Ao19 t640.length co19) t640) ∧ (Kd.R (Kd.int .u64) 23 w' w.heap.size (fun k_ => some k_ ≠ (.slice Ao19 t640.length co19 : Value).ownBlock) (.slice Ao22 t645.length co22) t645) ∧ (Kd.R k44 44 w' w.heap.size (fun _ => True) s_.1 t652) ∧ (w'.heap[gb637]? = some (.cells #[.int .i64 a0_0, .int .i64 a0_1, .slice A0_2 l0_2.length c0_2, .slice A0_3 l0_3.length c0_3] 49 (0, 0))) ∧ (w'.heap[gb649]? = some (.cells #[.int .i64 t638, .int .i64 t639, .slice Ao19 t640.length co19] 31 (0, 0))) ∧ (w'.heap[gb650]? = some (.cells #[.int .i64 t643, .int .i64 t644, .slice Ao22 t645.length co22] 31 (0, 0))) ∧ (w'.heap[s_.2]? = some (.cells #[.int .i64 0, .slice none 0 0] 37 (0, 0))) ∧ (w.heap.size ≤ s_.2) ∧ (w.heap.size ≤ s_.2) ∧ (gb637 ≠ s_.2) ∧ (s_.2 ≠ gb637) ∧ (gb649 ≠ s_.2) ∧ (s_.2 ≠ gb649) ∧ (gb650 ≠ s_.2) ∧ (s_.2 ≠ gb650) ∧ (Below w.heap.size w w')) ?_ ?_
  rotate_left
  ·intro hCont
   refine two_ (i := 4) (j := 6) (Ni := some 33) (Nj := some 6) #[true, true, true, true, true, false, false, false] #[true, true, true, true, false, false, true, false] rfl rfl rfl rfl (two_of HT_.out (by kernel_rfl)) (by decide) (by decide) (fun K hK => ?_) (fun K hK => ?_)
   ·skip
    refine goes_ Try.func11 (by kernel_rfl) rfl #[.slice A0_2 l0_2.length c0_2] (by rfl) rfl rfl (by (try simp only [List.map_toArray, List.map_cons, List.map_nil]); first | done | rfl | (simp only [List.length_drop, List.length_take]; rfl)) ?_
    with_reducible refine (steeplelaw01_Ref.calls k _ _ l0_2 t652 _ ?side1 ?side2 A4.out).mono ?_
    (case side1 => repeat (first | exact (Kd.C_below HR0_2.out HB.out) | (with_reducible refine Kd.C_alloc ?_ _) | (with_reducible refine Kd.C_drewN ?_ _) | (with_reducible refine Kd.C_drew ?_)))
    (case side2 => exact HC0_2.out)
    rintro e w25 ⟨v653, rfl, ho0, hb⟩
    refine ⟨_, rfl, ?_⟩
    have HO654 := kw ho0 HB
    replace HO642 := kb HO642 hb
    replace HO647 := kb HO647 hb
    replace BK637 := bb BK637 hb
    replace BK649 := bb BK649 hb
    replace BK650 := bb BK650 hb
    replace HB := bh HB hb
    (try clear hb)
    (try clear hb2)
    (try clear hk)
    (try clear hi)
    (try clear ho0)
    obtain ⟨Ao26, co26, eo26⟩ := Kd.R_slice HO654.out
    (first | subst eo26 | (injection eo26 with f1_ f2_ f3_; have f4_ := f1_.symm; have f5_ := f3_.symm; clear f1_ f2_ f3_; subst f4_; subst f5_))
    refine hK.out _ _ ⟨(blk_cell BK637.out 0).trans rfl, (blk_cell BK637.out 1).trans rfl, (blk_cell BK637.out 2).trans rfl, (blk_cell BK637.out 3).trans rfl⟩ (fun hHeld => ?_)
    clear hK K
    refine norm_ (a' := ?_) ?_ ?_
    rotate_left
    ·show Act.put _ (some 33) _ = _
     simp only [Act.put, List.setIfInBounds_toArray, List.set_cons_zero, List.set_cons_succ, i64_w, i32_w]
     rfl
    refine pure_ (i := 5) (N := some 34) (v := ?_) (a' := ?_) #[true, true, true, true, true, true, false, false] rfl rfl (any_of HT_.out (by kernel_rfl)) (fun _ _ _ h => h) (Or.inl ⟨by rfl, ?_⟩) ?_ ?_
    rotate_left
    ·intro w'
     go_simp
     with_reducible rfl
    rotate_left
    ·simp only [Act.put, List.setIfInBounds_toArray, List.set_cons_zero, List.set_cons_succ, i64_w, i32_w]
     rfl
    refine one_ (i := 6) (N := some 6) #[true, true, true, true, true, true, true, false] rfl rfl (one_of HT_.out (by kernel_rfl)) (by decide) (fun K hK => ?_)
    refine box_step ?hg (N := 6) ?hd (cs := #[.int .i64 0, .slice none 0 0]) (t := 37) ?hr ?_; (case hd => rfl); (case hg => rfl); (case hr => first | (go_simp; done) | (go_simp; rfl))
    intro gb655 hg w27 hbox hb
    have BK655 := Aside0.mk hbox
    have GW655 := ge hg HB
    have GE655 := ge hg HB
    have NB637_655 := nl hg BK637
    have NB655_637 := ng hg BK637
    have NB649_655 := nl hg BK649
    have NB655_649 := ng hg BK649
    have NB650_655 := nl hg BK650
    have NB655_650 := ng hg BK650
    replace HO642 := kb HO642 hb
    replace HO647 := kb HO647 hb
    replace HO654 := kb HO654 hb
    replace BK637 := bb BK637 hb
    replace BK649 := bb BK649 hb
    replace BK650 := bb BK650 hb
    replace HB := bh HB hb
    clear hb hbox hg
    refine hK.out _ _ ⟨(blk_cell BK637.out 0).trans rfl, (blk_cell BK637.out 1).trans rfl, (blk_cell BK637.out 2).trans rfl, (blk_cell BK637.out 3).trans rfl⟩ (fun hHeld => ?_)
    clear hK K
    refine norm_ (a' := ?_) ?_ ?_
    rotate_left
    ·show Act.put _ (some 6) _ = _
     simp only [Act.put, List.setIfInBounds_toArray, List.set_cons_zero, List.set_cons_succ, i64_w, i32_w]
     rfl
    exact norm_ (by simp only [putAll, Act.put, List.setIfInBounds_toArray, List.set_cons_zero, List.set_cons_succ]) (hCont (.slice Ao26 t652.length co26, gb655) _ ⟨hHeld, (kr HO642.out), (kr HO647.out), (kr HO654.out), (bk BK637.out), (bk BK649.out), (bk BK650.out), (bk BK655.out), GW655.out, GE655.out, NB637_655.out, NB655_637.out, NB649_655.out, NB655_649.out, NB650_655.out, NB655_650.out, (bq HB.out)⟩)
   ·skip
    refine box_step ?hg (N := 6) ?hd (cs := #[.int .i64 0, .slice none 0 0]) (t := 37) ?hr ?_; (case hd => rfl); (case hg => rfl); (case hr => first | (go_simp; done) | (go_simp; rfl))
    intro gb655 hg w25 hbox hb
    have BK655 := Aside0.mk hbox
    have GW655 := ge hg HB
    have GE655 := ge hg HB
    have NB637_655 := nl hg BK637
    have NB655_637 := ng hg BK637
    have NB649_655 := nl hg BK649
    have NB655_649 := ng hg BK649
    have NB650_655 := nl hg BK650
    have NB655_650 := ng hg BK650
    replace HO642 := kb HO642 hb
    replace HO647 := kb HO647 hb
    replace BK637 := bb BK637 hb
    replace BK649 := bb BK649 hb
    replace BK650 := bb BK650 hb
    replace HB := bh HB hb
    clear hb hbox hg
    refine hK.out _ _ ⟨(blk_cell BK637.out 0).trans rfl, (blk_cell BK637.out 1).trans rfl, (blk_cell BK637.out 2).trans rfl, (blk_cell BK637.out 3).trans rfl⟩ (fun hHeld => ?_)
    clear hK K
    refine norm_ (a' := ?_) ?_ ?_
    rotate_left
    ·show Act.put _ (some 6) _ = _
     simp only [Act.put, List.setIfInBounds_toArray, List.set_cons_zero, List.set_cons_succ, i64_w, i32_w]
     rfl
    refine one_ (i := 4) (N := some 33) #[true, true, true, true, true, false, true, false] rfl rfl (one_of HT_.out (by kernel_rfl)) (by decide) (fun K hK => ?_)
    refine goes_ Try.func11 (by kernel_rfl) rfl #[.slice A0_2 l0_2.length c0_2] (by rfl) rfl rfl (by (try simp only [List.map_toArray, List.map_cons, List.map_nil]); first | done | rfl | (simp only [List.length_drop, List.length_take]; rfl)) ?_
    with_reducible refine (steeplelaw01_Ref.calls k _ _ l0_2 t652 _ ?side1 ?side2 A4.out).mono ?_
    (case side1 => repeat (first | exact (Kd.C_below HR0_2.out HB.out) | (with_reducible refine Kd.C_alloc ?_ _) | (with_reducible refine Kd.C_drewN ?_ _) | (with_reducible refine Kd.C_drew ?_)))
    (case side2 => exact HC0_2.out)
    rintro e w26 ⟨v653, rfl, ho0, hb⟩
    refine ⟨_, rfl, ?_⟩
    have HO654 := kw ho0 HB
    replace HO642 := kb HO642 hb
    replace HO647 := kb HO647 hb
    replace BK637 := bb BK637 hb
    replace BK649 := bb BK649 hb
    replace BK650 := bb BK650 hb
    replace BK655 := bb BK655 hb
    replace HB := bh HB hb
    (try clear hb)
    (try clear hb2)
    (try clear hk)
    (try clear hi)
    (try clear ho0)
    obtain ⟨Ao27, co27, eo27⟩ := Kd.R_slice HO654.out
    (first | subst eo27 | (injection eo27 with f1_ f2_ f3_; have f4_ := f1_.symm; have f5_ := f3_.symm; clear f1_ f2_ f3_; subst f4_; subst f5_))
    refine hK.out _ _ ⟨(blk_cell BK637.out 0).trans rfl, (blk_cell BK637.out 1).trans rfl, (blk_cell BK637.out 2).trans rfl, (blk_cell BK637.out 3).trans rfl⟩ (fun hHeld => ?_)
    clear hK K
    refine norm_ (a' := ?_) ?_ ?_
    rotate_left
    ·show Act.put _ (some 33) _ = _
     simp only [Act.put, List.setIfInBounds_toArray, List.set_cons_zero, List.set_cons_succ, i64_w, i32_w]
     rfl
    refine pure_ (i := 5) (N := some 34) (v := ?_) (a' := ?_) #[true, true, true, true, true, true, true, false] rfl rfl (any_of HT_.out (by kernel_rfl)) (fun _ _ _ h => h) (Or.inl ⟨by rfl, ?_⟩) ?_ ?_
    rotate_left
    ·intro w'
     go_simp
     with_reducible rfl
    rotate_left
    ·simp only [Act.put, List.setIfInBounds_toArray, List.set_cons_zero, List.set_cons_succ, i64_w, i32_w]
     rfl
    exact norm_ (by simp only [putAll, Act.put, List.setIfInBounds_toArray, List.set_cons_zero, List.set_cons_succ]) (hCont (.slice Ao27 t652.length co27, gb655) _ ⟨hHeld, (kr HO642.out), (kr HO647.out), (kr HO654.out), (bk BK637.out), (bk BK649.out), (bk BK650.out), (bk BK655.out), GW655.out, GE655.out, NB637_655.out, NB655_637.out, NB649_655.out, NB655_649.out, NB650_655.out, NB655_650.out, (bq HB.out)⟩)
  rintro ⟨v653, gb655⟩ w28 ⟨hS_, h0_, h1_, h2_, h3_, h4_, h5_, h6_, h7_, h8_, h9_, h10_, h11_, h12_, h13_, h14_, h15_⟩
  have n0_ : Aside0 (Kd.R (Kd.int .u64) 23 w28 w.heap.size (fun k_ => some k_ ≠ (.slice Ao22 t645.length co22 : Value).ownBlock) (.slice Ao19 t640.length co19) t640) := ⟨h0_⟩
  have n1_ : Aside0 (Kd.R (Kd.int .u64) 23 w28 w.heap.size (fun k_ => some k_ ≠ (.slice Ao19 t640.length co19 : Value).ownBlock) (.slice Ao22 t645.length co22) t645) := ⟨h1_⟩
  have n2_ : Aside0 (Kd.R k44 44 w28 w.heap.size (fun _ => True) v653 t652) := ⟨h2_⟩
  have n3_ : Aside0 (w28.heap[gb637]? = some (.cells #[.int .i64 a0_0, .int .i64 a0_1, .slice A0_2 l0_2.length c0_2, .slice A0_3 l0_3.length c0_3] 49 (0, 0))) := ⟨h3_⟩
  have n4_ : Aside0 (w28.heap[gb649]? = some (.cells #[.int .i64 t638, .int .i64 t639, .slice Ao19 t640.length co19] 31 (0, 0))) := ⟨h4_⟩
  have n5_ : Aside0 (w28.heap[gb650]? = some (.cells #[.int .i64 t643, .int .i64 t644, .slice Ao22 t645.length co22] 31 (0, 0))) := ⟨h5_⟩
  have n6_ : Aside0 (w28.heap[gb655]? = some (.cells #[.int .i64 0, .slice none 0 0] 37 (0, 0))) := ⟨h6_⟩
  have n7_ : Aside0 (w.heap.size ≤ gb655) := ⟨h7_⟩
  have n8_ : Aside0 (w.heap.size ≤ gb655) := ⟨h8_⟩
  have n9_ : Aside0 (gb637 ≠ gb655) := ⟨h9_⟩
  have n10_ : Aside0 (gb655 ≠ gb637) := ⟨h10_⟩
  have n11_ : Aside0 (gb649 ≠ gb655) := ⟨h11_⟩
  have n12_ : Aside0 (gb655 ≠ gb649) := ⟨h12_⟩
  have n13_ : Aside0 (gb650 ≠ gb655) := ⟨h13_⟩
  have n14_ : Aside0 (gb655 ≠ gb650) := ⟨h14_⟩
  have n15_ : Aside0 (Below w.heap.size w w28) := ⟨h15_⟩
  clear HO642
  clear HO647
  clear BK637
  clear BK649
  clear BK650
  clear HB
  clear h0_ h1_ h2_ h3_ h4_ h5_ h6_ h7_ h8_ h9_ h10_ h11_ h12_ h13_ h14_ h15_
  have HO642 := n0_
  have HO647 := n1_
  have HO654 := n2_
  have BK637 := n3_
  have BK649 := n4_
  have BK650 := n5_
  have BK655 := n6_
  have GW655 := Aside1.mk n7_.out
  have GE655 := Aside1.mk n8_.out
  have NB637_655 := n9_
  have NB655_637 := n10_
  have NB649_655 := n11_
  have NB655_649 := n12_
  have NB650_655 := n13_
  have NB655_650 := n14_
  have HB := n15_
  clear n0_ n1_ n2_ n3_ n4_ n5_ n6_ n7_ n8_ n9_ n10_ n11_ n12_ n13_ n14_ n15_
  have hHeld : w28.cell? ⟨gb637, 0, none⟩ = some (.int .i64 a0_0) ∧ w28.cell? ⟨gb637, 1, none⟩ = some (.int .i64 a0_1) ∧ w28.cell? ⟨gb637, 2, none⟩ = some (.slice A0_2 l0_2.length c0_2) ∧ w28.cell? ⟨gb637, 3, none⟩ = some (.slice A0_3 l0_3.length c0_3) := hS_
  obtain ⟨Ao29, co29, eo29⟩ := Kd.R_slice HO654.out
  (first | subst eo29 | (injection eo29 with f1_ f2_ f3_; have f4_ := f1_.symm; have f5_ := f3_.symm; clear f1_ f2_ f3_; subst f4_; subst f5_))
  refine norm_ (a' := ?_) ?_ ?_
  rotate_left
  ·simp only [putAll, Act.put, List.setIfInBounds_toArray, List.set_cons_zero, List.set_cons_succ]
   rfl
  refine one_ (i := 7) (N := none) #[true, true, true, true, true, true, true, true] rfl rfl (one_of HT_.out (by kernel_rfl)) (by decide) (fun K hK => ?_)
  have hs30 : w28.cell? ⟨gb655, 0, none⟩ = some (.int .i64 0) := (blk_cell BK655.out 0).trans rfl
  have hfs30 := blk_frozen BK655.out 0
  have hns30_0 := NB637_655.out
  have hns30_1 := NB649_655.out
  have hns30_2 := NB650_655.out
  have hms30_0 := NB655_637.out
  have hms30_1 := NB655_649.out
  have hms30_2 := NB655_650.out
  have hs31 : w28.cell? ⟨gb655, 1, none⟩ = some (.slice none 0 0) := (blk_cell BK655.out 1).trans rfl
  have hfs31 := blk_frozen BK655.out 1
  have hns31_0 := NB637_655.out
  have hns31_1 := NB649_655.out
  have hns31_2 := NB650_655.out
  have hms31_0 := NB655_637.out
  have hms31_1 := NB655_649.out
  have hms31_2 := NB655_650.out
  refine skip_ (w1 := ?_) (by rfl) rfl ?_ ?_
  rotate_left
  ·go_simp
   rfl
  refine hK.out _ _ ⟨((cell_far (p := ⟨gb655, _, none⟩) NB637_655.out _).trans (((cell_far (p := ⟨gb655, _, none⟩) NB637_655.out _).trans (hHeld.1)))), ((cell_far (p := ⟨gb655, _, none⟩) NB637_655.out _).trans (((cell_far (p := ⟨gb655, _, none⟩) NB637_655.out _).trans (hHeld.2.1)))), ((cell_far (p := ⟨gb655, _, none⟩) NB637_655.out _).trans (((cell_far (p := ⟨gb655, _, none⟩) NB637_655.out _).trans (hHeld.2.2.1)))), ((cell_far (p := ⟨gb655, _, none⟩) NB637_655.out _).trans (((cell_far (p := ⟨gb655, _, none⟩) NB637_655.out _).trans (hHeld.2.2.2))))⟩ (fun hHeld => ?_)
  clear hK K
  refine done_ (done_of HT_.out (by kernel_rfl)) ?_
  try go_wp2
  have n0_ : Aside0 (Kd.R (Kd.int .u64) 23 ((w28.setCell ⟨gb655, 0, none⟩ (.int .i64 a0_0)).setCell ⟨gb655, 1, none⟩ (.slice Ao29 t652.length co29)) w.heap.size (fun k_ => some k_ ≠ (.slice Ao22 t645.length co22 : Value).ownBlock) (.slice Ao19 t640.length co19) t640) := ⟨by (with_reducible repeat refine kl ?_); exact Kd.R_mono (Kd.R_far (p := ⟨gb655, 1, none⟩) (Kd.R_far (p := ⟨gb655, 0, none⟩) (Kd.R_types HO642.out BK655.out (by decide)) (fun _ hk => hk.2) (.int .i64 a0_0)) (fun _ hk => hk.2) (.slice Ao29 t652.length co29)) (fun _ hk => hk.1)⟩
  have n1_ : Aside0 (Kd.R (Kd.int .u64) 23 ((w28.setCell ⟨gb655, 0, none⟩ (.int .i64 a0_0)).setCell ⟨gb655, 1, none⟩ (.slice Ao29 t652.length co29)) w.heap.size (fun k_ => some k_ ≠ (.slice Ao19 t640.length co19 : Value).ownBlock) (.slice Ao22 t645.length co22) t645) := ⟨by (with_reducible repeat refine kl ?_); exact Kd.R_mono (Kd.R_far (p := ⟨gb655, 1, none⟩) (Kd.R_far (p := ⟨gb655, 0, none⟩) (Kd.R_types HO647.out BK655.out (by decide)) (fun _ hk => hk.2) (.int .i64 a0_0)) (fun _ hk => hk.2) (.slice Ao29 t652.length co29)) (fun _ hk => hk.1)⟩
  have n2_ : Aside0 (Kd.R k44 44 ((w28.setCell ⟨gb655, 0, none⟩ (.int .i64 a0_0)).setCell ⟨gb655, 1, none⟩ (.slice Ao29 t652.length co29)) w.heap.size (fun _ => True) (.slice Ao29 t652.length co29) t652) := ⟨by (with_reducible repeat refine kl ?_); exact Kd.R_mono (Kd.R_far (p := ⟨gb655, 1, none⟩) (Kd.R_far (p := ⟨gb655, 0, none⟩) (Kd.R_types HO654.out BK655.out (by decide)) (fun _ hk => hk.2) (.int .i64 a0_0)) (fun _ hk => hk.2) (.slice Ao29 t652.length co29)) (fun _ hk => trivial)⟩
  have n3_ : Aside0 (((w28.setCell ⟨gb655, 0, none⟩ (.int .i64 a0_0)).setCell ⟨gb655, 1, none⟩ (.slice Ao29 t652.length co29)).heap[gb637]? = some (.cells #[.int .i64 a0_0, .int .i64 a0_1, .slice A0_2 l0_2.length c0_2, .slice A0_3 l0_3.length c0_3] 49 (0, 0))) := ⟨by (with_reducible repeat refine bl ?_); refine blk_far ?_ NB637_655.out _; (with_reducible repeat refine bl ?_); refine blk_far ?_ NB637_655.out _; (with_reducible repeat refine bl ?_); exact BK637.out⟩
  have n4_ : Aside0 (((w28.setCell ⟨gb655, 0, none⟩ (.int .i64 a0_0)).setCell ⟨gb655, 1, none⟩ (.slice Ao29 t652.length co29)).heap[gb649]? = some (.cells #[.int .i64 t638, .int .i64 t639, .slice Ao19 t640.length co19] 31 (0, 0))) := ⟨by (with_reducible repeat refine bl ?_); refine blk_far ?_ NB649_655.out _; (with_reducible repeat refine bl ?_); refine blk_far ?_ NB649_655.out _; (with_reducible repeat refine bl ?_); exact BK649.out⟩
  have n5_ : Aside0 (((w28.setCell ⟨gb655, 0, none⟩ (.int .i64 a0_0)).setCell ⟨gb655, 1, none⟩ (.slice Ao29 t652.length co29)).heap[gb650]? = some (.cells #[.int .i64 t643, .int .i64 t644, .slice Ao22 t645.length co22] 31 (0, 0))) := ⟨by (with_reducible repeat refine bl ?_); refine blk_far ?_ NB650_655.out _; (with_reducible repeat refine bl ?_); refine blk_far ?_ NB650_655.out _; (with_reducible repeat refine bl ?_); exact BK650.out⟩
  have n6_ : Aside0 (((w28.setCell ⟨gb655, 0, none⟩ (.int .i64 a0_0)).setCell ⟨gb655, 1, none⟩ (.slice Ao29 t652.length co29)).heap[gb655]? = some (.cells #[.int .i64 a0_0, .slice Ao29 t652.length co29] 37 (0, 0))) := ⟨by (with_reducible repeat refine bl ?_); refine blk_put (cs := #[.int .i64 a0_0, .slice none 0 0]) ?_ 1 _ rfl; (with_reducible repeat refine bl ?_); refine blk_put (cs := #[.int .i64 0, .slice none 0 0]) ?_ 0 _ rfl; (with_reducible repeat refine bl ?_); exact BK655.out⟩
  have n7_ : Aside0 (Below w.heap.size w ((w28.setCell ⟨gb655, 0, none⟩ (.int .i64 a0_0)).setCell ⟨gb655, 1, none⟩ (.slice Ao29 t652.length co29))) := ⟨bq HB.out⟩
  (try clear HO642)
  (try clear HO647)
  (try clear HO654)
  (try clear BK637)
  (try clear BK649)
  (try clear BK650)
  (try clear BK655)
  (try clear HB)
  generalize ((w28.setCell ⟨gb655, 0, none⟩ (.int .i64 a0_0)).setCell ⟨gb655, 1, none⟩ (.slice Ao29 t652.length co29)) = w32 at n0_ n1_ n2_ n3_ n4_ n5_ n6_ n7_ ⊢
  have HO642 := n0_
  have HO647 := n1_
  have HO654 := n2_
  have BK637 := n3_
  have BK649 := n4_
  have BK650 := n5_
  have BK655 := n6_
  have HB := n7_
  clear n0_ n1_ n2_ n3_ n4_ n5_ n6_ n7_
  replace HO642 := Aside0.mk (Kd.R_drew HO642.out)
  replace HO647 := Aside0.mk (Kd.R_drew HO647.out)
  replace HO654 := Aside0.mk (Kd.R_drew HO654.out)
  replace BK637 := Aside0.mk (blk_drew BK637.out)
  replace BK649 := Aside0.mk (blk_drew BK649.out)
  replace BK650 := Aside0.mk (blk_drew BK650.out)
  replace BK655 := Aside0.mk (blk_drew BK655.out)
  replace HB := Aside0.mk (below_drew1 HB.out)
  refine start_ (n := 8) (S := fun w' => w'.cell? ⟨gb637, 0, none⟩ = some (.int .i64 a0_0) ∧ w'.cell? ⟨gb637, 1, none⟩ = some (.int .i64 a0_1) ∧ w'.cell? ⟨gb637, 2, none⟩ = some (.slice A0_2 l0_2.length c0_2) ∧ w'.cell? ⟨gb637, 3, none⟩ = some (.slice A0_3 l0_3.length c0_3)) (ds := []) #[false, false, false, false, false, false, false, false] (by kernel_rfl) rfl rfl ⟨(blk_cell BK637.out 0).trans rfl, (blk_cell BK637.out 1).trans rfl, (blk_cell BK637.out 2).trans rfl, (blk_cell BK637.out 3).trans rfl⟩ (fun hHeld => ?_); refine with_tabW steeplelaw03_PackReckons.tab5 steeplelaw03_PackReckons.bits5 (fun HT_ HW_ => ?_)
  generalize w32.drew = w33 at HO642 HO647 HO654 BK637 BK649 BK650 BK655 HB hHeld ⊢
  refine pure_ (i := 0) (N := some 35) (v := ?_) (a' := ?_) #[true, false, false, false, false, false, false, false] rfl rfl (any_of HT_.out (by kernel_rfl)) (fun _ _ _ h => h) (Or.inl ⟨by rfl, ?_⟩) ?_ ?_
  rotate_left
  ·intro w'
   go_simp
   with_reducible rfl
  rotate_left
  ·simp only [Act.put, List.setIfInBounds_toArray, List.set_cons_zero, List.set_cons_succ, i64_w, i32_w]
   rfl
  refine pure_ (i := 2) (N := some 37) (v := ?_) (a' := ?_) #[true, false, true, false, false, false, false, false] rfl rfl (any_of HT_.out (by kernel_rfl)) (fun _ _ _ h => h) (Or.inl ⟨by rfl, ?_⟩) ?_ ?_
  rotate_left
  ·intro w'
   go_simp
   with_reducible rfl
  rotate_left
  ·simp only [Act.put, List.setIfInBounds_toArray, List.set_cons_zero, List.set_cons_succ, i64_w, i32_w]
   rfl
  refine take_ (i := 1) (N := some 36) (v := ?_) (a' := ?_) #[true, true, true, false, false, false, false, false] rfl rfl (take_ofW HT_.out HW_.out (by kernel_rfl)) (fun _ _ _ h => h) (Or.inl ⟨by rfl, ?_⟩) hHeld ?_ ?_
  rotate_left
  ·rintro w' ⟨s0, s1, s2, s3⟩
   go_simp
   with_reducible rfl
  rotate_left
  ·simp only [Act.put, List.setIfInBounds_toArray, List.set_cons_zero, List.set_cons_succ, i64_w, i32_w]
   rfl
  refine take_ (i := 3) (N := some 38) (v := ?_) (a' := ?_) #[true, true, true, true, false, false, false, false] rfl rfl (take_ofW HT_.out HW_.out (by kernel_rfl)) (fun _ _ _ h => h) (Or.inl ⟨by rfl, ?_⟩) hHeld ?_ ?_
  rotate_left
  ·rintro w' ⟨s0, s1, s2, s3⟩
   go_simp
   with_reducible rfl
  rotate_left
  ·simp only [Act.put, List.setIfInBounds_toArray, List.set_cons_zero, List.set_cons_succ, i64_w, i32_w]
   rfl
  refine join_ (σ := Value × Nat) 1 #[true, true, true, true, true, true, true, false] (fun s_ => [(39, s_.1), (7, .pointer (some ⟨s_.2, 0, none⟩)), (40, .agg #[.int .i64 a0_1, s_.1])]) (fun s_ w' => (w'.cell? ⟨gb637, 0, none⟩ = some (.int .i64 a0_0) ∧ w'.cell? ⟨gb637, 1, none⟩ = some (.int .i64 a0_1) ∧ w'.cell? ⟨gb637, 2, none⟩ = some (.slice A0_2 l0_2.length c0_2) ∧ w'.cell? ⟨gb637, 3, none⟩ = some (.slice A0_3 l0_3.length c0_3)) ∧ (Kd.R (Kd.int .u64) 23 w' w.heap.size (fun k_ => some k_ ≠ (.slice Ao22 t645.length co22 : Value).ownBlock) (.slice Ao19 t640.length co19) t640) ∧ (Kd.R (Kd.int .u64) 23 w' w.heap.size (fun k_ => some k_ ≠ (.slice Ao19 t640.length co19 : Value).ownBlock) (.slice Ao22 t645.length co22) t645) ∧ (Kd.R k44 44 w' w.heap.size (fun k_ => some k_ ≠ (s_.1 : Value).ownBlock) (.slice Ao29 t652.length co29) t652) ∧ (Kd.R k44 44 w' w.heap.size (fun k_ => some k_ ≠ (.slice Ao29 t652.length co29 : Value).ownBlock) s_.1 t656) ∧ (w'.heap[gb637]? = some (.cells #[.int .i64 a0_0, .int .i64 a0_1, .slice A0_2 l0_2.length c0_2, .slice A0_3 l0_3.length c0_3] 49 (0, 0))) ∧ (w'.heap[gb649]? = some (.cells #[.int .i64 t638, .int .i64 t639, .slice Ao19 t640.length co19] 31 (0, 0))) ∧ (w'.heap[gb650]? = some (.cells #[.int .i64 t643, .int .i64 t644, .slice Ao22 t645.length co22] 31 (0, 0))) ∧ (w'.heap[gb655]? = some (.cells #[.int .i64 a0_0, .slice Ao29 t652.length co29] 37 (0, 0))) ∧ (w'.heap[s_.2]? = some (.cells #[.int .i64 0, .slice none 0 0] 37 (0, 0))) ∧ (w.heap.size ≤ s_.2) ∧ (w.heap.size ≤ s_.2) ∧ (gb637 ≠ s_.2) ∧ (s_.2 ≠ gb637) ∧ (gb649 ≠ s_.2) ∧ (s_.2 ≠ gb649) ∧ (gb650 ≠ s_.2) ∧ (s_.2 ≠ gb650) ∧ (gb655 ≠ s_.2) ∧ (s_.2 ≠ gb655) ∧ (Below w.heap.size w w')) ?_ ?_
  rotate_left
  ·intro hCont
   refine two_ (i := 4) (j := 6) (Ni := some 39) (Nj := some 7) #[true, true, true, true, true, false, false, false] #[true, true, true, true, false, false, true, false] rfl rfl rfl rfl (two_of HT_.out (by kernel_rfl)) (by decide) (by decide) (fun K hK => ?_) (fun K hK => ?_)
   ·skip
    refine goes_ Try.func11 (by kernel_rfl) rfl #[.slice A0_3 l0_3.length c0_3] (by rfl) rfl rfl (by (try simp only [List.map_toArray, List.map_cons, List.map_nil]); first | done | rfl | (simp only [List.length_drop, List.length_take]; rfl)) ?_
    with_reducible refine (steeplelaw01_Ref.calls k _ _ l0_3 t656 _ ?side1 ?side2 A5.out).mono ?_
    (case side1 => repeat (first | exact (Kd.C_below HR0_3.out HB.out) | (with_reducible refine Kd.C_alloc ?_ _) | (with_reducible refine Kd.C_drewN ?_ _) | (with_reducible refine Kd.C_drew ?_)))
    (case side2 => exact HC0_3.out)
    rintro e w34 ⟨v657, rfl, ho0, hb⟩
    refine ⟨_, rfl, ?_⟩
    have HO658 := Aside0.mk (Kd.R_lower (Kd.R_new' ho0 (Kd.R_lt (kr HO654.out))) (below_size (bq HB.out)))
    replace HO642 := kb HO642 hb
    replace HO647 := kb HO647 hb
    replace HO654 := Aside0.mk (Kd.R_elder' (kr HO654.out) (Kd.R_base ho0) hb)
    replace BK637 := bb BK637 hb
    replace BK649 := bb BK649 hb
    replace BK650 := bb BK650 hb
    replace BK655 := bb BK655 hb
    replace HB := bh HB hb
    (try clear hb)
    (try clear hb2)
    (try clear hk)
    (try clear hi)
    (try clear ho0)
    obtain ⟨Ao35, co35, eo35⟩ := Kd.R_slice HO658.out
    (first | subst eo35 | (injection eo35 with f1_ f2_ f3_; have f4_ := f1_.symm; have f5_ := f3_.symm; clear f1_ f2_ f3_; subst f4_; subst f5_))
    refine hK.out _ _ ⟨(blk_cell BK637.out 0).trans rfl, (blk_cell BK637.out 1).trans rfl, (blk_cell BK637.out 2).trans rfl, (blk_cell BK637.out 3).trans rfl⟩ (fun hHeld => ?_)
    clear hK K
    refine norm_ (a' := ?_) ?_ ?_
    rotate_left
    ·show Act.put _ (some 39) _ = _
     simp only [Act.put, List.setIfInBounds_toArray, List.set_cons_zero, List.set_cons_succ, i64_w, i32_w]
     rfl
    refine pure_ (i := 5) (N := some 40) (v := ?_) (a' := ?_) #[true, true, true, true, true, true, false, false] rfl rfl (any_of HT_.out (by kernel_rfl)) (fun _ _ _ h => h) (Or.inl ⟨by rfl, ?_⟩) ?_ ?_
    rotate_left
    ·intro w'
     go_simp
     with_reducible rfl
    rotate_left
    ·simp only [Act.put, List.setIfInBounds_toArray, List.set_cons_zero, List.set_cons_succ, i64_w, i32_w]
     rfl
    refine one_ (i := 6) (N := some 7) #[true, true, true, true, true, true, true, false] rfl rfl (one_of HT_.out (by kernel_rfl)) (by decide) (fun K hK => ?_)
    refine box_step ?hg (N := 7) ?hd (cs := #[.int .i64 0, .slice none 0 0]) (t := 37) ?hr ?_; (case hd => rfl); (case hg => rfl); (case hr => first | (go_simp; done) | (go_simp; rfl))
    intro gb659 hg w36 hbox hb
    have BK659 := Aside0.mk hbox
    have GW659 := ge hg HB
    have GE659 := ge hg HB
    have NB637_659 := nl hg BK637
    have NB659_637 := ng hg BK637
    have NB649_659 := nl hg BK649
    have NB659_649 := ng hg BK649
    have NB650_659 := nl hg BK650
    have NB659_650 := ng hg BK650
    have NB655_659 := nl hg BK655
    have NB659_655 := ng hg BK655
    replace HO642 := kb HO642 hb
    replace HO647 := kb HO647 hb
    replace HO654 := kb HO654 hb
    replace HO658 := kb HO658 hb
    replace BK637 := bb BK637 hb
    replace BK649 := bb BK649 hb
    replace BK650 := bb BK650 hb
    replace BK655 := bb BK655 hb
    replace HB := bh HB hb
    clear hb hbox hg
    refine hK.out _ _ ⟨(blk_cell BK637.out 0).trans rfl, (blk_cell BK637.out 1).trans rfl, (blk_cell BK637.out 2).trans rfl, (blk_cell BK637.out 3).trans rfl⟩ (fun hHeld => ?_)
    clear hK K
    refine norm_ (a' := ?_) ?_ ?_
    rotate_left
    ·show Act.put _ (some 7) _ = _
     simp only [Act.put, List.setIfInBounds_toArray, List.set_cons_zero, List.set_cons_succ, i64_w, i32_w]
     rfl
    exact norm_ (by simp only [putAll, Act.put, List.setIfInBounds_toArray, List.set_cons_zero, List.set_cons_succ]) (hCont (.slice Ao35 t656.length co35, gb659) _ ⟨hHeld, (kr HO642.out), (kr HO647.out), (by (with_reducible repeat refine kl ?_); exact Kd.R_mono HO654.out (fun _ hk => hk.2)), (by (with_reducible repeat refine kl ?_); exact Kd.R_mono HO658.out (fun _ hk => hk.2)), (bk BK637.out), (bk BK649.out), (bk BK650.out), (bk BK655.out), (bk BK659.out), GW659.out, GE659.out, NB637_659.out, NB659_637.out, NB649_659.out, NB659_649.out, NB650_659.out, NB659_650.out, NB655_659.out, NB659_655.out, (bq HB.out)⟩)
   ·skip
    refine box_step ?hg (N := 7) ?hd (cs := #[.int .i64 0, .slice none 0 0]) (t := 37) ?hr ?_; (case hd => rfl); (case hg => rfl); (case hr => first | (go_simp; done) | (go_simp; rfl))
    intro gb659 hg w34 hbox hb
    have BK659 := Aside0.mk hbox
    have GW659 := ge hg HB
    have GE659 := ge hg HB
    have NB637_659 := nl hg BK637
    have NB659_637 := ng hg BK637
    have NB649_659 := nl hg BK649
    have NB659_649 := ng hg BK649
    have NB650_659 := nl hg BK650
    have NB659_650 := ng hg BK650
    have NB655_659 := nl hg BK655
    have NB659_655 := ng hg BK655
    replace HO642 := kb HO642 hb
    replace HO647 := kb HO647 hb
    replace HO654 := kb HO654 hb
    replace BK637 := bb BK637 hb
    replace BK649 := bb BK649 hb
    replace BK650 := bb BK650 hb
    replace BK655 := bb BK655 hb
    replace HB := bh HB hb
    clear hb hbox hg
    refine hK.out _ _ ⟨(blk_cell BK637.out 0).trans rfl, (blk_cell BK637.out 1).trans rfl, (blk_cell BK637.out 2).trans rfl, (blk_cell BK637.out 3).trans rfl⟩ (fun hHeld => ?_)
    clear hK K
    refine norm_ (a' := ?_) ?_ ?_
    rotate_left
    ·show Act.put _ (some 7) _ = _
     simp only [Act.put, List.setIfInBounds_toArray, List.set_cons_zero, List.set_cons_succ, i64_w, i32_w]
     rfl
    refine one_ (i := 4) (N := some 39) #[true, true, true, true, true, false, true, false] rfl rfl (one_of HT_.out (by kernel_rfl)) (by decide) (fun K hK => ?_)
    refine goes_ Try.func11 (by kernel_rfl) rfl #[.slice A0_3 l0_3.length c0_3] (by rfl) rfl rfl (by (try simp only [List.map_toArray, List.map_cons, List.map_nil]); first | done | rfl | (simp only [List.length_drop, List.length_take]; rfl)) ?_
    with_reducible refine (steeplelaw01_Ref.calls k _ _ l0_3 t656 _ ?side1 ?side2 A5.out).mono ?_
    (case side1 => repeat (first | exact (Kd.C_below HR0_3.out HB.out) | (with_reducible refine Kd.C_alloc ?_ _) | (with_reducible refine Kd.C_drewN ?_ _) | (with_reducible refine Kd.C_drew ?_)))
    (case side2 => exact HC0_3.out)
    rintro e w35 ⟨v657, rfl, ho0, hb⟩
    refine ⟨_, rfl, ?_⟩
    have HO658 := Aside0.mk (Kd.R_lower (Kd.R_new' ho0 (Kd.R_lt (kr HO654.out))) (below_size (bq HB.out)))
    replace HO642 := kb HO642 hb
    replace HO647 := kb HO647 hb
    replace HO654 := Aside0.mk (Kd.R_elder' (kr HO654.out) (Kd.R_base ho0) hb)
    replace BK637 := bb BK637 hb
    replace BK649 := bb BK649 hb
    replace BK650 := bb BK650 hb
    replace BK655 := bb BK655 hb
    replace BK659 := bb BK659 hb
    replace HB := bh HB hb
    (try clear hb)
    (try clear hb2)
    (try clear hk)
    (try clear hi)
    (try clear ho0)
    obtain ⟨Ao36, co36, eo36⟩ := Kd.R_slice HO658.out
    (first | subst eo36 | (injection eo36 with f1_ f2_ f3_; have f4_ := f1_.symm; have f5_ := f3_.symm; clear f1_ f2_ f3_; subst f4_; subst f5_))
    refine hK.out _ _ ⟨(blk_cell BK637.out 0).trans rfl, (blk_cell BK637.out 1).trans rfl, (blk_cell BK637.out 2).trans rfl, (blk_cell BK637.out 3).trans rfl⟩ (fun hHeld => ?_)
    clear hK K
    refine norm_ (a' := ?_) ?_ ?_
    rotate_left
    ·show Act.put _ (some 39) _ = _
     simp only [Act.put, List.setIfInBounds_toArray, List.set_cons_zero, List.set_cons_succ, i64_w, i32_w]
     rfl
    refine pure_ (i := 5) (N := some 40) (v := ?_) (a' := ?_) #[true, true, true, true, true, true, true, false] rfl rfl (any_of HT_.out (by kernel_rfl)) (fun _ _ _ h => h) (Or.inl ⟨by rfl, ?_⟩) ?_ ?_
    rotate_left
    ·intro w'
     go_simp
     with_reducible rfl
    rotate_left
    ·simp only [Act.put, List.setIfInBounds_toArray, List.set_cons_zero, List.set_cons_succ, i64_w, i32_w]
     rfl
    exact norm_ (by simp only [putAll, Act.put, List.setIfInBounds_toArray, List.set_cons_zero, List.set_cons_succ]) (hCont (.slice Ao36 t656.length co36, gb659) _ ⟨hHeld, (kr HO642.out), (kr HO647.out), (by (with_reducible repeat refine kl ?_); exact Kd.R_mono HO654.out (fun _ hk => hk.2)), (by (with_reducible repeat refine kl ?_); exact Kd.R_mono HO658.out (fun _ hk => hk.2)), (bk BK637.out), (bk BK649.out), (bk BK650.out), (bk BK655.out), (bk BK659.out), GW659.out, GE659.out, NB637_659.out, NB659_637.out, NB649_659.out, NB659_649.out, NB650_659.out, NB659_650.out, NB655_659.out, NB659_655.out, (bq HB.out)⟩)
  rintro ⟨v657, gb659⟩ w37 ⟨hS_, h0_, h1_, h2_, h3_, h4_, h5_, h6_, h7_, h8_, h9_, h10_, h11_, h12_, h13_, h14_, h15_, h16_, h17_, h18_, h19_⟩
  have n0_ : Aside0 (Kd.R (Kd.int .u64) 23 w37 w.heap.size (fun k_ => some k_ ≠ (.slice Ao22 t645.length co22 : Value).ownBlock) (.slice Ao19 t640.length co19) t640) := ⟨h0_⟩
  have n1_ : Aside0 (Kd.R (Kd.int .u64) 23 w37 w.heap.size (fun k_ => some k_ ≠ (.slice Ao19 t640.length co19 : Value).ownBlock) (.slice Ao22 t645.length co22) t645) := ⟨h1_⟩
  have n2_ : Aside0 (Kd.R k44 44 w37 w.heap.size (fun k_ => some k_ ≠ (v657 : Value).ownBlock) (.slice Ao29 t652.length co29) t652) := ⟨h2_⟩
  have n3_ : Aside0 (Kd.R k44 44 w37 w.heap.size (fun k_ => some k_ ≠ (.slice Ao29 t652.length co29 : Value).ownBlock) v657 t656) := ⟨h3_⟩
  have n4_ : Aside0 (w37.heap[gb637]? = some (.cells #[.int .i64 a0_0, .int .i64 a0_1, .slice A0_2 l0_2.length c0_2, .slice A0_3 l0_3.length c0_3] 49 (0, 0))) := ⟨h4_⟩
  have n5_ : Aside0 (w37.heap[gb649]? = some (.cells #[.int .i64 t638, .int .i64 t639, .slice Ao19 t640.length co19] 31 (0, 0))) := ⟨h5_⟩
  have n6_ : Aside0 (w37.heap[gb650]? = some (.cells #[.int .i64 t643, .int .i64 t644, .slice Ao22 t645.length co22] 31 (0, 0))) := ⟨h6_⟩
  have n7_ : Aside0 (w37.heap[gb655]? = some (.cells #[.int .i64 a0_0, .slice Ao29 t652.length co29] 37 (0, 0))) := ⟨h7_⟩
  have n8_ : Aside0 (w37.heap[gb659]? = some (.cells #[.int .i64 0, .slice none 0 0] 37 (0, 0))) := ⟨h8_⟩
  have n9_ : Aside0 (w.heap.size ≤ gb659) := ⟨h9_⟩
  have n10_ : Aside0 (w.heap.size ≤ gb659) := ⟨h10_⟩
  have n11_ : Aside0 (gb637 ≠ gb659) := ⟨h11_⟩
  have n12_ : Aside0 (gb659 ≠ gb637) := ⟨h12_⟩
  have n13_ : Aside0 (gb649 ≠ gb659) := ⟨h13_⟩
  have n14_ : Aside0 (gb659 ≠ gb649) := ⟨h14_⟩
  have n15_ : Aside0 (gb650 ≠ gb659) := ⟨h15_⟩
  have n16_ : Aside0 (gb659 ≠ gb650) := ⟨h16_⟩
  have n17_ : Aside0 (gb655 ≠ gb659) := ⟨h17_⟩
  have n18_ : Aside0 (gb659 ≠ gb655) := ⟨h18_⟩
  have n19_ : Aside0 (Below w.heap.size w w37) := ⟨h19_⟩
  clear HO642
  clear HO647
  clear HO654
  clear BK637
  clear BK649
  clear BK650
  clear BK655
  clear HB
  clear h0_ h1_ h2_ h3_ h4_ h5_ h6_ h7_ h8_ h9_ h10_ h11_ h12_ h13_ h14_ h15_ h16_ h17_ h18_ h19_
  have HO642 := n0_
  have HO647 := n1_
  have HO654 := n2_
  have HO658 := n3_
  have BK637 := n4_
  have BK649 := n5_
  have BK650 := n6_
  have BK655 := n7_
  have BK659 := n8_
  have GW659 := Aside1.mk n9_.out
  have GE659 := Aside1.mk n10_.out
  have NB637_659 := n11_
  have NB659_637 := n12_
  have NB649_659 := n13_
  have NB659_649 := n14_
  have NB650_659 := n15_
  have NB659_650 := n16_
  have NB655_659 := n17_
  have NB659_655 := n18_
  have HB := n19_
  clear n0_ n1_ n2_ n3_ n4_ n5_ n6_ n7_ n8_ n9_ n10_ n11_ n12_ n13_ n14_ n15_ n16_ n17_ n18_ n19_
  have hHeld : w37.cell? ⟨gb637, 0, none⟩ = some (.int .i64 a0_0) ∧ w37.cell? ⟨gb637, 1, none⟩ = some (.int .i64 a0_1) ∧ w37.cell? ⟨gb637, 2, none⟩ = some (.slice A0_2 l0_2.length c0_2) ∧ w37.cell? ⟨gb637, 3, none⟩ = some (.slice A0_3 l0_3.length c0_3) := hS_
  obtain ⟨Ao38, co38, eo38⟩ := Kd.R_slice HO658.out
  (first | subst eo38 | (injection eo38 with f1_ f2_ f3_; have f4_ := f1_.symm; have f5_ := f3_.symm; clear f1_ f2_ f3_; subst f4_; subst f5_))
  refine norm_ (a' := ?_) ?_ ?_
  rotate_left
  ·simp only [putAll, Act.put, List.setIfInBounds_toArray, List.set_cons_zero, List.set_cons_succ]
   rfl
  refine one_ (i := 7) (N := none) #[true, true, true, true, true, true, true, true] rfl rfl (one_of HT_.out (by kernel_rfl)) (by decide) (fun K hK => ?_)
  have hs39 : w37.cell? ⟨gb659, 0, none⟩ = some (.int .i64 0) := (blk_cell BK659.out 0).trans rfl
  have hfs39 := blk_frozen BK659.out 0
  have hns39_0 := NB637_659.out
  have hns39_1 := NB649_659.out
  have hns39_2 := NB650_659.out
  have hns39_3 := NB655_659.out
  have hms39_0 := NB659_637.out
  have hms39_1 := NB659_649.out
  have hms39_2 := NB659_650.out
  have hms39_3 := NB659_655.out
  have hs40 : w37.cell? ⟨gb659, 1, none⟩ = some (.slice none 0 0) := (blk_cell BK659.out 1).trans rfl
  have hfs40 := blk_frozen BK659.out 1
  have hns40_0 := NB637_659.out
  have hns40_1 := NB649_659.out
  have hns40_2 := NB650_659.out
  have hns40_3 := NB655_659.out
  have hms40_0 := NB659_637.out
  have hms40_1 := NB659_649.out
  have hms40_2 := NB659_650.out
  have hms40_3 := NB659_655.out
  refine skip_ (w1 := ?_) (by rfl) rfl ?_ ?_
  rotate_left
  ·go_simp
   rfl
  refine hK.out _ _ ⟨((cell_far (p := ⟨gb659, _, none⟩) NB637_659.out _).trans (((cell_far (p := ⟨gb659, _, none⟩) NB637_659.out _).trans (hHeld.1)))), ((cell_far (p := ⟨gb659, _, none⟩) NB637_659.out _).trans (((cell_far (p := ⟨gb659, _, none⟩) NB637_659.out _).trans (hHeld.2.1)))), ((cell_far (p := ⟨gb659, _, none⟩) NB637_659.out _).trans (((cell_far (p := ⟨gb659, _, none⟩) NB637_659.out _).trans (hHeld.2.2.1)))), ((cell_far (p := ⟨gb659, _, none⟩) NB637_659.out _).trans (((cell_far (p := ⟨gb659, _, none⟩) NB637_659.out _).trans (hHeld.2.2.2))))⟩ (fun hHeld => ?_)
  clear hK K
  refine done_ (done_of HT_.out (by kernel_rfl)) ?_
  have hnb41 := NB649_655.out
  have hnc41 := NB655_649.out
  have hnb42 := NB649_659.out
  have hnc42 := NB659_649.out
  obtain ⟨hcz43_0, hcz43_1, hcz43_2⟩ := zc3 BK649
  obtain ⟨hfz43_0, hfz43_1, hfz43_2⟩ := zf3 BK649
  have hnb44 := NB650_655.out
  have hnc44 := NB655_650.out
  have hnb45 := NB650_659.out
  have hnc45 := NB659_650.out
  obtain ⟨hcz46_0, hcz46_1, hcz46_2⟩ := zc3 BK650
  obtain ⟨hfz46_0, hfz46_1, hfz46_2⟩ := zf3 BK650
  try go_wp2_with (first | ((with_reducible refine gate_callee (f := 21) rfl ?_); refine goesL_ (some 44) rfl rfl Try.func21 (by kernel_rfl) rfl #[.agg #[.int .i64 t638, .int .i64 t639, .slice Ao19 t640.length co19], .agg #[.int .i64 t643, .int .i64 t644, .slice Ao22 t645.length co22]] rfl (by (try simp only [List.map_toArray, List.map_cons, List.map_nil]); first | done | rfl | (simp only [List.length_drop, List.length_take]; rfl)) ?_; (with_reducible refine (pack_Add.calls k t638 t639 _ _ t640 t643 t644 _ _ t645 t660 t661 t662 t665 _ ?side1 ?side2 ?side3 ?side4 A6.out).mono ?_); (case side1 => refine (Kd.R_reads' (e := 23) (base := w.heap.size) (ok := fun k_ => some k_ ≠ (.slice Ao22 t645.length co22 : Value).ownBlock) (n := t640.length) (c := co19) ?_).2.2; exact (by (with_reducible repeat refine kl ?_); exact (Kd.R_mono (Kd.R_far (p := ⟨gb659, 1, none⟩) (Kd.R_far (p := ⟨gb659, 0, none⟩) (Kd.R_types HO642.out BK659.out (by decide)) (fun _ hk => hk.2) (.int .i64 a0_1)) (fun _ hk => hk.2) (.slice Ao38 t656.length co38)) (fun _ h_ => h_.1)))); (case side2 => exact (Kd.R_reads' HO642.out).2.1); (case side3 => refine (Kd.R_reads' (e := 23) (base := w.heap.size) (ok := fun k_ => some k_ ≠ (.slice Ao19 t640.length co19 : Value).ownBlock) (n := t645.length) (c := co22) ?_).2.2; exact (by (with_reducible repeat refine kl ?_); exact (Kd.R_mono (Kd.R_far (p := ⟨gb659, 1, none⟩) (Kd.R_far (p := ⟨gb659, 0, none⟩) (Kd.R_types HO647.out BK659.out (by decide)) (fun _ hk => hk.2) (.int .i64 a0_1)) (fun _ hk => hk.2) (.slice Ao38 t656.length co38)) (fun _ h_ => h_.1)))); (case side4 => exact (Kd.R_reads' HO647.out).2.1); rintro e w47 ⟨v663, rfl, ho0, hb⟩; refine ⟨_, rfl, ?_⟩; have HO664 := Aside0.mk (Kd.R_lower (Kd.R_new' (Kd.R_new' ho0 (Kd.R_lt (by (with_reducible repeat refine kl ?_); exact (Kd.R_mono (Kd.R_far (p := ⟨gb659, 1, none⟩) (Kd.R_far (p := ⟨gb659, 0, none⟩) (Kd.R_types HO642.out BK659.out (by decide)) (fun _ hk => hk.2) (.int .i64 a0_1)) (fun _ hk => hk.2) (.slice Ao38 t656.length co38)) (fun _ h_ => h_.1))))) (Kd.R_lt (by (with_reducible repeat refine kl ?_); exact (Kd.R_mono (Kd.R_far (p := ⟨gb659, 1, none⟩) (Kd.R_far (p := ⟨gb659, 0, none⟩) (Kd.R_types HO647.out BK659.out (by decide)) (fun _ hk => hk.2) (.int .i64 a0_1)) (fun _ hk => hk.2) (.slice Ao38 t656.length co38)) (fun _ h_ => h_.1))))) (below_size (bq HB.out))); replace HO642 := Aside0.mk (Kd.R_elder' (by (with_reducible repeat refine kl ?_); exact (Kd.R_mono (Kd.R_far (p := ⟨gb659, 1, none⟩) (Kd.R_far (p := ⟨gb659, 0, none⟩) (Kd.R_types HO642.out BK659.out (by decide)) (fun _ hk => hk.2) (.int .i64 a0_1)) (fun _ hk => hk.2) (.slice Ao38 t656.length co38)) (fun _ h_ => h_.1))) (Kd.R_base ho0) hb); replace HO647 := Aside0.mk (Kd.R_elder' (by (with_reducible repeat refine kl ?_); exact (Kd.R_mono (Kd.R_far (p := ⟨gb659, 1, none⟩) (Kd.R_far (p := ⟨gb659, 0, none⟩) (Kd.R_types HO647.out BK659.out (by decide)) (fun _ hk => hk.2) (.int .i64 a0_1)) (fun _ hk => hk.2) (.slice Ao38 t656.length co38)) (fun _ h_ => h_.1))) (Kd.R_base ho0) hb); replace HO654 := Aside0.mk (Kd.R_below (by (with_reducible repeat refine kl ?_); exact (Kd.R_mono (Kd.R_far (p := ⟨gb659, 1, none⟩) (Kd.R_far (p := ⟨gb659, 0, none⟩) (Kd.R_types HO654.out BK659.out (by decide)) (fun _ hk => hk.2) (.int .i64 a0_1)) (fun _ hk => hk.2) (.slice Ao38 t656.length co38)) (fun _ h_ => h_.1))) hb); replace HO658 := Aside0.mk (Kd.R_below (by (with_reducible repeat refine kl ?_); exact (Kd.R_mono (Kd.R_far (p := ⟨gb659, 1, none⟩) (Kd.R_far (p := ⟨gb659, 0, none⟩) (Kd.R_types HO658.out BK659.out (by decide)) (fun _ hk => hk.2) (.int .i64 a0_1)) (fun _ hk => hk.2) (.slice Ao38 t656.length co38)) (fun _ h_ => h_.1))) hb); replace BK637 := Aside0.mk (blk_below (g := gb637) (o := .cells #[.int .i64 a0_0, .int .i64 a0_1, .slice A0_2 l0_2.length c0_2, .slice A0_3 l0_3.length c0_3] 49 (0, 0)) (by (with_reducible repeat refine bl ?_); refine blk_far ?_ NB637_659.out _; (with_reducible repeat refine bl ?_); refine blk_far ?_ NB637_659.out _; (with_reducible repeat refine bl ?_); exact BK637.out) hb); replace BK649 := Aside0.mk (blk_below (g := gb649) (o := .cells #[.int .i64 t638, .int .i64 t639, .slice Ao19 t640.length co19] 31 (0, 0)) (by (with_reducible repeat refine bl ?_); refine blk_far ?_ NB649_659.out _; (with_reducible repeat refine bl ?_); refine blk_far ?_ NB649_659.out _; (with_reducible repeat refine bl ?_); exact BK649.out) hb); replace BK650 := Aside0.mk (blk_below (g := gb650) (o := .cells #[.int .i64 t643, .int .i64 t644, .slice Ao22 t645.length co22] 31 (0, 0)) (by (with_reducible repeat refine bl ?_); refine blk_far ?_ NB650_659.out _; (with_reducible repeat refine bl ?_); refine blk_far ?_ NB650_659.out _; (with_reducible repeat refine bl ?_); exact BK650.out) hb); replace BK655 := Aside0.mk (blk_below (g := gb655) (o := .cells #[.int .i64 a0_0, .slice Ao29 t652.length co29] 37 (0, 0)) (by (with_reducible repeat refine bl ?_); refine blk_far ?_ NB655_659.out _; (with_reducible repeat refine bl ?_); refine blk_far ?_ NB655_659.out _; (with_reducible repeat refine bl ?_); exact BK655.out) hb); replace BK659 := Aside0.mk (blk_below (g := gb659) (o := .cells #[.int .i64 a0_1, .slice Ao38 t656.length co38] 37 (0, 0)) (by (with_reducible repeat refine bl ?_); refine blk_put (cs := #[.int .i64 a0_1, .slice none 0 0]) ?_ 1 _ rfl; (with_reducible repeat refine bl ?_); refine blk_put (cs := #[.int .i64 0, .slice none 0 0]) ?_ 0 _ rfl; (with_reducible repeat refine bl ?_); exact BK659.out) hb); replace HB := bh HB hb; (try clear hb); (try clear hb2); (try clear hk); (try clear hi); (try clear ho0)) | ((with_reducible refine gate_dst (N := 8) rfl ?_); refine box_event ?hg (N := 8) ?hd (cs := #[.int .i64 0, .int .i64 0, .slice none 0 0]) (t := 31) ?hr ?_; (case hd => rfl); (case hg => rfl); (case hr => first | (go_simp; done) | (go_simp; rfl)); intro gb666 hg w48 hbox hb; have BK666 := Aside0.mk hbox; have GW666 := ge hg HB; have GE666 := ge hg HB; have NB637_666 := nl hg BK637; have NB666_637 := ng hg BK637; have NB649_666 := nl hg BK649; have NB666_649 := ng hg BK649; have NB650_666 := nl hg BK650; have NB666_650 := ng hg BK650; have NB655_666 := nl hg BK655; have NB666_655 := ng hg BK655; have NB659_666 := nl hg BK659; have NB666_659 := ng hg BK659; replace HO642 := kb HO642 hb; replace HO647 := kb HO647 hb; replace HO654 := kb HO654 hb; replace HO658 := kb HO658 hb; replace HO664 := kb HO664 hb; replace BK637 := bb BK637 hb; replace BK649 := bb BK649 hb; replace BK650 := bb BK650 hb; replace BK655 := bb BK655 hb; replace BK659 := bb BK659 hb; replace HB := bh HB hb; clear hb hbox hg; have hnb49 := NB666_637.out; have hnc49 := NB637_666.out; have hnb50 := NB666_649.out; have hnc50 := NB649_666.out; have hnb51 := NB666_650.out; have hnc51 := NB650_666.out; have hnb52 := NB666_655.out; have hnc52 := NB655_666.out; have hnb53 := NB666_659.out; have hnc53 := NB659_666.out; obtain ⟨hcz54_0, hcz54_1, hcz54_2⟩ := zc3 BK666; obtain ⟨hfz54_0, hfz54_1, hfz54_2⟩ := zf3 BK666; obtain ⟨Ao55, co55, eo55⟩ := Kd.R_slice HO664.out; subst eo55; obtain ⟨hcz56_0, hcz56_1, hcz56_2⟩ := zc3 BK649; obtain ⟨hfz56_0, hfz56_1, hfz56_2⟩ := zf3 BK649; obtain ⟨hcz57_0, hcz57_1, hcz57_2⟩ := zc3 BK650; obtain ⟨hfz57_0, hfz57_1, hfz57_2⟩ := zf3 BK650) | ((with_reducible refine gate_callee (f := 28) rfl ?_); refine goesL_ (some 50) rfl rfl Try.func28 (by kernel_rfl) rfl #[.agg #[.int .i64 t638, .int .i64 t639, .slice Ao19 t640.length co19], .agg #[.int .i64 t643, .int .i64 t644, .slice Ao22 t645.length co22]] rfl (by (try simp only [List.map_toArray, List.map_cons, List.map_nil]); first | done | rfl | (simp only [List.length_drop, List.length_take]; rfl)) ?_; (with_reducible refine (pack_Mul.calls k t638 t639 _ _ t640 t643 t644 _ _ t645 t667 t668 t669 t672 _ ?side1 ?side2 ?side3 ?side4 A7.out).mono ?_); (case side1 => refine (Kd.R_reads' (e := 23) (base := w.heap.size) (ok := fun k_ => (some k_ ≠ (.slice Ao22 t645.length co22 : Value).ownBlock ∧ some k_ ≠ (.slice Ao55 t662.length co55 : Value).ownBlock)) (n := t640.length) (c := co19) ?_).2.2; exact (by (with_reducible repeat refine kl ?_); exact (Kd.R_mono (Kd.R_far (p := ⟨gb666, 2, none⟩) (Kd.R_far (p := ⟨gb666, 1, none⟩) (Kd.R_far (p := ⟨gb666, 0, none⟩) (Kd.R_types HO642.out BK666.out (by decide)) (fun _ hk => hk.2) (.int .i64 t660)) (fun _ hk => hk.2) (.int .i64 t661)) (fun _ hk => hk.2) (.slice Ao55 t662.length co55)) (fun _ h_ => h_.1)))); (case side2 => exact (Kd.R_reads' HO642.out).2.1); (case side3 => refine (Kd.R_reads' (e := 23) (base := w.heap.size) (ok := fun k_ => (some k_ ≠ (.slice Ao19 t640.length co19 : Value).ownBlock ∧ some k_ ≠ (.slice Ao55 t662.length co55 : Value).ownBlock)) (n := t645.length) (c := co22) ?_).2.2; exact (by (with_reducible repeat refine kl ?_); exact (Kd.R_mono (Kd.R_far (p := ⟨gb666, 2, none⟩) (Kd.R_far (p := ⟨gb666, 1, none⟩) (Kd.R_far (p := ⟨gb666, 0, none⟩) (Kd.R_types HO647.out BK666.out (by decide)) (fun _ hk => hk.2) (.int .i64 t660)) (fun _ hk => hk.2) (.int .i64 t661)) (fun _ hk => hk.2) (.slice Ao55 t662.length co55)) (fun _ h_ => h_.1)))); (case side4 => exact (Kd.R_reads' HO647.out).2.1); rintro e w58 ⟨v670, rfl, ho0, hb⟩; refine ⟨_, rfl, ?_⟩; have HO671 := Aside0.mk (Kd.R_lower (Kd.R_new' (Kd.R_new' (Kd.R_new' ho0 (Kd.R_lt (by (with_reducible repeat refine kl ?_); exact (Kd.R_mono (Kd.R_far (p := ⟨gb666, 2, none⟩) (Kd.R_far (p := ⟨gb666, 1, none⟩) (Kd.R_far (p := ⟨gb666, 0, none⟩) (Kd.R_types HO642.out BK666.out (by decide)) (fun _ hk => hk.2) (.int .i64 t660)) (fun _ hk => hk.2) (.int .i64 t661)) (fun _ hk => hk.2) (.slice Ao55 t662.length co55)) (fun _ h_ => h_.1))))) (Kd.R_lt (by (with_reducible repeat refine kl ?_); exact (Kd.R_mono (Kd.R_far (p := ⟨gb666, 2, none⟩) (Kd.R_far (p := ⟨gb666, 1, none⟩) (Kd.R_far (p := ⟨gb666, 0, none⟩) (Kd.R_types HO647.out BK666.out (by decide)) (fun _ hk => hk.2) (.int .i64 t660)) (fun _ hk => hk.2) (.int .i64 t661)) (fun _ hk => hk.2) (.slice Ao55 t662.length co55)) (fun _ h_ => h_.1))))) (Kd.R_lt (by (with_reducible repeat refine kl ?_); exact (Kd.R_mono (Kd.R_far (p := ⟨gb666, 2, none⟩) (Kd.R_far (p := ⟨gb666, 1, none⟩) (Kd.R_far (p := ⟨gb666, 0, none⟩) (Kd.R_types HO664.out BK666.out (by decide)) (fun _ hk => hk.2) (.int .i64 t660)) (fun _ hk => hk.2) (.int .i64 t661)) (fun _ hk => hk.2) (.slice Ao55 t662.length co55)) (fun _ h_ => h_.1))))) (below_size (bq HB.out))); replace HO642 := Aside0.mk (Kd.R_elder' (by (with_reducible repeat refine kl ?_); exact (Kd.R_mono (Kd.R_far (p := ⟨gb666, 2, none⟩) (Kd.R_far (p := ⟨gb666, 1, none⟩) (Kd.R_far (p := ⟨gb666, 0, none⟩) (Kd.R_types HO642.out BK666.out (by decide)) (fun _ hk => hk.2) (.int .i64 t660)) (fun _ hk => hk.2) (.int .i64 t661)) (fun _ hk => hk.2) (.slice Ao55 t662.length co55)) (fun _ h_ => h_.1))) (Kd.R_base ho0) hb); replace HO647 := Aside0.mk (Kd.R_elder' (by (with_reducible repeat refine kl ?_); exact (Kd.R_mono (Kd.R_far (p := ⟨gb666, 2, none⟩) (Kd.R_far (p := ⟨gb666, 1, none⟩) (Kd.R_far (p := ⟨gb666, 0, none⟩) (Kd.R_types HO647.out BK666.out (by decide)) (fun _ hk => hk.2) (.int .i64 t660)) (fun _ hk => hk.2) (.int .i64 t661)) (fun _ hk => hk.2) (.slice Ao55 t662.length co55)) (fun _ h_ => h_.1))) (Kd.R_base ho0) hb); replace HO654 := Aside0.mk (Kd.R_below (by (with_reducible repeat refine kl ?_); exact (Kd.R_mono (Kd.R_far (p := ⟨gb666, 2, none⟩) (Kd.R_far (p := ⟨gb666, 1, none⟩) (Kd.R_far (p := ⟨gb666, 0, none⟩) (Kd.R_types HO654.out BK666.out (by decide)) (fun _ hk => hk.2) (.int .i64 t660)) (fun _ hk => hk.2) (.int .i64 t661)) (fun _ hk => hk.2) (.slice Ao55 t662.length co55)) (fun _ h_ => h_.1))) hb); replace HO658 := Aside0.mk (Kd.R_below (by (with_reducible repeat refine kl ?_); exact (Kd.R_mono (Kd.R_far (p := ⟨gb666, 2, none⟩) (Kd.R_far (p := ⟨gb666, 1, none⟩) (Kd.R_far (p := ⟨gb666, 0, none⟩) (Kd.R_types HO658.out BK666.out (by decide)) (fun _ hk => hk.2) (.int .i64 t660)) (fun _ hk => hk.2) (.int .i64 t661)) (fun _ hk => hk.2) (.slice Ao55 t662.length co55)) (fun _ h_ => h_.1))) hb); replace HO664 := Aside0.mk (Kd.R_elder' (by (with_reducible repeat refine kl ?_); exact (Kd.R_mono (Kd.R_far (p := ⟨gb666, 2, none⟩) (Kd.R_far (p := ⟨gb666, 1, none⟩) (Kd.R_far (p := ⟨gb666, 0, none⟩) (Kd.R_types HO664.out BK666.out (by decide)) (fun _ hk => hk.2) (.int .i64 t660)) (fun _ hk => hk.2) (.int .i64 t661)) (fun _ hk => hk.2) (.slice Ao55 t662.length co55)) (fun _ h_ => h_.1))) (Kd.R_base ho0) hb); replace BK637 := Aside0.mk (blk_below (g := gb637) (o := .cells #[.int .i64 a0_0, .int .i64 a0_1, .slice A0_2 l0_2.length c0_2, .slice A0_3 l0_3.length c0_3] 49 (0, 0)) (by (with_reducible repeat refine bl ?_); refine blk_far ?_ NB637_666.out _; (with_reducible repeat refine bl ?_); refine blk_far ?_ NB637_666.out _; (with_reducible repeat refine bl ?_); refine blk_far ?_ NB637_666.out _; (with_reducible repeat refine bl ?_); exact BK637.out) hb); replace BK649 := Aside0.mk (blk_below (g := gb649) (o := .cells #[.int .i64 t638, .int .i64 t639, .slice Ao19 t640.length co19] 31 (0, 0)) (by (with_reducible repeat refine bl ?_); refine blk_far ?_ NB649_666.out _; (with_reducible repeat refine bl ?_); refine blk_far ?_ NB649_666.out _; (with_reducible repeat refine bl ?_); refine blk_far ?_ NB649_666.out _; (with_reducible repeat refine bl ?_); exact BK649.out) hb); replace BK650 := Aside0.mk (blk_below (g := gb650) (o := .cells #[.int .i64 t643, .int .i64 t644, .slice Ao22 t645.length co22] 31 (0, 0)) (by (with_reducible repeat refine bl ?_); refine blk_far ?_ NB650_666.out _; (with_reducible repeat refine bl ?_); refine blk_far ?_ NB650_666.out _; (with_reducible repeat refine bl ?_); refine blk_far ?_ NB650_666.out _; (with_reducible repeat refine bl ?_); exact BK650.out) hb); replace BK655 := Aside0.mk (blk_below (g := gb655) (o := .cells #[.int .i64 a0_0, .slice Ao29 t652.length co29] 37 (0, 0)) (by (with_reducible repeat refine bl ?_); refine blk_far ?_ NB655_666.out _; (with_reducible repeat refine bl ?_); refine blk_far ?_ NB655_666.out _; (with_reducible repeat refine bl ?_); refine blk_far ?_ NB655_666.out _; (with_reducible repeat refine bl ?_); exact BK655.out) hb); replace BK659 := Aside0.mk (blk_below (g := gb659) (o := .cells #[.int .i64 a0_1, .slice Ao38 t656.length co38] 37 (0, 0)) (by (with_reducible repeat refine bl ?_); refine blk_far ?_ NB659_666.out _; (with_reducible repeat refine bl ?_); refine blk_far ?_ NB659_666.out _; (with_reducible repeat refine bl ?_); refine blk_far ?_ NB659_666.out _; (with_reducible repeat refine bl ?_); exact BK659.out) hb); replace BK666 := Aside0.mk (blk_below (g := gb666) (o := .cells #[.int .i64 t660, .int .i64 t661, .slice Ao55 t662.length co55] 31 (0, 0)) (by (with_reducible repeat refine bl ?_); refine blk_put (cs := #[.int .i64 t660, .int .i64 t661, .slice none 0 0]) ?_ 2 _ rfl; (with_reducible repeat refine bl ?_); refine blk_put (cs := #[.int .i64 t660, .int .i64 0, .slice none 0 0]) ?_ 1 _ rfl; (with_reducible repeat refine bl ?_); refine blk_put (cs := #[.int .i64 0, .int .i64 0, .slice none 0 0]) ?_ 0 _ rfl; (with_reducible repeat refine bl ?_); exact BK666.out) hb); replace HB := bh HB hb; (try clear hb); (try clear hb2); (try clear hk); (try clear hi); (try clear ho0)) | ((with_reducible refine gate_dst (N := 10) rfl ?_); refine box_event ?hg (N := 10) ?hd (cs := #[.int .i64 0, .int .i64 0, .slice none 0 0]) (t := 31) ?hr ?_; (case hd => rfl); (case hg => rfl); (case hr => first | (go_simp; done) | (go_simp; rfl)); intro gb673 hg w59 hbox hb; have BK673 := Aside0.mk hbox; have GW673 := ge hg HB; have GE673 := ge hg HB; have NB637_673 := nl hg BK637; have NB673_637 := ng hg BK637; have NB649_673 := nl hg BK649; have NB673_649 := ng hg BK649; have NB650_673 := nl hg BK650; have NB673_650 := ng hg BK650; have NB655_673 := nl hg BK655; have NB673_655 := ng hg BK655; have NB659_673 := nl hg BK659; have NB673_659 := ng hg BK659; have NB666_673 := nl hg BK666; have NB673_666 := ng hg BK666; replace HO642 := kb HO642 hb; replace HO647 := kb HO647 hb; replace HO654 := kb HO654 hb; replace HO658 := kb HO658 hb; replace HO664 := kb HO664 hb; replace HO671 := kb HO671 hb; replace BK637 := bb BK637 hb; replace BK649 := bb BK649 hb; replace BK650 := bb BK650 hb; replace BK655 := bb BK655 hb; replace BK659 := bb BK659 hb; replace BK666 := bb BK666 hb; replace HB := bh HB hb; clear hb hbox hg; have hnb60 := NB673_637.out; have hnc60 := NB637_673.out; have hnb61 := NB673_649.out; have hnc61 := NB649_673.out; have hnb62 := NB673_650.out; have hnc62 := NB650_673.out; have hnb63 := NB673_655.out; have hnc63 := NB655_673.out; have hnb64 := NB673_659.out; have hnc64 := NB659_673.out; have hnb65 := NB673_666.out; have hnc65 := NB666_673.out; obtain ⟨hcz66_0, hcz66_1, hcz66_2⟩ := zc3 BK673; obtain ⟨hfz66_0, hfz66_1, hfz66_2⟩ := zf3 BK673; obtain ⟨Ao67, co67, eo67⟩ := Kd.R_slice HO671.out; subst eo67; obtain ⟨hcz68_0, hcz68_1, hcz68_2⟩ := zc3 BK649; obtain ⟨hfz68_0, hfz68_1, hfz68_2⟩ := zf3 BK649; obtain ⟨hcz69_0, hcz69_1, hcz69_2⟩ := zc3 BK650; obtain ⟨hfz69_0, hfz69_1, hfz69_2⟩ := zf3 BK650) | ((with_reducible refine gate_callee (f := 29) rfl ?_); refine goesL_ (some 56) rfl rfl Try.func29 (by kernel_rfl) rfl #[.agg #[.int .i64 t638, .int .i64 t639, .slice Ao19 t640.length co19], .agg #[.int .i64 t643, .int .i64 t644, .slice Ao22 t645.length co22]] rfl (by (try simp only [List.map_toArray, List.map_cons, List.map_nil]); first | done | rfl | (simp only [List.length_drop, List.length_take]; rfl)) ?_; (with_reducible refine (pack_Dot.calls k t638 t639 _ _ t640 t643 t644 _ _ t645 t674 t675 t676 _ ?side1 ?side2 ?side3 ?side4 A8.out).mono ?_); (case side1 => refine (Kd.R_reads' (e := 23) (base := w.heap.size) (ok := fun k_ => ((some k_ ≠ (.slice Ao22 t645.length co22 : Value).ownBlock ∧ some k_ ≠ (.slice Ao55 t662.length co55 : Value).ownBlock) ∧ some k_ ≠ (.slice Ao67 t669.length co67 : Value).ownBlock)) (n := t640.length) (c := co19) ?_).2.2; exact (by (with_reducible repeat refine kl ?_); exact (Kd.R_mono (Kd.R_far (p := ⟨gb673, 2, none⟩) (Kd.R_far (p := ⟨gb673, 1, none⟩) (Kd.R_far (p := ⟨gb673, 0, none⟩) (Kd.R_types HO642.out BK673.out (by decide)) (fun _ hk => hk.2) (.int .i64 t667)) (fun _ hk => hk.2) (.int .i64 t668)) (fun _ hk => hk.2) (.slice Ao67 t669.length co67)) (fun _ h_ => h_.1)))); (case side2 => exact (Kd.R_reads' HO642.out).2.1); (case side3 => refine (Kd.R_reads' (e := 23) (base := w.heap.size) (ok := fun k_ => ((some k_ ≠ (.slice Ao19 t640.length co19 : Value).ownBlock ∧ some k_ ≠ (.slice Ao55 t662.length co55 : Value).ownBlock) ∧ some k_ ≠ (.slice Ao67 t669.length co67 : Value).ownBlock)) (n := t645.length) (c := co22) ?_).2.2; exact (by (with_reducible repeat refine kl ?_); exact (Kd.R_mono (Kd.R_far (p := ⟨gb673, 2, none⟩) (Kd.R_far (p := ⟨gb673, 1, none⟩) (Kd.R_far (p := ⟨gb673, 0, none⟩) (Kd.R_types HO647.out BK673.out (by decide)) (fun _ hk => hk.2) (.int .i64 t667)) (fun _ hk => hk.2) (.int .i64 t668)) (fun _ hk => hk.2) (.slice Ao67 t669.length co67)) (fun _ h_ => h_.1)))); (case side4 => exact (Kd.R_reads' HO647.out).2.1); rintro e w70 ⟨rfl, hb⟩; refine ⟨_, rfl, ?_⟩; replace HO642 := Aside0.mk (Kd.R_below (by (with_reducible repeat refine kl ?_); exact (Kd.R_mono (Kd.R_far (p := ⟨gb673, 2, none⟩) (Kd.R_far (p := ⟨gb673, 1, none⟩) (Kd.R_far (p := ⟨gb673, 0, none⟩) (Kd.R_types HO642.out BK673.out (by decide)) (fun _ hk => hk.2) (.int .i64 t667)) (fun _ hk => hk.2) (.int .i64 t668)) (fun _ hk => hk.2) (.slice Ao67 t669.length co67)) (fun _ h_ => h_.1))) hb); replace HO647 := Aside0.mk (Kd.R_below (by (with_reducible repeat refine kl ?_); exact (Kd.R_mono (Kd.R_far (p := ⟨gb673, 2, none⟩) (Kd.R_far (p := ⟨gb673, 1, none⟩) (Kd.R_far (p := ⟨gb673, 0, none⟩) (Kd.R_types HO647.out BK673.out (by decide)) (fun _ hk => hk.2) (.int .i64 t667)) (fun _ hk => hk.2) (.int .i64 t668)) (fun _ hk => hk.2) (.slice Ao67 t669.length co67)) (fun _ h_ => h_.1))) hb); replace HO654 := Aside0.mk (Kd.R_below (by (with_reducible repeat refine kl ?_); exact (Kd.R_mono (Kd.R_far (p := ⟨gb673, 2, none⟩) (Kd.R_far (p := ⟨gb673, 1, none⟩) (Kd.R_far (p := ⟨gb673, 0, none⟩) (Kd.R_types HO654.out BK673.out (by decide)) (fun _ hk => hk.2) (.int .i64 t667)) (fun _ hk => hk.2) (.int .i64 t668)) (fun _ hk => hk.2) (.slice Ao67 t669.length co67)) (fun _ h_ => h_.1))) hb); replace HO658 := Aside0.mk (Kd.R_below (by (with_reducible repeat refine kl ?_); exact (Kd.R_mono (Kd.R_far (p := ⟨gb673, 2, none⟩) (Kd.R_far (p := ⟨gb673, 1, none⟩) (Kd.R_far (p := ⟨gb673, 0, none⟩) (Kd.R_types HO658.out BK673.out (by decide)) (fun _ hk => hk.2) (.int .i64 t667)) (fun _ hk => hk.2) (.int .i64 t668)) (fun _ hk => hk.2) (.slice Ao67 t669.length co67)) (fun _ h_ => h_.1))) hb); replace HO664 := Aside0.mk (Kd.R_below (by (with_reducible repeat refine kl ?_); exact (Kd.R_mono (Kd.R_far (p := ⟨gb673, 2, none⟩) (Kd.R_far (p := ⟨gb673, 1, none⟩) (Kd.R_far (p := ⟨gb673, 0, none⟩) (Kd.R_types HO664.out BK673.out (by decide)) (fun _ hk => hk.2) (.int .i64 t667)) (fun _ hk => hk.2) (.int .i64 t668)) (fun _ hk => hk.2) (.slice Ao67 t669.length co67)) (fun _ h_ => h_.1))) hb); replace HO671 := Aside0.mk (Kd.R_below (by (with_reducible repeat refine kl ?_); exact (Kd.R_mono (Kd.R_far (p := ⟨gb673, 2, none⟩) (Kd.R_far (p := ⟨gb673, 1, none⟩) (Kd.R_far (p := ⟨gb673, 0, none⟩) (Kd.R_types HO671.out BK673.out (by decide)) (fun _ hk => hk.2) (.int .i64 t667)) (fun _ hk => hk.2) (.int .i64 t668)) (fun _ hk => hk.2) (.slice Ao67 t669.length co67)) (fun _ h_ => h_.1))) hb); replace BK637 := Aside0.mk (blk_below (g := gb637) (o := .cells #[.int .i64 a0_0, .int .i64 a0_1, .slice A0_2 l0_2.length c0_2, .slice A0_3 l0_3.length c0_3] 49 (0, 0)) (by (with_reducible repeat refine bl ?_); refine blk_far ?_ NB637_673.out _; (with_reducible repeat refine bl ?_); refine blk_far ?_ NB637_673.out _; (with_reducible repeat refine bl ?_); refine blk_far ?_ NB637_673.out _; (with_reducible repeat refine bl ?_); exact BK637.out) hb); replace BK649 := Aside0.mk (blk_below (g := gb649) (o := .cells #[.int .i64 t638, .int .i64 t639, .slice Ao19 t640.length co19] 31 (0, 0)) (by (with_reducible repeat refine bl ?_); refine blk_far ?_ NB649_673.out _; (with_reducible repeat refine bl ?_); refine blk_far ?_ NB649_673.out _; (with_reducible repeat refine bl ?_); refine blk_far ?_ NB649_673.out _; (with_reducible repeat refine bl ?_); exact BK649.out) hb); replace BK650 := Aside0.mk (blk_below (g := gb650) (o := .cells #[.int .i64 t643, .int .i64 t644, .slice Ao22 t645.length co22] 31 (0, 0)) (by (with_reducible repeat refine bl ?_); refine blk_far ?_ NB650_673.out _; (with_reducible repeat refine bl ?_); refine blk_far ?_ NB650_673.out _; (with_reducible repeat refine bl ?_); refine blk_far ?_ NB650_673.out _; (with_reducible repeat refine bl ?_); exact BK650.out) hb); replace BK655 := Aside0.mk (blk_below (g := gb655) (o := .cells #[.int .i64 a0_0, .slice Ao29 t652.length co29] 37 (0, 0)) (by (with_reducible repeat refine bl ?_); refine blk_far ?_ NB655_673.out _; (with_reducible repeat refine bl ?_); refine blk_far ?_ NB655_673.out _; (with_reducible repeat refine bl ?_); refine blk_far ?_ NB655_673.out _; (with_reducible repeat refine bl ?_); exact BK655.out) hb); replace BK659 := Aside0.mk (blk_below (g := gb659) (o := .cells #[.int .i64 a0_1, .slice Ao38 t656.length co38] 37 (0, 0)) (by (with_reducible repeat refine bl ?_); refine blk_far ?_ NB659_673.out _; (with_reducible repeat refine bl ?_); refine blk_far ?_ NB659_673.out _; (with_reducible repeat refine bl ?_); refine blk_far ?_ NB659_673.out _; (with_reducible repeat refine bl ?_); exact BK659.out) hb); replace BK666 := Aside0.mk (blk_below (g := gb666) (o := .cells #[.int .i64 t660, .int .i64 t661, .slice Ao55 t662.length co55] 31 (0, 0)) (by (with_reducible repeat refine bl ?_); refine blk_far ?_ NB666_673.out _; (with_reducible repeat refine bl ?_); refine blk_far ?_ NB666_673.out _; (with_reducible repeat refine bl ?_); refine blk_far ?_ NB666_673.out _; (with_reducible repeat refine bl ?_); exact BK666.out) hb); replace BK673 := Aside0.mk (blk_below (g := gb673) (o := .cells #[.int .i64 t667, .int .i64 t668, .slice Ao67 t669.length co67] 31 (0, 0)) (by (with_reducible repeat refine bl ?_); refine blk_put (cs := #[.int .i64 t667, .int .i64 t668, .slice none 0 0]) ?_ 2 _ rfl; (with_reducible repeat refine bl ?_); refine blk_put (cs := #[.int .i64 t667, .int .i64 0, .slice none 0 0]) ?_ 1 _ rfl; (with_reducible repeat refine bl ?_); refine blk_put (cs := #[.int .i64 0, .int .i64 0, .slice none 0 0]) ?_ 0 _ rfl; (with_reducible repeat refine bl ?_); exact BK673.out) hb); replace HB := bh HB hb; (try clear hb); (try clear hb2); (try clear hk); (try clear hi)) | ((with_reducible refine gate_dst (N := 12) rfl ?_); refine box_event ?hg (N := 12) ?hd (cs := #[.int .u64 0, .int .u64 0]) (t := 25) ?hr ?_; (case hd => rfl); (case hg => rfl); (case hr => first | (go_simp; done) | (go_simp; rfl)); intro gb677 hg w71 hbox hb; have BK677 := Aside0.mk hbox; have GW677 := ge hg HB; have GE677 := ge hg HB; have NB637_677 := nl hg BK637; have NB677_637 := ng hg BK637; have NB649_677 := nl hg BK649; have NB677_649 := ng hg BK649; have NB650_677 := nl hg BK650; have NB677_650 := ng hg BK650; have NB655_677 := nl hg BK655; have NB677_655 := ng hg BK655; have NB659_677 := nl hg BK659; have NB677_659 := ng hg BK659; have NB666_677 := nl hg BK666; have NB677_666 := ng hg BK666; have NB673_677 := nl hg BK673; have NB677_673 := ng hg BK673; replace HO642 := kb HO642 hb; replace HO647 := kb HO647 hb; replace HO654 := kb HO654 hb; replace HO658 := kb HO658 hb; replace HO664 := kb HO664 hb; replace HO671 := kb HO671 hb; replace BK637 := bb BK637 hb; replace BK649 := bb BK649 hb; replace BK650 := bb BK650 hb; replace BK655 := bb BK655 hb; replace BK659 := bb BK659 hb; replace BK666 := bb BK666 hb; replace BK673 := bb BK673 hb; replace HB := bh HB hb; clear hb hbox hg; have hnb72 := NB677_637.out; have hnc72 := NB637_677.out; have hnb73 := NB677_649.out; have hnc73 := NB649_677.out; have hnb74 := NB677_650.out; have hnc74 := NB650_677.out; have hnb75 := NB677_655.out; have hnc75 := NB655_677.out; have hnb76 := NB677_659.out; have hnc76 := NB659_677.out; have hnb77 := NB677_666.out; have hnc77 := NB666_677.out; have hnb78 := NB677_673.out; have hnc78 := NB673_677.out; obtain ⟨hcz79_0, hcz79_1⟩ := zc2 BK677; obtain ⟨hfz79_0, hfz79_1⟩ := zf2 BK677; have hnb80 := NB655_637.out; have hnc80 := NB637_655.out; have hnb81 := NB655_659.out; have hnc81 := NB659_655.out; obtain ⟨hcz82_0, hcz82_1⟩ := zc2 BK655; obtain ⟨hfz82_0, hfz82_1⟩ := zf2 BK655; have hnb83 := NB659_637.out; have hnc83 := NB637_659.out; obtain ⟨hcz84_0, hcz84_1⟩ := zc2 BK659; obtain ⟨hfz84_0, hfz84_1⟩ := zf2 BK659) | ((with_reducible refine gate_callee (f := 30) rfl ?_); refine goesL_ (some 62) rfl rfl Try.func30 (by kernel_rfl) rfl #[.agg #[.int .i64 a0_0, .slice Ao29 t652.length co29], .agg #[.int .i64 a0_1, .slice Ao38 t656.length co38], .int .i64 0] rfl (by (try simp only [List.map_toArray, List.map_cons, List.map_nil]); first | done | rfl | (simp only [List.length_drop, List.length_take]; rfl)) ?_; (with_reducible refine (steepleref03_Both.calls k a0_0 _ _ t652 a0_1 _ _ t656 0 t678 t679 t682 _ ?side1 ?side2 ?side3 ?side4 A9.out).mono ?_); (case side1 => refine (Kd.R_reads' (e := 44) (base := w.heap.size) (ok := fun k_ => some k_ ≠ (.slice Ao38 t656.length co38 : Value).ownBlock) (n := t652.length) (c := co29) ?_).2.2; exact (by (with_reducible repeat refine kl ?_); exact (Kd.R_mono (Kd.R_far (p := ⟨gb677, 1, none⟩) (Kd.R_far (p := ⟨gb677, 0, none⟩) (Kd.R_types HO654.out BK677.out (by decide)) (fun _ hk => hk.2) (.int .u64 t674)) (fun _ hk => hk.2) (.int .u64 t675)) (fun _ h_ => h_.1)))); (case side2 => exact (Kd.R_reads' HO654.out).2.1); (case side3 => refine (Kd.R_reads' (e := 44) (base := w.heap.size) (ok := fun k_ => some k_ ≠ (.slice Ao29 t652.length co29 : Value).ownBlock) (n := t656.length) (c := co38) ?_).2.2; exact (by (with_reducible repeat refine kl ?_); exact (Kd.R_mono (Kd.R_far (p := ⟨gb677, 1, none⟩) (Kd.R_far (p := ⟨gb677, 0, none⟩) (Kd.R_types HO658.out BK677.out (by decide)) (fun _ hk => hk.2) (.int .u64 t674)) (fun _ hk => hk.2) (.int .u64 t675)) (fun _ h_ => h_.1)))); (case side4 => exact (Kd.R_reads' HO658.out).2.1); rintro e w85 ⟨v680, rfl, ho0, hb⟩; refine ⟨_, rfl, ?_⟩; have HO681 := Aside0.mk (Kd.R_lower (Kd.R_new' (Kd.R_new' ho0 (Kd.R_lt (by (with_reducible repeat refine kl ?_); exact (Kd.R_mono (Kd.R_far (p := ⟨gb677, 1, none⟩) (Kd.R_far (p := ⟨gb677, 0, none⟩) (Kd.R_types HO654.out BK677.out (by decide)) (fun _ hk => hk.2) (.int .u64 t674)) (fun _ hk => hk.2) (.int .u64 t675)) (fun _ h_ => h_.1))))) (Kd.R_lt (by (with_reducible repeat refine kl ?_); exact (Kd.R_mono (Kd.R_far (p := ⟨gb677, 1, none⟩) (Kd.R_far (p := ⟨gb677, 0, none⟩) (Kd.R_types HO658.out BK677.out (by decide)) (fun _ hk => hk.2) (.int .u64 t674)) (fun _ hk => hk.2) (.int .u64 t675)) (fun _ h_ => h_.1))))) (below_size (bq HB.out))); replace HO642 := Aside0.mk (Kd.R_below (by (with_reducible repeat refine kl ?_); exact (Kd.R_mono (Kd.R_far (p := ⟨gb677, 1, none⟩) (Kd.R_far (p := ⟨gb677, 0, none⟩) (Kd.R_types HO642.out BK677.out (by decide)) (fun _ hk => hk.2) (.int .u64 t674)) (fun _ hk => hk.2) (.int .u64 t675)) (fun _ h_ => h_.1))) hb); replace HO647 := Aside0.mk (Kd.R_below (by (with_reducible repeat refine kl ?_); exact (Kd.R_mono (Kd.R_far (p := ⟨gb677, 1, none⟩) (Kd.R_far (p := ⟨gb677, 0, none⟩) (Kd.R_types HO647.out BK677.out (by decide)) (fun _ hk => hk.2) (.int .u64 t674)) (fun _ hk => hk.2) (.int .u64 t675)) (fun _ h_ => h_.1))) hb); replace HO654 := Aside0.mk (Kd.R_elder' (by (with_reducible repeat refine kl ?_); exact (Kd.R_mono (Kd.R_far (p := ⟨gb677, 1, none⟩) (Kd.R_far (p := ⟨gb677, 0, none⟩) (Kd.R_types HO654.out BK677.out (by decide)) (fun _ hk => hk.2) (.int .u64 t674)) (fun _ hk => hk.2) (.int .u64 t675)) (fun _ h_ => h_.1))) (Kd.R_base ho0) hb); replace HO658 := Aside0.mk (Kd.R_elder' (by (with_reducible repeat refine kl ?_); exact (Kd.R_mono (Kd.R_far (p := ⟨gb677, 1, none⟩) (Kd.R_far (p := ⟨gb677, 0, none⟩) (Kd.R_types HO658.out BK677.out (by decide)) (fun _ hk => hk.2) (.int .u64 t674)) (fun _ hk => hk.2) (.int .u64 t675)) (fun _ h_ => h_.1))) (Kd.R_base ho0) hb); replace HO664 := Aside0.mk (Kd.R_below (by (with_reducible repeat refine kl ?_); exact (Kd.R_mono (Kd.R_far (p := ⟨gb677, 1, none⟩) (Kd.R_far (p := ⟨gb677, 0, none⟩) (Kd.R_types HO664.out BK677.out (by decide)) (fun _ hk => hk.2) (.int .u64 t674)) (fun _ hk => hk.2) (.int .u64 t675)) (fun _ h_ => h_.1))) hb); replace HO671 := Aside0.mk (Kd.R_below (by (with_reducible repeat refine kl ?_); exact (Kd.R_mono (Kd.R_far (p := ⟨gb677, 1, none⟩) (Kd.R_far (p := ⟨gb677, 0, none⟩) (Kd.R_types HO671.out BK677.out (by decide)) (fun _ hk => hk.2) (.int .u64 t674)) (fun _ hk => hk.2) (.int .u64 t675)) (fun _ h_ => h_.1))) hb); replace BK637 := Aside0.mk (blk_below (g := gb637) (o := .cells #[.int .i64 a0_0, .int .i64 a0_1, .slice A0_2 l0_2.length c0_2, .slice A0_3 l0_3.length c0_3] 49 (0, 0)) (by (with_reducible repeat refine bl ?_); refine blk_far ?_ NB637_677.out _; (with_reducible repeat refine bl ?_); refine blk_far ?_ NB637_677.out _; (with_reducible repeat refine bl ?_); exact BK637.out) hb); replace BK649 := Aside0.mk (blk_below (g := gb649) (o := .cells #[.int .i64 t638, .int .i64 t639, .slice Ao19 t640.length co19] 31 (0, 0)) (by (with_reducible repeat refine bl ?_); refine blk_far ?_ NB649_677.out _; (with_reducible repeat refine bl ?_); refine blk_far ?_ NB649_677.out _; (with_reducible repeat refine bl ?_); exact BK649.out) hb); replace BK650 := Aside0.mk (blk_below (g := gb650) (o := .cells #[.int .i64 t643, .int .i64 t644, .slice Ao22 t645.length co22] 31 (0, 0)) (by (with_reducible repeat refine bl ?_); refine blk_far ?_ NB650_677.out _; (with_reducible repeat refine bl ?_); refine blk_far ?_ NB650_677.out _; (with_reducible repeat refine bl ?_); exact BK650.out) hb); replace BK655 := Aside0.mk (blk_below (g := gb655) (o := .cells #[.int .i64 a0_0, .slice Ao29 t652.length co29] 37 (0, 0)) (by (with_reducible repeat refine bl ?_); refine blk_far ?_ NB655_677.out _; (with_reducible repeat refine bl ?_); refine blk_far ?_ NB655_677.out _; (with_reducible repeat refine bl ?_); exact BK655.out) hb); replace BK659 := Aside0.mk (blk_below (g := gb659) (o := .cells #[.int .i64 a0_1, .slice Ao38 t656.length co38] 37 (0, 0)) (by (with_reducible repeat refine bl ?_); refine blk_far ?_ NB659_677.out _; (with_reducible repeat refine bl ?_); refine blk_far ?_ NB659_677.out _; (with_reducible repeat refine bl ?_); exact BK659.out) hb); replace BK666 := Aside0.mk (blk_below (g := gb666) (o := .cells #[.int .i64 t660, .int .i64 t661, .slice Ao55 t662.length co55] 31 (0, 0)) (by (with_reducible repeat refine bl ?_); refine blk_far ?_ NB666_677.out _; (with_reducible repeat refine bl ?_); refine blk_far ?_ NB666_677.out _; (with_reducible repeat refine bl ?_); exact BK666.out) hb); replace BK673 := Aside0.mk (blk_below (g := gb673) (o := .cells #[.int .i64 t667, .int .i64 t668, .slice Ao67 t669.length co67] 31 (0, 0)) (by (with_reducible repeat refine bl ?_); refine blk_far ?_ NB673_677.out _; (with_reducible repeat refine bl ?_); refine blk_far ?_ NB673_677.out _; (with_reducible repeat refine bl ?_); exact BK673.out) hb); replace BK677 := Aside0.mk (blk_below (g := gb677) (o := .cells #[.int .u64 t674, .int .u64 t675] 25 (0, 0)) (by (with_reducible repeat refine bl ?_); refine blk_put (cs := #[.int .u64 t674, .int .u64 0]) ?_ 1 _ rfl; (with_reducible repeat refine bl ?_); refine blk_put (cs := #[.int .u64 0, .int .u64 0]) ?_ 0 _ rfl; (with_reducible repeat refine bl ?_); exact BK677.out) hb); replace HB := bh HB hb; (try clear hb); (try clear hb2); (try clear hk); (try clear hi); (try clear ho0)) | ((with_reducible refine gate_dst (N := 14) rfl ?_); refine box_event ?hg (N := 14) ?hd (cs := #[.int .i64 0, .slice none 0 0]) (t := 37) ?hr ?_; (case hd => rfl); (case hg => rfl); (case hr => first | (go_simp; done) | (go_simp; rfl)); intro gb683 hg w86 hbox hb; have BK683 := Aside0.mk hbox; have GW683 := ge hg HB; have GE683 := ge hg HB; have NB637_683 := nl hg BK637; have NB683_637 := ng hg BK637; have NB649_683 := nl hg BK649; have NB683_649 := ng hg BK649; have NB650_683 := nl hg BK650; have NB683_650 := ng hg BK650; have NB655_683 := nl hg BK655; have NB683_655 := ng hg BK655; have NB659_683 := nl hg BK659; have NB683_659 := ng hg BK659; have NB666_683 := nl hg BK666; have NB683_666 := ng hg BK666; have NB673_683 := nl hg BK673; have NB683_673 := ng hg BK673; have NB677_683 := nl hg BK677; have NB683_677 := ng hg BK677; replace HO642 := kb HO642 hb; replace HO647 := kb HO647 hb; replace HO654 := kb HO654 hb; replace HO658 := kb HO658 hb; replace HO664 := kb HO664 hb; replace HO671 := kb HO671 hb; replace HO681 := kb HO681 hb; replace BK637 := bb BK637 hb; replace BK649 := bb BK649 hb; replace BK650 := bb BK650 hb; replace BK655 := bb BK655 hb; replace BK659 := bb BK659 hb; replace BK666 := bb BK666 hb; replace BK673 := bb BK673 hb; replace BK677 := bb BK677 hb; replace HB := bh HB hb; clear hb hbox hg; have hnb87 := NB683_637.out; have hnc87 := NB637_683.out; have hnb88 := NB683_649.out; have hnc88 := NB649_683.out; have hnb89 := NB683_650.out; have hnc89 := NB650_683.out; have hnb90 := NB683_655.out; have hnc90 := NB655_683.out; have hnb91 := NB683_659.out; have hnc91 := NB659_683.out; have hnb92 := NB683_666.out; have hnc92 := NB666_683.out; have hnb93 := NB683_673.out; have hnc93 := NB673_683.out; have hnb94 := NB683_677.out; have hnc94 := NB677_683.out; obtain ⟨hcz95_0, hcz95_1⟩ := zc2 BK683; obtain ⟨hfz95_0, hfz95_1⟩ := zf2 BK683; obtain ⟨Ao96, co96, eo96⟩ := Kd.R_slice HO681.out; subst eo96; obtain ⟨hcz97_0, hcz97_1⟩ := zc2 BK655; obtain ⟨hfz97_0, hfz97_1⟩ := zf2 BK655; obtain ⟨hcz98_0, hcz98_1⟩ := zc2 BK659; obtain ⟨hfz98_0, hfz98_1⟩ := zf2 BK659) | ((with_reducible refine gate_callee (f := 30) rfl ?_); refine goesL_ (some 68) rfl rfl Try.func30 (by kernel_rfl) rfl #[.agg #[.int .i64 a0_0, .slice Ao29 t652.length co29], .agg #[.int .i64 a0_1, .slice Ao38 t656.length co38], .int .i64 1] rfl (by (try simp only [List.map_toArray, List.map_cons, List.map_nil]); first | done | rfl | (simp only [List.length_drop, List.length_take]; rfl)) ?_; (with_reducible refine (steepleref03_Both.calls k a0_0 _ _ t652 a0_1 _ _ t656 1 t684 t685 t688 _ ?side1 ?side2 ?side3 ?side4 A10.out).mono ?_); (case side1 => refine (Kd.R_reads' (e := 44) (base := w.heap.size) (ok := fun k_ => (some k_ ≠ (.slice Ao38 t656.length co38 : Value).ownBlock ∧ some k_ ≠ (.slice Ao96 t679.length co96 : Value).ownBlock)) (n := t652.length) (c := co29) ?_).2.2; exact (by (with_reducible repeat refine kl ?_); exact (Kd.R_mono (Kd.R_far (p := ⟨gb683, 1, none⟩) (Kd.R_far (p := ⟨gb683, 0, none⟩) (Kd.R_types HO654.out BK683.out (by decide)) (fun _ hk => hk.2) (.int .i64 t678)) (fun _ hk => hk.2) (.slice Ao96 t679.length co96)) (fun _ h_ => h_.1)))); (case side2 => exact (Kd.R_reads' HO654.out).2.1); (case side3 => refine (Kd.R_reads' (e := 44) (base := w.heap.size) (ok := fun k_ => (some k_ ≠ (.slice Ao29 t652.length co29 : Value).ownBlock ∧ some k_ ≠ (.slice Ao96 t679.length co96 : Value).ownBlock)) (n := t656.length) (c := co38) ?_).2.2; exact (by (with_reducible repeat refine kl ?_); exact (Kd.R_mono (Kd.R_far (p := ⟨gb683, 1, none⟩) (Kd.R_far (p := ⟨gb683, 0, none⟩) (Kd.R_types HO658.out BK683.out (by decide)) (fun _ hk => hk.2) (.int .i64 t678)) (fun _ hk => hk.2) (.slice Ao96 t679.length co96)) (fun _ h_ => h_.1)))); (case side4 => exact (Kd.R_reads' HO658.out).2.1); rintro e w99 ⟨v686, rfl, ho0, hb⟩; refine ⟨_, rfl, ?_⟩; have HO687 := Aside0.mk (Kd.R_lower (Kd.R_new' (Kd.R_new' (Kd.R_new' ho0 (Kd.R_lt (by (with_reducible repeat refine kl ?_); exact (Kd.R_mono (Kd.R_far (p := ⟨gb683, 1, none⟩) (Kd.R_far (p := ⟨gb683, 0, none⟩) (Kd.R_types HO654.out BK683.out (by decide)) (fun _ hk => hk.2) (.int .i64 t678)) (fun _ hk => hk.2) (.slice Ao96 t679.length co96)) (fun _ h_ => h_.1))))) (Kd.R_lt (by (with_reducible repeat refine kl ?_); exact (Kd.R_mono (Kd.R_far (p := ⟨gb683, 1, none⟩) (Kd.R_far (p := ⟨gb683, 0, none⟩) (Kd.R_types HO658.out BK683.out (by decide)) (fun _ hk => hk.2) (.int .i64 t678)) (fun _ hk => hk.2) (.slice Ao96 t679.length co96)) (fun _ h_ => h_.1))))) (Kd.R_lt (by (with_reducible repeat refine kl ?_); exact (Kd.R_mono (Kd.R_far (p := ⟨gb683, 1, none⟩) (Kd.R_far (p := ⟨gb683, 0, none⟩) (Kd.R_types HO681.out BK683.out (by decide)) (fun _ hk => hk.2) (.int .i64 t678)) (fun _ hk => hk.2) (.slice Ao96 t679.length co96)) (fun _ h_ => h_.1))))) (below_size (bq HB.out))); replace HO642 := Aside0.mk (Kd.R_below (by (with_reducible repeat refine kl ?_); exact (Kd.R_mono (Kd.R_far (p := ⟨gb683, 1, none⟩) (Kd.R_far (p := ⟨gb683, 0, none⟩) (Kd.R_types HO642.out BK683.out (by decide)) (fun _ hk => hk.2) (.int .i64 t678)) (fun _ hk => hk.2) (.slice Ao96 t679.length co96)) (fun _ h_ => h_.1))) hb); replace HO647 := Aside0.mk (Kd.R_below (by (with_reducible repeat refine kl ?_); exact (Kd.R_mono (Kd.R_far (p := ⟨gb683, 1, none⟩) (Kd.R_far (p := ⟨gb683, 0, none⟩) (Kd.R_types HO647.out BK683.out (by decide)) (fun _ hk => hk.2) (.int .i64 t678)) (fun _ hk => hk.2) (.slice Ao96 t679.length co96)) (fun _ h_ => h_.1))) hb); replace HO654 := Aside0.mk (Kd.R_elder' (by (with_reducible repeat refine kl ?_); exact (Kd.R_mono (Kd.R_far (p := ⟨gb683, 1, none⟩) (Kd.R_far (p := ⟨gb683, 0, none⟩) (Kd.R_types HO654.out BK683.out (by decide)) (fun _ hk => hk.2) (.int .i64 t678)) (fun _ hk => hk.2) (.slice Ao96 t679.length co96)) (fun _ h_ => h_.1))) (Kd.R_base ho0) hb); replace HO658 := Aside0.mk (Kd.R_elder' (by (with_reducible repeat refine kl ?_); exact (Kd.R_mono (Kd.R_far (p := ⟨gb683, 1, none⟩) (Kd.R_far (p := ⟨gb683, 0, none⟩) (Kd.R_types HO658.out BK683.out (by decide)) (fun _ hk => hk.2) (.int .i64 t678)) (fun _ hk => hk.2) (.slice Ao96 t679.length co96)) (fun _ h_ => h_.1))) (Kd.R_base ho0) hb); replace HO664 := Aside0.mk (Kd.R_below (by (with_reducible repeat refine kl ?_); exact (Kd.R_mono (Kd.R_far (p := ⟨gb683, 1, none⟩) (Kd.R_far (p := ⟨gb683, 0, none⟩) (Kd.R_types HO664.out BK683.out (by decide)) (fun _ hk => hk.2) (.int .i64 t678)) (fun _ hk => hk.2) (.slice Ao96 t679.length co96)) (fun _ h_ => h_.1))) hb); replace HO671 := Aside0.mk (Kd.R_below (by (with_reducible repeat refine kl ?_); exact (Kd.R_mono (Kd.R_far (p := ⟨gb683, 1, none⟩) (Kd.R_far (p := ⟨gb683, 0, none⟩) (Kd.R_types HO671.out BK683.out (by decide)) (fun _ hk => hk.2) (.int .i64 t678)) (fun _ hk => hk.2) (.slice Ao96 t679.length co96)) (fun _ h_ => h_.1))) hb); replace HO681 := Aside0.mk (Kd.R_elder' (by (with_reducible repeat refine kl ?_); exact (Kd.R_mono (Kd.R_far (p := ⟨gb683, 1, none⟩) (Kd.R_far (p := ⟨gb683, 0, none⟩) (Kd.R_types HO681.out BK683.out (by decide)) (fun _ hk => hk.2) (.int .i64 t678)) (fun _ hk => hk.2) (.slice Ao96 t679.length co96)) (fun _ h_ => h_.1))) (Kd.R_base ho0) hb); replace BK637 := Aside0.mk (blk_below (g := gb637) (o := .cells #[.int .i64 a0_0, .int .i64 a0_1, .slice A0_2 l0_2.length c0_2, .slice A0_3 l0_3.length c0_3] 49 (0, 0)) (by (with_reducible repeat refine bl ?_); refine blk_far ?_ NB637_683.out _; (with_reducible repeat refine bl ?_); refine blk_far ?_ NB637_683.out _; (with_reducible repeat refine bl ?_); exact BK637.out) hb); replace BK649 := Aside0.mk (blk_below (g := gb649) (o := .cells #[.int .i64 t638, .int .i64 t639, .slice Ao19 t640.length co19] 31 (0, 0)) (by (with_reducible repeat refine bl ?_); refine blk_far ?_ NB649_683.out _; (with_reducible repeat refine bl ?_); refine blk_far ?_ NB649_683.out _; (with_reducible repeat refine bl ?_); exact BK649.out) hb); replace BK650 := Aside0.mk (blk_below (g := gb650) (o := .cells #[.int .i64 t643, .int .i64 t644, .slice Ao22 t645.length co22] 31 (0, 0)) (by (with_reducible repeat refine bl ?_); refine blk_far ?_ NB650_683.out _; (with_reducible repeat refine bl ?_); refine blk_far ?_ NB650_683.out _; (with_reducible repeat refine bl ?_); exact BK650.out) hb); replace BK655 := Aside0.mk (blk_below (g := gb655) (o := .cells #[.int .i64 a0_0, .slice Ao29 t652.length co29] 37 (0, 0)) (by (with_reducible repeat refine bl ?_); refine blk_far ?_ NB655_683.out _; (with_reducible repeat refine bl ?_); refine blk_far ?_ NB655_683.out _; (with_reducible repeat refine bl ?_); exact BK655.out) hb); replace BK659 := Aside0.mk (blk_below (g := gb659) (o := .cells #[.int .i64 a0_1, .slice Ao38 t656.length co38] 37 (0, 0)) (by (with_reducible repeat refine bl ?_); refine blk_far ?_ NB659_683.out _; (with_reducible repeat refine bl ?_); refine blk_far ?_ NB659_683.out _; (with_reducible repeat refine bl ?_); exact BK659.out) hb); replace BK666 := Aside0.mk (blk_below (g := gb666) (o := .cells #[.int .i64 t660, .int .i64 t661, .slice Ao55 t662.length co55] 31 (0, 0)) (by (with_reducible repeat refine bl ?_); refine blk_far ?_ NB666_683.out _; (with_reducible repeat refine bl ?_); refine blk_far ?_ NB666_683.out _; (with_reducible repeat refine bl ?_); exact BK666.out) hb); replace BK673 := Aside0.mk (blk_below (g := gb673) (o := .cells #[.int .i64 t667, .int .i64 t668, .slice Ao67 t669.length co67] 31 (0, 0)) (by (with_reducible repeat refine bl ?_); refine blk_far ?_ NB673_683.out _; (with_reducible repeat refine bl ?_); refine blk_far ?_ NB673_683.out _; (with_reducible repeat refine bl ?_); exact BK673.out) hb); replace BK677 := Aside0.mk (blk_below (g := gb677) (o := .cells #[.int .u64 t674, .int .u64 t675] 25 (0, 0)) (by (with_reducible repeat refine bl ?_); refine blk_far ?_ NB677_683.out _; (with_reducible repeat refine bl ?_); refine blk_far ?_ NB677_683.out _; (with_reducible repeat refine bl ?_); exact BK677.out) hb); replace BK683 := Aside0.mk (blk_below (g := gb683) (o := .cells #[.int .i64 t678, .slice Ao96 t679.length co96] 37 (0, 0)) (by (with_reducible repeat refine bl ?_); refine blk_put (cs := #[.int .i64 t678, .slice none 0 0]) ?_ 1 _ rfl; (with_reducible repeat refine bl ?_); refine blk_put (cs := #[.int .i64 0, .slice none 0 0]) ?_ 0 _ rfl; (with_reducible repeat refine bl ?_); exact BK683.out) hb); replace HB := bh HB hb; (try clear hb); (try clear hb2); (try clear hk); (try clear hi); (try clear ho0)) | ((with_reducible refine gate_dst (N := 16) rfl ?_); refine box_event ?hg (N := 16) ?hd (cs := #[.int .i64 0, .slice none 0 0]) (t := 37) ?hr ?_; (case hd => rfl); (case hg => rfl); (case hr => first | (go_simp; done) | (go_simp; rfl)); intro gb689 hg w100 hbox hb; have BK689 := Aside0.mk hbox; have GW689 := ge hg HB; have GE689 := ge hg HB; have NB637_689 := nl hg BK637; have NB689_637 := ng hg BK637; have NB649_689 := nl hg BK649; have NB689_649 := ng hg BK649; have NB650_689 := nl hg BK650; have NB689_650 := ng hg BK650; have NB655_689 := nl hg BK655; have NB689_655 := ng hg BK655; have NB659_689 := nl hg BK659; have NB689_659 := ng hg BK659; have NB666_689 := nl hg BK666; have NB689_666 := ng hg BK666; have NB673_689 := nl hg BK673; have NB689_673 := ng hg BK673; have NB677_689 := nl hg BK677; have NB689_677 := ng hg BK677; have NB683_689 := nl hg BK683; have NB689_683 := ng hg BK683; replace HO642 := kb HO642 hb; replace HO647 := kb HO647 hb; replace HO654 := kb HO654 hb; replace HO658 := kb HO658 hb; replace HO664 := kb HO664 hb; replace HO671 := kb HO671 hb; replace HO681 := kb HO681 hb; replace HO687 := kb HO687 hb; replace BK637 := bb BK637 hb; replace BK649 := bb BK649 hb; replace BK650 := bb BK650 hb; replace BK655 := bb BK655 hb; replace BK659 := bb BK659 hb; replace BK666 := bb BK666 hb; replace BK673 := bb BK673 hb; replace BK677 := bb BK677 hb; replace BK683 := bb BK683 hb; replace HB := bh HB hb; clear hb hbox hg; have hnb101 := NB689_637.out; have hnc101 := NB637_689.out; have hnb102 := NB689_649.out; have hnc102 := NB649_689.out; have hnb103 := NB689_650.out; have hnc103 := NB650_689.out; have hnb104 := NB689_655.out; have hnc104 := NB655_689.out; have hnb105 := NB689_659.out; have hnc105 := NB659_689.out; have hnb106 := NB689_666.out; have hnc106 := NB666_689.out; have hnb107 := NB689_673.out; have hnc107 := NB673_689.out; have hnb108 := NB689_677.out; have hnc108 := NB677_689.out; have hnb109 := NB689_683.out; have hnc109 := NB683_689.out; obtain ⟨hcz110_0, hcz110_1⟩ := zc2 BK689; obtain ⟨hfz110_0, hfz110_1⟩ := zf2 BK689; obtain ⟨Ao111, co111, eo111⟩ := Kd.R_slice HO687.out; subst eo111) | ((with_reducible refine gate_dst (N := 18) rfl ?_); refine box_event ?hg (N := 18) ?hd (cs := #[.int .u64 0, .int .u64 0]) (t := 44) ?hr ?_; (case hd => rfl); (case hg => rfl); (case hr => first | (go_simp; done) | (go_simp; rfl)); intro gb690 hg w112 hbox hb; have BK690 := Aside0.mk hbox; have GW690 := ge hg HB; have GE690 := ge hg HB; have NB637_690 := Aside0.mk ((by rw [hg]; exact Nat.ne_of_lt (blk_lt (g := gb637) (o := .cells #[.int .i64 a0_0, .int .i64 a0_1, .slice A0_2 l0_2.length c0_2, .slice A0_3 l0_3.length c0_3] 49 (0, 0)) (by (with_reducible repeat refine bl ?_); refine blk_far ?_ NB637_689.out _; (with_reducible repeat refine bl ?_); refine blk_far ?_ NB637_689.out _; (with_reducible repeat refine bl ?_); exact BK637.out)) : gb637 ≠ gb690)); have NB690_637 := Aside0.mk ((by rw [hg]; exact Nat.ne_of_gt (blk_lt (g := gb637) (o := .cells #[.int .i64 a0_0, .int .i64 a0_1, .slice A0_2 l0_2.length c0_2, .slice A0_3 l0_3.length c0_3] 49 (0, 0)) (by (with_reducible repeat refine bl ?_); refine blk_far ?_ NB637_689.out _; (with_reducible repeat refine bl ?_); refine blk_far ?_ NB637_689.out _; (with_reducible repeat refine bl ?_); exact BK637.out)) : gb690 ≠ gb637)); have NB649_690 := Aside0.mk ((by rw [hg]; exact Nat.ne_of_lt (blk_lt (g := gb649) (o := .cells #[.int .i64 t638, .int .i64 t639, .slice Ao19 t640.length co19] 31 (0, 0)) (by (with_reducible repeat refine bl ?_); refine blk_far ?_ NB649_689.out _; (with_reducible repeat refine bl ?_); refine blk_far ?_ NB649_689.out _; (with_reducible repeat refine bl ?_); exact BK649.out)) : gb649 ≠ gb690)); have NB690_649 := Aside0.mk ((by rw [hg]; exact Nat.ne_of_gt (blk_lt (g := gb649) (o := .cells #[.int .i64 t638, .int .i64 t639, .slice Ao19 t640.length co19] 31 (0, 0)) (by (with_reducible repeat refine bl ?_); refine blk_far ?_ NB649_689.out _; (with_reducible repeat refine bl ?_); refine blk_far ?_ NB649_689.out _; (with_reducible repeat refine bl ?_); exact BK649.out)) : gb690 ≠ gb649)); have NB650_690 := Aside0.mk ((by rw [hg]; exact Nat.ne_of_lt (blk_lt (g := gb650) (o := .cells #[.int .i64 t643, .int .i64 t644, .slice Ao22 t645.length co22] 31 (0, 0)) (by (with_reducible repeat refine bl ?_); refine blk_far ?_ NB650_689.out _; (with_reducible repeat refine bl ?_); refine blk_far ?_ NB650_689.out _; (with_reducible repeat refine bl ?_); exact BK650.out)) : gb650 ≠ gb690)); have NB690_650 := Aside0.mk ((by rw [hg]; exact Nat.ne_of_gt (blk_lt (g := gb650) (o := .cells #[.int .i64 t643, .int .i64 t644, .slice Ao22 t645.length co22] 31 (0, 0)) (by (with_reducible repeat refine bl ?_); refine blk_far ?_ NB650_689.out _; (with_reducible repeat refine bl ?_); refine blk_far ?_ NB650_689.out _; (with_reducible repeat refine bl ?_); exact BK650.out)) : gb690 ≠ gb650)); have NB655_690 := Aside0.mk ((by rw [hg]; exact Nat.ne_of_lt (blk_lt (g := gb655) (o := .cells #[.int .i64 a0_0, .slice Ao29 t652.length co29] 37 (0, 0)) (by (with_reducible repeat refine bl ?_); refine blk_far ?_ NB655_689.out _; (with_reducible repeat refine bl ?_); refine blk_far ?_ NB655_689.out _; (with_reducible repeat refine bl ?_); exact BK655.out)) : gb655 ≠ gb690)); have NB690_655 := Aside0.mk ((by rw [hg]; exact Nat.ne_of_gt (blk_lt (g := gb655) (o := .cells #[.int .i64 a0_0, .slice Ao29 t652.length co29] 37 (0, 0)) (by (with_reducible repeat refine bl ?_); refine blk_far ?_ NB655_689.out _; (with_reducible repeat refine bl ?_); refine blk_far ?_ NB655_689.out _; (with_reducible repeat refine bl ?_); exact BK655.out)) : gb690 ≠ gb655)); have NB659_690 := Aside0.mk ((by rw [hg]; exact Nat.ne_of_lt (blk_lt (g := gb659) (o := .cells #[.int .i64 a0_1, .slice Ao38 t656.length co38] 37 (0, 0)) (by (with_reducible repeat refine bl ?_); refine blk_far ?_ NB659_689.out _; (with_reducible repeat refine bl ?_); refine blk_far ?_ NB659_689.out _; (with_reducible repeat refine bl ?_); exact BK659.out)) : gb659 ≠ gb690)); have NB690_659 := Aside0.mk ((by rw [hg]; exact Nat.ne_of_gt (blk_lt (g := gb659) (o := .cells #[.int .i64 a0_1, .slice Ao38 t656.length co38] 37 (0, 0)) (by (with_reducible repeat refine bl ?_); refine blk_far ?_ NB659_689.out _; (with_reducible repeat refine bl ?_); refine blk_far ?_ NB659_689.out _; (with_reducible repeat refine bl ?_); exact BK659.out)) : gb690 ≠ gb659)); have NB666_690 := Aside0.mk ((by rw [hg]; exact Nat.ne_of_lt (blk_lt (g := gb666) (o := .cells #[.int .i64 t660, .int .i64 t661, .slice Ao55 t662.length co55] 31 (0, 0)) (by (with_reducible repeat refine bl ?_); refine blk_far ?_ NB666_689.out _; (with_reducible repeat refine bl ?_); refine blk_far ?_ NB666_689.out _; (with_reducible repeat refine bl ?_); exact BK666.out)) : gb666 ≠ gb690)); have NB690_666 := Aside0.mk ((by rw [hg]; exact Nat.ne_of_gt (blk_lt (g := gb666) (o := .cells #[.int .i64 t660, .int .i64 t661, .slice Ao55 t662.length co55] 31 (0, 0)) (by (with_reducible repeat refine bl ?_); refine blk_far ?_ NB666_689.out _; (with_reducible repeat refine bl ?_); refine blk_far ?_ NB666_689.out _; (with_reducible repeat refine bl ?_); exact BK666.out)) : gb690 ≠ gb666)); have NB673_690 := Aside0.mk ((by rw [hg]; exact Nat.ne_of_lt (blk_lt (g := gb673) (o := .cells #[.int .i64 t667, .int .i64 t668, .slice Ao67 t669.length co67] 31 (0, 0)) (by (with_reducible repeat refine bl ?_); refine blk_far ?_ NB673_689.out _; (with_reducible repeat refine bl ?_); refine blk_far ?_ NB673_689.out _; (with_reducible repeat refine bl ?_); exact BK673.out)) : gb673 ≠ gb690)); have NB690_673 := Aside0.mk ((by rw [hg]; exact Nat.ne_of_gt (blk_lt (g := gb673) (o := .cells #[.int .i64 t667, .int .i64 t668, .slice Ao67 t669.length co67] 31 (0, 0)) (by (with_reducible repeat refine bl ?_); refine blk_far ?_ NB673_689.out _; (with_reducible repeat refine bl ?_); refine blk_far ?_ NB673_689.out _; (with_reducible repeat refine bl ?_); exact BK673.out)) : gb690 ≠ gb673)); have NB677_690 := Aside0.mk ((by rw [hg]; exact Nat.ne_of_lt (blk_lt (g := gb677) (o := .cells #[.int .u64 t674, .int .u64 t675] 25 (0, 0)) (by (with_reducible repeat refine bl ?_); refine blk_far ?_ NB677_689.out _; (with_reducible repeat refine bl ?_); refine blk_far ?_ NB677_689.out _; (with_reducible repeat refine bl ?_); exact BK677.out)) : gb677 ≠ gb690)); have NB690_677 := Aside0.mk ((by rw [hg]; exact Nat.ne_of_gt (blk_lt (g := gb677) (o := .cells #[.int .u64 t674, .int .u64 t675] 25 (0, 0)) (by (with_reducible repeat refine bl ?_); refine blk_far ?_ NB677_689.out _; (with_reducible repeat refine bl ?_); refine blk_far ?_ NB677_689.out _; (with_reducible repeat refine bl ?_); exact BK677.out)) : gb690 ≠ gb677)); have NB683_690 := Aside0.mk ((by rw [hg]; exact Nat.ne_of_lt (blk_lt (g := gb683) (o := .cells #[.int .i64 t678, .slice Ao96 t679.length co96] 37 (0, 0)) (by (with_reducible repeat refine bl ?_); refine blk_far ?_ NB683_689.out _; (with_reducible repeat refine bl ?_); refine blk_far ?_ NB683_689.out _; (with_reducible repeat refine bl ?_); exact BK683.out)) : gb683 ≠ gb690)); have NB690_683 := Aside0.mk ((by rw [hg]; exact Nat.ne_of_gt (blk_lt (g := gb683) (o := .cells #[.int .i64 t678, .slice Ao96 t679.length co96] 37 (0, 0)) (by (with_reducible repeat refine bl ?_); refine blk_far ?_ NB683_689.out _; (with_reducible repeat refine bl ?_); refine blk_far ?_ NB683_689.out _; (with_reducible repeat refine bl ?_); exact BK683.out)) : gb690 ≠ gb683)); have NB689_690 := Aside0.mk ((by rw [hg]; exact Nat.ne_of_lt (blk_lt (g := gb689) (o := .cells #[.int .i64 t684, .slice Ao111 t685.length co111] 37 (0, 0)) (by (with_reducible repeat refine bl ?_); refine blk_put (cs := #[.int .i64 t684, .slice none 0 0]) ?_ 1 _ rfl; (with_reducible repeat refine bl ?_); refine blk_put (cs := #[.int .i64 0, .slice none 0 0]) ?_ 0 _ rfl; (with_reducible repeat refine bl ?_); exact BK689.out)) : gb689 ≠ gb690)); have NB690_689 := Aside0.mk ((by rw [hg]; exact Nat.ne_of_gt (blk_lt (g := gb689) (o := .cells #[.int .i64 t684, .slice Ao111 t685.length co111] 37 (0, 0)) (by (with_reducible repeat refine bl ?_); refine blk_put (cs := #[.int .i64 t684, .slice none 0 0]) ?_ 1 _ rfl; (with_reducible repeat refine bl ?_); refine blk_put (cs := #[.int .i64 0, .slice none 0 0]) ?_ 0 _ rfl; (with_reducible repeat refine bl ?_); exact BK689.out)) : gb690 ≠ gb689)); replace HO642 := Aside0.mk (Kd.R_below (by (with_reducible repeat refine kl ?_); exact (Kd.R_mono (Kd.R_far (p := ⟨gb689, 1, none⟩) (Kd.R_far (p := ⟨gb689, 0, none⟩) (Kd.R_types HO642.out BK689.out (by decide)) (fun _ hk => hk.2) (.int .i64 t684)) (fun _ hk => hk.2) (.slice Ao111 t685.length co111)) (fun _ h_ => h_.1))) hb); replace HO647 := Aside0.mk (Kd.R_below (by (with_reducible repeat refine kl ?_); exact (Kd.R_mono (Kd.R_far (p := ⟨gb689, 1, none⟩) (Kd.R_far (p := ⟨gb689, 0, none⟩) (Kd.R_types HO647.out BK689.out (by decide)) (fun _ hk => hk.2) (.int .i64 t684)) (fun _ hk => hk.2) (.slice Ao111 t685.length co111)) (fun _ h_ => h_.1))) hb); replace HO654 := Aside0.mk (Kd.R_below (Kd.R_elderB (by (with_reducible repeat refine kl ?_); exact (Kd.R_mono (Kd.R_far (p := ⟨gb689, 1, none⟩) (Kd.R_far (p := ⟨gb689, 0, none⟩) (Kd.R_types HO654.out BK689.out (by decide)) (fun _ hk => hk.2) (.int .i64 t684)) (fun _ hk => hk.2) (.slice Ao111 t685.length co111)) (fun _ h_ => h_.1))) gb690 (Nat.le_of_eq hg.symm)) hb); replace HO658 := Aside0.mk (Kd.R_below (Kd.R_elderB (by (with_reducible repeat refine kl ?_); exact (Kd.R_mono (Kd.R_far (p := ⟨gb689, 1, none⟩) (Kd.R_far (p := ⟨gb689, 0, none⟩) (Kd.R_types HO658.out BK689.out (by decide)) (fun _ hk => hk.2) (.int .i64 t684)) (fun _ hk => hk.2) (.slice Ao111 t685.length co111)) (fun _ h_ => h_.1))) gb690 (Nat.le_of_eq hg.symm)) hb); replace HO664 := Aside0.mk (Kd.R_below (by (with_reducible repeat refine kl ?_); exact (Kd.R_mono (Kd.R_far (p := ⟨gb689, 1, none⟩) (Kd.R_far (p := ⟨gb689, 0, none⟩) (Kd.R_types HO664.out BK689.out (by decide)) (fun _ hk => hk.2) (.int .i64 t684)) (fun _ hk => hk.2) (.slice Ao111 t685.length co111)) (fun _ h_ => h_.1))) hb); replace HO671 := Aside0.mk (Kd.R_below (by (with_reducible repeat refine kl ?_); exact (Kd.R_mono (Kd.R_far (p := ⟨gb689, 1, none⟩) (Kd.R_far (p := ⟨gb689, 0, none⟩) (Kd.R_types HO671.out BK689.out (by decide)) (fun _ hk => hk.2) (.int .i64 t684)) (fun _ hk => hk.2) (.slice Ao111 t685.length co111)) (fun _ h_ => h_.1))) hb); replace HO681 := Aside0.mk (Kd.R_below (Kd.R_elderB (by (with_reducible repeat refine kl ?_); exact (Kd.R_mono (Kd.R_far (p := ⟨gb689, 1, none⟩) (Kd.R_far (p := ⟨gb689, 0, none⟩) (Kd.R_types HO681.out BK689.out (by decide)) (fun _ hk => hk.2) (.int .i64 t684)) (fun _ hk => hk.2) (.slice Ao111 t685.length co111)) (fun _ h_ => h_.1))) gb690 (Nat.le_of_eq hg.symm)) hb); replace HO687 := Aside0.mk (Kd.R_below (Kd.R_elderB (by (with_reducible repeat refine kl ?_); exact (Kd.R_mono (Kd.R_far (p := ⟨gb689, 1, none⟩) (Kd.R_far (p := ⟨gb689, 0, none⟩) (Kd.R_types HO687.out BK689.out (by decide)) (fun _ hk => hk.2) (.int .i64 t684)) (fun _ hk => hk.2) (.slice Ao111 t685.length co111)) (fun _ h_ => h_.1))) gb690 (Nat.le_of_eq hg.symm)) hb); replace BK637 := Aside0.mk (blk_below (g := gb637) (o := .cells #[.int .i64 a0_0, .int .i64 a0_1, .slice A0_2 l0_2.length c0_2, .slice A0_3 l0_3.length c0_3] 49 (0, 0)) (by (with_reducible repeat refine bl ?_); refine blk_far ?_ NB637_689.out _; (with_reducible repeat refine bl ?_); refine blk_far ?_ NB637_689.out _; (with_reducible repeat refine bl ?_); exact BK637.out) hb); replace BK649 := Aside0.mk (blk_below (g := gb649) (o := .cells #[.int .i64 t638, .int .i64 t639, .slice Ao19 t640.length co19] 31 (0, 0)) (by (with_reducible repeat refine bl ?_); refine blk_far ?_ NB649_689.out _; (with_reducible repeat refine bl ?_); refine blk_far ?_ NB649_689.out _; (with_reducible repeat refine bl ?_); exact BK649.out) hb); replace BK650 := Aside0.mk (blk_below (g := gb650) (o := .cells #[.int .i64 t643, .int .i64 t644, .slice Ao22 t645.length co22] 31 (0, 0)) (by (with_reducible repeat refine bl ?_); refine blk_far ?_ NB650_689.out _; (with_reducible repeat refine bl ?_); refine blk_far ?_ NB650_689.out _; (with_reducible repeat refine bl ?_); exact BK650.out) hb); replace BK655 := Aside0.mk (blk_below (g := gb655) (o := .cells #[.int .i64 a0_0, .slice Ao29 t652.length co29] 37 (0, 0)) (by (with_reducible repeat refine bl ?_); refine blk_far ?_ NB655_689.out _; (with_reducible repeat refine bl ?_); refine blk_far ?_ NB655_689.out _; (with_reducible repeat refine bl ?_); exact BK655.out) hb); replace BK659 := Aside0.mk (blk_below (g := gb659) (o := .cells #[.int .i64 a0_1, .slice Ao38 t656.length co38] 37 (0, 0)) (by (with_reducible repeat refine bl ?_); refine blk_far ?_ NB659_689.out _; (with_reducible repeat refine bl ?_); refine blk_far ?_ NB659_689.out _; (with_reducible repeat refine bl ?_); exact BK659.out) hb); replace BK666 := Aside0.mk (blk_below (g := gb666) (o := .cells #[.int .i64 t660, .int .i64 t661, .slice Ao55 t662.length co55] 31 (0, 0)) (by (with_reducible repeat refine bl ?_); refine blk_far ?_ NB666_689.out _; (with_reducible repeat refine bl ?_); refine blk_far ?_ NB666_689.out _; (with_reducible repeat refine bl ?_); exact BK666.out) hb); replace BK673 := Aside0.mk (blk_below (g := gb673) (o := .cells #[.int .i64 t667, .int .i64 t668, .slice Ao67 t669.length co67] 31 (0, 0)) (by (with_reducible repeat refine bl ?_); refine blk_far ?_ NB673_689.out _; (with_reducible repeat refine bl ?_); refine blk_far ?_ NB673_689.out _; (with_reducible repeat refine bl ?_); exact BK673.out) hb); replace BK677 := Aside0.mk (blk_below (g := gb677) (o := .cells #[.int .u64 t674, .int .u64 t675] 25 (0, 0)) (by (with_reducible repeat refine bl ?_); refine blk_far ?_ NB677_689.out _; (with_reducible repeat refine bl ?_); refine blk_far ?_ NB677_689.out _; (with_reducible repeat refine bl ?_); exact BK677.out) hb); replace BK683 := Aside0.mk (blk_below (g := gb683) (o := .cells #[.int .i64 t678, .slice Ao96 t679.length co96] 37 (0, 0)) (by (with_reducible repeat refine bl ?_); refine blk_far ?_ NB683_689.out _; (with_reducible repeat refine bl ?_); refine blk_far ?_ NB683_689.out _; (with_reducible repeat refine bl ?_); exact BK683.out) hb); replace BK689 := Aside0.mk (blk_below (g := gb689) (o := .cells #[.int .i64 t684, .slice Ao111 t685.length co111] 37 (0, 0)) (by (with_reducible repeat refine bl ?_); refine blk_put (cs := #[.int .i64 t684, .slice none 0 0]) ?_ 1 _ rfl; (with_reducible repeat refine bl ?_); refine blk_put (cs := #[.int .i64 0, .slice none 0 0]) ?_ 0 _ rfl; (with_reducible repeat refine bl ?_); exact BK689.out) hb); replace HB := bh HB hb; clear hb hbox hg))
  go_loopg [19] k (fun kq v19 w' => ∃ (x19_1 : Int) (x691000_1 : Int) (x691001_1 : Int), v19 = .int .i64 x19_1 ∧ Aside0 (steeplelaw03_PackReckons.l0 kq t665 t672 t676 t682 t688 x19_1 t638 t639 t640 t643 t644 t645 a0_0 t652 a0_1 t656 t660 t661 t662 t667 t668 t669 t674 t675 t678 t679 t684 t685 x691000_1 x691001_1 = some r) ∧ Aside0 (kq ≤ k) ∧ Aside0 (Kd.R (Kd.int .u64) 23 w' w.heap.size (fun k_ => some k_ ≠ ((.slice Ao22 t645.length co22) : Value).ownBlock ∧ some k_ ≠ ((.slice Ao55 t662.length co55) : Value).ownBlock ∧ some k_ ≠ ((.slice Ao67 t669.length co67) : Value).ownBlock) (.slice Ao19 t640.length co19) t640) ∧ Aside0 (Kd.R (Kd.int .u64) 23 w' w.heap.size (fun k_ => some k_ ≠ ((.slice Ao19 t640.length co19) : Value).ownBlock ∧ some k_ ≠ ((.slice Ao55 t662.length co55) : Value).ownBlock ∧ some k_ ≠ ((.slice Ao67 t669.length co67) : Value).ownBlock) (.slice Ao22 t645.length co22) t645) ∧ Aside0 (Kd.R k44 44 w' w.heap.size (fun k_ => some k_ ≠ ((.slice Ao38 t656.length co38) : Value).ownBlock ∧ some k_ ≠ ((.slice Ao96 t679.length co96) : Value).ownBlock ∧ some k_ ≠ ((.slice Ao111 t685.length co111) : Value).ownBlock ∧ k_ ≠ gb690) (.slice Ao29 t652.length co29) t652) ∧ Aside0 (Kd.R k44 44 w' w.heap.size (fun k_ => some k_ ≠ ((.slice Ao29 t652.length co29) : Value).ownBlock ∧ some k_ ≠ ((.slice Ao96 t679.length co96) : Value).ownBlock ∧ some k_ ≠ ((.slice Ao111 t685.length co111) : Value).ownBlock ∧ k_ ≠ gb690) (.slice Ao38 t656.length co38) t656) ∧ Aside0 (Kd.R (Kd.int .u64) 23 w' w.heap.size (fun k_ => some k_ ≠ ((.slice Ao19 t640.length co19) : Value).ownBlock ∧ some k_ ≠ ((.slice Ao22 t645.length co22) : Value).ownBlock ∧ some k_ ≠ ((.slice Ao67 t669.length co67) : Value).ownBlock) (.slice Ao55 t662.length co55) t662) ∧ Aside0 (Kd.R (Kd.int .u64) 23 w' w.heap.size (fun k_ => some k_ ≠ ((.slice Ao19 t640.length co19) : Value).ownBlock ∧ some k_ ≠ ((.slice Ao22 t645.length co22) : Value).ownBlock ∧ some k_ ≠ ((.slice Ao55 t662.length co55) : Value).ownBlock) (.slice Ao67 t669.length co67) t669) ∧ Aside0 (Kd.R k44 44 w' w.heap.size (fun k_ => some k_ ≠ ((.slice Ao29 t652.length co29) : Value).ownBlock ∧ some k_ ≠ ((.slice Ao38 t656.length co38) : Value).ownBlock ∧ some k_ ≠ ((.slice Ao111 t685.length co111) : Value).ownBlock ∧ k_ ≠ gb690) (.slice Ao96 t679.length co96) t679) ∧ Aside0 (Kd.R k44 44 w' w.heap.size (fun k_ => some k_ ≠ ((.slice Ao29 t652.length co29) : Value).ownBlock ∧ some k_ ≠ ((.slice Ao38 t656.length co38) : Value).ownBlock ∧ some k_ ≠ ((.slice Ao96 t679.length co96) : Value).ownBlock ∧ k_ ≠ gb690) (.slice Ao111 t685.length co111) t685) ∧ Aside0 (w'.heap[gb637]? = some (.cells #[.int .i64 a0_0, .int .i64 a0_1, (.slice A0_2 l0_2.length c0_2), (.slice A0_3 l0_3.length c0_3)] 49 (0, 0))) ∧ Aside0 (w'.heap[gb649]? = some (.cells #[.int .i64 t638, .int .i64 t639, (.slice Ao19 t640.length co19)] 31 (0, 0))) ∧ Aside0 (w'.heap[gb650]? = some (.cells #[.int .i64 t643, .int .i64 t644, (.slice Ao22 t645.length co22)] 31 (0, 0))) ∧ Aside0 (w'.heap[gb655]? = some (.cells #[.int .i64 a0_0, (.slice Ao29 t652.length co29)] 37 (0, 0))) ∧ Aside0 (w'.heap[gb659]? = some (.cells #[.int .i64 a0_1, (.slice Ao38 t656.length co38)] 37 (0, 0))) ∧ Aside0 (w'.heap[gb666]? = some (.cells #[.int .i64 t660, .int .i64 t661, (.slice Ao55 t662.length co55)] 31 (0, 0))) ∧ Aside0 (w'.heap[gb673]? = some (.cells #[.int .i64 t667, .int .i64 t668, (.slice Ao67 t669.length co67)] 31 (0, 0))) ∧ Aside0 (w'.heap[gb677]? = some (.cells #[.int .u64 t674, .int .u64 t675] 25 (0, 0))) ∧ Aside0 (w'.heap[gb683]? = some (.cells #[.int .i64 t678, (.slice Ao96 t679.length co96)] 37 (0, 0))) ∧ Aside0 (w'.heap[gb689]? = some (.cells #[.int .i64 t684, (.slice Ao111 t685.length co111)] 37 (0, 0))) ∧ Aside0 (w'.heap[gb690]? = some (.cells #[.int .u64 x691000_1, .int .u64 x691001_1] 44 (0, 0))) ∧ Aside0 (Below w.heap.size w w'))
  case atStart => exact ⟨(0), (0), (0), (by first | rfl | (simp; done) | (simp [*]; done)), H', ⟨Nat.le_refl _⟩, ⟨by (with_reducible repeat refine kl ?_); exact Kd.R_mono HO642.out (fun _ hk => ⟨hk.1.1, ⟨hk.1.2, hk.2⟩⟩)⟩, ⟨by (with_reducible repeat refine kl ?_); exact Kd.R_mono HO647.out (fun _ hk => ⟨hk.1.1, ⟨hk.1.2, hk.2⟩⟩)⟩, ⟨by (with_reducible repeat refine kl ?_); exact Kd.R_mono HO654.out (fun _ hk => ⟨hk.1.1.1, ⟨hk.1.1.2, ⟨hk.1.2, hk.2⟩⟩⟩)⟩, ⟨by (with_reducible repeat refine kl ?_); exact Kd.R_mono HO658.out (fun _ hk => ⟨hk.1.1.1, ⟨hk.1.1.2, ⟨hk.1.2, hk.2⟩⟩⟩)⟩, ⟨by (with_reducible repeat refine kl ?_); exact Kd.R_mono HO664.out (fun _ hk => ⟨hk.1.1.2, ⟨hk.1.2, hk.2⟩⟩)⟩, ⟨by (with_reducible repeat refine kl ?_); exact Kd.R_mono HO671.out (fun _ hk => ⟨hk.1.1.2, ⟨hk.1.2, hk.2⟩⟩)⟩, ⟨by (with_reducible repeat refine kl ?_); exact Kd.R_mono HO681.out (fun _ hk => ⟨hk.1.1.1.2, ⟨hk.1.1.2, ⟨hk.1.2, hk.2⟩⟩⟩)⟩, ⟨by (with_reducible repeat refine kl ?_); exact Kd.R_mono HO687.out (fun _ hk => ⟨hk.1.1.1.2, ⟨hk.1.1.2, ⟨hk.1.2, hk.2⟩⟩⟩)⟩, ⟨bk BK637.out⟩, ⟨bk BK649.out⟩, ⟨bk BK650.out⟩, ⟨bk BK655.out⟩, ⟨bk BK659.out⟩, ⟨bk BK666.out⟩, ⟨bk BK673.out⟩, ⟨bk BK677.out⟩, ⟨bk BK683.out⟩, ⟨bk BK689.out⟩, ⟨bk BK690.out⟩, ⟨bq HB.out⟩⟩
  case round =>
   clear H'
   try clear c1
   try clear c2
   try clear p2
   try clear c3
   try clear c4
   try clear c5
   try clear c6
   try clear c7
   try clear c8
   try clear c9
   try clear c10
   try clear c11
   try clear c21
   try clear c28
   try clear c29
   try clear c30
   try clear c41
   try clear c42
   try clear c44
   try clear c45
   try clear c49
   try clear c50
   try clear c51
   try clear c52
   try clear c53
   try clear c60
   try clear c61
   try clear c62
   try clear c63
   try clear c64
   try clear c65
   try clear c72
   try clear c73
   try clear c74
   try clear c75
   try clear c76
   try clear c77
   try clear c78
   try clear c80
   try clear c81
   try clear c83
   try clear c87
   try clear c88
   try clear c89
   try clear c90
   try clear c91
   try clear c92
   try clear c93
   try clear c94
   try clear c101
   try clear c102
   try clear c103
   try clear c104
   try clear c105
   try clear c106
   try clear c107
   try clear c108
   try clear c109
   try clear hcz110_0
   try clear hcz110_1
   try clear hcz43_0
   try clear hcz43_1
   try clear hcz43_2
   try clear hcz46_0
   try clear hcz46_1
   try clear hcz46_2
   try clear hcz54_0
   try clear hcz54_1
   try clear hcz54_2
   try clear hcz56_0
   try clear hcz56_1
   try clear hcz56_2
   try clear hcz57_0
   try clear hcz57_1
   try clear hcz57_2
   try clear hcz66_0
   try clear hcz66_1
   try clear hcz66_2
   try clear hcz68_0
   try clear hcz68_1
   try clear hcz68_2
   try clear hcz69_0
   try clear hcz69_1
   try clear hcz69_2
   try clear hcz79_0
   try clear hcz79_1
   try clear hcz82_0
   try clear hcz82_1
   try clear hcz84_0
   try clear hcz84_1
   try clear hcz95_0
   try clear hcz95_1
   try clear hcz97_0
   try clear hcz97_1
   try clear hcz98_0
   try clear hcz98_1
   try clear hfz110_0
   try clear hfz110_1
   try clear hfz43_0
   try clear hfz43_1
   try clear hfz43_2
   try clear hfz46_0
   try clear hfz46_1
   try clear hfz46_2
   try clear hfz54_0
   try clear hfz54_1
   try clear hfz54_2
   try clear hfz56_0
   try clear hfz56_1
   try clear hfz56_2
   try clear hfz57_0
   try clear hfz57_1
   try clear hfz57_2
   try clear hfz66_0
   try clear hfz66_1
   try clear hfz66_2
   try clear hfz68_0
   try clear hfz68_1
   try clear hfz68_2
   try clear hfz69_0
   try clear hfz69_1
   try clear hfz69_2
   try clear hfz79_0
   try clear hfz79_1
   try clear hfz82_0
   try clear hfz82_1
   try clear hfz84_0
   try clear hfz84_1
   try clear hfz95_0
   try clear hfz95_1
   try clear hfz97_0
   try clear hfz97_1
   try clear hfz98_0
   try clear hfz98_1
   obtain ⟨x19_1, x691000_1, x691001_1, rfl, HA, HK1, HO_650002, HO_651002, HO_656001, HO_660001, HO_667002, HO_674002, HO_684001, HO_690001, BK637, BK649, BK650, BK655, BK659, BK666, BK673, BK677, BK683, BK689, BK690, HB⟩ := hrel
   cases gk with
   | zero => exact absurd HA.out (by simp [steeplelaw03_PackReckons.l0])
   | succ k1 =>
    have H := HA.out
    clear HA
    simp only [steeplelaw03_PackReckons.l0] at H
    by_cases c113 : x19_1 < (t685.length : Int)
    ·rw [if_pos c113] at H
     have c113b0 : decide (x19_1 < (t685.length : Int)) = true := decide_eq_true c113
     clear c113
     by_cases c114 : 0 ≤ x19_1
     ·rw [if_pos c114] at H
      have c114b0 : decide (0 ≤ x19_1) = true := decide_eq_true c114
      clear c114
      replace H := Option.bind_eq_some_iff.mp H
      obtain ⟨⟨t692, t693⟩, A1150, H⟩ := H
      replace H : (steeplelaw03_PackReckons.l0 k1 t665 t672 t676 t682 t688 (wrap64 (x19_1 + 1)) t638 t639 t640 t643 t644 t645 a0_0 t652 a0_1 t656 t660 t661 t662 t667 t668 t669 t674 t675 t678 t679 t684 t685 t692 t693) = some r := H
      have A115 := Aside0.mk A1150
      clear A1150
      have H' := Aside0.mk H
      clear H
      have hnb116 := NB689_637.out
      have hnc116 := NB637_689.out
      have hnb117 := NB689_649.out
      have hnc117 := NB649_689.out
      have hnb118 := NB689_650.out
      have hnc118 := NB650_689.out
      have hnb119 := NB689_655.out
      have hnc119 := NB655_689.out
      have hnb120 := NB689_659.out
      have hnc120 := NB659_689.out
      have hnb121 := NB689_666.out
      have hnc121 := NB666_689.out
      have hnb122 := NB689_673.out
      have hnc122 := NB673_689.out
      have hnb123 := NB689_677.out
      have hnc123 := NB677_689.out
      have hnb124 := NB689_683.out
      have hnc124 := NB683_689.out
      have hnb125 := NB689_690.out
      have hnc125 := NB690_689.out
      obtain ⟨hcz126_0, hcz126_1⟩ := zc2 BK689
      obtain ⟨hfz126_0, hfz126_1⟩ := zf2 BK689
      try go_wp2
      replace HO_650002 := Aside0.mk (Kd.R_drew HO_650002.out)
      replace HO_651002 := Aside0.mk (Kd.R_drew HO_651002.out)
      replace HO_656001 := Aside0.mk (Kd.R_drew HO_656001.out)
      replace HO_660001 := Aside0.mk (Kd.R_drew HO_660001.out)
      replace HO_667002 := Aside0.mk (Kd.R_drew HO_667002.out)
      replace HO_674002 := Aside0.mk (Kd.R_drew HO_674002.out)
      replace HO_684001 := Aside0.mk (Kd.R_drew HO_684001.out)
      replace HO_690001 := Aside0.mk (Kd.R_drew HO_690001.out)
      replace BK637 := Aside0.mk (blk_drew BK637.out)
      replace BK649 := Aside0.mk (blk_drew BK649.out)
      replace BK650 := Aside0.mk (blk_drew BK650.out)
      replace BK655 := Aside0.mk (blk_drew BK655.out)
      replace BK659 := Aside0.mk (blk_drew BK659.out)
      replace BK666 := Aside0.mk (blk_drew BK666.out)
      replace BK673 := Aside0.mk (blk_drew BK673.out)
      replace BK677 := Aside0.mk (blk_drew BK677.out)
      replace BK683 := Aside0.mk (blk_drew BK683.out)
      replace BK689 := Aside0.mk (blk_drew BK689.out)
      replace BK690 := Aside0.mk (blk_drew BK690.out)
      replace HB := Aside0.mk (below_drew1 HB.out)
      have p691 : 0 ≤ (x19_1 : Int) := of_decide_eq_true (by first | (with_reducible assumption) | assumption)
      have q691 : x19_1 < (t685.length : Int) := of_decide_eq_true (by first | (with_reducible assumption) | assumption)
      (try (obtain ⟨Ap_, cp_, ep_⟩ := Kd.R_slice HO_690001.out; subst ep_))
      obtain ⟨ad691, e691, hx691_0, hx691_1⟩ := at_T44 (Kd.R_reads' HO_690001.out).2.2 x19_1 p691 q691
      cases e691
      replace p691 := eq_true p691
      replace q691 := eq_true q691
      refine start_ (n := 8) (S := fun w' => w'.cell? ⟨gb690, 0, none⟩ = some (.int .u64 x691000_1) ∧ w'.cell? ⟨gb690, 1, none⟩ = some (.int .u64 x691001_1) ∧ w'.cell? ⟨gb689, 0, none⟩ = some (.int .i64 t684) ∧ w'.cell? ⟨gb689, 1, none⟩ = some (.slice (some ad691) t685.length co111) ∧ w'.cell? (ad691.add ((x19_1).toNat * 2)) = some (.int .u64 ((rd_T44 t685 x19_1).f0)) ∧ w'.cell? ⟨(ad691.add ((x19_1).toNat * 2)).block, (ad691.add ((x19_1).toNat * 2)).off + 1, none⟩ = some (.int .u64 ((rd_T44 t685 x19_1).f1))) (ds := [7]) #[false, false, false, false, false, false, false, false] (by kernel_rfl) rfl rfl ⟨(blk_cell BK690.out 0).trans rfl, (blk_cell BK690.out 1).trans rfl, (blk_cell BK689.out 0).trans rfl, (blk_cell BK689.out 1).trans rfl, hx691_0, hx691_1⟩ (fun hHeld => ?_); refine with_tabW steeplelaw03_PackReckons.tab15 steeplelaw03_PackReckons.bits15 (fun HT_ HW_ => ?_)
      generalize wr.drew = w127 at HO_650002 HO_651002 HO_656001 HO_660001 HO_667002 HO_674002 HO_684001 HO_690001 BK637 BK649 BK650 BK655 BK659 BK666 BK673 BK677 BK683 BK689 BK690 HB hx691_0 hx691_1 hHeld ⊢
      refine pure_ (i := 1) (N := some 79) (v := ?_) (a' := ?_) #[false, true, false, false, false, false, false, false] rfl rfl (any_of HT_.out (by kernel_rfl)) (fun _ _ _ h => h) (Or.inl ⟨by rfl, ?_⟩) ?_ ?_
      rotate_left
      ·intro w'
       go_simp
       with_reducible rfl
      rotate_left
      ·simp only [Act.put, List.setIfInBounds_toArray, List.set_cons_zero, List.set_cons_succ, i64_w, i32_w]
       rfl
      refine pure_ (i := 3) (N := some 81) (v := ?_) (a' := ?_) #[false, true, false, true, false, false, false, false] rfl rfl (any_of HT_.out (by kernel_rfl)) (fun _ _ _ h => h) (Or.inl ⟨by rfl, ?_⟩) ?_ ?_
      rotate_left
      ·intro w'
       go_simp
       with_reducible rfl
      rotate_left
      ·simp only [Act.put, List.setIfInBounds_toArray, List.set_cons_zero, List.set_cons_succ, i64_w, i32_w]
       rfl
      refine take_ (i := 0) (N := some 78) (v := ?_) (a' := ?_) #[true, true, false, true, false, false, false, false] rfl rfl (take_ofW HT_.out HW_.out (by kernel_rfl)) (fun _ _ _ h => h) (Or.inl ⟨by rfl, ?_⟩) hHeld ?_ ?_
      rotate_left
      ·rintro w' ⟨s0, s1, s2, s3, s4, s5⟩
       go_simp
       with_reducible rfl
      rotate_left
      ·simp only [Act.put, List.setIfInBounds_toArray, List.set_cons_zero, List.set_cons_succ, i64_w, i32_w]
       rfl
      refine take_ (i := 2) (N := some 80) (v := ?_) (a' := ?_) #[true, true, true, true, false, false, false, false] rfl rfl (take_ofW HT_.out HW_.out (by kernel_rfl)) (fun _ _ _ h => h) (Or.inl ⟨by rfl, ?_⟩) hHeld ?_ ?_
      rotate_left
      ·rintro w' ⟨s0, s1, s2, s3, s4, s5⟩
       go_simp
       with_reducible rfl
      rotate_left
      ·simp only [Act.put, List.setIfInBounds_toArray, List.set_cons_zero, List.set_cons_succ, i64_w, i32_w]
       rfl
      refine pure_ (i := 4) (N := some 82) (v := ?_) (a' := ?_) #[true, true, true, true, true, false, false, false] rfl rfl (any_of HT_.out (by kernel_rfl)) (fun _ _ _ h => h) (Or.inl ⟨by rfl, ?_⟩) ?_ ?_
      rotate_left
      ·intro w'
       go_simp
       with_reducible rfl
      rotate_left
      ·simp only [Act.put, List.setIfInBounds_toArray, List.set_cons_zero, List.set_cons_succ, i64_w, i32_w]
       rfl
      refine take_ (i := 5) (N := some 83) (v := ?_) (a' := ?_) #[true, true, true, true, true, true, false, false] rfl rfl (take_ofW HT_.out HW_.out (by kernel_rfl)) (fun _ _ _ h => h) (Or.inl ⟨by rfl, ?_⟩) hHeld ?_ ?_
      rotate_left
      ·rintro w' ⟨s0, s1, s2, s3, s4, s5⟩
       go_simp
       with_reducible rfl
      rotate_left
      ·simp only [Act.put, List.setIfInBounds_toArray, List.set_cons_zero, List.set_cons_succ, i64_w, i32_w]
       rfl
      refine one_ (i := 6) (N := some 84) #[true, true, true, true, true, true, true, false] rfl rfl (one_of HT_.out (by kernel_rfl)) (by decide) (fun K hK => ?_)
      refine goes_ Try.func31 (by kernel_rfl) rfl #[.agg #[.int .u64 x691000_1, .int .u64 x691001_1], .agg #[.int .u64 ((rd_T44 t685 x19_1).f0), .int .u64 ((rd_T44 t685 x19_1).f1)]] (by rfl) rfl rfl (by (try simp only [List.map_toArray, List.map_cons, List.map_nil]); first | done | rfl | (simp only [List.length_drop, List.length_take]; rfl)) ?_
      with_reducible refine (steepleref02_Add.calls x691000_1 x691001_1 ((rd_T44 t685 x19_1).f0) ((rd_T44 t685 x19_1).f1) t692 t693 _ A115.out).mono ?_
      rintro e w128 ⟨rfl, hb⟩
      have HS4_ := (hb.cell (World.block_lt_of_cell? _ _ (hHeld.2.2.2.2.1))).trans (hHeld.2.2.2.2.1)
      have HS5_ := (hb.cell (World.block_lt_of_cell? _ _ (hHeld.2.2.2.2.2))).trans (hHeld.2.2.2.2.2)
      refine ⟨_, rfl, ?_⟩
      replace HO_650002 := kb HO_650002 hb
      replace HO_651002 := kb HO_651002 hb
      replace HO_656001 := kb HO_656001 hb
      replace HO_660001 := kb HO_660001 hb
      replace HO_667002 := kb HO_667002 hb
      replace HO_674002 := kb HO_674002 hb
      replace HO_684001 := kb HO_684001 hb
      replace HO_690001 := kb HO_690001 hb
      replace BK637 := bb BK637 hb
      replace BK649 := bb BK649 hb
      replace BK650 := bb BK650 hb
      replace BK655 := bb BK655 hb
      replace BK659 := bb BK659 hb
      replace BK666 := bb BK666 hb
      replace BK673 := bb BK673 hb
      replace BK677 := bb BK677 hb
      replace BK683 := bb BK683 hb
      replace BK689 := bb BK689 hb
      replace BK690 := bb BK690 hb
      replace HB := bh HB hb
      (try clear hb)
      (try clear hb2)
      (try clear hk)
      (try clear hi)
      refine hK.out _ _ ⟨(blk_cell BK690.out 0).trans rfl, (blk_cell BK690.out 1).trans rfl, (blk_cell BK689.out 0).trans rfl, (blk_cell BK689.out 1).trans rfl, HS4_, HS5_⟩ (fun hHeld => ?_)
      clear hK K
      refine norm_ (a' := ?_) ?_ ?_
      rotate_left
      ·show Act.put _ (some 84) _ = _
       simp only [Act.put, List.setIfInBounds_toArray, List.set_cons_zero, List.set_cons_succ, i64_w, i32_w]
       rfl
      refine last_ (i := 7) (N := none) #[true, true, true, true, true, true, true, true] rfl rfl (one_of HT_.out (by kernel_rfl)) (by decide) (fun K hK => ?_)
      have hs129 : w128.cell? ⟨gb690, 0, none⟩ = some (.int .u64 x691000_1) := (blk_cell BK690.out 0).trans rfl
      have hfs129 := blk_frozen BK690.out 0
      have hns129_0 := NB637_690.out
      have hns129_1 := NB649_690.out
      have hns129_2 := NB650_690.out
      have hns129_3 := NB655_690.out
      have hns129_4 := NB659_690.out
      have hns129_5 := NB666_690.out
      have hns129_6 := NB673_690.out
      have hns129_7 := NB677_690.out
      have hns129_8 := NB683_690.out
      have hns129_9 := NB689_690.out
      have hms129_0 := NB690_637.out
      have hms129_1 := NB690_649.out
      have hms129_2 := NB690_650.out
      have hms129_3 := NB690_655.out
      have hms129_4 := NB690_659.out
      have hms129_5 := NB690_666.out
      have hms129_6 := NB690_673.out
      have hms129_7 := NB690_677.out
      have hms129_8 := NB690_683.out
      have hms129_9 := NB690_689.out
      have hs130 : w128.cell? ⟨gb690, 1, none⟩ = some (.int .u64 x691001_1) := (blk_cell BK690.out 1).trans rfl
      have hfs130 := blk_frozen BK690.out 1
      have hns130_0 := NB637_690.out
      have hns130_1 := NB649_690.out
      have hns130_2 := NB650_690.out
      have hns130_3 := NB655_690.out
      have hns130_4 := NB659_690.out
      have hns130_5 := NB666_690.out
      have hns130_6 := NB673_690.out
      have hns130_7 := NB677_690.out
      have hns130_8 := NB683_690.out
      have hns130_9 := NB689_690.out
      have hms130_0 := NB690_637.out
      have hms130_1 := NB690_649.out
      have hms130_2 := NB690_650.out
      have hms130_3 := NB690_655.out
      have hms130_4 := NB690_659.out
      have hms130_5 := NB690_666.out
      have hms130_6 := NB690_673.out
      have hms130_7 := NB690_677.out
      have hms130_8 := NB690_683.out
      have hms130_9 := NB690_689.out
      refine skip_ (w1 := ?_) (by rfl) rfl ?_ ?_
      rotate_left
      ·go_simp
       rfl
      refine hK.out _ _ ?_
      clear hK K
      refine done_ (done_of HT_.out (by kernel_rfl)) ?_
      try go_wp2
      go_roundg k1
      case measure => have := HK1.out; omega
      case rel => exact ⟨(wrap64 (x19_1 + 1)), (t692), (t693), (by first | rfl | (simp; done) | (simp [*]; done)), H', ⟨by have := HK1.out; omega⟩, ⟨by (with_reducible repeat refine kl ?_); exact Kd.R_mono (Kd.R_far (p := ⟨gb690, 1, none⟩) (Kd.R_far (p := ⟨gb690, 0, none⟩) (Kd.R_types HO_650002.out BK690.out (by decide)) (fun _ hk => hk.2) (.int .u64 t692)) (fun _ hk => hk.2) (.int .u64 t693)) (fun _ hk => ⟨hk.1.1, ⟨hk.1.2.1, hk.1.2.2⟩⟩)⟩, ⟨by (with_reducible repeat refine kl ?_); exact Kd.R_mono (Kd.R_far (p := ⟨gb690, 1, none⟩) (Kd.R_far (p := ⟨gb690, 0, none⟩) (Kd.R_types HO_651002.out BK690.out (by decide)) (fun _ hk => hk.2) (.int .u64 t692)) (fun _ hk => hk.2) (.int .u64 t693)) (fun _ hk => ⟨hk.1.1, ⟨hk.1.2.1, hk.1.2.2⟩⟩)⟩, ⟨by (with_reducible repeat refine kl ?_); exact Kd.R_mono (Kd.R_far (p := ⟨gb690, 1, none⟩) (Kd.R_far (p := ⟨gb690, 0, none⟩) (Kd.R_mono HO_656001.out (fun k_ hk => (⟨hk, hk.2.2.2⟩ : _ ∧ k_ ≠ gb690))) (fun _ hk => hk.2) (.int .u64 t692)) (fun _ hk => hk.2) (.int .u64 t693)) (fun _ hk => ⟨hk.1.1, ⟨hk.1.2.1, ⟨hk.1.2.2.1, hk.1.2.2.2⟩⟩⟩)⟩, ⟨by (with_reducible repeat refine kl ?_); exact Kd.R_mono (Kd.R_far (p := ⟨gb690, 1, none⟩) (Kd.R_far (p := ⟨gb690, 0, none⟩) (Kd.R_mono HO_660001.out (fun k_ hk => (⟨hk, hk.2.2.2⟩ : _ ∧ k_ ≠ gb690))) (fun _ hk => hk.2) (.int .u64 t692)) (fun _ hk => hk.2) (.int .u64 t693)) (fun _ hk => ⟨hk.1.1, ⟨hk.1.2.1, ⟨hk.1.2.2.1, hk.1.2.2.2⟩⟩⟩)⟩, ⟨by (with_reducible repeat refine kl ?_); exact Kd.R_mono (Kd.R_far (p := ⟨gb690, 1, none⟩) (Kd.R_far (p := ⟨gb690, 0, none⟩) (Kd.R_types HO_667002.out BK690.out (by decide)) (fun _ hk => hk.2) (.int .u64 t692)) (fun _ hk => hk.2) (.int .u64 t693)) (fun _ hk => ⟨hk.1.1, ⟨hk.1.2.1, hk.1.2.2⟩⟩)⟩, ⟨by (with_reducible repeat refine kl ?_); exact Kd.R_mono (Kd.R_far (p := ⟨gb690, 1, none⟩) (Kd.R_far (p := ⟨gb690, 0, none⟩) (Kd.R_types HO_674002.out BK690.out (by decide)) (fun _ hk => hk.2) (.int .u64 t692)) (fun _ hk => hk.2) (.int .u64 t693)) (fun _ hk => ⟨hk.1.1, ⟨hk.1.2.1, hk.1.2.2⟩⟩)⟩, ⟨by (with_reducible repeat refine kl ?_); exact Kd.R_mono (Kd.R_far (p := ⟨gb690, 1, none⟩) (Kd.R_far (p := ⟨gb690, 0, none⟩) (Kd.R_mono HO_684001.out (fun k_ hk => (⟨hk, hk.2.2.2⟩ : _ ∧ k_ ≠ gb690))) (fun _ hk => hk.2) (.int .u64 t692)) (fun _ hk => hk.2) (.int .u64 t693)) (fun _ hk => ⟨hk.1.1, ⟨hk.1.2.1, ⟨hk.1.2.2.1, hk.1.2.2.2⟩⟩⟩)⟩, ⟨by (with_reducible repeat refine kl ?_); exact Kd.R_mono (Kd.R_far (p := ⟨gb690, 1, none⟩) (Kd.R_far (p := ⟨gb690, 0, none⟩) (Kd.R_mono HO_690001.out (fun k_ hk => (⟨hk, hk.2.2.2⟩ : _ ∧ k_ ≠ gb690))) (fun _ hk => hk.2) (.int .u64 t692)) (fun _ hk => hk.2) (.int .u64 t693)) (fun _ hk => ⟨hk.1.1, ⟨hk.1.2.1, ⟨hk.1.2.2.1, hk.1.2.2.2⟩⟩⟩)⟩, ⟨by (with_reducible repeat refine bl ?_); refine blk_far ?_ NB637_690.out _; (with_reducible repeat refine bl ?_); refine blk_far ?_ NB637_690.out _; (with_reducible repeat refine bl ?_); exact BK637.out⟩, ⟨by (with_reducible repeat refine bl ?_); refine blk_far ?_ NB649_690.out _; (with_reducible repeat refine bl ?_); refine blk_far ?_ NB649_690.out _; (with_reducible repeat refine bl ?_); exact BK649.out⟩, ⟨by (with_reducible repeat refine bl ?_); refine blk_far ?_ NB650_690.out _; (with_reducible repeat refine bl ?_); refine blk_far ?_ NB650_690.out _; (with_reducible repeat refine bl ?_); exact BK650.out⟩, ⟨by (with_reducible repeat refine bl ?_); refine blk_far ?_ NB655_690.out _; (with_reducible repeat refine bl ?_); refine blk_far ?_ NB655_690.out _; (with_reducible repeat refine bl ?_); exact BK655.out⟩, ⟨by (with_reducible repeat refine bl ?_); refine blk_far ?_ NB659_690.out _; (with_reducible repeat refine bl ?_); refine blk_far ?_ NB659_690.out _; (with_reducible repeat refine bl ?_); exact BK659.out⟩, ⟨by (with_reducible repeat refine bl ?_); refine blk_far ?_ NB666_690.out _; (with_reducible repeat refine bl ?_); refine blk_far ?_ NB666_690.out _; (with_reducible repeat refine bl ?_); exact BK666.out⟩, ⟨by (with_reducible repeat refine bl ?_); refine blk_far ?_ NB673_690.out _; (with_reducible repeat refine bl ?_); refine blk_far ?_ NB673_690.out _; (with_reducible repeat refine bl ?_); exact BK673.out⟩, ⟨by (with_reducible repeat refine bl ?_); refine blk_far ?_ NB677_690.out _; (with_reducible repeat refine bl ?_); refine blk_far ?_ NB677_690.out _; (with_reducible repeat refine bl ?_); exact BK677.out⟩, ⟨by (with_reducible repeat refine bl ?_); refine blk_far ?_ NB683_690.out _; (with_reducible repeat refine bl ?_); refine blk_far ?_ NB683_690.out _; (with_reducible repeat refine bl ?_); exact BK683.out⟩, ⟨by (with_reducible repeat refine bl ?_); refine blk_far ?_ NB689_690.out _; (with_reducible repeat refine bl ?_); refine blk_far ?_ NB689_690.out _; (with_reducible repeat refine bl ?_); exact BK689.out⟩, ⟨by (with_reducible repeat refine bl ?_); refine blk_put (cs := #[.int .u64 t692, .int .u64 x691001_1]) ?_ 1 _ rfl; (with_reducible repeat refine bl ?_); refine blk_put (cs := #[.int .u64 x691000_1, .int .u64 x691001_1]) ?_ 0 _ rfl; (with_reducible repeat refine bl ?_); exact BK690.out⟩, ⟨bq HB.out⟩⟩
     ·rw [if_neg c114] at H
      exact absurd H (by simp)
    ·rw [if_neg c113] at H
     have c113b0 : decide (x19_1 < (t685.length : Int)) = false := decide_eq_false c113
     clear c113
     replace H := Option.bind_eq_some_iff.mp H
     obtain ⟨t694, A1310, H⟩ := H
     replace H : (if t694 = true then (if t665 = t682 then ((steeplelaw03_same.f k1 t660 t661 t662 t678 t679).bind fun t695 => (if t695 = true then (if t672 = t688 then ((steeplelaw03_same.f k1 t667 t668 t669 t684 t685).bind fun t696 => (if t696 = true then (if t676 = t688 then (if (t674 == x691000_1 && (t675 == x691001_1)) = true then ((steeplelaw03_same.f k1 t638 t639 t640 a0_0 t652).bind fun t697 => (if t697 = true then ((steeplelaw03_same.f k1 t643 t644 t645 a0_1 t656).bind fun t698 => (some t698)) else (none))) else (none)) else (none)) else (none))) else (none)) else (none))) else (none)) else (none)) = some r := H
     have A131 := Aside0.mk A1310
     clear A1310
     by_cases c132 : t694 = true
     ·subst c132
      have H1 : (if t665 = t682 then ((steeplelaw03_same.f k1 t660 t661 t662 t678 t679).bind fun t695 => (if t695 = true then (if t672 = t688 then ((steeplelaw03_same.f k1 t667 t668 t669 t684 t685).bind fun t696 => (if t696 = true then (if t676 = t688 then (if (t674 == x691000_1 && (t675 == x691001_1)) = true then ((steeplelaw03_same.f k1 t638 t639 t640 a0_0 t652).bind fun t697 => (if t697 = true then ((steeplelaw03_same.f k1 t643 t644 t645 a0_1 t656).bind fun t698 => (some t698)) else (none))) else (none)) else (none)) else (none))) else (none)) else (none))) else (none)) = some r := by rw [if_pos rfl] at H; exact H
      clear H
      have H := H1
      clear H1
      by_cases c133 : t665 = t682
      ·rw [if_pos c133] at H
       have c133b0 : (t665 == t682) = true := beq_iff_eq.mpr c133
       have c133b1 : (t665 != t682) = false := bne_eq_false_iff_eq.mpr c133
       clear c133
       replace H := Option.bind_eq_some_iff.mp H
       obtain ⟨t695, A1340, H⟩ := H
       replace H : (if t695 = true then (if t672 = t688 then ((steeplelaw03_same.f k1 t667 t668 t669 t684 t685).bind fun t696 => (if t696 = true then (if t676 = t688 then (if (t674 == x691000_1 && (t675 == x691001_1)) = true then ((steeplelaw03_same.f k1 t638 t639 t640 a0_0 t652).bind fun t697 => (if t697 = true then ((steeplelaw03_same.f k1 t643 t644 t645 a0_1 t656).bind fun t698 => (some t698)) else (none))) else (none)) else (none)) else (none))) else (none)) else (none)) = some r := H
       have A134 := Aside0.mk A1340
       clear A1340
       by_cases c135 : t695 = true
       ·subst c135
        have H1 : (if t672 = t688 then ((steeplelaw03_same.f k1 t667 t668 t669 t684 t685).bind fun t696 => (if t696 = true then (if t676 = t688 then (if (t674 == x691000_1 && (t675 == x691001_1)) = true then ((steeplelaw03_same.f k1 t638 t639 t640 a0_0 t652).bind fun t697 => (if t697 = true then ((steeplelaw03_same.f k1 t643 t644 t645 a0_1 t656).bind fun t698 => (some t698)) else (none))) else (none)) else (none)) else (none))) else (none)) = some r := by rw [if_pos rfl] at H; exact H
        clear H
        have H := H1
        clear H1
        by_cases c136 : t672 = t688
        ·rw [if_pos c136] at H
         have c136b0 : (t672 == t688) = true := beq_iff_eq.mpr c136
         have c136b1 : (t672 != t688) = false := bne_eq_false_iff_eq.mpr c136
         clear c136
         replace H := Option.bind_eq_some_iff.mp H
         obtain ⟨t696, A1370, H⟩ := H
         replace H : (if t696 = true then (if t676 = t688 then (if (t674 == x691000_1 && (t675 == x691001_1)) = true then ((steeplelaw03_same.f k1 t638 t639 t640 a0_0 t652).bind fun t697 => (if t697 = true then ((steeplelaw03_same.f k1 t643 t644 t645 a0_1 t656).bind fun t698 => (some t698)) else (none))) else (none)) else (none)) else (none)) = some r := H
         have A137 := Aside0.mk A1370
         clear A1370
         by_cases c138 : t696 = true
         ·subst c138
          have H1 : (if t676 = t688 then (if (t674 == x691000_1 && (t675 == x691001_1)) = true then ((steeplelaw03_same.f k1 t638 t639 t640 a0_0 t652).bind fun t697 => (if t697 = true then ((steeplelaw03_same.f k1 t643 t644 t645 a0_1 t656).bind fun t698 => (some t698)) else (none))) else (none)) else (none)) = some r := by rw [if_pos rfl] at H; exact H
          clear H
          have H := H1
          clear H1
          by_cases c139 : t676 = t688
          ·rw [if_pos c139] at H
           have c139b0 : (t676 == t688) = true := beq_iff_eq.mpr c139
           have c139b1 : (t676 != t688) = false := bne_eq_false_iff_eq.mpr c139
           clear c139
           by_cases c140 : (t674 == x691000_1 && (t675 == x691001_1)) = true
           ·rw [if_pos c140] at H
            have c140b0 : (t674 == x691000_1 && (t675 == x691001_1)) = true := c140
            (try (have c140b1 : decide (t674 = x691000_1 && (t675 == x691001_1)) = true := by simpa using c140))
            (try (have c140b2 : (t674 == x691000_1 && (t675 == x691001_1)) = true := by simpa using c140))
            clear c140
            replace H := Option.bind_eq_some_iff.mp H
            obtain ⟨t697, A1410, H⟩ := H
            replace H : (if t697 = true then ((steeplelaw03_same.f k1 t643 t644 t645 a0_1 t656).bind fun t698 => (some t698)) else (none)) = some r := H
            have A141 := Aside0.mk A1410
            clear A1410
            by_cases c142 : t697 = true
            ·subst c142
             have H1 : ((steeplelaw03_same.f k1 t643 t644 t645 a0_1 t656).bind fun t698 => (some t698)) = some r := by rw [if_pos rfl] at H; exact H
             clear H
             have H := H1
             clear H1
             replace H := Option.bind_eq_some_iff.mp H
             obtain ⟨t698, A1430, H⟩ := H
             replace H : (some t698) = some r := H
             have A143 := Aside0.mk A1430
             clear A1430
             obtain rfl := Option.some.inj H
             have hnb144 := NB689_637.out
             have hnc144 := NB637_689.out
             have hnb145 := NB689_649.out
             have hnc145 := NB649_689.out
             have hnb146 := NB689_650.out
             have hnc146 := NB650_689.out
             have hnb147 := NB689_655.out
             have hnc147 := NB655_689.out
             have hnb148 := NB689_659.out
             have hnc148 := NB659_689.out
             have hnb149 := NB689_666.out
             have hnc149 := NB666_689.out
             have hnb150 := NB689_673.out
             have hnc150 := NB673_689.out
             have hnb151 := NB689_677.out
             have hnc151 := NB677_689.out
             have hnb152 := NB689_683.out
             have hnc152 := NB683_689.out
             have hnb153 := NB689_690.out
             have hnc153 := NB690_689.out
             obtain ⟨hcz154_0, hcz154_1⟩ := zc2 BK689
             obtain ⟨hfz154_0, hfz154_1⟩ := zf2 BK689
             go_wp2_with (first | ((with_reducible refine gate_callee (f := 8) rfl ?_); refine goesL_ (some 85) rfl rfl Try.func8 (by kernel_rfl) rfl #[] rfl (by (try simp only [List.map_toArray, List.map_cons, List.map_nil]); first | done | rfl | (simp only [List.length_drop, List.length_take]; rfl)) ?_; (with_reducible refine (steeplelaw03_awake.calls k1  true _ A131.out).mono ?_); rintro e w155 ⟨rfl, hb⟩; refine ⟨_, rfl, ?_⟩; replace HO_650002 := kb HO_650002 hb; replace HO_651002 := kb HO_651002 hb; replace HO_656001 := kb HO_656001 hb; replace HO_660001 := kb HO_660001 hb; replace HO_667002 := kb HO_667002 hb; replace HO_674002 := kb HO_674002 hb; replace HO_684001 := kb HO_684001 hb; replace HO_690001 := kb HO_690001 hb; replace BK637 := bb BK637 hb; replace BK649 := bb BK649 hb; replace BK650 := bb BK650 hb; replace BK655 := bb BK655 hb; replace BK659 := bb BK659 hb; replace BK666 := bb BK666 hb; replace BK673 := bb BK673 hb; replace BK677 := bb BK677 hb; replace BK683 := bb BK683 hb; replace BK689 := bb BK689 hb; replace BK690 := bb BK690 hb; replace HB := bh HB hb; (try clear hb); (try clear hb2); (try clear hk); (try clear hi); have hnb156 := NB666_637.out; have hnc156 := NB637_666.out; have hnb157 := NB666_649.out; have hnc157 := NB649_666.out; have hnb158 := NB666_650.out; have hnc158 := NB650_666.out; have hnb159 := NB666_655.out; have hnc159 := NB655_666.out; have hnb160 := NB666_659.out; have hnc160 := NB659_666.out; have hnb161 := NB666_673.out; have hnc161 := NB673_666.out; have hnb162 := NB666_677.out; have hnc162 := NB677_666.out; have hnb163 := NB666_683.out; have hnc163 := NB683_666.out; have hnb164 := NB666_690.out; have hnc164 := NB690_666.out; obtain ⟨hcz165_0, hcz165_1, hcz165_2⟩ := zc3 BK666; obtain ⟨hfz165_0, hfz165_1, hfz165_2⟩ := zf3 BK666; have hnb166 := NB683_637.out; have hnc166 := NB637_683.out; have hnb167 := NB683_649.out; have hnc167 := NB649_683.out; have hnb168 := NB683_650.out; have hnc168 := NB650_683.out; have hnb169 := NB683_655.out; have hnc169 := NB655_683.out; have hnb170 := NB683_659.out; have hnc170 := NB659_683.out; have hnb171 := NB683_673.out; have hnc171 := NB673_683.out; have hnb172 := NB683_677.out; have hnc172 := NB677_683.out; have hnb173 := NB683_690.out; have hnc173 := NB690_683.out; obtain ⟨hcz174_0, hcz174_1⟩ := zc2 BK683; obtain ⟨hfz174_0, hfz174_1⟩ := zf2 BK683) | (go_at_call 12; (with_reducible refine (steeplelaw03_same.calls k1 t660 t661 _ _ t662 t678 _ _ t679 true _ ?side1 ?side2 ?side3 ?side4 A134.out).mono ?_); (case side1 => repeat (first | exact (Kd.R_reads' HO_667002.out).2.2 | (with_reducible refine Kd.C_alloc ?_ _) | (with_reducible refine Kd.C_drewN ?_ _) | (with_reducible refine Kd.C_drew ?_))); (case side2 => exact (Kd.R_reads' HO_667002.out).2.1); (case side3 => repeat (first | exact (Kd.R_reads' HO_684001.out).2.2 | (with_reducible refine Kd.C_alloc ?_ _) | (with_reducible refine Kd.C_drewN ?_ _) | (with_reducible refine Kd.C_drew ?_))); (case side4 => exact (Kd.R_reads' HO_684001.out).2.1); rintro e w175 ⟨rfl, hb⟩; replace HO_650002 := kb HO_650002 hb; replace HO_651002 := kb HO_651002 hb; replace HO_656001 := kb HO_656001 hb; replace HO_660001 := kb HO_660001 hb; replace HO_667002 := kb HO_667002 hb; replace HO_674002 := kb HO_674002 hb; replace HO_684001 := kb HO_684001 hb; replace HO_690001 := kb HO_690001 hb; replace BK637 := bb BK637 hb; replace BK649 := bb BK649 hb; replace BK650 := bb BK650 hb; replace BK655 := bb BK655 hb; replace BK659 := bb BK659 hb; replace BK666 := bb BK666 hb; replace BK673 := bb BK673 hb; replace BK677 := bb BK677 hb; replace BK683 := bb BK683 hb; replace BK689 := bb BK689 hb; replace BK690 := bb BK690 hb; replace HB := bh HB hb; (try clear hb); (try clear hb2); (try clear hk); (try clear hi); have hnb176 := NB673_637.out; have hnc176 := NB637_673.out; have hnb177 := NB673_649.out; have hnc177 := NB649_673.out; have hnb178 := NB673_650.out; have hnc178 := NB650_673.out; have hnb179 := NB673_655.out; have hnc179 := NB655_673.out; have hnb180 := NB673_659.out; have hnc180 := NB659_673.out; have hnb181 := NB673_677.out; have hnc181 := NB677_673.out; have hnb182 := NB673_690.out; have hnc182 := NB690_673.out; obtain ⟨hcz183_0, hcz183_1, hcz183_2⟩ := zc3 BK673; obtain ⟨hfz183_0, hfz183_1, hfz183_2⟩ := zf3 BK673; obtain ⟨hcz184_0, hcz184_1⟩ := zc2 BK689; obtain ⟨hfz184_0, hfz184_1⟩ := zf2 BK689) | (go_at_call 12; (with_reducible refine (steeplelaw03_same.calls k1 t667 t668 _ _ t669 t684 _ _ t685 true _ ?side1 ?side2 ?side3 ?side4 A137.out).mono ?_); (case side1 => repeat (first | exact (Kd.R_reads' HO_674002.out).2.2 | (with_reducible refine Kd.C_alloc ?_ _) | (with_reducible refine Kd.C_drewN ?_ _) | (with_reducible refine Kd.C_drew ?_))); (case side2 => exact (Kd.R_reads' HO_674002.out).2.1); (case side3 => repeat (first | exact (Kd.R_reads' HO_690001.out).2.2 | (with_reducible refine Kd.C_alloc ?_ _) | (with_reducible refine Kd.C_drewN ?_ _) | (with_reducible refine Kd.C_drew ?_))); (case side4 => exact (Kd.R_reads' HO_690001.out).2.1); rintro e w185 ⟨rfl, hb⟩; replace HO_650002 := kb HO_650002 hb; replace HO_651002 := kb HO_651002 hb; replace HO_656001 := kb HO_656001 hb; replace HO_660001 := kb HO_660001 hb; replace HO_667002 := kb HO_667002 hb; replace HO_674002 := kb HO_674002 hb; replace HO_684001 := kb HO_684001 hb; replace HO_690001 := kb HO_690001 hb; replace BK637 := bb BK637 hb; replace BK649 := bb BK649 hb; replace BK650 := bb BK650 hb; replace BK655 := bb BK655 hb; replace BK659 := bb BK659 hb; replace BK666 := bb BK666 hb; replace BK673 := bb BK673 hb; replace BK677 := bb BK677 hb; replace BK683 := bb BK683 hb; replace BK689 := bb BK689 hb; replace BK690 := bb BK690 hb; replace HB := bh HB hb; (try clear hb); (try clear hb2); (try clear hk); (try clear hi); have hnb186 := NB677_637.out; have hnc186 := NB637_677.out; have hnb187 := NB677_649.out; have hnc187 := NB649_677.out; have hnb188 := NB677_650.out; have hnc188 := NB650_677.out; have hnb189 := NB677_655.out; have hnc189 := NB655_677.out; have hnb190 := NB677_659.out; have hnc190 := NB659_677.out; have hnb191 := NB677_690.out; have hnc191 := NB690_677.out; obtain ⟨hcz192_0, hcz192_1⟩ := zc2 BK677; obtain ⟨hfz192_0, hfz192_1⟩ := zf2 BK677; have hnb193 := NB690_637.out; have hnc193 := NB637_690.out; have hnb194 := NB690_649.out; have hnc194 := NB649_690.out; have hnb195 := NB690_650.out; have hnc195 := NB650_690.out; have hnb196 := NB690_655.out; have hnc196 := NB655_690.out; have hnb197 := NB690_659.out; have hnc197 := NB659_690.out; obtain ⟨hcz198_0, hcz198_1⟩ := zc2 BK690; obtain ⟨hfz198_0, hfz198_1⟩ := zf2 BK690; have hnb199 := NB649_637.out; have hnc199 := NB637_649.out; have hnb200 := NB649_650.out; have hnc200 := NB650_649.out; have hnb201 := NB649_655.out; have hnc201 := NB655_649.out; have hnb202 := NB649_659.out; have hnc202 := NB659_649.out; obtain ⟨hcz203_0, hcz203_1, hcz203_2⟩ := zc3 BK649; obtain ⟨hfz203_0, hfz203_1, hfz203_2⟩ := zf3 BK649; have hnb204 := NB655_637.out; have hnc204 := NB637_655.out; have hnb205 := NB655_650.out; have hnc205 := NB650_655.out; have hnb206 := NB655_659.out; have hnc206 := NB659_655.out; obtain ⟨hcz207_0, hcz207_1⟩ := zc2 BK655; obtain ⟨hfz207_0, hfz207_1⟩ := zf2 BK655) | (go_at_call 12; (with_reducible refine (steeplelaw03_same.calls k1 t638 t639 _ _ t640 a0_0 _ _ t652 true _ ?side1 ?side2 ?side3 ?side4 A141.out).mono ?_); (case side1 => repeat (first | exact (Kd.R_reads' HO_650002.out).2.2 | (with_reducible refine Kd.C_alloc ?_ _) | (with_reducible refine Kd.C_drewN ?_ _) | (with_reducible refine Kd.C_drew ?_))); (case side2 => exact (Kd.R_reads' HO_650002.out).2.1); (case side3 => repeat (first | exact (Kd.R_reads' HO_656001.out).2.2 | (with_reducible refine Kd.C_alloc ?_ _) | (with_reducible refine Kd.C_drewN ?_ _) | (with_reducible refine Kd.C_drew ?_))); (case side4 => exact (Kd.R_reads' HO_656001.out).2.1); rintro e w208 ⟨rfl, hb⟩; replace HO_650002 := kb HO_650002 hb; replace HO_651002 := kb HO_651002 hb; replace HO_656001 := kb HO_656001 hb; replace HO_660001 := kb HO_660001 hb; replace HO_667002 := kb HO_667002 hb; replace HO_674002 := kb HO_674002 hb; replace HO_684001 := kb HO_684001 hb; replace HO_690001 := kb HO_690001 hb; replace BK637 := bb BK637 hb; replace BK649 := bb BK649 hb; replace BK650 := bb BK650 hb; replace BK655 := bb BK655 hb; replace BK659 := bb BK659 hb; replace BK666 := bb BK666 hb; replace BK673 := bb BK673 hb; replace BK677 := bb BK677 hb; replace BK683 := bb BK683 hb; replace BK689 := bb BK689 hb; replace BK690 := bb BK690 hb; replace HB := bh HB hb; (try clear hb); (try clear hb2); (try clear hk); (try clear hi); have hnb209 := NB650_637.out; have hnc209 := NB637_650.out; have hnb210 := NB650_659.out; have hnc210 := NB659_650.out; obtain ⟨hcz211_0, hcz211_1, hcz211_2⟩ := zc3 BK650; obtain ⟨hfz211_0, hfz211_1, hfz211_2⟩ := zf3 BK650; have hnb212 := NB659_637.out; have hnc212 := NB637_659.out; obtain ⟨hcz213_0, hcz213_1⟩ := zc2 BK659; obtain ⟨hfz213_0, hfz213_1⟩ := zf2 BK659) | (go_at_call 12; (with_reducible refine (steeplelaw03_same.calls k1 t643 t644 _ _ t645 a0_1 _ _ t656 t698 _ ?side1 ?side2 ?side3 ?side4 A143.out).mono ?_); (case side1 => repeat (first | exact (Kd.R_reads' HO_651002.out).2.2 | (with_reducible refine Kd.C_alloc ?_ _) | (with_reducible refine Kd.C_drewN ?_ _) | (with_reducible refine Kd.C_drew ?_))); (case side2 => exact (Kd.R_reads' HO_651002.out).2.1); (case side3 => repeat (first | exact (Kd.R_reads' HO_660001.out).2.2 | (with_reducible refine Kd.C_alloc ?_ _) | (with_reducible refine Kd.C_drewN ?_ _) | (with_reducible refine Kd.C_drew ?_))); (case side4 => exact (Kd.R_reads' HO_660001.out).2.1); rintro e w214 ⟨rfl, hb⟩; replace HO_650002 := kb HO_650002 hb; replace HO_651002 := kb HO_651002 hb; replace HO_656001 := kb HO_656001 hb; replace HO_660001 := kb HO_660001 hb; replace HO_667002 := kb HO_667002 hb; replace HO_674002 := kb HO_674002 hb; replace HO_684001 := kb HO_684001 hb; replace HO_690001 := kb HO_690001 hb; replace BK637 := bb BK637 hb; replace BK649 := bb BK649 hb; replace BK650 := bb BK650 hb; replace BK655 := bb BK655 hb; replace BK659 := bb BK659 hb; replace BK666 := bb BK666 hb; replace BK673 := bb BK673 hb; replace BK677 := bb BK677 hb; replace BK683 := bb BK683 hb; replace BK689 := bb BK689 hb; replace BK690 := bb BK690 hb; replace HB := bh HB hb; (try clear hb); (try clear hb2); (try clear hk); (try clear hi)))
             go_ret
             exact ⟨by first | rfl | (simp [errW_none, errW_some] <;> rfl) | (simp [*, errW_none, errW_some] <;> rfl), bq HB.out⟩
            ·replace c142 := Bool.eq_false_iff.mpr c142
             subst c142
             have H1 : (none) = some r := by rw [if_neg (show ¬ (false = true) by decide)] at H; exact H
             clear H
             have H := H1
             clear H1
             exact absurd H (by simp)
           ·rw [if_neg c140] at H
            exact absurd H (by simp)
          ·rw [if_neg c139] at H
           exact absurd H (by simp)
         ·replace c138 := Bool.eq_false_iff.mpr c138
          subst c138
          have H1 : (none) = some r := by rw [if_neg (show ¬ (false = true) by decide)] at H; exact H
          clear H
          have H := H1
          clear H1
          exact absurd H (by simp)
        ·rw [if_neg c136] at H
         exact absurd H (by simp)
       ·replace c135 := Bool.eq_false_iff.mpr c135
        subst c135
        have H1 : (none) = some r := by rw [if_neg (show ¬ (false = true) by decide)] at H; exact H
        clear H
        have H := H1
        clear H1
        exact absurd H (by simp)
      ·rw [if_neg c133] at H
       exact absurd H (by simp)
     ·replace c132 := Bool.eq_false_iff.mpr c132
      subst c132
      have H1 : (none) = some r := by rw [if_neg (show ¬ (false = true) by decide)] at H; exact H
      clear H
      have H := H1
      clear H1
      exact absurd H (by simp)
 ·replace c3 := Bool.eq_false_iff.mpr c3
  subst c3
  have H1 : ((steeplelaw03_awake.f k).bind fun t651 => (some t651)) = some r := by rw [if_neg (show ¬ (false = true) by decide)] at H; exact H
  clear H
  have H := H1
  clear H1
  replace H := Option.bind_eq_some_iff.mp H
  obtain ⟨t651, A2150, H⟩ := H
  replace H : (some t651) = some r := H
  have A215 := Aside0.mk A2150
  clear A2150
  obtain rfl := Option.some.inj H
  go_enter Try.func6, Try.ntmps6
  go_wp2_with (first | ((with_reducible refine gate_dst (N := 1) rfl ?_); refine box_event ?hg (N := 1) ?hd (cs := #[.int .i64 a0_0, .int .i64 a0_1, .slice A0_2 l0_2.length c0_2, .slice A0_3 l0_3.length c0_3]) (t := 49) ?hr ?_; (case hd => rfl); (case hg => rfl); (case hr => first | (go_simp; done) | (go_simp; rfl)); intro gb637 hg w216 hbox hb; have BK637 := Aside0.mk hbox; have GW637 := ge hg HB; have GE637 := ge hg HB; replace HB := bh HB hb; clear hb hbox hg; obtain ⟨hcz217_0, hcz217_1, hcz217_2, hcz217_3⟩ := zc4 BK637; obtain ⟨hfz217_0, hfz217_1, hfz217_2, hfz217_3⟩ := zf4 BK637) | ((with_reducible refine gate_callee (f := 16) rfl ?_); refine goesL_ (some 22) rfl rfl Try.func16 (by kernel_rfl) rfl #[.agg #[.int .i64 a0_0, .int .i64 a0_1, .slice A0_2 l0_2.length c0_2, .slice A0_3 l0_3.length c0_3]] rfl (by (try simp only [List.map_toArray, List.map_cons, List.map_nil]); first | done | rfl | (simp only [List.length_drop, List.length_take]; rfl)) ?_; (with_reducible refine (steeplelaw03_Pair_made.calls k a0_0 a0_1 _ _ l0_2 _ _ l0_3 t638 t639 t640 t643 t644 t645 false _ ?side1 ?side2 ?side3 ?side4 A2.out).mono ?_); (case side1 => repeat (first | exact (Kd.C_below HR0_2.out HB.out) | (with_reducible refine Kd.C_alloc ?_ _) | (with_reducible refine Kd.C_drewN ?_ _) | (with_reducible refine Kd.C_drew ?_))); (case side2 => exact HC0_2.out); (case side3 => repeat (first | exact (Kd.C_below HR0_3.out HB.out) | (with_reducible refine Kd.C_alloc ?_ _) | (with_reducible refine Kd.C_drewN ?_ _) | (with_reducible refine Kd.C_drew ?_))); (case side4 => exact HC0_3.out); rintro e w218 ⟨v641, v646, rfl, ho0, ho1, hb⟩; refine ⟨_, rfl, ?_⟩; have HO642 := kw ho0 HB; have HO647 := kw ho1 HB; replace BK637 := bb BK637 hb; replace HB := bh HB hb; (try clear hb); (try clear hb2); (try clear hk); (try clear hi); (try clear ho0); (try clear ho1)) | ((with_reducible refine gate_dst (N := 3) rfl ?_); refine box_event ?hg (N := 3) ?hd (cs := #[.int .i64 0, .int .i64 0, .slice none 0 0]) (t := 31) ?hr ?_; (case hd => rfl); (case hg => rfl); (case hr => first | (go_simp; done) | (go_simp; rfl)); intro gb649 hg w219 hbox hb; have BK649 := Aside0.mk hbox; have GW649 := ge hg HB; have GE649 := ge hg HB; have NB637_649 := nl hg BK637; have NB649_637 := ng hg BK637; replace HO642 := kb HO642 hb; replace HO647 := kb HO647 hb; replace BK637 := bb BK637 hb; replace HB := bh HB hb; clear hb hbox hg) | ((with_reducible refine gate_dst (N := 4) rfl ?_); refine box_event ?hg (N := 4) ?hd (cs := #[.int .i64 0, .int .i64 0, .slice none 0 0]) (t := 31) ?hr ?_; (case hd => rfl); (case hg => rfl); (case hr => first | (go_simp; done) | (go_simp; rfl)); intro gb650 hg w220 hbox hb; have BK650 := Aside0.mk hbox; have GW650 := ge hg HB; have GE650 := ge hg HB; have NB637_650 := nl hg BK637; have NB650_637 := ng hg BK637; have NB649_650 := nl hg BK649; have NB650_649 := ng hg BK649; replace HO642 := kb HO642 hb; replace HO647 := kb HO647 hb; replace BK637 := bb BK637 hb; replace BK649 := bb BK649 hb; replace HB := bh HB hb; clear hb hbox hg; have hnb221 := NB649_637.out; have hnc221 := NB637_649.out; have hnb222 := NB649_650.out; have hnc222 := NB650_649.out; obtain ⟨hcz223_0, hcz223_1, hcz223_2⟩ := zc3 BK649; obtain ⟨hfz223_0, hfz223_1, hfz223_2⟩ := zf3 BK649; obtain ⟨Ao224, co224, eo224⟩ := Kd.R_slice HO642.out; subst eo224; have hnb225 := NB650_637.out; have hnc225 := NB637_650.out; obtain ⟨hcz226_0, hcz226_1, hcz226_2⟩ := zc3 BK650; obtain ⟨hfz226_0, hfz226_1, hfz226_2⟩ := zf3 BK650; obtain ⟨Ao227, co227, eo227⟩ := Kd.R_slice HO647.out; subst eo227) | ((with_reducible refine gate_callee (f := 8) rfl ?_); refine goesL_ (some 28) rfl rfl Try.func8 (by kernel_rfl) rfl #[] rfl (by (try simp only [List.map_toArray, List.map_cons, List.map_nil]); first | done | rfl | (simp only [List.length_drop, List.length_take]; rfl)) ?_; (with_reducible refine (steeplelaw03_awake.calls k  t651 _ A215.out).mono ?_); rintro e w228 ⟨rfl, hb⟩; refine ⟨_, rfl, ?_⟩; replace HO642 := Aside0.mk (Kd.R_below (by (with_reducible repeat refine kl ?_); exact (Kd.R_mono (Kd.R_mono (Kd.R_far (p := ⟨gb650, 2, none⟩) (Kd.R_far (p := ⟨gb650, 1, none⟩) (Kd.R_far (p := ⟨gb650, 0, none⟩) (Kd.R_far (p := ⟨gb649, 2, none⟩) (Kd.R_far (p := ⟨gb649, 1, none⟩) (Kd.R_far (p := ⟨gb649, 0, none⟩) (Kd.R_types (Kd.R_types HO642.out BK649.out (by decide)) BK650.out (by decide)) (fun _ hk => hk.1.2) (.int .i64 t638)) (fun _ hk => hk.1.2) (.int .i64 t639)) (fun _ hk => hk.1.2) (.slice Ao224 t640.length co224)) (fun _ hk => hk.2) (.int .i64 t643)) (fun _ hk => hk.2) (.int .i64 t644)) (fun _ hk => hk.2) (.slice Ao227 t645.length co227)) (fun _ h_ => h_.1)) (fun _ h_ => h_.1))) hb); replace HO647 := Aside0.mk (Kd.R_below (by (with_reducible repeat refine kl ?_); exact (Kd.R_mono (Kd.R_mono (Kd.R_far (p := ⟨gb650, 2, none⟩) (Kd.R_far (p := ⟨gb650, 1, none⟩) (Kd.R_far (p := ⟨gb650, 0, none⟩) (Kd.R_far (p := ⟨gb649, 2, none⟩) (Kd.R_far (p := ⟨gb649, 1, none⟩) (Kd.R_far (p := ⟨gb649, 0, none⟩) (Kd.R_types (Kd.R_types HO647.out BK649.out (by decide)) BK650.out (by decide)) (fun _ hk => hk.1.2) (.int .i64 t638)) (fun _ hk => hk.1.2) (.int .i64 t639)) (fun _ hk => hk.1.2) (.slice Ao224 t640.length co224)) (fun _ hk => hk.2) (.int .i64 t643)) (fun _ hk => hk.2) (.int .i64 t644)) (fun _ hk => hk.2) (.slice Ao227 t645.length co227)) (fun _ h_ => h_.1)) (fun _ h_ => h_.1))) hb); replace BK637 := Aside0.mk (blk_below (g := gb637) (o := .cells #[.int .i64 a0_0, .int .i64 a0_1, .slice A0_2 l0_2.length c0_2, .slice A0_3 l0_3.length c0_3] 49 (0, 0)) (by (with_reducible repeat refine bl ?_); refine blk_far ?_ NB637_650.out _; (with_reducible repeat refine bl ?_); refine blk_far ?_ NB637_650.out _; (with_reducible repeat refine bl ?_); refine blk_far ?_ NB637_650.out _; (with_reducible repeat refine bl ?_); refine blk_far ?_ NB637_649.out _; (with_reducible repeat refine bl ?_); refine blk_far ?_ NB637_649.out _; (with_reducible repeat refine bl ?_); refine blk_far ?_ NB637_649.out _; (with_reducible repeat refine bl ?_); exact BK637.out) hb); replace BK649 := Aside0.mk (blk_below (g := gb649) (o := .cells #[.int .i64 t638, .int .i64 t639, .slice Ao224 t640.length co224] 31 (0, 0)) (by (with_reducible repeat refine bl ?_); refine blk_far ?_ NB649_650.out _; (with_reducible repeat refine bl ?_); refine blk_far ?_ NB649_650.out _; (with_reducible repeat refine bl ?_); refine blk_far ?_ NB649_650.out _; (with_reducible repeat refine bl ?_); refine blk_put (cs := #[.int .i64 t638, .int .i64 t639, .slice none 0 0]) ?_ 2 _ rfl; (with_reducible repeat refine bl ?_); refine blk_put (cs := #[.int .i64 t638, .int .i64 0, .slice none 0 0]) ?_ 1 _ rfl; (with_reducible repeat refine bl ?_); refine blk_put (cs := #[.int .i64 0, .int .i64 0, .slice none 0 0]) ?_ 0 _ rfl; (with_reducible repeat refine bl ?_); exact BK649.out) hb); replace BK650 := Aside0.mk (blk_below (g := gb650) (o := .cells #[.int .i64 t643, .int .i64 t644, .slice Ao227 t645.length co227] 31 (0, 0)) (by (with_reducible repeat refine bl ?_); refine blk_put (cs := #[.int .i64 t643, .int .i64 t644, .slice none 0 0]) ?_ 2 _ rfl; (with_reducible repeat refine bl ?_); refine blk_put (cs := #[.int .i64 t643, .int .i64 0, .slice none 0 0]) ?_ 1 _ rfl; (with_reducible repeat refine bl ?_); refine blk_put (cs := #[.int .i64 0, .int .i64 0, .slice none 0 0]) ?_ 0 _ rfl; (with_reducible repeat refine bl ?_); refine blk_far ?_ NB650_649.out _; (with_reducible repeat refine bl ?_); refine blk_far ?_ NB650_649.out _; (with_reducible repeat refine bl ?_); refine blk_far ?_ NB650_649.out _; (with_reducible repeat refine bl ?_); exact BK650.out) hb); replace HB := bh HB hb; (try clear hb); (try clear hb2); (try clear hk); (try clear hi)))
  go_ret
  exact ⟨by first | rfl | (simp [errW_none, errW_some] <;> rfl) | (simp [*, errW_none, errW_some] <;> rfl), bq HB.out⟩

/-- THE ONE PURE STATEMENT of steeplelaw03_PackReckons. -/
def steeplelaw03_PackReckons.Pure : Prop := ∀ (x0 : S49), ((Lit.int .i64 x0.f0).wf = true ∧ (Lit.int .i64 x0.f1).wf = true ∧ (x0.f2.length ≤ maxLen ∧ x0.f2.length * 16 ≤ 140737488351232 ∧ ∀ y0 ∈ x0.f2, ((Lit.int .u64 y0.f0).wf = true ∧ (Lit.int .u64 y0.f1).wf = true)) ∧ (x0.f3.length ≤ maxLen ∧ x0.f3.length * 16 ≤ 140737488351232 ∧ ∀ y0 ∈ x0.f3, ((Lit.int .u64 y0.f0).wf = true ∧ (Lit.int .u64 y0.f1).wf = true))) → ∃ k, steeplelaw03_PackReckons.f k x0.f0 x0.f1 x0.f2 x0.f3 = some true

end Go.Proofs.Ytceneggampgboaa.P
