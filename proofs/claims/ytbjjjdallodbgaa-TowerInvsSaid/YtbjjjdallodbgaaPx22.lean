/- Written by a program of this session: functions that the law reaches, as Lean functions, and that the code comes to their answers. Conditions: those that each theorem names. -/
import Derived.Test.YtbjjjdallodbgaaPx0
import Derived.Test.YtbjjjdallodbgaaPx1
import Derived.Test.YtbjjjdallodbgaaPx4
import Derived.Test.YtbjjjdallodbgaaPx8
import Derived.Test.YtbjjjdallodbgaaPx14
import Derived.Test.YtbjjjdallodbgaaPx16
import Derived.Test.YtbjjjdallodbgaaPx21
namespace Go.Proofs.Ytbjjjdallodbgaa.P
open Go.RowKit Go.Proofs.YtbjjjdallodbgaaW.PrintWords Go.Proofs.YtbjjjdallodbgaaW.PrintLast Go.Proofs.YtbjjjdallodbgaaW.PrintMore
attribute [local go_sem] max2_int min2_int max_two min_two max_three min_three max_four min_four   -- for this text's walks alone
set_option linter.unusedVariables false
set_option linter.unusedSimpArgs false

attribute [local go_sem high] eqA24
/-! ### steeplelaw02_TowerInvs: function 11 -/
def steeplelaw02_TowerInvs.f (k : Nat) (a0 : Int) (a1_0 : Int) (a1_1 : Int) (a2 : Int) : Option (Bool) := (tower_Inv.f k a0 a1_0 a1_1).bind fun bt636 => ((steeplelaw02_awake.f k).bind fun t639 => (if t639 = true then ((steeplelaw02_ref.f a1_0 a1_1).bind fun bt640 => ((steepleref02_Inv.f k a0 bt640.1 bt640.2).bind fun bt642 => ((steeplelaw02_same.f bt636.1 bt636.2 bt642.1 bt642.2).bind fun t644 => (if t644 = true then ((tower_Pow.f k a0 a1_0 a1_1 (IntKind.u64.wrap (Int.tmod (wrap64 ((Int.tmod a2 61) + 61)) 61))).bind fun bt645 => ((steeplelaw02_ref.f a1_0 a1_1).bind fun bt647 => ((steepleref02_Pow.f k a0 bt647.1 bt647.2 (Int.tmod (wrap64 ((Int.tmod a2 61) + 61)) 61)).bind fun bt649 => ((steeplelaw02_same.f bt645.1 bt645.2 bt649.1 bt649.2).bind fun t651 => (if t651 = true then ((tower_One.f).bind fun bt652 => ((tower_Div.f k a0 bt652.1 bt652.2 a1_0 a1_1).bind fun bt654 => ((tower_One.f).bind fun bt656 => ((tower_Mul.f k a0 bt656.1 bt656.2 bt636.1 bt636.2).bind fun bt658 => (some (bt654.1 == bt658.1 && (bt654.2 == bt658.2))))))) else (none)))))) else (none))))) else (none)))
theorem steeplelaw02_TowerInvs.mono : ∀ a0 a1 a2 a3 k, LeO (steeplelaw02_TowerInvs.f k a0 a1 a2 a3) (steeplelaw02_TowerInvs.f (k + 1) a0 a1 a2 a3) := by
 intro a0 a1 a2 a3 k
 unfold steeplelaw02_TowerInvs.f
 repeat' first
   | (with_reducible exact steeplelaw02_awake.mono _)
   | (with_reducible exact steepleref02_Inv.mono _ _ _ _)
   | (with_reducible exact steepleref02_Pow.mono _ _ _ _ _)
   | (with_reducible exact tower_Div.mono _ _ _ _ _ _)
   | (with_reducible exact tower_Inv.mono _ _ _ _)
   | (with_reducible exact tower_Mul.mono _ _ _ _ _ _)
   | (with_reducible exact tower_Pow.mono _ _ _ _ _)
   | (with_reducible exact LeO.refl _)
   | (with_reducible exact LeO.none _)
   | (with_reducible refine LeO.ite ?_ ?_)
   | (with_reducible refine LeO.bind ?_ (fun _ => ?_))
   | exact steeplelaw02_awake.mono _
   | exact steepleref02_Inv.mono _ _ _ _
   | exact steepleref02_Pow.mono _ _ _ _ _
   | exact tower_Div.mono _ _ _ _ _ _
   | exact tower_Inv.mono _ _ _ _
   | exact tower_Mul.mono _ _ _ _ _ _
   | exact tower_Pow.mono _ _ _ _ _
   | exact LeO.none _
   | refine LeO.ite ?_ ?_
   | refine LeO.bind ?_ (fun _ => ?_)
def steeplelaw02_TowerInvs.T3 : Bool × List (List Nat × List Nat) := (true, [([], []), ([0, 0], [0]), ([1], [1]), ([1], [1]), ([1], [1]), ([4, 1, 1], [1, 4]), ([3, 5, 5, 1], [1, 3, 5]), ([2, 6, 6, 1], [1, 2, 6]), ([1, 7], [1, 7]), ([8, 7], [8]), ([9], [9]), ([9], [9]), ([9], [9]), ([12, 9], [9, 12]), ([10, 11, 13, 9, 9], [9, 10, 11, 13]), ([9], [9]), ([9], [9]), ([16, 14, 9], [9, 16]), ([9], [9]), ([15, 17, 18, 17, 9], [9, 15, 17, 18]), ([14, 19, 19, 9], [9, 14, 19]), ([9, 20], [9, 20]), ([21, 20], [21]), ([22], [22]), ([22, 22], [22]), ([22], [22]), ([23, 24, 25, 24, 22], [22, 23, 24, 25]), ([22], [22]), ([26, 22], [22]), ([22], [22]), ([27, 28, 29, 28, 22], [22, 27, 28, 29]), ([26, 30, 22], [22, 26, 30]), ([22, 31], [22, 31]), ([32, 30, 0, 1, 2, 3, 4, 5, 6, 7, 8, 9, 10, 11, 12, 13, 14, 15, 16, 17, 18, 19, 20, 21, 22, 23, 24, 25, 26, 27, 28, 29, 30, 31, 32], [32])])
def steeplelaw02_TowerInvs.B3 : List Nat := [0, 1, 3, 3, 3, 19, 59, 127, 255, 511, 1023, 1023, 1023, 5119, 16383, 1023, 1023, 98303, 1023, 524287, 1048575, 2097151, 4194303, 8388607, 8388607, 8388607, 67108863, 8388607, 134217727, 8388607, 1073741823, 2147483647, 4294967295, 8589934591]
theorem steeplelaw02_TowerInvs.tab3 : rtab .any (opsOf Try.f11 3) = steeplelaw02_TowerInvs.T3 := by kernel_rfl
theorem steeplelaw02_TowerInvs.bits3 : waitsOk steeplelaw02_TowerInvs.T3.2 steeplelaw02_TowerInvs.B3 = true := by kernel_rfl
set_option maxHeartbeats 8000000 in
set_option maxRecDepth 100000 in
theorem steeplelaw02_TowerInvs.calls (k : Nat) (a0 : Int) (a1_0 : Int) (a1_1 : Int) (a2 : Int) (r : Bool) (w : World) (h : steeplelaw02_TowerInvs.f k a0 a1_0 a1_1 a2 = some r) :
  Calls Try.prog 11 #[.int .i64 a0, .agg #[.int .u64 a1_0, .int .u64 a1_1], .int .i64 a2] w fun e w' => e = .returned (.bool r) ∧ Below w.heap.size w w' := by
 have hu24 := Try.underlying24
 have HB := Aside0.mk (Below.refl w.heap.size w)
 have H : ((tower_Inv.f k a0 a1_0 a1_1).bind fun bt636 => ((steeplelaw02_awake.f k).bind fun t639 => (if t639 = true then ((steeplelaw02_ref.f a1_0 a1_1).bind fun bt640 => ((steepleref02_Inv.f k a0 bt640.1 bt640.2).bind fun bt642 => ((steeplelaw02_same.f bt636.1 bt636.2 bt642.1 bt642.2).bind fun t644 => (if t644 = true then ((tower_Pow.f k a0 a1_0 a1_1 (IntKind.u64.wrap (Int.tmod (wrap64 ((Int.tmod a2 61) + 61)) 61))).bind fun bt645 => ((steeplelaw02_ref.f a1_0 a1_1).bind fun bt647 => ((steepleref02_Pow.f k a0 bt647.1 bt647.2 (Int.tmod (wrap64 ((Int.tmod a2 61) + 61)) 61)).bind fun bt649 => ((steeplelaw02_same.f bt645.1 bt645.2 bt649.1 bt649.2).bind fun t651 => (if t651 = true then ((tower_One.f).bind fun bt652 => ((tower_Div.f k a0 bt652.1 bt652.2 a1_0 a1_1).bind fun bt654 => ((tower_One.f).bind fun bt656 => ((tower_Mul.f k a0 bt656.1 bt656.2 bt636.1 bt636.2).bind fun bt658 => (some (bt654.1 == bt658.1 && (bt654.2 == bt658.2))))))) else (none)))))) else (none))))) else (none)))) = some r := h
 clear h
 replace H := Option.bind_eq_some_iff.mp H
 obtain ⟨⟨t636, t637⟩, A40, H⟩ := H
 replace H : ((steeplelaw02_awake.f k).bind fun t639 => (if t639 = true then ((steeplelaw02_ref.f a1_0 a1_1).bind fun bt640 => ((steepleref02_Inv.f k a0 bt640.1 bt640.2).bind fun bt642 => ((steeplelaw02_same.f t636 t637 bt642.1 bt642.2).bind fun t644 => (if t644 = true then ((tower_Pow.f k a0 a1_0 a1_1 (IntKind.u64.wrap (Int.tmod (wrap64 ((Int.tmod a2 61) + 61)) 61))).bind fun bt645 => ((steeplelaw02_ref.f a1_0 a1_1).bind fun bt647 => ((steepleref02_Pow.f k a0 bt647.1 bt647.2 (Int.tmod (wrap64 ((Int.tmod a2 61) + 61)) 61)).bind fun bt649 => ((steeplelaw02_same.f bt645.1 bt645.2 bt649.1 bt649.2).bind fun t651 => (if t651 = true then ((tower_One.f).bind fun bt652 => ((tower_Div.f k a0 bt652.1 bt652.2 a1_0 a1_1).bind fun bt654 => ((tower_One.f).bind fun bt656 => ((tower_Mul.f k a0 bt656.1 bt656.2 t636 t637).bind fun bt658 => (some (bt654.1 == bt658.1 && (bt654.2 == bt658.2))))))) else (none)))))) else (none))))) else (none))) = some r := H
 have A4 := Aside0.mk A40
 clear A40
 replace H := Option.bind_eq_some_iff.mp H
 obtain ⟨t639, A50, H⟩ := H
 replace H : (if t639 = true then ((steeplelaw02_ref.f a1_0 a1_1).bind fun bt640 => ((steepleref02_Inv.f k a0 bt640.1 bt640.2).bind fun bt642 => ((steeplelaw02_same.f t636 t637 bt642.1 bt642.2).bind fun t644 => (if t644 = true then ((tower_Pow.f k a0 a1_0 a1_1 (IntKind.u64.wrap (Int.tmod (wrap64 ((Int.tmod a2 61) + 61)) 61))).bind fun bt645 => ((steeplelaw02_ref.f a1_0 a1_1).bind fun bt647 => ((steepleref02_Pow.f k a0 bt647.1 bt647.2 (Int.tmod (wrap64 ((Int.tmod a2 61) + 61)) 61)).bind fun bt649 => ((steeplelaw02_same.f bt645.1 bt645.2 bt649.1 bt649.2).bind fun t651 => (if t651 = true then ((tower_One.f).bind fun bt652 => ((tower_Div.f k a0 bt652.1 bt652.2 a1_0 a1_1).bind fun bt654 => ((tower_One.f).bind fun bt656 => ((tower_Mul.f k a0 bt656.1 bt656.2 t636 t637).bind fun bt658 => (some (bt654.1 == bt658.1 && (bt654.2 == bt658.2))))))) else (none)))))) else (none))))) else (none)) = some r := H
 have A5 := Aside0.mk A50
 clear A50
 by_cases c6 : t639 = true
 ·subst c6
  have H1 : ((steeplelaw02_ref.f a1_0 a1_1).bind fun bt640 => ((steepleref02_Inv.f k a0 bt640.1 bt640.2).bind fun bt642 => ((steeplelaw02_same.f t636 t637 bt642.1 bt642.2).bind fun t644 => (if t644 = true then ((tower_Pow.f k a0 a1_0 a1_1 (IntKind.u64.wrap (Int.tmod (wrap64 ((Int.tmod a2 61) + 61)) 61))).bind fun bt645 => ((steeplelaw02_ref.f a1_0 a1_1).bind fun bt647 => ((steepleref02_Pow.f k a0 bt647.1 bt647.2 (Int.tmod (wrap64 ((Int.tmod a2 61) + 61)) 61)).bind fun bt649 => ((steeplelaw02_same.f bt645.1 bt645.2 bt649.1 bt649.2).bind fun t651 => (if t651 = true then ((tower_One.f).bind fun bt652 => ((tower_Div.f k a0 bt652.1 bt652.2 a1_0 a1_1).bind fun bt654 => ((tower_One.f).bind fun bt656 => ((tower_Mul.f k a0 bt656.1 bt656.2 t636 t637).bind fun bt658 => (some (bt654.1 == bt658.1 && (bt654.2 == bt658.2))))))) else (none)))))) else (none))))) = some r := by rw [if_pos rfl] at H; exact H
  clear H
  have H := H1
  clear H1
  replace H := Option.bind_eq_some_iff.mp H
  obtain ⟨⟨t640, t641⟩, A70, H⟩ := H
  replace H : ((steepleref02_Inv.f k a0 t640 t641).bind fun bt642 => ((steeplelaw02_same.f t636 t637 bt642.1 bt642.2).bind fun t644 => (if t644 = true then ((tower_Pow.f k a0 a1_0 a1_1 (IntKind.u64.wrap (Int.tmod (wrap64 ((Int.tmod a2 61) + 61)) 61))).bind fun bt645 => ((steeplelaw02_ref.f a1_0 a1_1).bind fun bt647 => ((steepleref02_Pow.f k a0 bt647.1 bt647.2 (Int.tmod (wrap64 ((Int.tmod a2 61) + 61)) 61)).bind fun bt649 => ((steeplelaw02_same.f bt645.1 bt645.2 bt649.1 bt649.2).bind fun t651 => (if t651 = true then ((tower_One.f).bind fun bt652 => ((tower_Div.f k a0 bt652.1 bt652.2 a1_0 a1_1).bind fun bt654 => ((tower_One.f).bind fun bt656 => ((tower_Mul.f k a0 bt656.1 bt656.2 t636 t637).bind fun bt658 => (some (bt654.1 == bt658.1 && (bt654.2 == bt658.2))))))) else (none)))))) else (none)))) = some r := H
  have A7 := Aside0.mk A70
  clear A70
  replace H := Option.bind_eq_some_iff.mp H
  obtain ⟨⟨t642, t643⟩, A80, H⟩ := H
  replace H : ((steeplelaw02_same.f t636 t637 t642 t643).bind fun t644 => (if t644 = true then ((tower_Pow.f k a0 a1_0 a1_1 (IntKind.u64.wrap (Int.tmod (wrap64 ((Int.tmod a2 61) + 61)) 61))).bind fun bt645 => ((steeplelaw02_ref.f a1_0 a1_1).bind fun bt647 => ((steepleref02_Pow.f k a0 bt647.1 bt647.2 (Int.tmod (wrap64 ((Int.tmod a2 61) + 61)) 61)).bind fun bt649 => ((steeplelaw02_same.f bt645.1 bt645.2 bt649.1 bt649.2).bind fun t651 => (if t651 = true then ((tower_One.f).bind fun bt652 => ((tower_Div.f k a0 bt652.1 bt652.2 a1_0 a1_1).bind fun bt654 => ((tower_One.f).bind fun bt656 => ((tower_Mul.f k a0 bt656.1 bt656.2 t636 t637).bind fun bt658 => (some (bt654.1 == bt658.1 && (bt654.2 == bt658.2))))))) else (none)))))) else (none))) = some r := H
  have A8 := Aside0.mk A80
  clear A80
  replace H := Option.bind_eq_some_iff.mp H
  obtain ⟨t644, A90, H⟩ := H
  replace H : (if t644 = true then ((tower_Pow.f k a0 a1_0 a1_1 (IntKind.u64.wrap (Int.tmod (wrap64 ((Int.tmod a2 61) + 61)) 61))).bind fun bt645 => ((steeplelaw02_ref.f a1_0 a1_1).bind fun bt647 => ((steepleref02_Pow.f k a0 bt647.1 bt647.2 (Int.tmod (wrap64 ((Int.tmod a2 61) + 61)) 61)).bind fun bt649 => ((steeplelaw02_same.f bt645.1 bt645.2 bt649.1 bt649.2).bind fun t651 => (if t651 = true then ((tower_One.f).bind fun bt652 => ((tower_Div.f k a0 bt652.1 bt652.2 a1_0 a1_1).bind fun bt654 => ((tower_One.f).bind fun bt656 => ((tower_Mul.f k a0 bt656.1 bt656.2 t636 t637).bind fun bt658 => (some (bt654.1 == bt658.1 && (bt654.2 == bt658.2))))))) else (none)))))) else (none)) = some r := H
  have A9 := Aside0.mk A90
  clear A90
  by_cases c10 : t644 = true
  ·subst c10
   have H1 : ((tower_Pow.f k a0 a1_0 a1_1 (IntKind.u64.wrap (Int.tmod (wrap64 ((Int.tmod a2 61) + 61)) 61))).bind fun bt645 => ((steeplelaw02_ref.f a1_0 a1_1).bind fun bt647 => ((steepleref02_Pow.f k a0 bt647.1 bt647.2 (Int.tmod (wrap64 ((Int.tmod a2 61) + 61)) 61)).bind fun bt649 => ((steeplelaw02_same.f bt645.1 bt645.2 bt649.1 bt649.2).bind fun t651 => (if t651 = true then ((tower_One.f).bind fun bt652 => ((tower_Div.f k a0 bt652.1 bt652.2 a1_0 a1_1).bind fun bt654 => ((tower_One.f).bind fun bt656 => ((tower_Mul.f k a0 bt656.1 bt656.2 t636 t637).bind fun bt658 => (some (bt654.1 == bt658.1 && (bt654.2 == bt658.2))))))) else (none)))))) = some r := by rw [if_pos rfl] at H; exact H
   clear H
   have H := H1
   clear H1
   replace H := Option.bind_eq_some_iff.mp H
   obtain ⟨⟨t645, t646⟩, A110, H⟩ := H
   replace H : ((steeplelaw02_ref.f a1_0 a1_1).bind fun bt647 => ((steepleref02_Pow.f k a0 bt647.1 bt647.2 (Int.tmod (wrap64 ((Int.tmod a2 61) + 61)) 61)).bind fun bt649 => ((steeplelaw02_same.f t645 t646 bt649.1 bt649.2).bind fun t651 => (if t651 = true then ((tower_One.f).bind fun bt652 => ((tower_Div.f k a0 bt652.1 bt652.2 a1_0 a1_1).bind fun bt654 => ((tower_One.f).bind fun bt656 => ((tower_Mul.f k a0 bt656.1 bt656.2 t636 t637).bind fun bt658 => (some (bt654.1 == bt658.1 && (bt654.2 == bt658.2))))))) else (none))))) = some r := H
   have A11 := Aside0.mk A110
   clear A110
   replace H := Option.bind_eq_some_iff.mp H
   obtain ⟨⟨t647, t648⟩, A120, H⟩ := H
   replace H : ((steepleref02_Pow.f k a0 t647 t648 (Int.tmod (wrap64 ((Int.tmod a2 61) + 61)) 61)).bind fun bt649 => ((steeplelaw02_same.f t645 t646 bt649.1 bt649.2).bind fun t651 => (if t651 = true then ((tower_One.f).bind fun bt652 => ((tower_Div.f k a0 bt652.1 bt652.2 a1_0 a1_1).bind fun bt654 => ((tower_One.f).bind fun bt656 => ((tower_Mul.f k a0 bt656.1 bt656.2 t636 t637).bind fun bt658 => (some (bt654.1 == bt658.1 && (bt654.2 == bt658.2))))))) else (none)))) = some r := H
   have A12 := Aside0.mk A120
   clear A120
   replace H := Option.bind_eq_some_iff.mp H
   obtain ⟨⟨t649, t650⟩, A130, H⟩ := H
   replace H : ((steeplelaw02_same.f t645 t646 t649 t650).bind fun t651 => (if t651 = true then ((tower_One.f).bind fun bt652 => ((tower_Div.f k a0 bt652.1 bt652.2 a1_0 a1_1).bind fun bt654 => ((tower_One.f).bind fun bt656 => ((tower_Mul.f k a0 bt656.1 bt656.2 t636 t637).bind fun bt658 => (some (bt654.1 == bt658.1 && (bt654.2 == bt658.2))))))) else (none))) = some r := H
   have A13 := Aside0.mk A130
   clear A130
   replace H := Option.bind_eq_some_iff.mp H
   obtain ⟨t651, A140, H⟩ := H
   replace H : (if t651 = true then ((tower_One.f).bind fun bt652 => ((tower_Div.f k a0 bt652.1 bt652.2 a1_0 a1_1).bind fun bt654 => ((tower_One.f).bind fun bt656 => ((tower_Mul.f k a0 bt656.1 bt656.2 t636 t637).bind fun bt658 => (some (bt654.1 == bt658.1 && (bt654.2 == bt658.2))))))) else (none)) = some r := H
   have A14 := Aside0.mk A140
   clear A140
   by_cases c15 : t651 = true
   ·subst c15
    have H1 : ((tower_One.f).bind fun bt652 => ((tower_Div.f k a0 bt652.1 bt652.2 a1_0 a1_1).bind fun bt654 => ((tower_One.f).bind fun bt656 => ((tower_Mul.f k a0 bt656.1 bt656.2 t636 t637).bind fun bt658 => (some (bt654.1 == bt658.1 && (bt654.2 == bt658.2))))))) = some r := by rw [if_pos rfl] at H; exact H
    clear H
    have H := H1
    clear H1
    replace H := Option.bind_eq_some_iff.mp H
    obtain ⟨⟨t652, t653⟩, A160, H⟩ := H
    replace H : ((tower_Div.f k a0 t652 t653 a1_0 a1_1).bind fun bt654 => ((tower_One.f).bind fun bt656 => ((tower_Mul.f k a0 bt656.1 bt656.2 t636 t637).bind fun bt658 => (some (bt654.1 == bt658.1 && (bt654.2 == bt658.2)))))) = some r := H
    have A16 := Aside0.mk A160
    clear A160
    replace H := Option.bind_eq_some_iff.mp H
    obtain ⟨⟨t654, t655⟩, A170, H⟩ := H
    replace H : ((tower_One.f).bind fun bt656 => ((tower_Mul.f k a0 bt656.1 bt656.2 t636 t637).bind fun bt658 => (some (t654 == bt658.1 && (t655 == bt658.2))))) = some r := H
    have A17 := Aside0.mk A170
    clear A170
    replace H := Option.bind_eq_some_iff.mp H
    obtain ⟨⟨t656, t657⟩, A180, H⟩ := H
    replace H : ((tower_Mul.f k a0 t656 t657 t636 t637).bind fun bt658 => (some (t654 == bt658.1 && (t655 == bt658.2)))) = some r := H
    have A18 := Aside0.mk A180
    clear A180
    replace H := Option.bind_eq_some_iff.mp H
    obtain ⟨⟨t658, t659⟩, A190, H⟩ := H
    replace H : (some (t654 == t658 && (t655 == t659))) = some r := H
    have A19 := Aside0.mk A190
    clear A190
    obtain rfl := Option.some.inj H
    go_enter Try.func11, Try.ntmps11
    try go_wp2_with (first | ((with_reducible refine gate_dst (N := 4) rfl ?_); refine box_event ?hg (N := 4) ?hd (cs := #[.int .u64 a1_0, .int .u64 a1_1]) (t := 24) ?hr ?_; (case hd => rfl); (case hg => rfl); (case hr => first | (go_simp; done) | (go_simp; rfl)); intro gb635 hg w20 hbox hb; have n0_ := Aside0.mk (below_step (by repeat (first | (with_reducible first | exact HB.out | apply below_alloc | apply pw_below_drewN | apply below_drew1) | exact HB.out)) hb); have n1_ := Aside0.mk (hbox); have n2_ := Aside0.mk ((by rw [hg]; exact (below_size (by repeat (first | (with_reducible first | exact HB.out | apply below_alloc | apply pw_below_drewN | apply below_drew1) | exact HB.out))) : w.heap.size ≤ gb635)); have n3_ := Aside0.mk ((by rw [hg]; exact (below_size (by repeat (first | (with_reducible first | exact HB.out | apply below_alloc | apply pw_below_drewN | apply below_drew1) | exact HB.out))) : w.heap.size ≤ gb635)); clear HB; have HB := n0_; have BK635 := n1_; have GW635 := n2_; have GE635 := n3_; clear n0_ n1_ n2_ n3_; clear hb hbox hg; have hcz21_0 : w20.cell? ⟨gb635, 0, none⟩ = some (.int .u64 a1_0) := (blk_cell BK635.out 0).trans rfl; have hcz21_1 : w20.cell? ⟨gb635, 1, none⟩ = some (.int .u64 a1_1) := (blk_cell BK635.out 1).trans rfl; have hfz21_0 := blk_frozen BK635.out 0; have hfz21_1 := blk_frozen BK635.out 1) | ((with_reducible refine gate_callee (f := 29) rfl ?_); refine goesL_ (some 14) rfl rfl Try.func29 (by kernel_rfl) rfl #[.int .i64 a0, .agg #[.int .u64 a1_0, .int .u64 a1_1]] rfl (by (try simp only [List.map_toArray, List.map_cons, List.map_nil]); first | done | rfl | (simp only [List.length_drop, List.length_take]; rfl)) ?_; (with_reducible refine (tower_Inv.calls k a0 a1_0 a1_1 t636 t637 _ A4.out).mono ?_); rintro e w22 ⟨rfl, hb⟩; refine ⟨_, rfl, ?_⟩; have n0_ := Aside0.mk (blk_below (g := gb635) (o := .cells #[.int .u64 a1_0, .int .u64 a1_1] 24 (0, 0)) (by (with_reducible repeat (first | refine blk_drewN ?_ _ | refine blk_drew ?_ | refine blk_alloc ?_ _)); exact BK635.out) hb); have n1_ := Aside0.mk (below_step (by repeat (first | (with_reducible first | exact HB.out | apply below_alloc | apply pw_below_drewN | apply below_drew1 | refine below_set ?_ GE635.out) | exact HB.out)) hb); clear BK635; clear HB; have BK635 := n0_; have HB := n1_; clear n0_ n1_; (try clear hb); (try clear hb2); (try clear hk); (try clear hi)) | ((with_reducible refine gate_dst (N := 7) rfl ?_); refine box_event ?hg (N := 7) ?hd (cs := #[.int .u64 0, .int .u64 0]) (t := 24) ?hr ?_; (case hd => rfl); (case hg => rfl); (case hr => first | (go_simp; done) | (go_simp; rfl)); intro gb638 hg w23 hbox hb; have n0_ := Aside0.mk (blk_below (g := gb635) (o := .cells #[.int .u64 a1_0, .int .u64 a1_1] 24 (0, 0)) (by (with_reducible repeat (first | refine blk_drewN ?_ _ | refine blk_drew ?_ | refine blk_alloc ?_ _)); exact BK635.out) hb); have n1_ := Aside0.mk (below_step (by repeat (first | (with_reducible first | exact HB.out | apply below_alloc | apply pw_below_drewN | apply below_drew1 | refine below_set ?_ GE635.out) | exact HB.out)) hb); have n2_ := Aside0.mk (hbox); have n3_ := Aside0.mk ((by rw [hg]; exact (below_size (by repeat (first | (with_reducible first | exact HB.out | apply below_alloc | apply pw_below_drewN | apply below_drew1 | refine below_set ?_ GE635.out) | exact HB.out))) : w.heap.size ≤ gb638)); have n4_ := Aside0.mk ((by rw [hg]; exact (below_size (by repeat (first | (with_reducible first | exact HB.out | apply below_alloc | apply pw_below_drewN | apply below_drew1 | refine below_set ?_ GE635.out) | exact HB.out))) : w.heap.size ≤ gb638)); have n5_ := Aside0.mk ((by rw [hg]; exact Nat.ne_of_lt (blk_lt (g := gb635) (o := .cells #[.int .u64 a1_0, .int .u64 a1_1] 24 (0, 0)) (by (with_reducible repeat (first | refine blk_drewN ?_ _ | refine blk_drew ?_ | refine blk_alloc ?_ _)); exact BK635.out)) : gb635 ≠ gb638)); have n6_ := Aside0.mk ((by rw [hg]; exact Nat.ne_of_gt (blk_lt (g := gb635) (o := .cells #[.int .u64 a1_0, .int .u64 a1_1] 24 (0, 0)) (by (with_reducible repeat (first | refine blk_drewN ?_ _ | refine blk_drew ?_ | refine blk_alloc ?_ _)); exact BK635.out)) : gb638 ≠ gb635)); clear BK635; clear HB; have BK635 := n0_; have HB := n1_; have BK638 := n2_; have GW638 := n3_; have GE638 := n4_; have NB635_638 := n5_; have NB638_635 := n6_; clear n0_ n1_ n2_ n3_ n4_ n5_ n6_; clear hb hbox hg; have hnb24 := NB638_635.out; have hnc24 := NB635_638.out; have hcz25_0 : w23.cell? ⟨gb638, 0, none⟩ = some (.int .u64 0) := (blk_cell BK638.out 0).trans rfl; have hcz25_1 : w23.cell? ⟨gb638, 1, none⟩ = some (.int .u64 0) := (blk_cell BK638.out 1).trans rfl; have hfz25_0 := blk_frozen BK638.out 0; have hfz25_1 := blk_frozen BK638.out 1))
    have n0_ : Aside0 (((w23.setCell ⟨gb638, 0, none⟩ (.int .u64 t636)).setCell ⟨gb638, 1, none⟩ (.int .u64 t637)).heap[gb635]? = some (.cells #[.int .u64 a1_0, .int .u64 a1_1] 24 (0, 0))) := ⟨by (with_reducible repeat (first | refine blk_drewN ?_ _ | refine blk_drew ?_ | refine blk_alloc ?_ _)); refine blk_far ?_ NB635_638.out _; (with_reducible repeat (first | refine blk_drewN ?_ _ | refine blk_drew ?_ | refine blk_alloc ?_ _)); refine blk_far ?_ NB635_638.out _; (with_reducible repeat (first | refine blk_drewN ?_ _ | refine blk_drew ?_ | refine blk_alloc ?_ _)); exact BK635.out⟩
    have n1_ : Aside0 (((w23.setCell ⟨gb638, 0, none⟩ (.int .u64 t636)).setCell ⟨gb638, 1, none⟩ (.int .u64 t637)).heap[gb638]? = some (.cells #[.int .u64 t636, .int .u64 t637] 24 (0, 0))) := ⟨by (with_reducible repeat (first | refine blk_drewN ?_ _ | refine blk_drew ?_ | refine blk_alloc ?_ _)); refine blk_put (cs := #[.int .u64 t636, .int .u64 0]) ?_ 1 _ rfl; (with_reducible repeat (first | refine blk_drewN ?_ _ | refine blk_drew ?_ | refine blk_alloc ?_ _)); refine blk_put (cs := #[.int .u64 0, .int .u64 0]) ?_ 0 _ rfl; (with_reducible repeat (first | refine blk_drewN ?_ _ | refine blk_drew ?_ | refine blk_alloc ?_ _)); exact BK638.out⟩
    have n2_ : Aside0 (Below w.heap.size w ((w23.setCell ⟨gb638, 0, none⟩ (.int .u64 t636)).setCell ⟨gb638, 1, none⟩ (.int .u64 t637))) := ⟨by repeat (first | (with_reducible first | exact HB.out | apply below_alloc | apply pw_below_drewN | apply below_drew1 | refine below_set ?_ GE635.out | refine below_set ?_ GE638.out) | exact HB.out)⟩
    (try clear BK635)
    (try clear BK638)
    (try clear HB)
    generalize ((w23.setCell ⟨gb638, 0, none⟩ (.int .u64 t636)).setCell ⟨gb638, 1, none⟩ (.int .u64 t637)) = w26 at n0_ n1_ n2_ ⊢
    have BK635 := n0_
    have BK638 := n1_
    have HB := n2_
    clear n0_ n1_ n2_
    have n0_ := Aside0.mk (blk_drew BK635.out)
    have n1_ := Aside0.mk (blk_drew BK638.out)
    have n2_ := Aside0.mk (below_drew1 HB.out)
    clear BK635
    clear BK638
    clear HB
    have BK635 := n0_
    have BK638 := n1_
    have HB := n2_
    clear n0_ n1_ n2_
    refine start_ (n := 34) (S := fun w' => w'.cell? ⟨gb638, 0, none⟩ = some (.int .u64 t636) ∧ w'.cell? ⟨gb638, 1, none⟩ = some (.int .u64 t637) ∧ w'.cell? ⟨gb635, 0, none⟩ = some (.int .u64 a1_0) ∧ w'.cell? ⟨gb635, 1, none⟩ = some (.int .u64 a1_1)) (ds := []) #[false, false, false, false, false, false, false, false, false, false, false, false, false, false, false, false, false, false, false, false, false, false, false, false, false, false, false, false, false, false, false, false, false, false] (by kernel_rfl) rfl rfl ⟨(blk_cell BK638.out 0).trans rfl, (blk_cell BK638.out 1).trans rfl, (blk_cell BK635.out 0).trans rfl, (blk_cell BK635.out 1).trans rfl⟩ (fun hHeld => ?_); refine with_tabW steeplelaw02_TowerInvs.tab3 steeplelaw02_TowerInvs.bits3 (fun HT_ HW_ => ?_)
    generalize w26.drew = w27 at BK635 BK638 HB hHeld ⊢
    refine one_ (i := 0) (N := some 15) #[true, false, false, false, false, false, false, false, false, false, false, false, false, false, false, false, false, false, false, false, false, false, false, false, false, false, false, false, false, false, false, false, false, false] rfl rfl (one_of HT_.out (by kernel_rfl)) (by decide) (fun K hK => ?_)
    refine goes_ Try.func15 (by kernel_rfl) rfl #[] (by rfl) rfl rfl (by (try simp only [List.map_toArray, List.map_cons, List.map_nil]); first | done | rfl | (simp only [List.length_drop, List.length_take]; rfl)) ?_
    with_reducible refine (steeplelaw02_awake.calls k  true _ A5.out).mono ?_
    rintro e w28 ⟨rfl, hb⟩
    refine ⟨_, rfl, ?_⟩
    have n0_ := Aside0.mk (blk_below (g := gb635) (o := .cells #[.int .u64 a1_0, .int .u64 a1_1] 24 (0, 0)) (by (with_reducible repeat (first | refine blk_drewN ?_ _ | refine blk_drew ?_ | refine blk_alloc ?_ _)); exact BK635.out) hb)
    have n1_ := Aside0.mk (blk_below (g := gb638) (o := .cells #[.int .u64 t636, .int .u64 t637] 24 (0, 0)) (by (with_reducible repeat (first | refine blk_drewN ?_ _ | refine blk_drew ?_ | refine blk_alloc ?_ _)); exact BK638.out) hb)
    have n2_ := Aside0.mk (below_step (by repeat (first | (with_reducible first | exact HB.out | apply below_alloc | apply pw_below_drewN | apply below_drew1 | refine below_set ?_ GE635.out | refine below_set ?_ GE638.out) | exact HB.out)) hb)
    clear BK635
    clear BK638
    clear HB
    have BK635 := n0_
    have BK638 := n1_
    have HB := n2_
    clear n0_ n1_ n2_
    (try clear hb)
    (try clear hb2)
    (try clear hk)
    (try clear hi)
    refine hK.out _ _ ⟨(blk_cell BK638.out 0).trans rfl, (blk_cell BK638.out 1).trans rfl, (blk_cell BK635.out 0).trans rfl, (blk_cell BK635.out 1).trans rfl⟩ (fun hHeld => ?_)
    clear hK K
    refine norm_ (a' := ?_) ?_ ?_
    rotate_left
    ·show Act.put _ (some 15) _ = _
     simp only [Act.put, List.setIfInBounds_toArray, List.set_cons_zero, List.set_cons_succ, i64_w, i32_w]
     rfl
    refine pure_ (i := 1) (N := some 16) (v := ?_) (a' := ?_) #[true, true, false, false, false, false, false, false, false, false, false, false, false, false, false, false, false, false, false, false, false, false, false, false, false, false, false, false, false, false, false, false, false, false] rfl rfl (any_of HT_.out (by kernel_rfl)) (fun _ _ _ h => h) (Or.inl ⟨by rfl, ?_⟩) ?_ ?_
    rotate_left
    ·intro w'
     go_simp
     with_reducible rfl
    rotate_left
    ·simp only [Act.put, List.setIfInBounds_toArray, List.set_cons_zero, List.set_cons_succ, i64_w, i32_w]
     rfl
    refine pure_ (i := 3) (N := some 18) (v := ?_) (a' := ?_) #[true, true, false, true, false, false, false, false, false, false, false, false, false, false, false, false, false, false, false, false, false, false, false, false, false, false, false, false, false, false, false, false, false, false] rfl rfl (any_of HT_.out (by kernel_rfl)) (fun _ _ _ h => h) (Or.inl ⟨by rfl, ?_⟩) ?_ ?_
    rotate_left
    ·intro w'
     go_simp
     with_reducible rfl
    rotate_left
    ·simp only [Act.put, List.setIfInBounds_toArray, List.set_cons_zero, List.set_cons_succ, i64_w, i32_w]
     rfl
    refine take_ (i := 2) (N := some 17) (v := ?_) (a' := ?_) #[true, true, true, true, false, false, false, false, false, false, false, false, false, false, false, false, false, false, false, false, false, false, false, false, false, false, false, false, false, false, false, false, false, false] rfl rfl (take_ofW HT_.out HW_.out (by kernel_rfl)) (fun _ _ _ h => h) (Or.inl ⟨by rfl, ?_⟩) hHeld ?_ ?_
    rotate_left
    ·rintro w' ⟨s0, s1, s2, s3⟩
     go_simp
     with_reducible rfl
    rotate_left
    ·simp only [Act.put, List.setIfInBounds_toArray, List.set_cons_zero, List.set_cons_succ, i64_w, i32_w]
     rfl
    refine take_ (i := 4) (N := some 19) (v := ?_) (a' := ?_) #[true, true, true, true, true, false, false, false, false, false, false, false, false, false, false, false, false, false, false, false, false, false, false, false, false, false, false, false, false, false, false, false, false, false] rfl rfl (take_ofW HT_.out HW_.out (by kernel_rfl)) (fun _ _ _ h => h) (Or.inl ⟨by rfl, ?_⟩) hHeld ?_ ?_
    rotate_left
    ·rintro w' ⟨s0, s1, s2, s3⟩
     go_simp
     with_reducible rfl
    rotate_left
    ·simp only [Act.put, List.setIfInBounds_toArray, List.set_cons_zero, List.set_cons_succ, i64_w, i32_w]
     rfl
    refine one_ (i := 5) (N := some 20) #[true, true, true, true, true, true, false, false, false, false, false, false, false, false, false, false, false, false, false, false, false, false, false, false, false, false, false, false, false, false, false, false, false, false] rfl rfl (one_of HT_.out (by kernel_rfl)) (by decide) (fun K hK => ?_)
    refine goes_ Try.func20 (by kernel_rfl) rfl #[.agg #[.int .u64 a1_0, .int .u64 a1_1]] (by rfl) rfl rfl (by (try simp only [List.map_toArray, List.map_cons, List.map_nil]); first | done | rfl | (simp only [List.length_drop, List.length_take]; rfl)) ?_
    with_reducible refine (steeplelaw02_ref.calls a1_0 a1_1 t640 t641 _ A7.out).mono ?_
    rintro e w29 ⟨rfl, hb⟩
    refine ⟨_, rfl, ?_⟩
    have n0_ := Aside0.mk (blk_below (g := gb635) (o := .cells #[.int .u64 a1_0, .int .u64 a1_1] 24 (0, 0)) (by (with_reducible repeat (first | refine blk_drewN ?_ _ | refine blk_drew ?_ | refine blk_alloc ?_ _)); exact BK635.out) hb)
    have n1_ := Aside0.mk (blk_below (g := gb638) (o := .cells #[.int .u64 t636, .int .u64 t637] 24 (0, 0)) (by (with_reducible repeat (first | refine blk_drewN ?_ _ | refine blk_drew ?_ | refine blk_alloc ?_ _)); exact BK638.out) hb)
    have n2_ := Aside0.mk (below_step (by repeat (first | (with_reducible first | exact HB.out | apply below_alloc | apply pw_below_drewN | apply below_drew1 | refine below_set ?_ GE635.out | refine below_set ?_ GE638.out) | exact HB.out)) hb)
    clear BK635
    clear BK638
    clear HB
    have BK635 := n0_
    have BK638 := n1_
    have HB := n2_
    clear n0_ n1_ n2_
    (try clear hb)
    (try clear hb2)
    (try clear hk)
    (try clear hi)
    refine hK.out _ _ ⟨(blk_cell BK638.out 0).trans rfl, (blk_cell BK638.out 1).trans rfl, (blk_cell BK635.out 0).trans rfl, (blk_cell BK635.out 1).trans rfl⟩ (fun hHeld => ?_)
    clear hK K
    refine norm_ (a' := ?_) ?_ ?_
    rotate_left
    ·show Act.put _ (some 20) _ = _
     simp only [Act.put, List.setIfInBounds_toArray, List.set_cons_zero, List.set_cons_succ, i64_w, i32_w]
     rfl
    refine one_ (i := 6) (N := some 21) #[true, true, true, true, true, true, true, false, false, false, false, false, false, false, false, false, false, false, false, false, false, false, false, false, false, false, false, false, false, false, false, false, false, false] rfl rfl (one_of HT_.out (by kernel_rfl)) (by decide) (fun K hK => ?_)
    refine goes_ Try.func42 (by kernel_rfl) rfl #[.int .i64 a0, .agg #[.int .u64 t640, .int .u64 t641]] (by rfl) rfl rfl (by (try simp only [List.map_toArray, List.map_cons, List.map_nil]); first | done | rfl | (simp only [List.length_drop, List.length_take]; rfl)) ?_
    with_reducible refine (steepleref02_Inv.calls k a0 t640 t641 t642 t643 _ A8.out).mono ?_
    rintro e w30 ⟨rfl, hb⟩
    refine ⟨_, rfl, ?_⟩
    have n0_ := Aside0.mk (blk_below (g := gb635) (o := .cells #[.int .u64 a1_0, .int .u64 a1_1] 24 (0, 0)) (by (with_reducible repeat (first | refine blk_drewN ?_ _ | refine blk_drew ?_ | refine blk_alloc ?_ _)); exact BK635.out) hb)
    have n1_ := Aside0.mk (blk_below (g := gb638) (o := .cells #[.int .u64 t636, .int .u64 t637] 24 (0, 0)) (by (with_reducible repeat (first | refine blk_drewN ?_ _ | refine blk_drew ?_ | refine blk_alloc ?_ _)); exact BK638.out) hb)
    have n2_ := Aside0.mk (below_step (by repeat (first | (with_reducible first | exact HB.out | apply below_alloc | apply pw_below_drewN | apply below_drew1 | refine below_set ?_ GE635.out | refine below_set ?_ GE638.out) | exact HB.out)) hb)
    clear BK635
    clear BK638
    clear HB
    have BK635 := n0_
    have BK638 := n1_
    have HB := n2_
    clear n0_ n1_ n2_
    (try clear hb)
    (try clear hb2)
    (try clear hk)
    (try clear hi)
    refine hK.out _ _ ⟨(blk_cell BK638.out 0).trans rfl, (blk_cell BK638.out 1).trans rfl, (blk_cell BK635.out 0).trans rfl, (blk_cell BK635.out 1).trans rfl⟩ (fun hHeld => ?_)
    clear hK K
    refine norm_ (a' := ?_) ?_ ?_
    rotate_left
    ·show Act.put _ (some 21) _ = _
     simp only [Act.put, List.setIfInBounds_toArray, List.set_cons_zero, List.set_cons_succ, i64_w, i32_w]
     rfl
    refine one_ (i := 7) (N := some 22) #[true, true, true, true, true, true, true, true, false, false, false, false, false, false, false, false, false, false, false, false, false, false, false, false, false, false, false, false, false, false, false, false, false, false] rfl rfl (one_of HT_.out (by kernel_rfl)) (by decide) (fun K hK => ?_)
    refine goes_ Try.func21 (by kernel_rfl) rfl #[.agg #[.int .u64 t636, .int .u64 t637], .agg #[.int .u64 t642, .int .u64 t643]] (by rfl) rfl rfl (by (try simp only [List.map_toArray, List.map_cons, List.map_nil]); first | done | rfl | (simp only [List.length_drop, List.length_take]; rfl)) ?_
    with_reducible refine (steeplelaw02_same.calls t636 t637 t642 t643 true _ A9.out).mono ?_
    rintro e w31 ⟨rfl, hb⟩
    refine ⟨_, rfl, ?_⟩
    have n0_ := Aside0.mk (blk_below (g := gb635) (o := .cells #[.int .u64 a1_0, .int .u64 a1_1] 24 (0, 0)) (by (with_reducible repeat (first | refine blk_drewN ?_ _ | refine blk_drew ?_ | refine blk_alloc ?_ _)); exact BK635.out) hb)
    have n1_ := Aside0.mk (blk_below (g := gb638) (o := .cells #[.int .u64 t636, .int .u64 t637] 24 (0, 0)) (by (with_reducible repeat (first | refine blk_drewN ?_ _ | refine blk_drew ?_ | refine blk_alloc ?_ _)); exact BK638.out) hb)
    have n2_ := Aside0.mk (below_step (by repeat (first | (with_reducible first | exact HB.out | apply below_alloc | apply pw_below_drewN | apply below_drew1 | refine below_set ?_ GE635.out | refine below_set ?_ GE638.out) | exact HB.out)) hb)
    clear BK635
    clear BK638
    clear HB
    have BK635 := n0_
    have BK638 := n1_
    have HB := n2_
    clear n0_ n1_ n2_
    (try clear hb)
    (try clear hb2)
    (try clear hk)
    (try clear hi)
    refine hK.out _ _ ⟨(blk_cell BK638.out 0).trans rfl, (blk_cell BK638.out 1).trans rfl, (blk_cell BK635.out 0).trans rfl, (blk_cell BK635.out 1).trans rfl⟩ (fun hHeld => ?_)
    clear hK K
    refine norm_ (a' := ?_) ?_ ?_
    rotate_left
    ·show Act.put _ (some 22) _ = _
     simp only [Act.put, List.setIfInBounds_toArray, List.set_cons_zero, List.set_cons_succ, i64_w, i32_w]
     rfl
    refine pure_ (i := 8) (N := some 23) (v := ?_) (a' := ?_) #[true, true, true, true, true, true, true, true, true, false, false, false, false, false, false, false, false, false, false, false, false, false, false, false, false, false, false, false, false, false, false, false, false, false] rfl rfl (any_of HT_.out (by kernel_rfl)) (fun _ _ _ h => h) (Or.inl ⟨by rfl, ?_⟩) ?_ ?_
    rotate_left
    ·intro w'
     go_simp
     with_reducible rfl
    rotate_left
    ·simp only [Act.put, List.setIfInBounds_toArray, List.set_cons_zero, List.set_cons_succ, i64_w, i32_w]
     rfl
    refine pure_ (i := 9) (N := some 24) (v := ?_) (a' := ?_) #[true, true, true, true, true, true, true, true, true, true, false, false, false, false, false, false, false, false, false, false, false, false, false, false, false, false, false, false, false, false, false, false, false, false] rfl rfl (any_of HT_.out (by kernel_rfl)) (fun _ _ _ h => h) (Or.inl ⟨by rfl, ?_⟩) ?_ ?_
    rotate_left
    ·intro w'
     go_simp
     with_reducible rfl
    rotate_left
    ·simp only [Act.put, List.setIfInBounds_toArray, List.set_cons_zero, List.set_cons_succ, i64_w, i32_w]
     rfl
    refine pure_ (i := 10) (N := some 25) (v := ?_) (a' := ?_) #[true, true, true, true, true, true, true, true, true, true, true, false, false, false, false, false, false, false, false, false, false, false, false, false, false, false, false, false, false, false, false, false, false, false] rfl rfl (any_of HT_.out (by kernel_rfl)) (fun _ _ _ h => h) (Or.inl ⟨by rfl, ?_⟩) ?_ ?_
    rotate_left
    ·intro w'
     go_simp
     with_reducible rfl
    rotate_left
    ·simp only [Act.put, List.setIfInBounds_toArray, List.set_cons_zero, List.set_cons_succ, i64_w, i32_w]
     rfl
    refine pure_ (i := 12) (N := some 27) (v := ?_) (a' := ?_) #[true, true, true, true, true, true, true, true, true, true, true, false, true, false, false, false, false, false, false, false, false, false, false, false, false, false, false, false, false, false, false, false, false, false] rfl rfl (any_of HT_.out (by kernel_rfl)) (fun _ _ _ h => h) (Or.inl ⟨by rfl, ?_⟩) ?_ ?_
    rotate_left
    ·intro w'
     go_simp
     with_reducible rfl
    rotate_left
    ·simp only [Act.put, List.setIfInBounds_toArray, List.set_cons_zero, List.set_cons_succ, i64_w, i32_w]
     rfl
    refine pure_ (i := 13) (N := some 28) (v := ?_) (a' := ?_) #[true, true, true, true, true, true, true, true, true, true, true, false, true, true, false, false, false, false, false, false, false, false, false, false, false, false, false, false, false, false, false, false, false, false] rfl rfl (any_of HT_.out (by kernel_rfl)) (fun _ _ _ h => h) (Or.inl ⟨by rfl, ?_⟩) ?_ ?_
    rotate_left
    ·intro w'
     go_simp
     with_reducible rfl
    rotate_left
    ·simp only [Act.put, List.setIfInBounds_toArray, List.set_cons_zero, List.set_cons_succ, i64_w, i32_w]
     rfl
    refine pure_ (i := 15) (N := some 30) (v := ?_) (a' := ?_) #[true, true, true, true, true, true, true, true, true, true, true, false, true, true, false, true, false, false, false, false, false, false, false, false, false, false, false, false, false, false, false, false, false, false] rfl rfl (any_of HT_.out (by kernel_rfl)) (fun _ _ _ h => h) (Or.inl ⟨by rfl, ?_⟩) ?_ ?_
    rotate_left
    ·intro w'
     go_simp
     with_reducible rfl
    rotate_left
    ·simp only [Act.put, List.setIfInBounds_toArray, List.set_cons_zero, List.set_cons_succ, i64_w, i32_w]
     rfl
    refine pure_ (i := 18) (N := some 33) (v := ?_) (a' := ?_) #[true, true, true, true, true, true, true, true, true, true, true, false, true, true, false, true, false, false, true, false, false, false, false, false, false, false, false, false, false, false, false, false, false, false] rfl rfl (any_of HT_.out (by kernel_rfl)) (fun _ _ _ h => h) (Or.inl ⟨by rfl, ?_⟩) ?_ ?_
    rotate_left
    ·intro w'
     go_simp
     with_reducible rfl
    rotate_left
    ·simp only [Act.put, List.setIfInBounds_toArray, List.set_cons_zero, List.set_cons_succ, i64_w, i32_w]
     rfl
    refine take_ (i := 11) (N := some 26) (v := ?_) (a' := ?_) #[true, true, true, true, true, true, true, true, true, true, true, true, true, true, false, true, false, false, true, false, false, false, false, false, false, false, false, false, false, false, false, false, false, false] rfl rfl (take_ofW HT_.out HW_.out (by kernel_rfl)) (fun _ _ _ h => h) (Or.inl ⟨by rfl, ?_⟩) hHeld ?_ ?_
    rotate_left
    ·rintro w' ⟨s0, s1, s2, s3⟩
     go_simp
     with_reducible rfl
    rotate_left
    ·simp only [Act.put, List.setIfInBounds_toArray, List.set_cons_zero, List.set_cons_succ, i64_w, i32_w]
     rfl
    refine take_ (i := 16) (N := some 31) (v := ?_) (a' := ?_) #[true, true, true, true, true, true, true, true, true, true, true, true, true, true, false, true, true, false, true, false, false, false, false, false, false, false, false, false, false, false, false, false, false, false] rfl rfl (take_ofW HT_.out HW_.out (by kernel_rfl)) (fun _ _ _ h => h) (Or.inl ⟨by rfl, ?_⟩) hHeld ?_ ?_
    rotate_left
    ·rintro w' ⟨s0, s1, s2, s3⟩
     go_simp
     with_reducible rfl
    rotate_left
    ·simp only [Act.put, List.setIfInBounds_toArray, List.set_cons_zero, List.set_cons_succ, i64_w, i32_w]
     rfl
    refine one_ (i := 14) (N := some 29) #[true, true, true, true, true, true, true, true, true, true, true, true, true, true, true, true, true, false, true, false, false, false, false, false, false, false, false, false, false, false, false, false, false, false] rfl rfl (one_of HT_.out (by kernel_rfl)) (by decide) (fun K hK => ?_)
    refine goes_ Try.func31 (by kernel_rfl) rfl #[.int .i64 a0, .agg #[.int .u64 a1_0, .int .u64 a1_1], .int .u64 (IntKind.u64.wrap (Int.tmod (wrap64 ((Int.tmod a2 61) + 61)) 61))] (by rfl) rfl rfl (by (try simp only [List.map_toArray, List.map_cons, List.map_nil]); first | done | rfl | (simp only [List.length_drop, List.length_take]; rfl)) ?_
    with_reducible refine (tower_Pow.calls k a0 a1_0 a1_1 (IntKind.u64.wrap (Int.tmod (wrap64 ((Int.tmod a2 61) + 61)) 61)) t645 t646 _ A11.out).mono ?_
    rintro e w32 ⟨rfl, hb⟩
    refine ⟨_, rfl, ?_⟩
    have n0_ := Aside0.mk (blk_below (g := gb635) (o := .cells #[.int .u64 a1_0, .int .u64 a1_1] 24 (0, 0)) (by (with_reducible repeat (first | refine blk_drewN ?_ _ | refine blk_drew ?_ | refine blk_alloc ?_ _)); exact BK635.out) hb)
    have n1_ := Aside0.mk (blk_below (g := gb638) (o := .cells #[.int .u64 t636, .int .u64 t637] 24 (0, 0)) (by (with_reducible repeat (first | refine blk_drewN ?_ _ | refine blk_drew ?_ | refine blk_alloc ?_ _)); exact BK638.out) hb)
    have n2_ := Aside0.mk (below_step (by repeat (first | (with_reducible first | exact HB.out | apply below_alloc | apply pw_below_drewN | apply below_drew1 | refine below_set ?_ GE635.out | refine below_set ?_ GE638.out) | exact HB.out)) hb)
    clear BK635
    clear BK638
    clear HB
    have BK635 := n0_
    have BK638 := n1_
    have HB := n2_
    clear n0_ n1_ n2_
    (try clear hb)
    (try clear hb2)
    (try clear hk)
    (try clear hi)
    refine hK.out _ _ ⟨(blk_cell BK638.out 0).trans rfl, (blk_cell BK638.out 1).trans rfl, (blk_cell BK635.out 0).trans rfl, (blk_cell BK635.out 1).trans rfl⟩ (fun hHeld => ?_)
    clear hK K
    refine norm_ (a' := ?_) ?_ ?_
    rotate_left
    ·show Act.put _ (some 29) _ = _
     simp only [Act.put, List.setIfInBounds_toArray, List.set_cons_zero, List.set_cons_succ, i64_w, i32_w]
     rfl
    refine one_ (i := 17) (N := some 32) #[true, true, true, true, true, true, true, true, true, true, true, true, true, true, true, true, true, true, true, false, false, false, false, false, false, false, false, false, false, false, false, false, false, false] rfl rfl (one_of HT_.out (by kernel_rfl)) (by decide) (fun K hK => ?_)
    refine goes_ Try.func20 (by kernel_rfl) rfl #[.agg #[.int .u64 a1_0, .int .u64 a1_1]] (by rfl) rfl rfl (by (try simp only [List.map_toArray, List.map_cons, List.map_nil]); first | done | rfl | (simp only [List.length_drop, List.length_take]; rfl)) ?_
    with_reducible refine (steeplelaw02_ref.calls a1_0 a1_1 t647 t648 _ A12.out).mono ?_
    rintro e w33 ⟨rfl, hb⟩
    refine ⟨_, rfl, ?_⟩
    have n0_ := Aside0.mk (blk_below (g := gb635) (o := .cells #[.int .u64 a1_0, .int .u64 a1_1] 24 (0, 0)) (by (with_reducible repeat (first | refine blk_drewN ?_ _ | refine blk_drew ?_ | refine blk_alloc ?_ _)); exact BK635.out) hb)
    have n1_ := Aside0.mk (blk_below (g := gb638) (o := .cells #[.int .u64 t636, .int .u64 t637] 24 (0, 0)) (by (with_reducible repeat (first | refine blk_drewN ?_ _ | refine blk_drew ?_ | refine blk_alloc ?_ _)); exact BK638.out) hb)
    have n2_ := Aside0.mk (below_step (by repeat (first | (with_reducible first | exact HB.out | apply below_alloc | apply pw_below_drewN | apply below_drew1 | refine below_set ?_ GE635.out | refine below_set ?_ GE638.out) | exact HB.out)) hb)
    clear BK635
    clear BK638
    clear HB
    have BK635 := n0_
    have BK638 := n1_
    have HB := n2_
    clear n0_ n1_ n2_
    (try clear hb)
    (try clear hb2)
    (try clear hk)
    (try clear hi)
    refine hK.out _ _ ⟨(blk_cell BK638.out 0).trans rfl, (blk_cell BK638.out 1).trans rfl, (blk_cell BK635.out 0).trans rfl, (blk_cell BK635.out 1).trans rfl⟩ (fun hHeld => ?_)
    clear hK K
    refine norm_ (a' := ?_) ?_ ?_
    rotate_left
    ·show Act.put _ (some 32) _ = _
     simp only [Act.put, List.setIfInBounds_toArray, List.set_cons_zero, List.set_cons_succ, i64_w, i32_w]
     rfl
    refine one_ (i := 19) (N := some 34) #[true, true, true, true, true, true, true, true, true, true, true, true, true, true, true, true, true, true, true, true, false, false, false, false, false, false, false, false, false, false, false, false, false, false] rfl rfl (one_of HT_.out (by kernel_rfl)) (by decide) (fun K hK => ?_)
    refine goes_ Try.func43 (by kernel_rfl) rfl #[.int .i64 a0, .agg #[.int .u64 t647, .int .u64 t648], .int .i64 (Int.tmod (wrap64 ((Int.tmod a2 61) + 61)) 61)] (by rfl) rfl rfl (by (try simp only [List.map_toArray, List.map_cons, List.map_nil]); first | done | rfl | (simp only [List.length_drop, List.length_take]; rfl)) ?_
    with_reducible refine (steepleref02_Pow.calls k a0 t647 t648 (Int.tmod (wrap64 ((Int.tmod a2 61) + 61)) 61) t649 t650 _ A13.out).mono ?_
    rintro e w34 ⟨rfl, hb⟩
    refine ⟨_, rfl, ?_⟩
    have n0_ := Aside0.mk (blk_below (g := gb635) (o := .cells #[.int .u64 a1_0, .int .u64 a1_1] 24 (0, 0)) (by (with_reducible repeat (first | refine blk_drewN ?_ _ | refine blk_drew ?_ | refine blk_alloc ?_ _)); exact BK635.out) hb)
    have n1_ := Aside0.mk (blk_below (g := gb638) (o := .cells #[.int .u64 t636, .int .u64 t637] 24 (0, 0)) (by (with_reducible repeat (first | refine blk_drewN ?_ _ | refine blk_drew ?_ | refine blk_alloc ?_ _)); exact BK638.out) hb)
    have n2_ := Aside0.mk (below_step (by repeat (first | (with_reducible first | exact HB.out | apply below_alloc | apply pw_below_drewN | apply below_drew1 | refine below_set ?_ GE635.out | refine below_set ?_ GE638.out) | exact HB.out)) hb)
    clear BK635
    clear BK638
    clear HB
    have BK635 := n0_
    have BK638 := n1_
    have HB := n2_
    clear n0_ n1_ n2_
    (try clear hb)
    (try clear hb2)
    (try clear hk)
    (try clear hi)
    refine hK.out _ _ ⟨(blk_cell BK638.out 0).trans rfl, (blk_cell BK638.out 1).trans rfl, (blk_cell BK635.out 0).trans rfl, (blk_cell BK635.out 1).trans rfl⟩ (fun hHeld => ?_)
    clear hK K
    refine norm_ (a' := ?_) ?_ ?_
    rotate_left
    ·show Act.put _ (some 34) _ = _
     simp only [Act.put, List.setIfInBounds_toArray, List.set_cons_zero, List.set_cons_succ, i64_w, i32_w]
     rfl
    refine one_ (i := 20) (N := some 35) #[true, true, true, true, true, true, true, true, true, true, true, true, true, true, true, true, true, true, true, true, true, false, false, false, false, false, false, false, false, false, false, false, false, false] rfl rfl (one_of HT_.out (by kernel_rfl)) (by decide) (fun K hK => ?_)
    refine goes_ Try.func21 (by kernel_rfl) rfl #[.agg #[.int .u64 t645, .int .u64 t646], .agg #[.int .u64 t649, .int .u64 t650]] (by rfl) rfl rfl (by (try simp only [List.map_toArray, List.map_cons, List.map_nil]); first | done | rfl | (simp only [List.length_drop, List.length_take]; rfl)) ?_
    with_reducible refine (steeplelaw02_same.calls t645 t646 t649 t650 true _ A14.out).mono ?_
    rintro e w35 ⟨rfl, hb⟩
    refine ⟨_, rfl, ?_⟩
    have n0_ := Aside0.mk (blk_below (g := gb635) (o := .cells #[.int .u64 a1_0, .int .u64 a1_1] 24 (0, 0)) (by (with_reducible repeat (first | refine blk_drewN ?_ _ | refine blk_drew ?_ | refine blk_alloc ?_ _)); exact BK635.out) hb)
    have n1_ := Aside0.mk (blk_below (g := gb638) (o := .cells #[.int .u64 t636, .int .u64 t637] 24 (0, 0)) (by (with_reducible repeat (first | refine blk_drewN ?_ _ | refine blk_drew ?_ | refine blk_alloc ?_ _)); exact BK638.out) hb)
    have n2_ := Aside0.mk (below_step (by repeat (first | (with_reducible first | exact HB.out | apply below_alloc | apply pw_below_drewN | apply below_drew1 | refine below_set ?_ GE635.out | refine below_set ?_ GE638.out) | exact HB.out)) hb)
    clear BK635
    clear BK638
    clear HB
    have BK635 := n0_
    have BK638 := n1_
    have HB := n2_
    clear n0_ n1_ n2_
    (try clear hb)
    (try clear hb2)
    (try clear hk)
    (try clear hi)
    refine hK.out _ _ ⟨(blk_cell BK638.out 0).trans rfl, (blk_cell BK638.out 1).trans rfl, (blk_cell BK635.out 0).trans rfl, (blk_cell BK635.out 1).trans rfl⟩ (fun hHeld => ?_)
    clear hK K
    refine norm_ (a' := ?_) ?_ ?_
    rotate_left
    ·show Act.put _ (some 35) _ = _
     simp only [Act.put, List.setIfInBounds_toArray, List.set_cons_zero, List.set_cons_succ, i64_w, i32_w]
     rfl
    refine pure_ (i := 21) (N := some 36) (v := ?_) (a' := ?_) #[true, true, true, true, true, true, true, true, true, true, true, true, true, true, true, true, true, true, true, true, true, true, false, false, false, false, false, false, false, false, false, false, false, false] rfl rfl (any_of HT_.out (by kernel_rfl)) (fun _ _ _ h => h) (Or.inl ⟨by rfl, ?_⟩) ?_ ?_
    rotate_left
    ·intro w'
     go_simp
     with_reducible rfl
    rotate_left
    ·simp only [Act.put, List.setIfInBounds_toArray, List.set_cons_zero, List.set_cons_succ, i64_w, i32_w]
     rfl
    refine pure_ (i := 22) (N := some 37) (v := ?_) (a' := ?_) #[true, true, true, true, true, true, true, true, true, true, true, true, true, true, true, true, true, true, true, true, true, true, true, false, false, false, false, false, false, false, false, false, false, false] rfl rfl (any_of HT_.out (by kernel_rfl)) (fun _ _ _ h => h) (Or.inl ⟨by rfl, ?_⟩) ?_ ?_
    rotate_left
    ·intro w'
     go_simp
     with_reducible rfl
    rotate_left
    ·simp only [Act.put, List.setIfInBounds_toArray, List.set_cons_zero, List.set_cons_succ, i64_w, i32_w]
     rfl
    refine pure_ (i := 23) (N := some 38) (v := ?_) (a' := ?_) #[true, true, true, true, true, true, true, true, true, true, true, true, true, true, true, true, true, true, true, true, true, true, true, true, false, false, false, false, false, false, false, false, false, false] rfl rfl (any_of HT_.out (by kernel_rfl)) (fun _ _ _ h => h) (Or.inl ⟨by rfl, ?_⟩) ?_ ?_
    rotate_left
    ·intro w'
     go_simp
     with_reducible rfl
    rotate_left
    ·simp only [Act.put, List.setIfInBounds_toArray, List.set_cons_zero, List.set_cons_succ, i64_w, i32_w]
     rfl
    refine pure_ (i := 27) (N := some 42) (v := ?_) (a' := ?_) #[true, true, true, true, true, true, true, true, true, true, true, true, true, true, true, true, true, true, true, true, true, true, true, true, false, false, false, true, false, false, false, false, false, false] rfl rfl (any_of HT_.out (by kernel_rfl)) (fun _ _ _ h => h) (Or.inl ⟨by rfl, ?_⟩) ?_ ?_
    rotate_left
    ·intro w'
     go_simp
     with_reducible rfl
    rotate_left
    ·simp only [Act.put, List.setIfInBounds_toArray, List.set_cons_zero, List.set_cons_succ, i64_w, i32_w]
     rfl
    refine take_ (i := 25) (N := some 40) (v := ?_) (a' := ?_) #[true, true, true, true, true, true, true, true, true, true, true, true, true, true, true, true, true, true, true, true, true, true, true, true, false, true, false, true, false, false, false, false, false, false] rfl rfl (take_ofW HT_.out HW_.out (by kernel_rfl)) (fun _ _ _ h => h) (Or.inl ⟨by rfl, ?_⟩) hHeld ?_ ?_
    rotate_left
    ·rintro w' ⟨s0, s1, s2, s3⟩
     go_simp
     with_reducible rfl
    rotate_left
    ·simp only [Act.put, List.setIfInBounds_toArray, List.set_cons_zero, List.set_cons_succ, i64_w, i32_w]
     rfl
    refine take_ (i := 29) (N := some 44) (v := ?_) (a' := ?_) #[true, true, true, true, true, true, true, true, true, true, true, true, true, true, true, true, true, true, true, true, true, true, true, true, false, true, false, true, false, true, false, false, false, false] rfl rfl (take_ofW HT_.out HW_.out (by kernel_rfl)) (fun _ _ _ h => h) (Or.inl ⟨by rfl, ?_⟩) hHeld ?_ ?_
    rotate_left
    ·rintro w' ⟨s0, s1, s2, s3⟩
     go_simp
     with_reducible rfl
    rotate_left
    ·simp only [Act.put, List.setIfInBounds_toArray, List.set_cons_zero, List.set_cons_succ, i64_w, i32_w]
     rfl
    refine one_ (i := 24) (N := some 39) #[true, true, true, true, true, true, true, true, true, true, true, true, true, true, true, true, true, true, true, true, true, true, true, true, true, true, false, true, false, true, false, false, false, false] rfl rfl (one_of HT_.out (by kernel_rfl)) (by decide) (fun K hK => ?_)
    refine goes_ Try.func16 (by kernel_rfl) rfl #[] (by rfl) rfl rfl (by (try simp only [List.map_toArray, List.map_cons, List.map_nil]); first | done | rfl | (simp only [List.length_drop, List.length_take]; rfl)) ?_
    with_reducible refine (tower_One.calls  t652 t653 _ A16.out).mono ?_
    rintro e w36 ⟨rfl, hb⟩
    refine ⟨_, rfl, ?_⟩
    have n0_ := Aside0.mk (blk_below (g := gb635) (o := .cells #[.int .u64 a1_0, .int .u64 a1_1] 24 (0, 0)) (by (with_reducible repeat (first | refine blk_drewN ?_ _ | refine blk_drew ?_ | refine blk_alloc ?_ _)); exact BK635.out) hb)
    have n1_ := Aside0.mk (blk_below (g := gb638) (o := .cells #[.int .u64 t636, .int .u64 t637] 24 (0, 0)) (by (with_reducible repeat (first | refine blk_drewN ?_ _ | refine blk_drew ?_ | refine blk_alloc ?_ _)); exact BK638.out) hb)
    have n2_ := Aside0.mk (below_step (by repeat (first | (with_reducible first | exact HB.out | apply below_alloc | apply pw_below_drewN | apply below_drew1 | refine below_set ?_ GE635.out | refine below_set ?_ GE638.out) | exact HB.out)) hb)
    clear BK635
    clear BK638
    clear HB
    have BK635 := n0_
    have BK638 := n1_
    have HB := n2_
    clear n0_ n1_ n2_
    (try clear hb)
    (try clear hb2)
    (try clear hk)
    (try clear hi)
    refine hK.out _ _ ⟨(blk_cell BK638.out 0).trans rfl, (blk_cell BK638.out 1).trans rfl, (blk_cell BK635.out 0).trans rfl, (blk_cell BK635.out 1).trans rfl⟩ (fun hHeld => ?_)
    clear hK K
    refine norm_ (a' := ?_) ?_ ?_
    rotate_left
    ·show Act.put _ (some 39) _ = _
     simp only [Act.put, List.setIfInBounds_toArray, List.set_cons_zero, List.set_cons_succ, i64_w, i32_w]
     rfl
    refine one_ (i := 26) (N := some 41) #[true, true, true, true, true, true, true, true, true, true, true, true, true, true, true, true, true, true, true, true, true, true, true, true, true, true, true, true, false, true, false, false, false, false] rfl rfl (one_of HT_.out (by kernel_rfl)) (by decide) (fun K hK => ?_)
    refine goes_ Try.func30 (by kernel_rfl) rfl #[.int .i64 a0, .agg #[.int .u64 t652, .int .u64 t653], .agg #[.int .u64 a1_0, .int .u64 a1_1]] (by rfl) rfl rfl (by (try simp only [List.map_toArray, List.map_cons, List.map_nil]); first | done | rfl | (simp only [List.length_drop, List.length_take]; rfl)) ?_
    with_reducible refine (tower_Div.calls k a0 t652 t653 a1_0 a1_1 t654 t655 _ A17.out).mono ?_
    rintro e w37 ⟨rfl, hb⟩
    refine ⟨_, rfl, ?_⟩
    have n0_ := Aside0.mk (blk_below (g := gb635) (o := .cells #[.int .u64 a1_0, .int .u64 a1_1] 24 (0, 0)) (by (with_reducible repeat (first | refine blk_drewN ?_ _ | refine blk_drew ?_ | refine blk_alloc ?_ _)); exact BK635.out) hb)
    have n1_ := Aside0.mk (blk_below (g := gb638) (o := .cells #[.int .u64 t636, .int .u64 t637] 24 (0, 0)) (by (with_reducible repeat (first | refine blk_drewN ?_ _ | refine blk_drew ?_ | refine blk_alloc ?_ _)); exact BK638.out) hb)
    have n2_ := Aside0.mk (below_step (by repeat (first | (with_reducible first | exact HB.out | apply below_alloc | apply pw_below_drewN | apply below_drew1 | refine below_set ?_ GE635.out | refine below_set ?_ GE638.out) | exact HB.out)) hb)
    clear BK635
    clear BK638
    clear HB
    have BK635 := n0_
    have BK638 := n1_
    have HB := n2_
    clear n0_ n1_ n2_
    (try clear hb)
    (try clear hb2)
    (try clear hk)
    (try clear hi)
    refine hK.out _ _ ⟨(blk_cell BK638.out 0).trans rfl, (blk_cell BK638.out 1).trans rfl, (blk_cell BK635.out 0).trans rfl, (blk_cell BK635.out 1).trans rfl⟩ (fun hHeld => ?_)
    clear hK K
    refine norm_ (a' := ?_) ?_ ?_
    rotate_left
    ·show Act.put _ (some 41) _ = _
     simp only [Act.put, List.setIfInBounds_toArray, List.set_cons_zero, List.set_cons_succ, i64_w, i32_w]
     rfl
    refine one_ (i := 28) (N := some 43) #[true, true, true, true, true, true, true, true, true, true, true, true, true, true, true, true, true, true, true, true, true, true, true, true, true, true, true, true, true, true, false, false, false, false] rfl rfl (one_of HT_.out (by kernel_rfl)) (by decide) (fun K hK => ?_)
    refine goes_ Try.func16 (by kernel_rfl) rfl #[] (by rfl) rfl rfl (by (try simp only [List.map_toArray, List.map_cons, List.map_nil]); first | done | rfl | (simp only [List.length_drop, List.length_take]; rfl)) ?_
    with_reducible refine (tower_One.calls  t656 t657 _ A18.out).mono ?_
    rintro e w38 ⟨rfl, hb⟩
    refine ⟨_, rfl, ?_⟩
    have n0_ := Aside0.mk (blk_below (g := gb635) (o := .cells #[.int .u64 a1_0, .int .u64 a1_1] 24 (0, 0)) (by (with_reducible repeat (first | refine blk_drewN ?_ _ | refine blk_drew ?_ | refine blk_alloc ?_ _)); exact BK635.out) hb)
    have n1_ := Aside0.mk (blk_below (g := gb638) (o := .cells #[.int .u64 t636, .int .u64 t637] 24 (0, 0)) (by (with_reducible repeat (first | refine blk_drewN ?_ _ | refine blk_drew ?_ | refine blk_alloc ?_ _)); exact BK638.out) hb)
    have n2_ := Aside0.mk (below_step (by repeat (first | (with_reducible first | exact HB.out | apply below_alloc | apply pw_below_drewN | apply below_drew1 | refine below_set ?_ GE635.out | refine below_set ?_ GE638.out) | exact HB.out)) hb)
    clear BK635
    clear BK638
    clear HB
    have BK635 := n0_
    have BK638 := n1_
    have HB := n2_
    clear n0_ n1_ n2_
    (try clear hb)
    (try clear hb2)
    (try clear hk)
    (try clear hi)
    refine hK.out _ _ ⟨(blk_cell BK638.out 0).trans rfl, (blk_cell BK638.out 1).trans rfl, (blk_cell BK635.out 0).trans rfl, (blk_cell BK635.out 1).trans rfl⟩ (fun hHeld => ?_)
    clear hK K
    refine norm_ (a' := ?_) ?_ ?_
    rotate_left
    ·show Act.put _ (some 43) _ = _
     simp only [Act.put, List.setIfInBounds_toArray, List.set_cons_zero, List.set_cons_succ, i64_w, i32_w]
     rfl
    refine one_ (i := 30) (N := some 45) #[true, true, true, true, true, true, true, true, true, true, true, true, true, true, true, true, true, true, true, true, true, true, true, true, true, true, true, true, true, true, true, false, false, false] rfl rfl (one_of HT_.out (by kernel_rfl)) (by decide) (fun K hK => ?_)
    refine goes_ Try.func13 (by kernel_rfl) rfl #[.int .i64 a0, .agg #[.int .u64 t656, .int .u64 t657], .agg #[.int .u64 t636, .int .u64 t637]] (by rfl) rfl rfl (by (try simp only [List.map_toArray, List.map_cons, List.map_nil]); first | done | rfl | (simp only [List.length_drop, List.length_take]; rfl)) ?_
    with_reducible refine (tower_Mul.calls k a0 t656 t657 t636 t637 t658 t659 _ A19.out).mono ?_
    rintro e w39 ⟨rfl, hb⟩
    refine ⟨_, rfl, ?_⟩
    have n0_ := Aside0.mk (blk_below (g := gb635) (o := .cells #[.int .u64 a1_0, .int .u64 a1_1] 24 (0, 0)) (by (with_reducible repeat (first | refine blk_drewN ?_ _ | refine blk_drew ?_ | refine blk_alloc ?_ _)); exact BK635.out) hb)
    have n1_ := Aside0.mk (blk_below (g := gb638) (o := .cells #[.int .u64 t636, .int .u64 t637] 24 (0, 0)) (by (with_reducible repeat (first | refine blk_drewN ?_ _ | refine blk_drew ?_ | refine blk_alloc ?_ _)); exact BK638.out) hb)
    have n2_ := Aside0.mk (below_step (by repeat (first | (with_reducible first | exact HB.out | apply below_alloc | apply pw_below_drewN | apply below_drew1 | refine below_set ?_ GE635.out | refine below_set ?_ GE638.out) | exact HB.out)) hb)
    clear BK635
    clear BK638
    clear HB
    have BK635 := n0_
    have BK638 := n1_
    have HB := n2_
    clear n0_ n1_ n2_
    (try clear hb)
    (try clear hb2)
    (try clear hk)
    (try clear hi)
    refine hK.out _ _ ⟨(blk_cell BK638.out 0).trans rfl, (blk_cell BK638.out 1).trans rfl, (blk_cell BK635.out 0).trans rfl, (blk_cell BK635.out 1).trans rfl⟩ (fun hHeld => ?_)
    clear hK K
    refine norm_ (a' := ?_) ?_ ?_
    rotate_left
    ·show Act.put _ (some 45) _ = _
     simp only [Act.put, List.setIfInBounds_toArray, List.set_cons_zero, List.set_cons_succ, i64_w, i32_w]
     rfl
    refine pure_ (i := 31) (N := some 46) (v := ?_) (a' := ?_) #[true, true, true, true, true, true, true, true, true, true, true, true, true, true, true, true, true, true, true, true, true, true, true, true, true, true, true, true, true, true, true, true, false, false] rfl rfl (any_of HT_.out (by kernel_rfl)) (fun _ _ _ h => h) (Or.inl ⟨by rfl, ?_⟩) ?_ ?_
    rotate_left
    ·intro w'
     go_simp
     with_reducible rfl
    rotate_left
    ·simp only [Act.put, List.setIfInBounds_toArray, List.set_cons_zero, List.set_cons_succ, i64_w, i32_w]
     rfl
    refine pure_ (i := 32) (N := some 47) (v := ?_) (a' := ?_) #[true, true, true, true, true, true, true, true, true, true, true, true, true, true, true, true, true, true, true, true, true, true, true, true, true, true, true, true, true, true, true, true, true, false] rfl rfl (any_of HT_.out (by kernel_rfl)) (fun _ _ _ h => h) (Or.inl ⟨by rfl, ?_⟩) ?_ ?_
    rotate_left
    ·intro w'
     go_simp
     with_reducible rfl
    rotate_left
    ·simp only [Act.put, List.setIfInBounds_toArray, List.set_cons_zero, List.set_cons_succ, i64_w, i32_w]
     rfl
    refine pure_ (i := 33) (N := some 6) (v := ?_) (a' := ?_) #[true, true, true, true, true, true, true, true, true, true, true, true, true, true, true, true, true, true, true, true, true, true, true, true, true, true, true, true, true, true, true, true, true, true] rfl rfl (any_of HT_.out (by kernel_rfl)) (fun _ _ _ h => h) (Or.inl ⟨by rfl, ?_⟩) ?_ ?_
    rotate_left
    ·intro w'
     go_simp
     with_reducible rfl
    rotate_left
    ·simp only [Act.put, List.setIfInBounds_toArray, List.set_cons_zero, List.set_cons_succ, i64_w, i32_w]
     rfl
    refine done_ (done_of HT_.out (by kernel_rfl)) ?_
    try go_wp2
    go_ret
    exact ⟨by first | rfl | (simp [errW_none, errW_some] <;> rfl) | (simp [*, errW_none, errW_some] <;> rfl), by repeat (first | (with_reducible first | exact HB.out | apply below_alloc | apply pw_below_drewN | apply below_drew1 | refine below_set ?_ GE635.out | refine below_set ?_ GE638.out) | exact HB.out)⟩
   ·replace c15 := Bool.eq_false_iff.mpr c15
    subst c15
    have H1 : (none) = some r := by rw [if_neg (show ¬ (false = true) by decide)] at H; exact H
    clear H
    have H := H1
    clear H1
    exact absurd H (by simp)
  ·replace c10 := Bool.eq_false_iff.mpr c10
   subst c10
   have H1 : (none) = some r := by rw [if_neg (show ¬ (false = true) by decide)] at H; exact H
   clear H
   have H := H1
   clear H1
   exact absurd H (by simp)
 ·replace c6 := Bool.eq_false_iff.mpr c6
  subst c6
  have H1 : (none) = some r := by rw [if_neg (show ¬ (false = true) by decide)] at H; exact H
  clear H
  have H := H1
  clear H1
  exact absurd H (by simp)

/-- THE ONE PURE STATEMENT of steeplelaw02_TowerInvs. -/
def steeplelaw02_TowerInvs.Pure : Prop := ∀ (x0 : Int) (x1 : S24) (x2 : Int), (Lit.int .i64 x0).wf = true → ((Lit.int .u64 x1.f0).wf = true ∧ (Lit.int .u64 x1.f1).wf = true) → (Lit.int .i64 x2).wf = true → ∃ k, steeplelaw02_TowerInvs.f k x0 x1.f0 x1.f1 x2 = some true

end Go.Proofs.Ytbjjjdallodbgaa.P
