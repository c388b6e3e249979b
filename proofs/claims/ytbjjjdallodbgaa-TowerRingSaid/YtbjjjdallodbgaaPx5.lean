/- Written by a program of this session: functions that the law reaches, as Lean functions, and that the code comes to their answers. Conditions: those that each theorem names. -/
import Derived.Test.YtbjjjdallodbgaaPx0
import Derived.Test.YtbjjjdallodbgaaPx1
import Derived.Test.YtbjjjdallodbgaaPx3
import Derived.Test.YtbjjjdallodbgaaPx4
namespace Go.Proofs.Ytbjjjdallodbgaa.P
open Go.RowKit Go.Proofs.YtbjjjdallodbgaaW.PrintWords Go.Proofs.YtbjjjdallodbgaaW.PrintLast Go.Proofs.YtbjjjdallodbgaaW.PrintMore
attribute [local go_sem] max2_int min2_int max_two min_two max_three min_three max_four min_four   -- for this text's walks alone
set_option linter.unusedVariables false
set_option linter.unusedSimpArgs false

attribute [local go_sem high] eqA24
/-! ### steeplelaw02_TowerRing: function 3 -/
def steeplelaw02_TowerRing.f (k : Nat) (a0 : Int) (a1_0 : Int) (a1_1 : Int) (a1_2 : Int) (a1_3 : Int) (a1_4 : Int) (a1_5 : Int) : Option (Bool) := (steeplelaw02_of.f k a0 (([(⟨a1_0, a1_1⟩ : S24), (⟨a1_2, a1_3⟩ : S24), (⟨a1_4, a1_5⟩ : S24)] : List (S24)))).bind fun bt165 => (if 0 < (bt165.2.length : Int) then (if 1 < (bt165.2.length : Int) then (if 2 < (bt165.2.length : Int) then ((tower_Mul.f k bt165.1 ((rd_T24 bt165.2 0).f0) ((rd_T24 bt165.2 0).f1) ((rd_T24 bt165.2 1).f0) ((rd_T24 bt165.2 1).f1)).bind fun bt175 => ((tower_Mul.f k bt165.1 ((rd_T24 bt165.2 1).f0) ((rd_T24 bt165.2 1).f1) ((rd_T24 bt165.2 0).f0) ((rd_T24 bt165.2 0).f1)).bind fun bt178 => (if (!(bt175.1 == bt178.1) || (!(bt175.2 == bt178.2))) = true then (none) else ((tower_Mul.f k bt165.1 bt175.1 bt175.2 ((rd_T24 bt165.2 2).f0) ((rd_T24 bt165.2 2).f1)).bind fun bt180 => ((tower_Mul.f k bt165.1 ((rd_T24 bt165.2 1).f0) ((rd_T24 bt165.2 1).f1) ((rd_T24 bt165.2 2).f0) ((rd_T24 bt165.2 2).f1)).bind fun bt182 => ((tower_Mul.f k bt165.1 ((rd_T24 bt165.2 0).f0) ((rd_T24 bt165.2 0).f1) bt182.1 bt182.2).bind fun bt184 => (if (!(bt180.1 == bt184.1) || (!(bt180.2 == bt184.2))) = true then (none) else ((tower_Add.f ((rd_T24 bt165.2 1).f0) ((rd_T24 bt165.2 1).f1) ((rd_T24 bt165.2 2).f0) ((rd_T24 bt165.2 2).f1)).bind fun bt186 => ((tower_Mul.f k bt165.1 ((rd_T24 bt165.2 0).f0) ((rd_T24 bt165.2 0).f1) bt186.1 bt186.2).bind fun bt188 => ((tower_Mul.f k bt165.1 ((rd_T24 bt165.2 0).f0) ((rd_T24 bt165.2 0).f1) ((rd_T24 bt165.2 2).f0) ((rd_T24 bt165.2 2).f1)).bind fun bt190 => ((tower_Add.f bt175.1 bt175.2 bt190.1 bt190.2).bind fun bt192 => (if (!(bt188.1 == bt192.1) || (!(bt188.2 == bt192.2))) = true then (none) else ((steeplelaw02_awake.f k).bind fun t194 => (if t194 = true then ((tower_One.f).bind fun bt195 => ((tower_Mul.f k bt165.1 ((rd_T24 bt165.2 0).f0) ((rd_T24 bt165.2 0).f1) bt195.1 bt195.2).bind fun bt197 => (if (bt197.1 == ((rd_T24 bt165.2 0).f0) && (bt197.2 == ((rd_T24 bt165.2 0).f1))) = true then ((tower_Sum.f k (([(⟨(rd_T24 bt165.2 0).f0, (rd_T24 bt165.2 0).f1⟩ : S24), (⟨(rd_T24 bt165.2 1).f0, (rd_T24 bt165.2 1).f1⟩ : S24), (⟨(rd_T24 bt165.2 0).f0, (rd_T24 bt165.2 0).f1⟩ : S24)] : List (S24)))).bind fun bt202 => (if (bt202.1 == ((rd_T24 bt165.2 1).f0) && (bt202.2 == ((rd_T24 bt165.2 1).f1))) = true then ((tower_Sum.f k ([] : List (S24))).bind fun bt204 => (some (bt204.1 == 0 && (bt204.2 == 0)))) else (none))) else (none)))) else (none))))))))))))))) else (none)) else (none)) else (none))
theorem steeplelaw02_TowerRing.mono : ∀ a0 a1 a2 a3 a4 a5 a6 k, LeO (steeplelaw02_TowerRing.f k a0 a1 a2 a3 a4 a5 a6) (steeplelaw02_TowerRing.f (k + 1) a0 a1 a2 a3 a4 a5 a6) := by
 intro a0 a1 a2 a3 a4 a5 a6 k
 unfold steeplelaw02_TowerRing.f
 repeat' first
   | (with_reducible exact steeplelaw02_awake.mono _)
   | (with_reducible exact steeplelaw02_of.mono _ _ _)
   | (with_reducible exact tower_Mul.mono _ _ _ _ _ _)
   | (with_reducible exact tower_Sum.mono _ _)
   | (with_reducible exact LeO.refl _)
   | (with_reducible exact LeO.none _)
   | (with_reducible refine LeO.ite ?_ ?_)
   | (with_reducible refine LeO.bind ?_ (fun _ => ?_))
   | exact steeplelaw02_awake.mono _
   | exact steeplelaw02_of.mono _ _ _
   | exact tower_Mul.mono _ _ _ _ _ _
   | exact tower_Sum.mono _ _
   | exact LeO.none _
   | refine LeO.ite ?_ ?_
   | refine LeO.bind ?_ (fun _ => ?_)
def steeplelaw02_TowerRing.T2 : Bool × List (List Nat × List Nat) := (true, [([], []), ([0], [0]), ([1], [1]), ([], []), ([3], [3]), ([4], [4]), ([], []), ([6], [6]), ([7], [7]), ([], []), ([], []), ([], []), ([9, 2, 0, 1, 2, 9, 10, 11], [2, 9]), ([10, 5, 12, 0, 1, 2, 3, 4, 5, 9, 10, 11, 12], [5, 10]), ([11, 8, 13, 0, 1, 2, 3, 4, 5, 6, 7, 8, 9, 10, 11, 12, 13], [8, 11])])
def steeplelaw02_TowerRing.B2 : List Nat := [0, 1, 3, 0, 8, 24, 0, 64, 192, 0, 0, 0, 3591, 7743, 16383]
theorem steeplelaw02_TowerRing.tab2 : rtab .any (opsOf Try.f3 2) = steeplelaw02_TowerRing.T2 := by kernel_rfl
theorem steeplelaw02_TowerRing.bits2 : waitsOk steeplelaw02_TowerRing.T2.2 steeplelaw02_TowerRing.B2 = true := by kernel_rfl
def steeplelaw02_TowerRing.T4 : Bool × List (List Nat × List Nat) := (true, [([], []), ([], []), ([], []), ([], []), ([1, 2, 3], [1, 2, 3]), ([0, 4], [0, 4]), ([5, 4], [5]), ([6], [6]), ([6], [6]), ([6], [6]), ([7, 8, 9, 6, 6], [6, 7, 8, 9]), ([6], [6]), ([6], [6]), ([6], [6]), ([6], [6]), ([6], [6]), ([13, 14, 15, 10, 6], [6, 13, 14, 15]), ([11, 12, 16, 16, 6], [6, 11, 12, 16]), ([10, 17, 6], [6, 10, 17]), ([6, 18], [6, 18]), ([19, 17], [19]), ([20], [20]), ([20], [20]), ([20], [20]), ([20], [20]), ([23, 24, 20, 20], [20, 23, 24]), ([21, 22, 25, 25, 20], [20, 21, 22, 25]), ([20], [20]), ([20], [20]), ([20], [20]), ([20], [20]), ([28, 29, 30, 26, 20], [20, 28, 29, 30]), ([27, 31, 31, 20], [20, 27, 31]), ([26, 32, 20], [20, 26, 32]), ([20, 33], [20, 33])])
def steeplelaw02_TowerRing.B4 : List Nat := [0, 0, 0, 0, 14, 31, 63, 127, 127, 127, 1023, 127, 127, 127, 127, 127, 59391, 131071, 262143, 524287, 1048575, 2097151, 2097151, 2097151, 2097151, 27262975, 67108863, 2097151, 2097151, 2097151, 2097151, 2013265919, 4294967295, 8589934591, 17179869183]
theorem steeplelaw02_TowerRing.tab4 : rtab .any (opsOf Try.f3 4) = steeplelaw02_TowerRing.T4 := by kernel_rfl
theorem steeplelaw02_TowerRing.bits4 : waitsOk steeplelaw02_TowerRing.T4.2 steeplelaw02_TowerRing.B4 = true := by kernel_rfl
def steeplelaw02_TowerRing.T6 : Bool × List (List Nat × List Nat) := (true, [([], []), ([0, 0], [0]), ([1], [1]), ([1], [1]), ([1, 1], [1]), ([2, 3, 4, 4, 1], [1, 2, 3, 4]), ([1], [1]), ([5, 6, 1], [1, 5, 6]), ([1, 7], [1, 7]), ([8, 5], [8]), ([9], [9]), ([9], [9]), ([9], [9]), ([10, 11, 12, 9], [9, 10, 11, 12]), ([13, 9, 9], [9, 13]), ([9], [9]), ([14, 15, 9], [9, 14, 15]), ([9, 16], [9, 16]), ([17, 14], [17]), ([18, 18], [18]), ([18], [18]), ([19, 20, 18], [18, 19, 20]), ([18, 21], [18, 21]), ([22, 19, 0, 1, 2, 3, 4, 5, 6, 7, 8, 9, 10, 11, 12, 13, 14, 15, 16, 17, 18, 19, 20, 21, 22], [22])])
def steeplelaw02_TowerRing.B6 : List Nat := [0, 1, 3, 3, 3, 31, 3, 127, 255, 511, 1023, 1023, 1023, 8191, 16383, 1023, 65535, 131071, 262143, 524287, 524287, 2097151, 4194303, 8388607]
theorem steeplelaw02_TowerRing.tab6 : rtab .any (opsOf Try.f3 6) = steeplelaw02_TowerRing.T6 := by kernel_rfl
theorem steeplelaw02_TowerRing.bits6 : waitsOk steeplelaw02_TowerRing.T6.2 steeplelaw02_TowerRing.B6 = true := by kernel_rfl
set_option maxHeartbeats 8000000 in
set_option maxRecDepth 100000 in
theorem steeplelaw02_TowerRing.calls (k : Nat) (a0 : Int) (a1_0 : Int) (a1_1 : Int) (a1_2 : Int) (a1_3 : Int) (a1_4 : Int) (a1_5 : Int) (r : Bool) (w : World) (h : steeplelaw02_TowerRing.f k a0 a1_0 a1_1 a1_2 a1_3 a1_4 a1_5 = some r) :
  Calls Try.prog 3 #[.int .i64 a0, .agg #[.int .u64 a1_0, .int .u64 a1_1, .int .u64 a1_2, .int .u64 a1_3, .int .u64 a1_4, .int .u64 a1_5]] w fun e w' => e = .returned (.bool r) ∧ Below w.heap.size w w' := by
 have hu26 := Try.underlying26
 have hu24 := Try.underlying24
 have HB := Aside0.mk (Below.refl w.heap.size w)
 have H : ((steeplelaw02_of.f k a0 (([(⟨a1_0, a1_1⟩ : S24), (⟨a1_2, a1_3⟩ : S24), (⟨a1_4, a1_5⟩ : S24)] : List (S24)))).bind fun bt165 => (if 0 < (bt165.2.length : Int) then (if 1 < (bt165.2.length : Int) then (if 2 < (bt165.2.length : Int) then ((tower_Mul.f k bt165.1 ((rd_T24 bt165.2 0).f0) ((rd_T24 bt165.2 0).f1) ((rd_T24 bt165.2 1).f0) ((rd_T24 bt165.2 1).f1)).bind fun bt175 => ((tower_Mul.f k bt165.1 ((rd_T24 bt165.2 1).f0) ((rd_T24 bt165.2 1).f1) ((rd_T24 bt165.2 0).f0) ((rd_T24 bt165.2 0).f1)).bind fun bt178 => (if (!(bt175.1 == bt178.1) || (!(bt175.2 == bt178.2))) = true then (none) else ((tower_Mul.f k bt165.1 bt175.1 bt175.2 ((rd_T24 bt165.2 2).f0) ((rd_T24 bt165.2 2).f1)).bind fun bt180 => ((tower_Mul.f k bt165.1 ((rd_T24 bt165.2 1).f0) ((rd_T24 bt165.2 1).f1) ((rd_T24 bt165.2 2).f0) ((rd_T24 bt165.2 2).f1)).bind fun bt182 => ((tower_Mul.f k bt165.1 ((rd_T24 bt165.2 0).f0) ((rd_T24 bt165.2 0).f1) bt182.1 bt182.2).bind fun bt184 => (if (!(bt180.1 == bt184.1) || (!(bt180.2 == bt184.2))) = true then (none) else ((tower_Add.f ((rd_T24 bt165.2 1).f0) ((rd_T24 bt165.2 1).f1) ((rd_T24 bt165.2 2).f0) ((rd_T24 bt165.2 2).f1)).bind fun bt186 => ((tower_Mul.f k bt165.1 ((rd_T24 bt165.2 0).f0) ((rd_T24 bt165.2 0).f1) bt186.1 bt186.2).bind fun bt188 => ((tower_Mul.f k bt165.1 ((rd_T24 bt165.2 0).f0) ((rd_T24 bt165.2 0).f1) ((rd_T24 bt165.2 2).f0) ((rd_T24 bt165.2 2).f1)).bind fun bt190 => ((tower_Add.f bt175.1 bt175.2 bt190.1 bt190.2).bind fun bt192 => (if (!(bt188.1 == bt192.1) || (!(bt188.2 == bt192.2))) = true then (none) else ((steeplelaw02_awake.f k).bind fun t194 => (if t194 = true then ((tower_One.f).bind fun bt195 => ((tower_Mul.f k bt165.1 ((rd_T24 bt165.2 0).f0) ((rd_T24 bt165.2 0).f1) bt195.1 bt195.2).bind fun bt197 => (if (bt197.1 == ((rd_T24 bt165.2 0).f0) && (bt197.2 == ((rd_T24 bt165.2 0).f1))) = true then ((tower_Sum.f k (([(⟨(rd_T24 bt165.2 0).f0, (rd_T24 bt165.2 0).f1⟩ : S24), (⟨(rd_T24 bt165.2 1).f0, (rd_T24 bt165.2 1).f1⟩ : S24), (⟨(rd_T24 bt165.2 0).f0, (rd_T24 bt165.2 0).f1⟩ : S24)] : List (S24)))).bind fun bt202 => (if (bt202.1 == ((rd_T24 bt165.2 1).f0) && (bt202.2 == ((rd_T24 bt165.2 1).f1))) = true then ((tower_Sum.f k ([] : List (S24))).bind fun bt204 => (some (bt204.1 == 0 && (bt204.2 == 0)))) else (none))) else (none)))) else (none))))))))))))))) else (none)) else (none)) else (none))) = some r := h
 clear h
 obtain ⟨y162, hy162⟩ : ∃ y_ : List (S24), y_ = (([(⟨a1_0, a1_1⟩ : S24), (⟨a1_2, a1_3⟩ : S24), (⟨a1_4, a1_5⟩ : S24)] : List (S24))) := ⟨_, rfl⟩
 replace H : ((steeplelaw02_of.f k a0 y162).bind fun bt165 => (if 0 < (bt165.2.length : Int) then (if 1 < (bt165.2.length : Int) then (if 2 < (bt165.2.length : Int) then ((tower_Mul.f k bt165.1 ((rd_T24 bt165.2 0).f0) ((rd_T24 bt165.2 0).f1) ((rd_T24 bt165.2 1).f0) ((rd_T24 bt165.2 1).f1)).bind fun bt175 => ((tower_Mul.f k bt165.1 ((rd_T24 bt165.2 1).f0) ((rd_T24 bt165.2 1).f1) ((rd_T24 bt165.2 0).f0) ((rd_T24 bt165.2 0).f1)).bind fun bt178 => (if (!(bt175.1 == bt178.1) || (!(bt175.2 == bt178.2))) = true then (none) else ((tower_Mul.f k bt165.1 bt175.1 bt175.2 ((rd_T24 bt165.2 2).f0) ((rd_T24 bt165.2 2).f1)).bind fun bt180 => ((tower_Mul.f k bt165.1 ((rd_T24 bt165.2 1).f0) ((rd_T24 bt165.2 1).f1) ((rd_T24 bt165.2 2).f0) ((rd_T24 bt165.2 2).f1)).bind fun bt182 => ((tower_Mul.f k bt165.1 ((rd_T24 bt165.2 0).f0) ((rd_T24 bt165.2 0).f1) bt182.1 bt182.2).bind fun bt184 => (if (!(bt180.1 == bt184.1) || (!(bt180.2 == bt184.2))) = true then (none) else ((tower_Add.f ((rd_T24 bt165.2 1).f0) ((rd_T24 bt165.2 1).f1) ((rd_T24 bt165.2 2).f0) ((rd_T24 bt165.2 2).f1)).bind fun bt186 => ((tower_Mul.f k bt165.1 ((rd_T24 bt165.2 0).f0) ((rd_T24 bt165.2 0).f1) bt186.1 bt186.2).bind fun bt188 => ((tower_Mul.f k bt165.1 ((rd_T24 bt165.2 0).f0) ((rd_T24 bt165.2 0).f1) ((rd_T24 bt165.2 2).f0) ((rd_T24 bt165.2 2).f1)).bind fun bt190 => ((tower_Add.f bt175.1 bt175.2 bt190.1 bt190.2).bind fun bt192 => (if (!(bt188.1 == bt192.1) || (!(bt188.2 == bt192.2))) = true then (none) else ((steeplelaw02_awake.f k).bind fun t194 => (if t194 = true then ((tower_One.f).bind fun bt195 => ((tower_Mul.f k bt165.1 ((rd_T24 bt165.2 0).f0) ((rd_T24 bt165.2 0).f1) bt195.1 bt195.2).bind fun bt197 => (if (bt197.1 == ((rd_T24 bt165.2 0).f0) && (bt197.2 == ((rd_T24 bt165.2 0).f1))) = true then ((tower_Sum.f k (([(⟨(rd_T24 bt165.2 0).f0, (rd_T24 bt165.2 0).f1⟩ : S24), (⟨(rd_T24 bt165.2 1).f0, (rd_T24 bt165.2 1).f1⟩ : S24), (⟨(rd_T24 bt165.2 0).f0, (rd_T24 bt165.2 0).f1⟩ : S24)] : List (S24)))).bind fun bt202 => (if (bt202.1 == ((rd_T24 bt165.2 1).f0) && (bt202.2 == ((rd_T24 bt165.2 1).f1))) = true then ((tower_Sum.f k ([] : List (S24))).bind fun bt204 => (some (bt204.1 == 0 && (bt204.2 == 0)))) else (none))) else (none)))) else (none))))))))))))))) else (none)) else (none)) else (none))) = some r := by first | (rw [hy162]; with_reducible exact H) | (have H2_ := (Option.bind_some _ _).symm.trans H; rw [hy162]; with_reducible exact H2_) | (have H2_ := (Option.bind_some _ _).symm.trans H; with_reducible exact H2_) | with_reducible exact H | (rw [hy162]; exact H) | exact H
 have Ny162 := Aside0.mk hy162
 clear hy162
 replace H := Option.bind_eq_some_iff.mp H
 obtain ⟨⟨t165, t166⟩, A30, H⟩ := H
 replace H : (if 0 < (t166.length : Int) then (if 1 < (t166.length : Int) then (if 2 < (t166.length : Int) then ((tower_Mul.f k t165 ((rd_T24 t166 0).f0) ((rd_T24 t166 0).f1) ((rd_T24 t166 1).f0) ((rd_T24 t166 1).f1)).bind fun bt175 => ((tower_Mul.f k t165 ((rd_T24 t166 1).f0) ((rd_T24 t166 1).f1) ((rd_T24 t166 0).f0) ((rd_T24 t166 0).f1)).bind fun bt178 => (if (!(bt175.1 == bt178.1) || (!(bt175.2 == bt178.2))) = true then (none) else ((tower_Mul.f k t165 bt175.1 bt175.2 ((rd_T24 t166 2).f0) ((rd_T24 t166 2).f1)).bind fun bt180 => ((tower_Mul.f k t165 ((rd_T24 t166 1).f0) ((rd_T24 t166 1).f1) ((rd_T24 t166 2).f0) ((rd_T24 t166 2).f1)).bind fun bt182 => ((tower_Mul.f k t165 ((rd_T24 t166 0).f0) ((rd_T24 t166 0).f1) bt182.1 bt182.2).bind fun bt184 => (if (!(bt180.1 == bt184.1) || (!(bt180.2 == bt184.2))) = true then (none) else ((tower_Add.f ((rd_T24 t166 1).f0) ((rd_T24 t166 1).f1) ((rd_T24 t166 2).f0) ((rd_T24 t166 2).f1)).bind fun bt186 => ((tower_Mul.f k t165 ((rd_T24 t166 0).f0) ((rd_T24 t166 0).f1) bt186.1 bt186.2).bind fun bt188 => ((tower_Mul.f k t165 ((rd_T24 t166 0).f0) ((rd_T24 t166 0).f1) ((rd_T24 t166 2).f0) ((rd_T24 t166 2).f1)).bind fun bt190 => ((tower_Add.f bt175.1 bt175.2 bt190.1 bt190.2).bind fun bt192 => (if (!(bt188.1 == bt192.1) || (!(bt188.2 == bt192.2))) = true then (none) else ((steeplelaw02_awake.f k).bind fun t194 => (if t194 = true then ((tower_One.f).bind fun bt195 => ((tower_Mul.f k t165 ((rd_T24 t166 0).f0) ((rd_T24 t166 0).f1) bt195.1 bt195.2).bind fun bt197 => (if (bt197.1 == ((rd_T24 t166 0).f0) && (bt197.2 == ((rd_T24 t166 0).f1))) = true then ((tower_Sum.f k (([(⟨(rd_T24 t166 0).f0, (rd_T24 t166 0).f1⟩ : S24), (⟨(rd_T24 t166 1).f0, (rd_T24 t166 1).f1⟩ : S24), (⟨(rd_T24 t166 0).f0, (rd_T24 t166 0).f1⟩ : S24)] : List (S24)))).bind fun bt202 => (if (bt202.1 == ((rd_T24 t166 1).f0) && (bt202.2 == ((rd_T24 t166 1).f1))) = true then ((tower_Sum.f k ([] : List (S24))).bind fun bt204 => (some (bt204.1 == 0 && (bt204.2 == 0)))) else (none))) else (none)))) else (none))))))))))))))) else (none)) else (none)) else (none)) = some r := H
 have A3 := Aside0.mk A30
 clear A30
 by_cases c4 : 0 < (t166.length : Int)
 ·rw [if_pos c4] at H
  have c4b0 : decide (0 < (t166.length : Int)) = true := decide_eq_true c4
  have c4b1 : decide (0 < t166.length) = true := decide_eq_true (by omega)
  clear c4
  by_cases c5 : 1 < (t166.length : Int)
  ·rw [if_pos c5] at H
   have c5b0 : decide (1 < (t166.length : Int)) = true := decide_eq_true c5
   have c5b1 : decide (1 < t166.length) = true := decide_eq_true (by omega)
   clear c5
   by_cases c6 : 2 < (t166.length : Int)
   ·rw [if_pos c6] at H
    have c6b0 : decide (2 < (t166.length : Int)) = true := decide_eq_true c6
    have c6b1 : decide (2 < t166.length) = true := decide_eq_true (by omega)
    clear c6
    replace H := Option.bind_eq_some_iff.mp H
    obtain ⟨⟨t175, t176⟩, A70, H⟩ := H
    replace H : ((tower_Mul.f k t165 ((rd_T24 t166 1).f0) ((rd_T24 t166 1).f1) ((rd_T24 t166 0).f0) ((rd_T24 t166 0).f1)).bind fun bt178 => (if (!(t175 == bt178.1) || (!(t176 == bt178.2))) = true then (none) else ((tower_Mul.f k t165 t175 t176 ((rd_T24 t166 2).f0) ((rd_T24 t166 2).f1)).bind fun bt180 => ((tower_Mul.f k t165 ((rd_T24 t166 1).f0) ((rd_T24 t166 1).f1) ((rd_T24 t166 2).f0) ((rd_T24 t166 2).f1)).bind fun bt182 => ((tower_Mul.f k t165 ((rd_T24 t166 0).f0) ((rd_T24 t166 0).f1) bt182.1 bt182.2).bind fun bt184 => (if (!(bt180.1 == bt184.1) || (!(bt180.2 == bt184.2))) = true then (none) else ((tower_Add.f ((rd_T24 t166 1).f0) ((rd_T24 t166 1).f1) ((rd_T24 t166 2).f0) ((rd_T24 t166 2).f1)).bind fun bt186 => ((tower_Mul.f k t165 ((rd_T24 t166 0).f0) ((rd_T24 t166 0).f1) bt186.1 bt186.2).bind fun bt188 => ((tower_Mul.f k t165 ((rd_T24 t166 0).f0) ((rd_T24 t166 0).f1) ((rd_T24 t166 2).f0) ((rd_T24 t166 2).f1)).bind fun bt190 => ((tower_Add.f t175 t176 bt190.1 bt190.2).bind fun bt192 => (if (!(bt188.1 == bt192.1) || (!(bt188.2 == bt192.2))) = true then (none) else ((steeplelaw02_awake.f k).bind fun t194 => (if t194 = true then ((tower_One.f).bind fun bt195 => ((tower_Mul.f k t165 ((rd_T24 t166 0).f0) ((rd_T24 t166 0).f1) bt195.1 bt195.2).bind fun bt197 => (if (bt197.1 == ((rd_T24 t166 0).f0) && (bt197.2 == ((rd_T24 t166 0).f1))) = true then ((tower_Sum.f k (([(⟨(rd_T24 t166 0).f0, (rd_T24 t166 0).f1⟩ : S24), (⟨(rd_T24 t166 1).f0, (rd_T24 t166 1).f1⟩ : S24), (⟨(rd_T24 t166 0).f0, (rd_T24 t166 0).f1⟩ : S24)] : List (S24)))).bind fun bt202 => (if (bt202.1 == ((rd_T24 t166 1).f0) && (bt202.2 == ((rd_T24 t166 1).f1))) = true then ((tower_Sum.f k ([] : List (S24))).bind fun bt204 => (some (bt204.1 == 0 && (bt204.2 == 0)))) else (none))) else (none)))) else (none)))))))))))))) = some r := H
    have A7 := Aside0.mk A70
    clear A70
    replace H := Option.bind_eq_some_iff.mp H
    obtain ⟨⟨t178, t179⟩, A80, H⟩ := H
    replace H : (if (!(t175 == t178) || (!(t176 == t179))) = true then (none) else ((tower_Mul.f k t165 t175 t176 ((rd_T24 t166 2).f0) ((rd_T24 t166 2).f1)).bind fun bt180 => ((tower_Mul.f k t165 ((rd_T24 t166 1).f0) ((rd_T24 t166 1).f1) ((rd_T24 t166 2).f0) ((rd_T24 t166 2).f1)).bind fun bt182 => ((tower_Mul.f k t165 ((rd_T24 t166 0).f0) ((rd_T24 t166 0).f1) bt182.1 bt182.2).bind fun bt184 => (if (!(bt180.1 == bt184.1) || (!(bt180.2 == bt184.2))) = true then (none) else ((tower_Add.f ((rd_T24 t166 1).f0) ((rd_T24 t166 1).f1) ((rd_T24 t166 2).f0) ((rd_T24 t166 2).f1)).bind fun bt186 => ((tower_Mul.f k t165 ((rd_T24 t166 0).f0) ((rd_T24 t166 0).f1) bt186.1 bt186.2).bind fun bt188 => ((tower_Mul.f k t165 ((rd_T24 t166 0).f0) ((rd_T24 t166 0).f1) ((rd_T24 t166 2).f0) ((rd_T24 t166 2).f1)).bind fun bt190 => ((tower_Add.f t175 t176 bt190.1 bt190.2).bind fun bt192 => (if (!(bt188.1 == bt192.1) || (!(bt188.2 == bt192.2))) = true then (none) else ((steeplelaw02_awake.f k).bind fun t194 => (if t194 = true then ((tower_One.f).bind fun bt195 => ((tower_Mul.f k t165 ((rd_T24 t166 0).f0) ((rd_T24 t166 0).f1) bt195.1 bt195.2).bind fun bt197 => (if (bt197.1 == ((rd_T24 t166 0).f0) && (bt197.2 == ((rd_T24 t166 0).f1))) = true then ((tower_Sum.f k (([(⟨(rd_T24 t166 0).f0, (rd_T24 t166 0).f1⟩ : S24), (⟨(rd_T24 t166 1).f0, (rd_T24 t166 1).f1⟩ : S24), (⟨(rd_T24 t166 0).f0, (rd_T24 t166 0).f1⟩ : S24)] : List (S24)))).bind fun bt202 => (if (bt202.1 == ((rd_T24 t166 1).f0) && (bt202.2 == ((rd_T24 t166 1).f1))) = true then ((tower_Sum.f k ([] : List (S24))).bind fun bt204 => (some (bt204.1 == 0 && (bt204.2 == 0)))) else (none))) else (none)))) else (none))))))))))))) = some r := H
    have A8 := Aside0.mk A80
    clear A80
    by_cases c9 : (!(t175 == t178) || (!(t176 == t179))) = true
    ·rw [if_pos c9] at H
     have c9b0 : (!(t175 == t178) || (!(t176 == t179))) = true := c9
     clear c9
     exact absurd H (by simp)
    ·rw [if_neg c9] at H
     have c9b0 : (!(t175 == t178) || (!(t176 == t179))) = false := by simpa using c9
     clear c9
     replace H := Option.bind_eq_some_iff.mp H
     obtain ⟨⟨t180, t181⟩, A100, H⟩ := H
     replace H : ((tower_Mul.f k t165 ((rd_T24 t166 1).f0) ((rd_T24 t166 1).f1) ((rd_T24 t166 2).f0) ((rd_T24 t166 2).f1)).bind fun bt182 => ((tower_Mul.f k t165 ((rd_T24 t166 0).f0) ((rd_T24 t166 0).f1) bt182.1 bt182.2).bind fun bt184 => (if (!(t180 == bt184.1) || (!(t181 == bt184.2))) = true then (none) else ((tower_Add.f ((rd_T24 t166 1).f0) ((rd_T24 t166 1).f1) ((rd_T24 t166 2).f0) ((rd_T24 t166 2).f1)).bind fun bt186 => ((tower_Mul.f k t165 ((rd_T24 t166 0).f0) ((rd_T24 t166 0).f1) bt186.1 bt186.2).bind fun bt188 => ((tower_Mul.f k t165 ((rd_T24 t166 0).f0) ((rd_T24 t166 0).f1) ((rd_T24 t166 2).f0) ((rd_T24 t166 2).f1)).bind fun bt190 => ((tower_Add.f t175 t176 bt190.1 bt190.2).bind fun bt192 => (if (!(bt188.1 == bt192.1) || (!(bt188.2 == bt192.2))) = true then (none) else ((steeplelaw02_awake.f k).bind fun t194 => (if t194 = true then ((tower_One.f).bind fun bt195 => ((tower_Mul.f k t165 ((rd_T24 t166 0).f0) ((rd_T24 t166 0).f1) bt195.1 bt195.2).bind fun bt197 => (if (bt197.1 == ((rd_T24 t166 0).f0) && (bt197.2 == ((rd_T24 t166 0).f1))) = true then ((tower_Sum.f k (([(⟨(rd_T24 t166 0).f0, (rd_T24 t166 0).f1⟩ : S24), (⟨(rd_T24 t166 1).f0, (rd_T24 t166 1).f1⟩ : S24), (⟨(rd_T24 t166 0).f0, (rd_T24 t166 0).f1⟩ : S24)] : List (S24)))).bind fun bt202 => (if (bt202.1 == ((rd_T24 t166 1).f0) && (bt202.2 == ((rd_T24 t166 1).f1))) = true then ((tower_Sum.f k ([] : List (S24))).bind fun bt204 => (some (bt204.1 == 0 && (bt204.2 == 0)))) else (none))) else (none)))) else (none))))))))))) = some r := H
     have A10 := Aside0.mk A100
     clear A100
     replace H := Option.bind_eq_some_iff.mp H
     obtain ⟨⟨t182, t183⟩, A110, H⟩ := H
     replace H : ((tower_Mul.f k t165 ((rd_T24 t166 0).f0) ((rd_T24 t166 0).f1) t182 t183).bind fun bt184 => (if (!(t180 == bt184.1) || (!(t181 == bt184.2))) = true then (none) else ((tower_Add.f ((rd_T24 t166 1).f0) ((rd_T24 t166 1).f1) ((rd_T24 t166 2).f0) ((rd_T24 t166 2).f1)).bind fun bt186 => ((tower_Mul.f k t165 ((rd_T24 t166 0).f0) ((rd_T24 t166 0).f1) bt186.1 bt186.2).bind fun bt188 => ((tower_Mul.f k t165 ((rd_T24 t166 0).f0) ((rd_T24 t166 0).f1) ((rd_T24 t166 2).f0) ((rd_T24 t166 2).f1)).bind fun bt190 => ((tower_Add.f t175 t176 bt190.1 bt190.2).bind fun bt192 => (if (!(bt188.1 == bt192.1) || (!(bt188.2 == bt192.2))) = true then (none) else ((steeplelaw02_awake.f k).bind fun t194 => (if t194 = true then ((tower_One.f).bind fun bt195 => ((tower_Mul.f k t165 ((rd_T24 t166 0).f0) ((rd_T24 t166 0).f1) bt195.1 bt195.2).bind fun bt197 => (if (bt197.1 == ((rd_T24 t166 0).f0) && (bt197.2 == ((rd_T24 t166 0).f1))) = true then ((tower_Sum.f k (([(⟨(rd_T24 t166 0).f0, (rd_T24 t166 0).f1⟩ : S24), (⟨(rd_T24 t166 1).f0, (rd_T24 t166 1).f1⟩ : S24), (⟨(rd_T24 t166 0).f0, (rd_T24 t166 0).f1⟩ : S24)] : List (S24)))).bind fun bt202 => (if (bt202.1 == ((rd_T24 t166 1).f0) && (bt202.2 == ((rd_T24 t166 1).f1))) = true then ((tower_Sum.f k ([] : List (S24))).bind fun bt204 => (some (bt204.1 == 0 && (bt204.2 == 0)))) else (none))) else (none)))) else (none)))))))))) = some r := H
     have A11 := Aside0.mk A110
     clear A110
     replace H := Option.bind_eq_some_iff.mp H
     obtain ⟨⟨t184, t185⟩, A120, H⟩ := H
     replace H : (if (!(t180 == t184) || (!(t181 == t185))) = true then (none) else ((tower_Add.f ((rd_T24 t166 1).f0) ((rd_T24 t166 1).f1) ((rd_T24 t166 2).f0) ((rd_T24 t166 2).f1)).bind fun bt186 => ((tower_Mul.f k t165 ((rd_T24 t166 0).f0) ((rd_T24 t166 0).f1) bt186.1 bt186.2).bind fun bt188 => ((tower_Mul.f k t165 ((rd_T24 t166 0).f0) ((rd_T24 t166 0).f1) ((rd_T24 t166 2).f0) ((rd_T24 t166 2).f1)).bind fun bt190 => ((tower_Add.f t175 t176 bt190.1 bt190.2).bind fun bt192 => (if (!(bt188.1 == bt192.1) || (!(bt188.2 == bt192.2))) = true then (none) else ((steeplelaw02_awake.f k).bind fun t194 => (if t194 = true then ((tower_One.f).bind fun bt195 => ((tower_Mul.f k t165 ((rd_T24 t166 0).f0) ((rd_T24 t166 0).f1) bt195.1 bt195.2).bind fun bt197 => (if (bt197.1 == ((rd_T24 t166 0).f0) && (bt197.2 == ((rd_T24 t166 0).f1))) = true then ((tower_Sum.f k (([(⟨(rd_T24 t166 0).f0, (rd_T24 t166 0).f1⟩ : S24), (⟨(rd_T24 t166 1).f0, (rd_T24 t166 1).f1⟩ : S24), (⟨(rd_T24 t166 0).f0, (rd_T24 t166 0).f1⟩ : S24)] : List (S24)))).bind fun bt202 => (if (bt202.1 == ((rd_T24 t166 1).f0) && (bt202.2 == ((rd_T24 t166 1).f1))) = true then ((tower_Sum.f k ([] : List (S24))).bind fun bt204 => (some (bt204.1 == 0 && (bt204.2 == 0)))) else (none))) else (none)))) else (none))))))))) = some r := H
     have A12 := Aside0.mk A120
     clear A120
     by_cases c13 : (!(t180 == t184) || (!(t181 == t185))) = true
     ·rw [if_pos c13] at H
      have c13b0 : (!(t180 == t184) || (!(t181 == t185))) = true := c13
      clear c13
      exact absurd H (by simp)
     ·rw [if_neg c13] at H
      have c13b0 : (!(t180 == t184) || (!(t181 == t185))) = false := by simpa using c13
      clear c13
      replace H := Option.bind_eq_some_iff.mp H
      obtain ⟨⟨t186, t187⟩, A140, H⟩ := H
      replace H : ((tower_Mul.f k t165 ((rd_T24 t166 0).f0) ((rd_T24 t166 0).f1) t186 t187).bind fun bt188 => ((tower_Mul.f k t165 ((rd_T24 t166 0).f0) ((rd_T24 t166 0).f1) ((rd_T24 t166 2).f0) ((rd_T24 t166 2).f1)).bind fun bt190 => ((tower_Add.f t175 t176 bt190.1 bt190.2).bind fun bt192 => (if (!(bt188.1 == bt192.1) || (!(bt188.2 == bt192.2))) = true then (none) else ((steeplelaw02_awake.f k).bind fun t194 => (if t194 = true then ((tower_One.f).bind fun bt195 => ((tower_Mul.f k t165 ((rd_T24 t166 0).f0) ((rd_T24 t166 0).f1) bt195.1 bt195.2).bind fun bt197 => (if (bt197.1 == ((rd_T24 t166 0).f0) && (bt197.2 == ((rd_T24 t166 0).f1))) = true then ((tower_Sum.f k (([(⟨(rd_T24 t166 0).f0, (rd_T24 t166 0).f1⟩ : S24), (⟨(rd_T24 t166 1).f0, (rd_T24 t166 1).f1⟩ : S24), (⟨(rd_T24 t166 0).f0, (rd_T24 t166 0).f1⟩ : S24)] : List (S24)))).bind fun bt202 => (if (bt202.1 == ((rd_T24 t166 1).f0) && (bt202.2 == ((rd_T24 t166 1).f1))) = true then ((tower_Sum.f k ([] : List (S24))).bind fun bt204 => (some (bt204.1 == 0 && (bt204.2 == 0)))) else (none))) else (none)))) else (none))))))) = some r := H
      have A14 := Aside0.mk A140
      clear A140
      replace H := Option.bind_eq_some_iff.mp H
      obtain ⟨⟨t188, t189⟩, A150, H⟩ := H
      replace H : ((tower_Mul.f k t165 ((rd_T24 t166 0).f0) ((rd_T24 t166 0).f1) ((rd_T24 t166 2).f0) ((rd_T24 t166 2).f1)).bind fun bt190 => ((tower_Add.f t175 t176 bt190.1 bt190.2).bind fun bt192 => (if (!(t188 == bt192.1) || (!(t189 == bt192.2))) = true then (none) else ((steeplelaw02_awake.f k).bind fun t194 => (if t194 = true then ((tower_One.f).bind fun bt195 => ((tower_Mul.f k t165 ((rd_T24 t166 0).f0) ((rd_T24 t166 0).f1) bt195.1 bt195.2).bind fun bt197 => (if (bt197.1 == ((rd_T24 t166 0).f0) && (bt197.2 == ((rd_T24 t166 0).f1))) = true then ((tower_Sum.f k (([(⟨(rd_T24 t166 0).f0, (rd_T24 t166 0).f1⟩ : S24), (⟨(rd_T24 t166 1).f0, (rd_T24 t166 1).f1⟩ : S24), (⟨(rd_T24 t166 0).f0, (rd_T24 t166 0).f1⟩ : S24)] : List (S24)))).bind fun bt202 => (if (bt202.1 == ((rd_T24 t166 1).f0) && (bt202.2 == ((rd_T24 t166 1).f1))) = true then ((tower_Sum.f k ([] : List (S24))).bind fun bt204 => (some (bt204.1 == 0 && (bt204.2 == 0)))) else (none))) else (none)))) else (none)))))) = some r := H
      have A15 := Aside0.mk A150
      clear A150
      replace H := Option.bind_eq_some_iff.mp H
      obtain ⟨⟨t190, t191⟩, A160, H⟩ := H
      replace H : ((tower_Add.f t175 t176 t190 t191).bind fun bt192 => (if (!(t188 == bt192.1) || (!(t189 == bt192.2))) = true then (none) else ((steeplelaw02_awake.f k).bind fun t194 => (if t194 = true then ((tower_One.f).bind fun bt195 => ((tower_Mul.f k t165 ((rd_T24 t166 0).f0) ((rd_T24 t166 0).f1) bt195.1 bt195.2).bind fun bt197 => (if (bt197.1 == ((rd_T24 t166 0).f0) && (bt197.2 == ((rd_T24 t166 0).f1))) = true then ((tower_Sum.f k (([(⟨(rd_T24 t166 0).f0, (rd_T24 t166 0).f1⟩ : S24), (⟨(rd_T24 t166 1).f0, (rd_T24 t166 1).f1⟩ : S24), (⟨(rd_T24 t166 0).f0, (rd_T24 t166 0).f1⟩ : S24)] : List (S24)))).bind fun bt202 => (if (bt202.1 == ((rd_T24 t166 1).f0) && (bt202.2 == ((rd_T24 t166 1).f1))) = true then ((tower_Sum.f k ([] : List (S24))).bind fun bt204 => (some (bt204.1 == 0 && (bt204.2 == 0)))) else (none))) else (none)))) else (none))))) = some r := H
      have A16 := Aside0.mk A160
      clear A160
      replace H := Option.bind_eq_some_iff.mp H
      obtain ⟨⟨t192, t193⟩, A170, H⟩ := H
      replace H : (if (!(t188 == t192) || (!(t189 == t193))) = true then (none) else ((steeplelaw02_awake.f k).bind fun t194 => (if t194 = true then ((tower_One.f).bind fun bt195 => ((tower_Mul.f k t165 ((rd_T24 t166 0).f0) ((rd_T24 t166 0).f1) bt195.1 bt195.2).bind fun bt197 => (if (bt197.1 == ((rd_T24 t166 0).f0) && (bt197.2 == ((rd_T24 t166 0).f1))) = true then ((tower_Sum.f k (([(⟨(rd_T24 t166 0).f0, (rd_T24 t166 0).f1⟩ : S24), (⟨(rd_T24 t166 1).f0, (rd_T24 t166 1).f1⟩ : S24), (⟨(rd_T24 t166 0).f0, (rd_T24 t166 0).f1⟩ : S24)] : List (S24)))).bind fun bt202 => (if (bt202.1 == ((rd_T24 t166 1).f0) && (bt202.2 == ((rd_T24 t166 1).f1))) = true then ((tower_Sum.f k ([] : List (S24))).bind fun bt204 => (some (bt204.1 == 0 && (bt204.2 == 0)))) else (none))) else (none)))) else (none)))) = some r := H
      have A17 := Aside0.mk A170
      clear A170
      by_cases c18 : (!(t188 == t192) || (!(t189 == t193))) = true
      ·rw [if_pos c18] at H
       exact absurd H (by simp)
      ·rw [if_neg c18] at H
       have c18b0 : (!(t188 == t192) || (!(t189 == t193))) = false := by simpa using c18
       clear c18
       replace H := Option.bind_eq_some_iff.mp H
       obtain ⟨t194, A190, H⟩ := H
       replace H : (if t194 = true then ((tower_One.f).bind fun bt195 => ((tower_Mul.f k t165 ((rd_T24 t166 0).f0) ((rd_T24 t166 0).f1) bt195.1 bt195.2).bind fun bt197 => (if (bt197.1 == ((rd_T24 t166 0).f0) && (bt197.2 == ((rd_T24 t166 0).f1))) = true then ((tower_Sum.f k (([(⟨(rd_T24 t166 0).f0, (rd_T24 t166 0).f1⟩ : S24), (⟨(rd_T24 t166 1).f0, (rd_T24 t166 1).f1⟩ : S24), (⟨(rd_T24 t166 0).f0, (rd_T24 t166 0).f1⟩ : S24)] : List (S24)))).bind fun bt202 => (if (bt202.1 == ((rd_T24 t166 1).f0) && (bt202.2 == ((rd_T24 t166 1).f1))) = true then ((tower_Sum.f k ([] : List (S24))).bind fun bt204 => (some (bt204.1 == 0 && (bt204.2 == 0)))) else (none))) else (none)))) else (none)) = some r := H
       have A19 := Aside0.mk A190
       clear A190
       by_cases c20 : t194 = true
       ·subst c20
        have H1 : ((tower_One.f).bind fun bt195 => ((tower_Mul.f k t165 ((rd_T24 t166 0).f0) ((rd_T24 t166 0).f1) bt195.1 bt195.2).bind fun bt197 => (if (bt197.1 == ((rd_T24 t166 0).f0) && (bt197.2 == ((rd_T24 t166 0).f1))) = true then ((tower_Sum.f k (([(⟨(rd_T24 t166 0).f0, (rd_T24 t166 0).f1⟩ : S24), (⟨(rd_T24 t166 1).f0, (rd_T24 t166 1).f1⟩ : S24), (⟨(rd_T24 t166 0).f0, (rd_T24 t166 0).f1⟩ : S24)] : List (S24)))).bind fun bt202 => (if (bt202.1 == ((rd_T24 t166 1).f0) && (bt202.2 == ((rd_T24 t166 1).f1))) = true then ((tower_Sum.f k ([] : List (S24))).bind fun bt204 => (some (bt204.1 == 0 && (bt204.2 == 0)))) else (none))) else (none)))) = some r := by rw [if_pos rfl] at H; exact H
        clear H
        have H := H1
        clear H1
        replace H := Option.bind_eq_some_iff.mp H
        obtain ⟨⟨t195, t196⟩, A210, H⟩ := H
        replace H : ((tower_Mul.f k t165 ((rd_T24 t166 0).f0) ((rd_T24 t166 0).f1) t195 t196).bind fun bt197 => (if (bt197.1 == ((rd_T24 t166 0).f0) && (bt197.2 == ((rd_T24 t166 0).f1))) = true then ((tower_Sum.f k (([(⟨(rd_T24 t166 0).f0, (rd_T24 t166 0).f1⟩ : S24), (⟨(rd_T24 t166 1).f0, (rd_T24 t166 1).f1⟩ : S24), (⟨(rd_T24 t166 0).f0, (rd_T24 t166 0).f1⟩ : S24)] : List (S24)))).bind fun bt202 => (if (bt202.1 == ((rd_T24 t166 1).f0) && (bt202.2 == ((rd_T24 t166 1).f1))) = true then ((tower_Sum.f k ([] : List (S24))).bind fun bt204 => (some (bt204.1 == 0 && (bt204.2 == 0)))) else (none))) else (none))) = some r := H
        have A21 := Aside0.mk A210
        clear A210
        replace H := Option.bind_eq_some_iff.mp H
        obtain ⟨⟨t197, t198⟩, A220, H⟩ := H
        replace H : (if (t197 == ((rd_T24 t166 0).f0) && (t198 == ((rd_T24 t166 0).f1))) = true then ((tower_Sum.f k (([(⟨(rd_T24 t166 0).f0, (rd_T24 t166 0).f1⟩ : S24), (⟨(rd_T24 t166 1).f0, (rd_T24 t166 1).f1⟩ : S24), (⟨(rd_T24 t166 0).f0, (rd_T24 t166 0).f1⟩ : S24)] : List (S24)))).bind fun bt202 => (if (bt202.1 == ((rd_T24 t166 1).f0) && (bt202.2 == ((rd_T24 t166 1).f1))) = true then ((tower_Sum.f k ([] : List (S24))).bind fun bt204 => (some (bt204.1 == 0 && (bt204.2 == 0)))) else (none))) else (none)) = some r := H
        have A22 := Aside0.mk A220
        clear A220
        by_cases c23 : (t197 == ((rd_T24 t166 0).f0) && (t198 == ((rd_T24 t166 0).f1))) = true
        ·rw [if_pos c23] at H
         have c23b0 : (t197 == ((rd_T24 t166 0).f0) && (t198 == ((rd_T24 t166 0).f1))) = true := c23
         (try (have c23b1 : decide (t197 = ((rd_T24 t166 0).f0) && (t198 == ((rd_T24 t166 0).f1))) = true := by simpa using c23))
         (try (have c23b2 : (t197 == ((rd_T24 t166 0).f0) && (t198 == ((rd_T24 t166 0).f1))) = true := by simpa using c23))
         clear c23
         obtain ⟨y199, hy199⟩ : ∃ y_ : List (S24), y_ = (([(⟨(rd_T24 t166 0).f0, (rd_T24 t166 0).f1⟩ : S24), (⟨(rd_T24 t166 1).f0, (rd_T24 t166 1).f1⟩ : S24), (⟨(rd_T24 t166 0).f0, (rd_T24 t166 0).f1⟩ : S24)] : List (S24))) := ⟨_, rfl⟩
         replace H : ((tower_Sum.f k y199).bind fun bt202 => (if (bt202.1 == ((rd_T24 t166 1).f0) && (bt202.2 == ((rd_T24 t166 1).f1))) = true then ((tower_Sum.f k ([] : List (S24))).bind fun bt204 => (some (bt204.1 == 0 && (bt204.2 == 0)))) else (none))) = some r := by first | (rw [hy199]; with_reducible exact H) | (have H2_ := (Option.bind_some _ _).symm.trans H; rw [hy199]; with_reducible exact H2_) | (have H2_ := (Option.bind_some _ _).symm.trans H; with_reducible exact H2_) | with_reducible exact H | (rw [hy199]; exact H) | exact H
         have Ny199 := Aside0.mk hy199
         clear hy199
         replace H := Option.bind_eq_some_iff.mp H
         obtain ⟨⟨t202, t203⟩, A240, H⟩ := H
         replace H : (if (t202 == ((rd_T24 t166 1).f0) && (t203 == ((rd_T24 t166 1).f1))) = true then ((tower_Sum.f k ([] : List (S24))).bind fun bt204 => (some (bt204.1 == 0 && (bt204.2 == 0)))) else (none)) = some r := H
         have A24 := Aside0.mk A240
         clear A240
         by_cases c25 : (t202 == ((rd_T24 t166 1).f0) && (t203 == ((rd_T24 t166 1).f1))) = true
         ·rw [if_pos c25] at H
          have c25b0 : (t202 == ((rd_T24 t166 1).f0) && (t203 == ((rd_T24 t166 1).f1))) = true := c25
          (try (have c25b1 : decide (t202 = ((rd_T24 t166 1).f0) && (t203 == ((rd_T24 t166 1).f1))) = true := by simpa using c25))
          (try (have c25b2 : (t202 == ((rd_T24 t166 1).f0) && (t203 == ((rd_T24 t166 1).f1))) = true := by simpa using c25))
          clear c25
          replace H := Option.bind_eq_some_iff.mp H
          obtain ⟨⟨t204, t205⟩, A260, H⟩ := H
          replace H : (some (t204 == 0 && (t205 == 0))) = some r := H
          have A26 := Aside0.mk A260
          clear A260
          obtain rfl := Option.some.inj H
          go_enter Try.func3, Try.ntmps3
          try go_wp2_with (first | ((with_reducible refine gate_dst (N := 3) rfl ?_); (try (refine gate_guard (by rfl) ?_; dsimp only)); refine box_event ?hg (N := 3) ?hd (cs := #[.int .u64 a1_0, .int .u64 a1_1, .int .u64 a1_2, .int .u64 a1_3, .int .u64 a1_4, .int .u64 a1_5]) (t := 26) ?hr ?_; (case hd => rfl); (case hg => rfl); (case hr => first | (go_simp; done) | (go_simp; rfl)); intro gb161 hg w27 hbox hb; have n0_ := Aside0.mk (below_step (by repeat (first | (with_reducible first | exact HB.out | apply below_alloc | apply pw_below_drewN | apply below_drew1) | exact HB.out)) hb); have n1_ := Aside0.mk (hbox); have n2_ := Aside0.mk ((by rw [hg]; exact (below_size (by repeat (first | (with_reducible first | exact HB.out | apply below_alloc | apply pw_below_drewN | apply below_drew1) | exact HB.out))) : w.heap.size ≤ gb161)); have n3_ := Aside0.mk ((by rw [hg]; exact (below_size (by repeat (first | (with_reducible first | exact HB.out | apply below_alloc | apply pw_below_drewN | apply below_drew1) | exact HB.out))) : w.heap.size ≤ gb161)); clear HB; have HB := n0_; have BK161 := n1_; have GW161 := n2_; have GE161 := n3_; clear n0_ n1_ n2_ n3_; clear hb hbox hg; have hcz28_0 : w27.cell? ⟨gb161, 0, none⟩ = some (.int .u64 a1_0) := (blk_cell BK161.out 0).trans rfl; have hcz28_1 : w27.cell? ⟨gb161, 1, none⟩ = some (.int .u64 a1_1) := (blk_cell BK161.out 1).trans rfl; have hcz28_2 : w27.cell? ⟨gb161, 2, none⟩ = some (.int .u64 a1_2) := (blk_cell BK161.out 2).trans rfl; have hcz28_3 : w27.cell? ⟨gb161, 3, none⟩ = some (.int .u64 a1_3) := (blk_cell BK161.out 3).trans rfl; have hcz28_4 : w27.cell? ⟨gb161, 4, none⟩ = some (.int .u64 a1_4) := (blk_cell BK161.out 4).trans rfl; have hcz28_5 : w27.cell? ⟨gb161, 5, none⟩ = some (.int .u64 a1_5) := (blk_cell BK161.out 5).trans rfl; have hfz28_0 := blk_frozen BK161.out 0; have hfz28_1 := blk_frozen BK161.out 1; have hfz28_2 := blk_frozen BK161.out 2; have hfz28_3 := blk_frozen BK161.out 3; have hfz28_4 := blk_frozen BK161.out 4; have hfz28_5 := blk_frozen BK161.out 5) | ((with_reducible refine gate_dst (N := 19) rfl ?_); (try (refine gate_guard (by rfl) ?_; dsimp only)); refine Kd.R_lit k24 _ 24 ?hg (N := 19) ?hd (xs := ([(⟨a1_0, a1_1⟩ : S24), (⟨a1_2, a1_3⟩ : S24), (⟨a1_4, a1_5⟩ : S24)] : List (S24))) (inner := [.int .u64 a1_0, .int .u64 a1_1, .int .u64 a1_2, .int .u64 a1_3, .int .u64 a1_4, .int .u64 a1_5]) (ok := fun _ => True) (okp := fun _ => True) ?hr ?hp (fun _ hk => hk) trivial (Below.refl _ _) (Nat.le_refl _) (by simp) ?_; (case hd => rfl); (case hg => rfl); (case hr => first | (go_simp; done) | (go_simp; rfl)); (case hp => exact (Reps.c2 (show Kd.M k24 _ _ _ (⟨a1_0, a1_1⟩ : S24) [.int .u64 a1_0, .int .u64 a1_1] from (k24_mkM _ _ _ (⟨a1_0, a1_1⟩ : S24) )) (Reps.c2 (show Kd.M k24 _ _ _ (⟨a1_2, a1_3⟩ : S24) [.int .u64 a1_2, .int .u64 a1_3] from (k24_mkM _ _ _ (⟨a1_2, a1_3⟩ : S24) )) (Reps.c2 (show Kd.M k24 _ _ _ (⟨a1_4, a1_5⟩ : S24) [.int .u64 a1_4, .int .u64 a1_5] from (k24_mkM _ _ _ (⟨a1_4, a1_5⟩ : S24) )) (Reps.none _ _))))); intro v163 w29 ho30 hb hg_ hnew_; clear hg_ hnew_; (first | rw [← Ny162.out] at ho30 | (simp only [Int.reduceToNat] at ho30; rw [← Ny162.out] at ho30)); have n0_ := Aside0.mk (Kd.R_lower ho30 (below_size (by repeat (first | (with_reducible first | exact HB.out | apply below_alloc | apply pw_below_drewN | apply below_drew1 | refine below_set ?_ GE161.out) | exact HB.out)))); have n1_ := Aside0.mk (blk_below (g := gb161) (o := .cells #[.int .u64 a1_0, .int .u64 a1_1, .int .u64 a1_2, .int .u64 a1_3, .int .u64 a1_4, .int .u64 a1_5] 26 (0, 0)) (by (with_reducible repeat (first | refine blk_drewN ?_ _ | refine blk_drew ?_ | refine blk_alloc ?_ _)); exact BK161.out) hb); have n2_ := Aside0.mk (below_step (by repeat (first | (with_reducible first | exact HB.out | apply below_alloc | apply pw_below_drewN | apply below_drew1 | refine below_set ?_ GE161.out) | exact HB.out)) hb); clear BK161; clear HB; have HO164 := n0_; have BK161 := n1_; have HB := n2_; clear n0_ n1_ n2_; clear hb ho30; obtain ⟨Ao31, co31, eo31⟩ := Kd.R_slice HO164.out; subst eo31) | ((with_reducible refine gate_callee (f := 12) rfl ?_); refine goesL_ (some 20) rfl rfl Try.func12 (by kernel_rfl) rfl #[.int .i64 a0, .slice Ao31 y162.length co31] rfl (by (try simp only [List.map_toArray, List.map_cons, List.map_nil]); first | done | rfl | (simp only [List.length_drop, List.length_take]; rfl)) ?_; (with_reducible refine (steeplelaw02_of.calls k a0 _ _ y162 t165 t166 _ ?side1 ?side2 A3.out).mono ?_); (case side1 => repeat (first | exact (Kd.R_reads' HO164.out).2.2 | (with_reducible refine Kd.C_alloc ?_ _) | (with_reducible refine Kd.C_drewN ?_ _) | (with_reducible refine Kd.C_drew ?_))); (case side2 => exact (Kd.R_reads' HO164.out).2.1); rintro e w32 ⟨v167, rfl, ho0, hb⟩; refine ⟨_, rfl, ?_⟩; have n0_ := Aside0.mk (Kd.R_elder' (by (with_reducible repeat (first | apply Kd.R_alloc | apply Kd.R_drewN | apply Kd.R_drew)); exact HO164.out) (Kd.R_base ho0) hb); have n1_ := Aside0.mk (Kd.R_lower (Kd.R_new' ho0 (Kd.R_lt (by (with_reducible repeat (first | apply Kd.R_alloc | apply Kd.R_drewN | apply Kd.R_drew)); exact HO164.out))) (below_size (by repeat (first | (with_reducible first | exact HB.out | apply below_alloc | apply pw_below_drewN | apply below_drew1 | refine below_set ?_ GE161.out) | exact HB.out)))); have n2_ := Aside0.mk (blk_below (g := gb161) (o := .cells #[.int .u64 a1_0, .int .u64 a1_1, .int .u64 a1_2, .int .u64 a1_3, .int .u64 a1_4, .int .u64 a1_5] 26 (0, 0)) (by (with_reducible repeat (first | refine blk_drewN ?_ _ | refine blk_drew ?_ | refine blk_alloc ?_ _)); exact BK161.out) hb); have n3_ := Aside0.mk (below_step (by repeat (first | (with_reducible first | exact HB.out | apply below_alloc | apply pw_below_drewN | apply below_drew1 | refine below_set ?_ GE161.out) | exact HB.out)) hb); clear HO164; clear BK161; clear HB; have HO164 := n0_; have HO168 := n1_; have BK161 := n2_; have HB := n3_; clear n0_ n1_ n2_ n3_; (try clear hb); (try clear hb2); (try clear hk); (try clear hi); (try clear ho0)))
          have n0_ := Aside0.mk (Kd.R_drew HO164.out)
          have n1_ := Aside0.mk (Kd.R_drew HO168.out)
          have n2_ := Aside0.mk (blk_drew BK161.out)
          have n3_ := Aside0.mk (below_drew1 HB.out)
          clear HO164
          clear HO168
          clear BK161
          clear HB
          have HO164 := n0_
          have HO168 := n1_
          have BK161 := n2_
          have HB := n3_
          clear n0_ n1_ n2_ n3_
          obtain ⟨Ao34, co34, eo34⟩ := Kd.R_slice HO168.out
          (first | subst eo34 | (injection eo34 with f1_ f2_ f3_; have f4_ := f1_.symm; have f5_ := f3_.symm; clear f1_ f2_ f3_; subst f4_; subst f5_))
          have p169 : 0 ≤ (0 : Int) := (by omega)
          have q169 : 0 < (t166.length : Int) := of_decide_eq_true (by first | (with_reducible assumption) | assumption)
          obtain ⟨ad169, e169, hx169_0, hx169_1⟩ := at_T24 (Kd.R_reads' HO168.out).2.2 0 p169 q169
          cases e169
          have qi169 : (0 < t166.length) = True := eq_true (by omega)
          (try rw [show ((0 : Int)).toNat = 0 from rfl] at hx169_0)
          (try rw [show 0 * 2 = 0 from rfl] at hx169_0)
          (try rw [Addr.add_zero'] at hx169_0)
          (try rw [show ((0 : Int)).toNat = 0 from rfl] at hx169_1)
          (try rw [show 0 * 2 = 0 from rfl] at hx169_1)
          (try rw [Addr.add_zero'] at hx169_1)
          replace p169 := eq_true p169
          replace q169 := eq_true q169
          have p170 : 0 ≤ (1 : Int) := (by omega)
          have q170 : 1 < (t166.length : Int) := of_decide_eq_true (by first | (with_reducible assumption) | assumption)
          obtain ⟨ad170, e170, hx170_0, hx170_1⟩ := at_T24 (Kd.R_reads' HO168.out).2.2 1 p170 q170
          obtain rfl : ad169 = ad170 := (by injection e170)
          (try simp only [show (1 : Int).toNat = 1 from rfl, Nat.reduceMul, Nat.reduceEqDiff, Go.Addr.add, ↓reduceIte] at hx170_0)
          (try simp only [show (1 : Int).toNat = 1 from rfl, Nat.reduceMul, Nat.reduceEqDiff, Go.Addr.add, ↓reduceIte] at hx170_1)
          have qi170 : (1 < t166.length) = True := eq_true (by omega)
          (try rw [show ((1 : Int)).toNat = 1 from rfl] at hx170_0)
          (try rw [show 1 * 2 = 2 from rfl] at hx170_0)
          (try rw [show ((1 : Int)).toNat = 1 from rfl] at hx170_1)
          (try rw [show 1 * 2 = 2 from rfl] at hx170_1)
          replace p170 := eq_true p170
          replace q170 := eq_true q170
          have p171 : 0 ≤ (2 : Int) := (by omega)
          have q171 : 2 < (t166.length : Int) := of_decide_eq_true (by first | (with_reducible assumption) | assumption)
          obtain ⟨ad171, e171, hx171_0, hx171_1⟩ := at_T24 (Kd.R_reads' HO168.out).2.2 2 p171 q171
          obtain rfl : ad169 = ad171 := (by injection e171)
          (try simp only [show (2 : Int).toNat = 2 from rfl, Nat.reduceMul, Nat.reduceEqDiff, Go.Addr.add, ↓reduceIte] at hx171_0)
          (try simp only [show (2 : Int).toNat = 2 from rfl, Nat.reduceMul, Nat.reduceEqDiff, Go.Addr.add, ↓reduceIte] at hx171_1)
          have qi171 : (2 < t166.length) = True := eq_true (by omega)
          (try rw [show ((2 : Int)).toNat = 2 from rfl] at hx171_0)
          (try rw [show 2 * 2 = 4 from rfl] at hx171_0)
          (try rw [show ((2 : Int)).toNat = 2 from rfl] at hx171_1)
          (try rw [show 2 * 2 = 4 from rfl] at hx171_1)
          replace p171 := eq_true p171
          replace q171 := eq_true q171
          refine start_ (n := 15) (S := fun w' => w'.cell? ad169 = some (.int .u64 ((rd_T24 t166 0).f0)) ∧ w'.cell? ⟨ad169.block, ad169.off + 1, none⟩ = some (.int .u64 ((rd_T24 t166 0).f1)) ∧ w'.cell? ⟨ad169.block, ad169.off + 2, none⟩ = some (.int .u64 ((rd_T24 t166 1).f0)) ∧ w'.cell? ⟨ad169.block, ad169.off + 2 + 1, none⟩ = some (.int .u64 ((rd_T24 t166 1).f1)) ∧ w'.cell? ⟨ad169.block, ad169.off + 4, none⟩ = some (.int .u64 ((rd_T24 t166 2).f0)) ∧ w'.cell? ⟨ad169.block, ad169.off + 4 + 1, none⟩ = some (.int .u64 ((rd_T24 t166 2).f1))) (ds := []) #[false, false, false, false, false, false, false, false, false, false, false, false, false, false, false] (by kernel_rfl) rfl rfl ⟨hx169_0, hx169_1, hx170_0, hx170_1, hx171_0, hx171_1⟩ (fun hHeld => ?_); refine with_tabW steeplelaw02_TowerRing.tab2 steeplelaw02_TowerRing.bits2 (fun HT_ HW_ => ?_)
          generalize w32.drew = w33 at HO164 HO168 BK161 HB hx169_0 hx169_1 hx170_0 hx170_1 hx171_0 hx171_1 hHeld ⊢
          refine pure_ (i := 0) (N := some 23) (v := ?_) (a' := ?_) #[true, false, false, false, false, false, false, false, false, false, false, false, false, false, false] rfl rfl (any_of HT_.out (by kernel_rfl)) (fun _ _ _ h => h) (Or.inl ⟨by rfl, ?_⟩) ?_ ?_
          rotate_left
          ·intro w'
           go_simp
           with_reducible rfl
          rotate_left
          ·simp only [Act.put, List.setIfInBounds_toArray, List.set_cons_zero, List.set_cons_succ, i64_w, i32_w]
           rfl
          refine pure_ (i := 1) (N := some 24) (v := ?_) (a' := ?_) #[true, true, false, false, false, false, false, false, false, false, false, false, false, false, false] rfl rfl (any_of HT_.out (by kernel_rfl)) (fun _ _ _ h => h) (Or.inl ⟨by rfl, ?_⟩) ?_ ?_
          rotate_left
          ·intro w'
           go_simp
           with_reducible rfl
          rotate_left
          ·simp only [Act.put, List.setIfInBounds_toArray, List.set_cons_zero, List.set_cons_succ, i64_w, i32_w]
           rfl
          refine pure_ (i := 3) (N := some 26) (v := ?_) (a' := ?_) #[true, true, false, true, false, false, false, false, false, false, false, false, false, false, false] rfl rfl (any_of HT_.out (by kernel_rfl)) (fun _ _ _ h => h) (Or.inl ⟨by rfl, ?_⟩) ?_ ?_
          rotate_left
          ·intro w'
           go_simp
           with_reducible rfl
          rotate_left
          ·simp only [Act.put, List.setIfInBounds_toArray, List.set_cons_zero, List.set_cons_succ, i64_w, i32_w]
           rfl
          refine pure_ (i := 4) (N := some 27) (v := ?_) (a' := ?_) #[true, true, false, true, true, false, false, false, false, false, false, false, false, false, false] rfl rfl (any_of HT_.out (by kernel_rfl)) (fun _ _ _ h => h) (Or.inl ⟨by rfl, ?_⟩) ?_ ?_
          rotate_left
          ·intro w'
           go_simp
           with_reducible rfl
          rotate_left
          ·simp only [Act.put, List.setIfInBounds_toArray, List.set_cons_zero, List.set_cons_succ, i64_w, i32_w]
           rfl
          refine pure_ (i := 6) (N := some 29) (v := ?_) (a' := ?_) #[true, true, false, true, true, false, true, false, false, false, false, false, false, false, false] rfl rfl (any_of HT_.out (by kernel_rfl)) (fun _ _ _ h => h) (Or.inl ⟨by rfl, ?_⟩) ?_ ?_
          rotate_left
          ·intro w'
           go_simp
           with_reducible rfl
          rotate_left
          ·simp only [Act.put, List.setIfInBounds_toArray, List.set_cons_zero, List.set_cons_succ, i64_w, i32_w]
           rfl
          refine pure_ (i := 7) (N := some 30) (v := ?_) (a' := ?_) #[true, true, false, true, true, false, true, true, false, false, false, false, false, false, false] rfl rfl (any_of HT_.out (by kernel_rfl)) (fun _ _ _ h => h) (Or.inl ⟨by rfl, ?_⟩) ?_ ?_
          rotate_left
          ·intro w'
           go_simp
           with_reducible rfl
          rotate_left
          ·simp only [Act.put, List.setIfInBounds_toArray, List.set_cons_zero, List.set_cons_succ, i64_w, i32_w]
           rfl
          refine take_ (i := 2) (N := some 25) (v := ?_) (a' := ?_) #[true, true, true, true, true, false, true, true, false, false, false, false, false, false, false] rfl rfl (take_ofW HT_.out HW_.out (by kernel_rfl)) (fun _ _ _ h => h) (Or.inl ⟨by rfl, ?_⟩) hHeld ?_ ?_
          rotate_left
          ·rintro w' ⟨s0, s1, s2, s3, s4, s5⟩
           go_simp
           with_reducible rfl
          rotate_left
          ·simp only [Act.put, List.setIfInBounds_toArray, List.set_cons_zero, List.set_cons_succ, i64_w, i32_w]
           rfl
          refine take_ (i := 5) (N := some 28) (v := ?_) (a' := ?_) #[true, true, true, true, true, true, true, true, false, false, false, false, false, false, false] rfl rfl (take_ofW HT_.out HW_.out (by kernel_rfl)) (fun _ _ _ h => h) (Or.inl ⟨by rfl, ?_⟩) hHeld ?_ ?_
          rotate_left
          ·rintro w' ⟨s0, s1, s2, s3, s4, s5⟩
           go_simp
           with_reducible rfl
          rotate_left
          ·simp only [Act.put, List.setIfInBounds_toArray, List.set_cons_zero, List.set_cons_succ, i64_w, i32_w]
           rfl
          refine take_ (i := 8) (N := some 31) (v := ?_) (a' := ?_) #[true, true, true, true, true, true, true, true, true, false, false, false, false, false, false] rfl rfl (take_ofW HT_.out HW_.out (by kernel_rfl)) (fun _ _ _ h => h) (Or.inl ⟨by rfl, ?_⟩) hHeld ?_ ?_
          rotate_left
          ·rintro w' ⟨s0, s1, s2, s3, s4, s5⟩
           go_simp
           with_reducible rfl
          rotate_left
          ·simp only [Act.put, List.setIfInBounds_toArray, List.set_cons_zero, List.set_cons_succ, i64_w, i32_w]
           rfl
          refine join_ (σ := Nat × Nat × Nat) 3 #[true, true, true, true, true, true, true, true, true, true, true, true, false, false, false] (fun s_ => [(7, .pointer (some ⟨s_.1, 0, none⟩)), (8, .pointer (some ⟨s_.2.1, 0, none⟩)), (9, .pointer (some ⟨s_.2.2, 0, none⟩))]) (fun s_ w' => (w'.cell? ad169 = some (.int .u64 ((rd_T24 t166 0).f0)) ∧ w'.cell? ⟨ad169.block, ad169.off + 1, none⟩ = some (.int .u64 ((rd_T24 t166 0).f1)) ∧ w'.cell? ⟨ad169.block, ad169.off + 2, none⟩ = some (.int .u64 ((rd_T24 t166 1).f0)) ∧ w'.cell? ⟨ad169.block, ad169.off + 2 + 1, none⟩ = some (.int .u64 ((rd_T24 t166 1).f1)) ∧ w'.cell? ⟨ad169.block, ad169.off + 4, none⟩ = some (.int .u64 ((rd_T24 t166 2).f0)) ∧ w'.cell? ⟨ad169.block, ad169.off + 4 + 1, none⟩ = some (.int .u64 ((rd_T24 t166 2).f1))) ∧ (Kd.R k24 24 w' w.heap.size (fun k_ => some k_ ≠ (.slice (some ad169) t166.length co34 : Value).ownBlock ∧ k_ ≠ s_.1 ∧ k_ ≠ s_.2.1 ∧ k_ ≠ s_.2.2) (.slice Ao31 y162.length co31) y162) ∧ (Kd.R k24 24 w' w.heap.size (fun k_ => some k_ ≠ (.slice Ao31 y162.length co31 : Value).ownBlock ∧ k_ ≠ s_.1 ∧ k_ ≠ s_.2.1 ∧ k_ ≠ s_.2.2) (.slice (some ad169) t166.length co34) t166) ∧ (w'.heap[gb161]? = some (.cells #[.int .u64 a1_0, .int .u64 a1_1, .int .u64 a1_2, .int .u64 a1_3, .int .u64 a1_4, .int .u64 a1_5] 26 (0, 0))) ∧ (w'.heap[s_.1]? = some (.cells #[.int .u64 0, .int .u64 0] 24 (0, 0))) ∧ (w'.heap[s_.2.1]? = some (.cells #[.int .u64 0, .int .u64 0] 24 (0, 0))) ∧ (w'.heap[s_.2.2]? = some (.cells #[.int .u64 0, .int .u64 0] 24 (0, 0))) ∧ (w.heap.size ≤ s_.1) ∧ (w.heap.size ≤ s_.1) ∧ (gb161 ≠ s_.1) ∧ (s_.1 ≠ gb161) ∧ (s_.2.1 ≠ s_.1) ∧ (s_.1 ≠ s_.2.1) ∧ (s_.2.2 ≠ s_.1) ∧ (s_.1 ≠ s_.2.2) ∧ (w.heap.size ≤ s_.2.1) ∧ (w.heap.size ≤ s_.2.1) ∧ (gb161 ≠ s_.2.1) ∧ (s_.2.1 ≠ gb161) ∧ (s_.2.2 ≠ s_.2.1) ∧ (s_.2.1 ≠ s_.2.2) ∧ (w.heap.size ≤ s_.2.2) ∧ (w.heap.size ≤ s_.2.2) ∧ (gb161 ≠ s_.2.2) ∧ (s_.2.2 ≠ gb161) ∧ (Below w.heap.size w w')) ?_ ?_
          rotate_left
          ·intro hJ9_10_11
           refine join_ (σ := Nat × Nat) 4 #[true, true, true, true, true, true, true, true, true, true, true, false, false, false, false] (fun s_ => [(7, .pointer (some ⟨s_.1, 0, none⟩)), (8, .pointer (some ⟨s_.2, 0, none⟩))]) (fun s_ w' => (w'.cell? ad169 = some (.int .u64 ((rd_T24 t166 0).f0)) ∧ w'.cell? ⟨ad169.block, ad169.off + 1, none⟩ = some (.int .u64 ((rd_T24 t166 0).f1)) ∧ w'.cell? ⟨ad169.block, ad169.off + 2, none⟩ = some (.int .u64 ((rd_T24 t166 1).f0)) ∧ w'.cell? ⟨ad169.block, ad169.off + 2 + 1, none⟩ = some (.int .u64 ((rd_T24 t166 1).f1)) ∧ w'.cell? ⟨ad169.block, ad169.off + 4, none⟩ = some (.int .u64 ((rd_T24 t166 2).f0)) ∧ w'.cell? ⟨ad169.block, ad169.off + 4 + 1, none⟩ = some (.int .u64 ((rd_T24 t166 2).f1))) ∧ (Kd.R k24 24 w' w.heap.size (fun k_ => some k_ ≠ (.slice (some ad169) t166.length co34 : Value).ownBlock ∧ k_ ≠ s_.1 ∧ k_ ≠ s_.2) (.slice Ao31 y162.length co31) y162) ∧ (Kd.R k24 24 w' w.heap.size (fun k_ => some k_ ≠ (.slice Ao31 y162.length co31 : Value).ownBlock ∧ k_ ≠ s_.1 ∧ k_ ≠ s_.2) (.slice (some ad169) t166.length co34) t166) ∧ (w'.heap[gb161]? = some (.cells #[.int .u64 a1_0, .int .u64 a1_1, .int .u64 a1_2, .int .u64 a1_3, .int .u64 a1_4, .int .u64 a1_5] 26 (0, 0))) ∧ (w'.heap[s_.1]? = some (.cells #[.int .u64 0, .int .u64 0] 24 (0, 0))) ∧ (w'.heap[s_.2]? = some (.cells #[.int .u64 0, .int .u64 0] 24 (0, 0))) ∧ (w.heap.size ≤ s_.1) ∧ (w.heap.size ≤ s_.1) ∧ (gb161 ≠ s_.1) ∧ (s_.1 ≠ gb161) ∧ (s_.2 ≠ s_.1) ∧ (s_.1 ≠ s_.2) ∧ (w.heap.size ≤ s_.2) ∧ (w.heap.size ≤ s_.2) ∧ (gb161 ≠ s_.2) ∧ (s_.2 ≠ gb161) ∧ (Below w.heap.size w w')) ?_ ?_
           rotate_left
           ·intro hJ9_10
            refine join_ (σ := Nat × Nat) 4 #[true, true, true, true, true, true, true, true, true, true, false, true, false, false, false] (fun s_ => [(7, .pointer (some ⟨s_.1, 0, none⟩)), (9, .pointer (some ⟨s_.2, 0, none⟩))]) (fun s_ w' => (w'.cell? ad169 = some (.int .u64 ((rd_T24 t166 0).f0)) ∧ w'.cell? ⟨ad169.block, ad169.off + 1, none⟩ = some (.int .u64 ((rd_T24 t166 0).f1)) ∧ w'.cell? ⟨ad169.block, ad169.off + 2, none⟩ = some (.int .u64 ((rd_T24 t166 1).f0)) ∧ w'.cell? ⟨ad169.block, ad169.off + 2 + 1, none⟩ = some (.int .u64 ((rd_T24 t166 1).f1)) ∧ w'.cell? ⟨ad169.block, ad169.off + 4, none⟩ = some (.int .u64 ((rd_T24 t166 2).f0)) ∧ w'.cell? ⟨ad169.block, ad169.off + 4 + 1, none⟩ = some (.int .u64 ((rd_T24 t166 2).f1))) ∧ (Kd.R k24 24 w' w.heap.size (fun k_ => some k_ ≠ (.slice (some ad169) t166.length co34 : Value).ownBlock ∧ k_ ≠ s_.1 ∧ k_ ≠ s_.2) (.slice Ao31 y162.length co31) y162) ∧ (Kd.R k24 24 w' w.heap.size (fun k_ => some k_ ≠ (.slice Ao31 y162.length co31 : Value).ownBlock ∧ k_ ≠ s_.1 ∧ k_ ≠ s_.2) (.slice (some ad169) t166.length co34) t166) ∧ (w'.heap[gb161]? = some (.cells #[.int .u64 a1_0, .int .u64 a1_1, .int .u64 a1_2, .int .u64 a1_3, .int .u64 a1_4, .int .u64 a1_5] 26 (0, 0))) ∧ (w'.heap[s_.1]? = some (.cells #[.int .u64 0, .int .u64 0] 24 (0, 0))) ∧ (w'.heap[s_.2]? = some (.cells #[.int .u64 0, .int .u64 0] 24 (0, 0))) ∧ (w.heap.size ≤ s_.1) ∧ (w.heap.size ≤ s_.1) ∧ (gb161 ≠ s_.1) ∧ (s_.1 ≠ gb161) ∧ (s_.2 ≠ s_.1) ∧ (s_.1 ≠ s_.2) ∧ (w.heap.size ≤ s_.2) ∧ (w.heap.size ≤ s_.2) ∧ (gb161 ≠ s_.2) ∧ (s_.2 ≠ gb161) ∧ (Below w.heap.size w w')) ?_ ?_
            rotate_left
            ·intro hJ9_11
             refine join_ (σ := Nat × Nat) 4 #[true, true, true, true, true, true, true, true, true, false, true, true, false, false, false] (fun s_ => [(8, .pointer (some ⟨s_.1, 0, none⟩)), (9, .pointer (some ⟨s_.2, 0, none⟩))]) (fun s_ w' => (w'.cell? ad169 = some (.int .u64 ((rd_T24 t166 0).f0)) ∧ w'.cell? ⟨ad169.block, ad169.off + 1, none⟩ = some (.int .u64 ((rd_T24 t166 0).f1)) ∧ w'.cell? ⟨ad169.block, ad169.off + 2, none⟩ = some (.int .u64 ((rd_T24 t166 1).f0)) ∧ w'.cell? ⟨ad169.block, ad169.off + 2 + 1, none⟩ = some (.int .u64 ((rd_T24 t166 1).f1)) ∧ w'.cell? ⟨ad169.block, ad169.off + 4, none⟩ = some (.int .u64 ((rd_T24 t166 2).f0)) ∧ w'.cell? ⟨ad169.block, ad169.off + 4 + 1, none⟩ = some (.int .u64 ((rd_T24 t166 2).f1))) ∧ (Kd.R k24 24 w' w.heap.size (fun k_ => some k_ ≠ (.slice (some ad169) t166.length co34 : Value).ownBlock ∧ k_ ≠ s_.1 ∧ k_ ≠ s_.2) (.slice Ao31 y162.length co31) y162) ∧ (Kd.R k24 24 w' w.heap.size (fun k_ => some k_ ≠ (.slice Ao31 y162.length co31 : Value).ownBlock ∧ k_ ≠ s_.1 ∧ k_ ≠ s_.2) (.slice (some ad169) t166.length co34) t166) ∧ (w'.heap[gb161]? = some (.cells #[.int .u64 a1_0, .int .u64 a1_1, .int .u64 a1_2, .int .u64 a1_3, .int .u64 a1_4, .int .u64 a1_5] 26 (0, 0))) ∧ (w'.heap[s_.1]? = some (.cells #[.int .u64 0, .int .u64 0] 24 (0, 0))) ∧ (w'.heap[s_.2]? = some (.cells #[.int .u64 0, .int .u64 0] 24 (0, 0))) ∧ (w.heap.size ≤ s_.1) ∧ (w.heap.size ≤ s_.1) ∧ (gb161 ≠ s_.1) ∧ (s_.1 ≠ gb161) ∧ (s_.2 ≠ s_.1) ∧ (s_.1 ≠ s_.2) ∧ (w.heap.size ≤ s_.2) ∧ (w.heap.size ≤ s_.2) ∧ (gb161 ≠ s_.2) ∧ (s_.2 ≠ gb161) ∧ (Below w.heap.size w w')) ?_ ?_
             rotate_left
             ·intro hJ10_11
              refine join_ (σ := Nat) 5 #[true, true, true, true, true, true, true, true, true, true, false, false, false, false, false] (fun s_ => [(7, .pointer (some ⟨s_, 0, none⟩))]) (fun s_ w' => (w'.cell? ad169 = some (.int .u64 ((rd_T24 t166 0).f0)) ∧ w'.cell? ⟨ad169.block, ad169.off + 1, none⟩ = some (.int .u64 ((rd_T24 t166 0).f1)) ∧ w'.cell? ⟨ad169.block, ad169.off + 2, none⟩ = some (.int .u64 ((rd_T24 t166 1).f0)) ∧ w'.cell? ⟨ad169.block, ad169.off + 2 + 1, none⟩ = some (.int .u64 ((rd_T24 t166 1).f1)) ∧ w'.cell? ⟨ad169.block, ad169.off + 4, none⟩ = some (.int .u64 ((rd_T24 t166 2).f0)) ∧ w'.cell? ⟨ad169.block, ad169.off + 4 + 1, none⟩ = some (.int .u64 ((rd_T24 t166 2).f1))) ∧ (Kd.R k24 24 w' w.heap.size (fun k_ => some k_ ≠ (.slice (some ad169) t166.length co34 : Value).ownBlock ∧ k_ ≠ s_) (.slice Ao31 y162.length co31) y162) ∧ (Kd.R k24 24 w' w.heap.size (fun k_ => some k_ ≠ (.slice Ao31 y162.length co31 : Value).ownBlock ∧ k_ ≠ s_) (.slice (some ad169) t166.length co34) t166) ∧ (w'.heap[gb161]? = some (.cells #[.int .u64 a1_0, .int .u64 a1_1, .int .u64 a1_2, .int .u64 a1_3, .int .u64 a1_4, .int .u64 a1_5] 26 (0, 0))) ∧ (w'.heap[s_]? = some (.cells #[.int .u64 0, .int .u64 0] 24 (0, 0))) ∧ (w.heap.size ≤ s_) ∧ (w.heap.size ≤ s_) ∧ (gb161 ≠ s_) ∧ (s_ ≠ gb161) ∧ (Below w.heap.size w w')) ?_ ?_
              rotate_left
              ·intro hJ9
               refine join_ (σ := Nat) 5 #[true, true, true, true, true, true, true, true, true, false, true, false, false, false, false] (fun s_ => [(8, .pointer (some ⟨s_, 0, none⟩))]) (fun s_ w' => (w'.cell? ad169 = some (.int .u64 ((rd_T24 t166 0).f0)) ∧ w'.cell? ⟨ad169.block, ad169.off + 1, none⟩ = some (.int .u64 ((rd_T24 t166 0).f1)) ∧ w'.cell? ⟨ad169.block, ad169.off + 2, none⟩ = some (.int .u64 ((rd_T24 t166 1).f0)) ∧ w'.cell? ⟨ad169.block, ad169.off + 2 + 1, none⟩ = some (.int .u64 ((rd_T24 t166 1).f1)) ∧ w'.cell? ⟨ad169.block, ad169.off + 4, none⟩ = some (.int .u64 ((rd_T24 t166 2).f0)) ∧ w'.cell? ⟨ad169.block, ad169.off + 4 + 1, none⟩ = some (.int .u64 ((rd_T24 t166 2).f1))) ∧ (Kd.R k24 24 w' w.heap.size (fun k_ => some k_ ≠ (.slice (some ad169) t166.length co34 : Value).ownBlock ∧ k_ ≠ s_) (.slice Ao31 y162.length co31) y162) ∧ (Kd.R k24 24 w' w.heap.size (fun k_ => some k_ ≠ (.slice Ao31 y162.length co31 : Value).ownBlock ∧ k_ ≠ s_) (.slice (some ad169) t166.length co34) t166) ∧ (w'.heap[gb161]? = some (.cells #[.int .u64 a1_0, .int .u64 a1_1, .int .u64 a1_2, .int .u64 a1_3, .int .u64 a1_4, .int .u64 a1_5] 26 (0, 0))) ∧ (w'.heap[s_]? = some (.cells #[.int .u64 0, .int .u64 0] 24 (0, 0))) ∧ (w.heap.size ≤ s_) ∧ (w.heap.size ≤ s_) ∧ (gb161 ≠ s_) ∧ (s_ ≠ gb161) ∧ (Below w.heap.size w w')) ?_ ?_
               rotate_left
               ·intro hJ10
                refine join_ (σ := Nat) 5 #[true, true, true, true, true, true, true, true, true, false, false, true, false, false, false] (fun s_ => [(9, .pointer (some ⟨s_, 0, none⟩))]) (fun s_ w' => (w'.cell? ad169 = some (.int .u64 ((rd_T24 t166 0).f0)) ∧ w'.cell? ⟨ad169.block, ad169.off + 1, none⟩ = some (.int .u64 ((rd_T24 t166 0).f1)) ∧ w'.cell? ⟨ad169.block, ad169.off + 2, none⟩ = some (.int .u64 ((rd_T24 t166 1).f0)) ∧ w'.cell? ⟨ad169.block, ad169.off + 2 + 1, none⟩ = some (.int .u64 ((rd_T24 t166 1).f1)) ∧ w'.cell? ⟨ad169.block, ad169.off + 4, none⟩ = some (.int .u64 ((rd_T24 t166 2).f0)) ∧ w'.cell? ⟨ad169.block, ad169.off + 4 + 1, none⟩ = some (.int .u64 ((rd_T24 t166 2).f1))) ∧ (Kd.R k24 24 w' w.heap.size (fun k_ => some k_ ≠ (.slice (some ad169) t166.length co34 : Value).ownBlock ∧ k_ ≠ s_) (.slice Ao31 y162.length co31) y162) ∧ (Kd.R k24 24 w' w.heap.size (fun k_ => some k_ ≠ (.slice Ao31 y162.length co31 : Value).ownBlock ∧ k_ ≠ s_) (.slice (some ad169) t166.length co34) t166) ∧ (w'.heap[gb161]? = some (.cells #[.int .u64 a1_0, .int .u64 a1_1, .int .u64 a1_2, .int .u64 a1_3, .int .u64 a1_4, .int .u64 a1_5] 26 (0, 0))) ∧ (w'.heap[s_]? = some (.cells #[.int .u64 0, .int .u64 0] 24 (0, 0))) ∧ (w.heap.size ≤ s_) ∧ (w.heap.size ≤ s_) ∧ (gb161 ≠ s_) ∧ (s_ ≠ gb161) ∧ (Below w.heap.size w w')) ?_ ?_
                rotate_left
                ·intro hJ11
                 refine three_ (i := 9) (j := 10) (k := 11) (Ni := some 7) (Nj := some 8) (Nk := some 9) #[true, true, true, true, true, true, true, true, true, true, false, false, false, false, false] #[true, true, true, true, true, true, true, true, true, false, true, false, false, false, false] #[true, true, true, true, true, true, true, true, true, false, false, true, false, false, false] rfl rfl rfl rfl rfl rfl (three_of HT_.out (by kernel_rfl)) (by decide) (by decide) (by decide) (fun K hK => ?_) (fun K hK => ?_) (fun K hK => ?_)
                 ·skip
                  refine box_step ?hg (N := 7) ?hd (cs := #[.int .u64 0, .int .u64 0]) (t := 24) ?hr ?_; (case hd => rfl); (case hg => rfl); (case hr => first | (go_simp; done) | (go_simp; rfl))
                  intro gb172 hg w35 hbox hb
                  have HS0_ := (hb.cell (World.block_lt_of_cell? _ _ (hHeld.1))).trans (hHeld.1)
                  have HS1_ := (hb.cell (World.block_lt_of_cell? _ _ (hHeld.2.1))).trans (hHeld.2.1)
                  have HS2_ := (hb.cell (World.block_lt_of_cell? _ _ (hHeld.2.2.1))).trans (hHeld.2.2.1)
                  have HS3_ := (hb.cell (World.block_lt_of_cell? _ _ (hHeld.2.2.2.1))).trans (hHeld.2.2.2.1)
                  have HS4_ := (hb.cell (World.block_lt_of_cell? _ _ (hHeld.2.2.2.2.1))).trans (hHeld.2.2.2.2.1)
                  have HS5_ := (hb.cell (World.block_lt_of_cell? _ _ (hHeld.2.2.2.2.2))).trans (hHeld.2.2.2.2.2)
                  have n0_ := Aside0.mk (Kd.R_below (Kd.R_elderB (by (with_reducible repeat (first | apply Kd.R_alloc | apply Kd.R_drewN | apply Kd.R_drew)); exact HO164.out) gb172 (Nat.le_of_eq hg.symm)) hb)
                  have n1_ := Aside0.mk (Kd.R_below (Kd.R_elderB (by (with_reducible repeat (first | apply Kd.R_alloc | apply Kd.R_drewN | apply Kd.R_drew)); exact HO168.out) gb172 (Nat.le_of_eq hg.symm)) hb)
                  have n2_ := Aside0.mk (blk_below (g := gb161) (o := .cells #[.int .u64 a1_0, .int .u64 a1_1, .int .u64 a1_2, .int .u64 a1_3, .int .u64 a1_4, .int .u64 a1_5] 26 (0, 0)) (by (with_reducible repeat (first | refine blk_drewN ?_ _ | refine blk_drew ?_ | refine blk_alloc ?_ _)); exact BK161.out) hb)
                  have n3_ := Aside0.mk (below_step (by repeat (first | (with_reducible first | exact HB.out | apply below_alloc | apply pw_below_drewN | apply below_drew1 | refine below_set ?_ GE161.out) | exact HB.out)) hb)
                  have n4_ := Aside0.mk (hbox)
                  have n5_ := Aside0.mk ((by rw [hg]; exact (below_size (by repeat (first | (with_reducible first | exact HB.out | apply below_alloc | apply pw_below_drewN | apply below_drew1 | refine below_set ?_ GE161.out) | exact HB.out))) : w.heap.size ≤ gb172))
                  have n6_ := Aside0.mk ((by rw [hg]; exact (below_size (by repeat (first | (with_reducible first | exact HB.out | apply below_alloc | apply pw_below_drewN | apply below_drew1 | refine below_set ?_ GE161.out) | exact HB.out))) : w.heap.size ≤ gb172))
                  have n7_ := Aside0.mk ((by rw [hg]; exact Nat.ne_of_lt (blk_lt (g := gb161) (o := .cells #[.int .u64 a1_0, .int .u64 a1_1, .int .u64 a1_2, .int .u64 a1_3, .int .u64 a1_4, .int .u64 a1_5] 26 (0, 0)) (by (with_reducible repeat (first | refine blk_drewN ?_ _ | refine blk_drew ?_ | refine blk_alloc ?_ _)); exact BK161.out)) : gb161 ≠ gb172))
                  have n8_ := Aside0.mk ((by rw [hg]; exact Nat.ne_of_gt (blk_lt (g := gb161) (o := .cells #[.int .u64 a1_0, .int .u64 a1_1, .int .u64 a1_2, .int .u64 a1_3, .int .u64 a1_4, .int .u64 a1_5] 26 (0, 0)) (by (with_reducible repeat (first | refine blk_drewN ?_ _ | refine blk_drew ?_ | refine blk_alloc ?_ _)); exact BK161.out)) : gb172 ≠ gb161))
                  clear HO164
                  clear HO168
                  clear BK161
                  clear HB
                  have HO164 := n0_
                  have HO168 := n1_
                  have BK161 := n2_
                  have HB := n3_
                  have BK172 := n4_
                  have GW172 := n5_
                  have GE172 := n6_
                  have NB161_172 := n7_
                  have NB172_161 := n8_
                  clear n0_ n1_ n2_ n3_ n4_ n5_ n6_ n7_ n8_
                  clear hb hbox hg
                  refine hK.out _ _ ⟨HS0_, HS1_, HS2_, HS3_, HS4_, HS5_⟩ (fun hHeld => ?_)
                  clear hK K
                  refine norm_ (a' := ?_) ?_ ?_
                  rotate_left
                  ·show Act.put _ (some 7) _ = _
                   simp only [Act.put, List.setIfInBounds_toArray, List.set_cons_zero, List.set_cons_succ, i64_w, i32_w]
                   rfl
                  exact norm_ (by first | (simp only [putAll, Act.put, List.setIfInBounds_toArray, List.set_cons_zero, List.set_cons_succ]; done) | (simp only [putAll, Act.put, List.setIfInBounds_toArray, List.set_cons_zero, List.set_cons_succ]; rfl)) (hJ9 (gb172) _ ⟨hHeld, (by (with_reducible repeat (first | apply Kd.R_alloc | apply Kd.R_drewN | apply Kd.R_drew)); exact Kd.R_mono HO164.out (fun _ hk => ⟨hk.1.2, hk.2⟩)), (by (with_reducible repeat (first | apply Kd.R_alloc | apply Kd.R_drewN | apply Kd.R_drew)); exact Kd.R_mono HO168.out (fun _ hk => ⟨hk.1.2, hk.2⟩)), (by (with_reducible repeat (first | refine blk_drewN ?_ _ | refine blk_drew ?_ | refine blk_alloc ?_ _)); exact BK161.out), (by (with_reducible repeat (first | refine blk_drewN ?_ _ | refine blk_drew ?_ | refine blk_alloc ?_ _)); exact BK172.out), GW172.out, GE172.out, NB161_172.out, NB172_161.out, (by repeat (first | (with_reducible first | exact HB.out | apply below_alloc | apply pw_below_drewN | apply below_drew1 | refine below_set ?_ GE161.out | refine below_set ?_ GE172.out) | exact HB.out))⟩)
                 ·skip
                  refine box_step ?hg (N := 8) ?hd (cs := #[.int .u64 0, .int .u64 0]) (t := 24) ?hr ?_; (case hd => rfl); (case hg => rfl); (case hr => first | (go_simp; done) | (go_simp; rfl))
                  intro gb173 hg w35 hbox hb
                  have HS0_ := (hb.cell (World.block_lt_of_cell? _ _ (hHeld.1))).trans (hHeld.1)
                  have HS1_ := (hb.cell (World.block_lt_of_cell? _ _ (hHeld.2.1))).trans (hHeld.2.1)
                  have HS2_ := (hb.cell (World.block_lt_of_cell? _ _ (hHeld.2.2.1))).trans (hHeld.2.2.1)
                  have HS3_ := (hb.cell (World.block_lt_of_cell? _ _ (hHeld.2.2.2.1))).trans (hHeld.2.2.2.1)
                  have HS4_ := (hb.cell (World.block_lt_of_cell? _ _ (hHeld.2.2.2.2.1))).trans (hHeld.2.2.2.2.1)
                  have HS5_ := (hb.cell (World.block_lt_of_cell? _ _ (hHeld.2.2.2.2.2))).trans (hHeld.2.2.2.2.2)
                  have n0_ := Aside0.mk (Kd.R_below (Kd.R_elderB (by (with_reducible repeat (first | apply Kd.R_alloc | apply Kd.R_drewN | apply Kd.R_drew)); exact HO164.out) gb173 (Nat.le_of_eq hg.symm)) hb)
                  have n1_ := Aside0.mk (Kd.R_below (Kd.R_elderB (by (with_reducible repeat (first | apply Kd.R_alloc | apply Kd.R_drewN | apply Kd.R_drew)); exact HO168.out) gb173 (Nat.le_of_eq hg.symm)) hb)
                  have n2_ := Aside0.mk (blk_below (g := gb161) (o := .cells #[.int .u64 a1_0, .int .u64 a1_1, .int .u64 a1_2, .int .u64 a1_3, .int .u64 a1_4, .int .u64 a1_5] 26 (0, 0)) (by (with_reducible repeat (first | refine blk_drewN ?_ _ | refine blk_drew ?_ | refine blk_alloc ?_ _)); exact BK161.out) hb)
                  have n3_ := Aside0.mk (below_step (by repeat (first | (with_reducible first | exact HB.out | apply below_alloc | apply pw_below_drewN | apply below_drew1 | refine below_set ?_ GE161.out) | exact HB.out)) hb)
                  have n4_ := Aside0.mk (hbox)
                  have n5_ := Aside0.mk ((by rw [hg]; exact (below_size (by repeat (first | (with_reducible first | exact HB.out | apply below_alloc | apply pw_below_drewN | apply below_drew1 | refine below_set ?_ GE161.out) | exact HB.out))) : w.heap.size ≤ gb173))
                  have n6_ := Aside0.mk ((by rw [hg]; exact (below_size (by repeat (first | (with_reducible first | exact HB.out | apply below_alloc | apply pw_below_drewN | apply below_drew1 | refine below_set ?_ GE161.out) | exact HB.out))) : w.heap.size ≤ gb173))
                  have n7_ := Aside0.mk ((by rw [hg]; exact Nat.ne_of_lt (blk_lt (g := gb161) (o := .cells #[.int .u64 a1_0, .int .u64 a1_1, .int .u64 a1_2, .int .u64 a1_3, .int .u64 a1_4, .int .u64 a1_5] 26 (0, 0)) (by (with_reducible repeat (first | refine blk_drewN ?_ _ | refine blk_drew ?_ | refine blk_alloc ?_ _)); exact BK161.out)) : gb161 ≠ gb173))
                  have n8_ := Aside0.mk ((by rw [hg]; exact Nat.ne_of_gt (blk_lt (g := gb161) (o := .cells #[.int .u64 a1_0, .int .u64 a1_1, .int .u64 a1_2, .int .u64 a1_3, .int .u64 a1_4, .int .u64 a1_5] 26 (0, 0)) (by (with_reducible repeat (first | refine blk_drewN ?_ _ | refine blk_drew ?_ | refine blk_alloc ?_ _)); exact BK161.out)) : gb173 ≠ gb161))
                  clear HO164
                  clear HO168
                  clear BK161
                  clear HB
                  have HO164 := n0_
                  have HO168 := n1_
                  have BK161 := n2_
                  have HB := n3_
                  have BK173 := n4_
                  have GW173 := n5_
                  have GE173 := n6_
                  have NB161_173 := n7_
                  have NB173_161 := n8_
                  clear n0_ n1_ n2_ n3_ n4_ n5_ n6_ n7_ n8_
                  clear hb hbox hg
                  refine hK.out _ _ ⟨HS0_, HS1_, HS2_, HS3_, HS4_, HS5_⟩ (fun hHeld => ?_)
                  clear hK K
                  refine norm_ (a' := ?_) ?_ ?_
                  rotate_left
                  ·show Act.put _ (some 8) _ = _
                   simp only [Act.put, List.setIfInBounds_toArray, List.set_cons_zero, List.set_cons_succ, i64_w, i32_w]
                   rfl
                  exact norm_ (by first | (simp only [putAll, Act.put, List.setIfInBounds_toArray, List.set_cons_zero, List.set_cons_succ]; done) | (simp only [putAll, Act.put, List.setIfInBounds_toArray, List.set_cons_zero, List.set_cons_succ]; rfl)) (hJ10 (gb173) _ ⟨hHeld, (by (with_reducible repeat (first | apply Kd.R_alloc | apply Kd.R_drewN | apply Kd.R_drew)); exact Kd.R_mono HO164.out (fun _ hk => ⟨hk.1.2, hk.2⟩)), (by (with_reducible repeat (first | apply Kd.R_alloc | apply Kd.R_drewN | apply Kd.R_drew)); exact Kd.R_mono HO168.out (fun _ hk => ⟨hk.1.2, hk.2⟩)), (by (with_reducible repeat (first | refine blk_drewN ?_ _ | refine blk_drew ?_ | refine blk_alloc ?_ _)); exact BK161.out), (by (with_reducible repeat (first | refine blk_drewN ?_ _ | refine blk_drew ?_ | refine blk_alloc ?_ _)); exact BK173.out), GW173.out, GE173.out, NB161_173.out, NB173_161.out, (by repeat (first | (with_reducible first | exact HB.out | apply below_alloc | apply pw_below_drewN | apply below_drew1 | refine below_set ?_ GE161.out | refine below_set ?_ GE173.out) | exact HB.out))⟩)
                 ·skip
                  refine box_step ?hg (N := 9) ?hd (cs := #[.int .u64 0, .int .u64 0]) (t := 24) ?hr ?_; (case hd => rfl); (case hg => rfl); (case hr => first | (go_simp; done) | (go_simp; rfl))
                  intro gb174 hg w35 hbox hb
                  have HS0_ := (hb.cell (World.block_lt_of_cell? _ _ (hHeld.1))).trans (hHeld.1)
                  have HS1_ := (hb.cell (World.block_lt_of_cell? _ _ (hHeld.2.1))).trans (hHeld.2.1)
                  have HS2_ := (hb.cell (World.block_lt_of_cell? _ _ (hHeld.2.2.1))).trans (hHeld.2.2.1)
                  have HS3_ := (hb.cell (World.block_lt_of_cell? _ _ (hHeld.2.2.2.1))).trans (hHeld.2.2.2.1)
                  have HS4_ := (hb.cell (World.block_lt_of_cell? _ _ (hHeld.2.2.2.2.1))).trans (hHeld.2.2.2.2.1)
                  have HS5_ := (hb.cell (World.block_lt_of_cell? _ _ (hHeld.2.2.2.2.2))).trans (hHeld.2.2.2.2.2)
                  have n0_ := Aside0.mk (Kd.R_below (Kd.R_elderB (by (with_reducible repeat (first | apply Kd.R_alloc | apply Kd.R_drewN | apply Kd.R_drew)); exact HO164.out) gb174 (Nat.le_of_eq hg.symm)) hb)
                  have n1_ := Aside0.mk (Kd.R_below (Kd.R_elderB (by (with_reducible repeat (first | apply Kd.R_alloc | apply Kd.R_drewN | apply Kd.R_drew)); exact HO168.out) gb174 (Nat.le_of_eq hg.symm)) hb)
                  have n2_ := Aside0.mk (blk_below (g := gb161) (o := .cells #[.int .u64 a1_0, .int .u64 a1_1, .int .u64 a1_2, .int .u64 a1_3, .int .u64 a1_4, .int .u64 a1_5] 26 (0, 0)) (by (with_reducible repeat (first | refine blk_drewN ?_ _ | refine blk_drew ?_ | refine blk_alloc ?_ _)); exact BK161.out) hb)
                  have n3_ := Aside0.mk (below_step (by repeat (first | (with_reducible first | exact HB.out | apply below_alloc | apply pw_below_drewN | apply below_drew1 | refine below_set ?_ GE161.out) | exact HB.out)) hb)
                  have n4_ := Aside0.mk (hbox)
                  have n5_ := Aside0.mk ((by rw [hg]; exact (below_size (by repeat (first | (with_reducible first | exact HB.out | apply below_alloc | apply pw_below_drewN | apply below_drew1 | refine below_set ?_ GE161.out) | exact HB.out))) : w.heap.size ≤ gb174))
                  have n6_ := Aside0.mk ((by rw [hg]; exact (below_size (by repeat (first | (with_reducible first | exact HB.out | apply below_alloc | apply pw_below_drewN | apply below_drew1 | refine below_set ?_ GE161.out) | exact HB.out))) : w.heap.size ≤ gb174))
                  have n7_ := Aside0.mk ((by rw [hg]; exact Nat.ne_of_lt (blk_lt (g := gb161) (o := .cells #[.int .u64 a1_0, .int .u64 a1_1, .int .u64 a1_2, .int .u64 a1_3, .int .u64 a1_4, .int .u64 a1_5] 26 (0, 0)) (by (with_reducible repeat (first | refine blk_drewN ?_ _ | refine blk_drew ?_ | refine blk_alloc ?_ _)); exact BK161.out)) : gb161 ≠ gb174))
                  have n8_ := Aside0.mk ((by rw [hg]; exact Nat.ne_of_gt (blk_lt (g := gb161) (o := .cells #[.int .u64 a1_0, .int .u64 a1_1, .int .u64 a1_2, .int .u64 a1_3, .int .u64 a1_4, .int .u64 a1_5] 26 (0, 0)) (by (with_reducible repeat (first | refine blk_drewN ?_ _ | refine blk_drew ?_ | refine blk_alloc ?_ _)); exact BK161.out)) : gb174 ≠ gb161))
                  clear HO164
                  clear HO168
                  clear BK161
                  clear HB
                  have HO164 := n0_
                  have HO168 := n1_
                  have BK161 := n2_
                  have HB := n3_
                  have BK174 := n4_
                  have GW174 := n5_
                  have GE174 := n6_
                  have NB161_174 := n7_
                  have NB174_161 := n8_
                  clear n0_ n1_ n2_ n3_ n4_ n5_ n6_ n7_ n8_
                  clear hb hbox hg
                  refine hK.out _ _ ⟨HS0_, HS1_, HS2_, HS3_, HS4_, HS5_⟩ (fun hHeld => ?_)
                  clear hK K
                  refine norm_ (a' := ?_) ?_ ?_
                  rotate_left
                  ·show Act.put _ (some 9) _ = _
                   simp only [Act.put, List.setIfInBounds_toArray, List.set_cons_zero, List.set_cons_succ, i64_w, i32_w]
                   rfl
                  exact norm_ (by first | (simp only [putAll, Act.put, List.setIfInBounds_toArray, List.set_cons_zero, List.set_cons_succ]; done) | (simp only [putAll, Act.put, List.setIfInBounds_toArray, List.set_cons_zero, List.set_cons_succ]; rfl)) (hJ11 (gb174) _ ⟨hHeld, (by (with_reducible repeat (first | apply Kd.R_alloc | apply Kd.R_drewN | apply Kd.R_drew)); exact Kd.R_mono HO164.out (fun _ hk => ⟨hk.1.2, hk.2⟩)), (by (with_reducible repeat (first | apply Kd.R_alloc | apply Kd.R_drewN | apply Kd.R_drew)); exact Kd.R_mono HO168.out (fun _ hk => ⟨hk.1.2, hk.2⟩)), (by (with_reducible repeat (first | refine blk_drewN ?_ _ | refine blk_drew ?_ | refine blk_alloc ?_ _)); exact BK161.out), (by (with_reducible repeat (first | refine blk_drewN ?_ _ | refine blk_drew ?_ | refine blk_alloc ?_ _)); exact BK174.out), GW174.out, GE174.out, NB161_174.out, NB174_161.out, (by repeat (first | (with_reducible first | exact HB.out | apply below_alloc | apply pw_below_drewN | apply below_drew1 | refine below_set ?_ GE161.out | refine below_set ?_ GE174.out) | exact HB.out))⟩)
                ·skip
                 rintro gb174 w36 ⟨hS_, h0_, h1_, h2_, h3_, h4_, h5_, h6_, h7_, h8_⟩
                 have n0_ : Aside0 (Kd.R k24 24 w36 w.heap.size (fun k_ => some k_ ≠ (.slice (some ad169) t166.length co34 : Value).ownBlock ∧ k_ ≠ gb174) (.slice Ao31 y162.length co31) y162) := ⟨h0_⟩
                 have n1_ : Aside0 (Kd.R k24 24 w36 w.heap.size (fun k_ => some k_ ≠ (.slice Ao31 y162.length co31 : Value).ownBlock ∧ k_ ≠ gb174) (.slice (some ad169) t166.length co34) t166) := ⟨h1_⟩
                 have n2_ : Aside0 (w36.heap[gb161]? = some (.cells #[.int .u64 a1_0, .int .u64 a1_1, .int .u64 a1_2, .int .u64 a1_3, .int .u64 a1_4, .int .u64 a1_5] 26 (0, 0))) := ⟨h2_⟩
                 have n3_ : Aside0 (w36.heap[gb174]? = some (.cells #[.int .u64 0, .int .u64 0] 24 (0, 0))) := ⟨h3_⟩
                 have n4_ : Aside0 (w.heap.size ≤ gb174) := ⟨h4_⟩
                 have n5_ : Aside0 (w.heap.size ≤ gb174) := ⟨h5_⟩
                 have n6_ : Aside0 (gb161 ≠ gb174) := ⟨h6_⟩
                 have n7_ : Aside0 (gb174 ≠ gb161) := ⟨h7_⟩
                 have n8_ : Aside0 (Below w.heap.size w w36) := ⟨h8_⟩
                 clear HO164
                 clear HO168
                 clear BK161
                 clear HB
                 clear h0_ h1_ h2_ h3_ h4_ h5_ h6_ h7_ h8_
                 have HO164 := n0_
                 have HO168 := n1_
                 have BK161 := n2_
                 have BK174 := n3_
                 have GW174 := n4_
                 have GE174 := n5_
                 have NB161_174 := n6_
                 have NB174_161 := n7_
                 have HB := n8_
                 clear n0_ n1_ n2_ n3_ n4_ n5_ n6_ n7_ n8_
                 have hHeld : w36.cell? ad169 = some (.int .u64 ((rd_T24 t166 0).f0)) ∧ w36.cell? ⟨ad169.block, ad169.off + 1, none⟩ = some (.int .u64 ((rd_T24 t166 0).f1)) ∧ w36.cell? ⟨ad169.block, ad169.off + 2, none⟩ = some (.int .u64 ((rd_T24 t166 1).f0)) ∧ w36.cell? ⟨ad169.block, ad169.off + 2 + 1, none⟩ = some (.int .u64 ((rd_T24 t166 1).f1)) ∧ w36.cell? ⟨ad169.block, ad169.off + 4, none⟩ = some (.int .u64 ((rd_T24 t166 2).f0)) ∧ w36.cell? ⟨ad169.block, ad169.off + 4 + 1, none⟩ = some (.int .u64 ((rd_T24 t166 2).f1)) := hS_
                 refine norm_ (a' := ?_) ?_ ?_
                 rotate_left
                 ·simp only [putAll, Act.put, List.setIfInBounds_toArray, List.set_cons_zero, List.set_cons_succ]
                  rfl
                 refine two_ (i := 9) (j := 10) (Ni := some 7) (Nj := some 8) #[true, true, true, true, true, true, true, true, true, true, false, true, false, false, false] #[true, true, true, true, true, true, true, true, true, false, true, true, false, false, false] rfl rfl rfl rfl (two_of HT_.out (by kernel_rfl)) (by decide) (by decide) (fun K hK => ?_) (fun K hK => ?_)
                 ·skip
                  refine box_step ?hg (N := 7) ?hd (cs := #[.int .u64 0, .int .u64 0]) (t := 24) ?hr ?_; (case hd => rfl); (case hg => rfl); (case hr => first | (go_simp; done) | (go_simp; rfl))
                  intro gb172 hg w37 hbox hb
                  have HS0_ := (hb.cell (World.block_lt_of_cell? _ _ (hHeld.1))).trans (hHeld.1)
                  have HS1_ := (hb.cell (World.block_lt_of_cell? _ _ (hHeld.2.1))).trans (hHeld.2.1)
                  have HS2_ := (hb.cell (World.block_lt_of_cell? _ _ (hHeld.2.2.1))).trans (hHeld.2.2.1)
                  have HS3_ := (hb.cell (World.block_lt_of_cell? _ _ (hHeld.2.2.2.1))).trans (hHeld.2.2.2.1)
                  have HS4_ := (hb.cell (World.block_lt_of_cell? _ _ (hHeld.2.2.2.2.1))).trans (hHeld.2.2.2.2.1)
                  have HS5_ := (hb.cell (World.block_lt_of_cell? _ _ (hHeld.2.2.2.2.2))).trans (hHeld.2.2.2.2.2)
                  have n0_ := Aside0.mk (Kd.R_below (Kd.R_elderB (by (with_reducible repeat (first | apply Kd.R_alloc | apply Kd.R_drewN | apply Kd.R_drew)); exact HO164.out) gb172 (Nat.le_of_eq hg.symm)) hb)
                  have n1_ := Aside0.mk (Kd.R_below (Kd.R_elderB (by (with_reducible repeat (first | apply Kd.R_alloc | apply Kd.R_drewN | apply Kd.R_drew)); exact HO168.out) gb172 (Nat.le_of_eq hg.symm)) hb)
                  have n2_ := Aside0.mk (blk_below (g := gb161) (o := .cells #[.int .u64 a1_0, .int .u64 a1_1, .int .u64 a1_2, .int .u64 a1_3, .int .u64 a1_4, .int .u64 a1_5] 26 (0, 0)) (by (with_reducible repeat (first | refine blk_drewN ?_ _ | refine blk_drew ?_ | refine blk_alloc ?_ _)); exact BK161.out) hb)
                  have n3_ := Aside0.mk (blk_below (g := gb174) (o := .cells #[.int .u64 0, .int .u64 0] 24 (0, 0)) (by (with_reducible repeat (first | refine blk_drewN ?_ _ | refine blk_drew ?_ | refine blk_alloc ?_ _)); exact BK174.out) hb)
                  have n4_ := Aside0.mk (below_step (by repeat (first | (with_reducible first | exact HB.out | apply below_alloc | apply pw_below_drewN | apply below_drew1 | refine below_set ?_ GE161.out | refine below_set ?_ GE174.out) | exact HB.out)) hb)
                  have n5_ := Aside0.mk (hbox)
                  have n6_ := Aside0.mk ((by rw [hg]; exact (below_size (by repeat (first | (with_reducible first | exact HB.out | apply below_alloc | apply pw_below_drewN | apply below_drew1 | refine below_set ?_ GE161.out | refine below_set ?_ GE174.out) | exact HB.out))) : w.heap.size ≤ gb172))
                  have n7_ := Aside0.mk ((by rw [hg]; exact (below_size (by repeat (first | (with_reducible first | exact HB.out | apply below_alloc | apply pw_below_drewN | apply below_drew1 | refine below_set ?_ GE161.out | refine below_set ?_ GE174.out) | exact HB.out))) : w.heap.size ≤ gb172))
                  have n8_ := Aside0.mk ((by rw [hg]; exact Nat.ne_of_lt (blk_lt (g := gb161) (o := .cells #[.int .u64 a1_0, .int .u64 a1_1, .int .u64 a1_2, .int .u64 a1_3, .int .u64 a1_4, .int .u64 a1_5] 26 (0, 0)) (by (with_reducible repeat (first | refine blk_drewN ?_ _ | refine blk_drew ?_ | refine blk_alloc ?_ _)); exact BK161.out)) : gb161 ≠ gb172))
                  have n9_ := Aside0.mk ((by rw [hg]; exact Nat.ne_of_gt (blk_lt (g := gb161) (o := .cells #[.int .u64 a1_0, .int .u64 a1_1, .int .u64 a1_2, .int .u64 a1_3, .int .u64 a1_4, .int .u64 a1_5] 26 (0, 0)) (by (with_reducible repeat (first | refine blk_drewN ?_ _ | refine blk_drew ?_ | refine blk_alloc ?_ _)); exact BK161.out)) : gb172 ≠ gb161))
                  have n10_ := Aside0.mk ((by rw [hg]; exact Nat.ne_of_lt (blk_lt (g := gb174) (o := .cells #[.int .u64 0, .int .u64 0] 24 (0, 0)) (by (with_reducible repeat (first | refine blk_drewN ?_ _ | refine blk_drew ?_ | refine blk_alloc ?_ _)); exact BK174.out)) : gb174 ≠ gb172))
                  have n11_ := Aside0.mk ((by rw [hg]; exact Nat.ne_of_gt (blk_lt (g := gb174) (o := .cells #[.int .u64 0, .int .u64 0] 24 (0, 0)) (by (with_reducible repeat (first | refine blk_drewN ?_ _ | refine blk_drew ?_ | refine blk_alloc ?_ _)); exact BK174.out)) : gb172 ≠ gb174))
                  clear HO164
                  clear HO168
                  clear BK161
                  clear BK174
                  clear HB
                  have HO164 := n0_
                  have HO168 := n1_
                  have BK161 := n2_
                  have BK174 := n3_
                  have HB := n4_
                  have BK172 := n5_
                  have GW172 := n6_
                  have GE172 := n7_
                  have NB161_172 := n8_
                  have NB172_161 := n9_
                  have NB174_172 := n10_
                  have NB172_174 := n11_
                  clear n0_ n1_ n2_ n3_ n4_ n5_ n6_ n7_ n8_ n9_ n10_ n11_
                  clear hb hbox hg
                  refine hK.out _ _ ⟨HS0_, HS1_, HS2_, HS3_, HS4_, HS5_⟩ (fun hHeld => ?_)
                  clear hK K
                  refine norm_ (a' := ?_) ?_ ?_
                  rotate_left
                  ·show Act.put _ (some 7) _ = _
                   simp only [Act.put, List.setIfInBounds_toArray, List.set_cons_zero, List.set_cons_succ, i64_w, i32_w]
                   rfl
                  exact norm_ (by first | (simp only [putAll, Act.put, List.setIfInBounds_toArray, List.set_cons_zero, List.set_cons_succ]; done) | (simp only [putAll, Act.put, List.setIfInBounds_toArray, List.set_cons_zero, List.set_cons_succ]; rfl)) (hJ9_11 (gb172, gb174) _ ⟨hHeld, (by (with_reducible repeat (first | apply Kd.R_alloc | apply Kd.R_drewN | apply Kd.R_drew)); exact Kd.R_mono HO164.out (fun _ hk => ⟨hk.1.1, ⟨hk.2, hk.1.2⟩⟩)), (by (with_reducible repeat (first | apply Kd.R_alloc | apply Kd.R_drewN | apply Kd.R_drew)); exact Kd.R_mono HO168.out (fun _ hk => ⟨hk.1.1, ⟨hk.2, hk.1.2⟩⟩)), (by (with_reducible repeat (first | refine blk_drewN ?_ _ | refine blk_drew ?_ | refine blk_alloc ?_ _)); exact BK161.out), (by (with_reducible repeat (first | refine blk_drewN ?_ _ | refine blk_drew ?_ | refine blk_alloc ?_ _)); exact BK172.out), (by (with_reducible repeat (first | refine blk_drewN ?_ _ | refine blk_drew ?_ | refine blk_alloc ?_ _)); exact BK174.out), GW172.out, GE172.out, NB161_172.out, NB172_161.out, NB174_172.out, NB172_174.out, GW174.out, GE174.out, NB161_174.out, NB174_161.out, (by repeat (first | (with_reducible first | exact HB.out | apply below_alloc | apply pw_below_drewN | apply below_drew1 | refine below_set ?_ GE161.out | refine below_set ?_ GE174.out | refine below_set ?_ GE172.out) | exact HB.out))⟩)
                 ·skip
                  refine box_step ?hg (N := 8) ?hd (cs := #[.int .u64 0, .int .u64 0]) (t := 24) ?hr ?_; (case hd => rfl); (case hg => rfl); (case hr => first | (go_simp; done) | (go_simp; rfl))
                  intro gb173 hg w37 hbox hb
                  have HS0_ := (hb.cell (World.block_lt_of_cell? _ _ (hHeld.1))).trans (hHeld.1)
                  have HS1_ := (hb.cell (World.block_lt_of_cell? _ _ (hHeld.2.1))).trans (hHeld.2.1)
                  have HS2_ := (hb.cell (World.block_lt_of_cell? _ _ (hHeld.2.2.1))).trans (hHeld.2.2.1)
                  have HS3_ := (hb.cell (World.block_lt_of_cell? _ _ (hHeld.2.2.2.1))).trans (hHeld.2.2.2.1)
                  have HS4_ := (hb.cell (World.block_lt_of_cell? _ _ (hHeld.2.2.2.2.1))).trans (hHeld.2.2.2.2.1)
                  have HS5_ := (hb.cell (World.block_lt_of_cell? _ _ (hHeld.2.2.2.2.2))).trans (hHeld.2.2.2.2.2)
                  have n0_ := Aside0.mk (Kd.R_below (Kd.R_elderB (by (with_reducible repeat (first | apply Kd.R_alloc | apply Kd.R_drewN | apply Kd.R_drew)); exact HO164.out) gb173 (Nat.le_of_eq hg.symm)) hb)
                  have n1_ := Aside0.mk (Kd.R_below (Kd.R_elderB (by (with_reducible repeat (first | apply Kd.R_alloc | apply Kd.R_drewN | apply Kd.R_drew)); exact HO168.out) gb173 (Nat.le_of_eq hg.symm)) hb)
                  have n2_ := Aside0.mk (blk_below (g := gb161) (o := .cells #[.int .u64 a1_0, .int .u64 a1_1, .int .u64 a1_2, .int .u64 a1_3, .int .u64 a1_4, .int .u64 a1_5] 26 (0, 0)) (by (with_reducible repeat (first | refine blk_drewN ?_ _ | refine blk_drew ?_ | refine blk_alloc ?_ _)); exact BK161.out) hb)
                  have n3_ := Aside0.mk (blk_below (g := gb174) (o := .cells #[.int .u64 0, .int .u64 0] 24 (0, 0)) (by (with_reducible repeat (first | refine blk_drewN ?_ _ | refine blk_drew ?_ | refine blk_alloc ?_ _)); exact BK174.out) hb)
                  have n4_ := Aside0.mk (below_step (by repeat (first | (with_reducible first | exact HB.out | apply below_alloc | apply pw_below_drewN | apply below_drew1 | refine below_set ?_ GE161.out | refine below_set ?_ GE174.out) | exact HB.out)) hb)
                  have n5_ := Aside0.mk (hbox)
                  have n6_ := Aside0.mk ((by rw [hg]; exact (below_size (by repeat (first | (with_reducible first | exact HB.out | apply below_alloc | apply pw_below_drewN | apply below_drew1 | refine below_set ?_ GE161.out | refine below_set ?_ GE174.out) | exact HB.out))) : w.heap.size ≤ gb173))
                  have n7_ := Aside0.mk ((by rw [hg]; exact (below_size (by repeat (first | (with_reducible first | exact HB.out | apply below_alloc | apply pw_below_drewN | apply below_drew1 | refine below_set ?_ GE161.out | refine below_set ?_ GE174.out) | exact HB.out))) : w.heap.size ≤ gb173))
                  have n8_ := Aside0.mk ((by rw [hg]; exact Nat.ne_of_lt (blk_lt (g := gb161) (o := .cells #[.int .u64 a1_0, .int .u64 a1_1, .int .u64 a1_2, .int .u64 a1_3, .int .u64 a1_4, .int .u64 a1_5] 26 (0, 0)) (by (with_reducible repeat (first | refine blk_drewN ?_ _ | refine blk_drew ?_ | refine blk_alloc ?_ _)); exact BK161.out)) : gb161 ≠ gb173))
                  have n9_ := Aside0.mk ((by rw [hg]; exact Nat.ne_of_gt (blk_lt (g := gb161) (o := .cells #[.int .u64 a1_0, .int .u64 a1_1, .int .u64 a1_2, .int .u64 a1_3, .int .u64 a1_4, .int .u64 a1_5] 26 (0, 0)) (by (with_reducible repeat (first | refine blk_drewN ?_ _ | refine blk_drew ?_ | refine blk_alloc ?_ _)); exact BK161.out)) : gb173 ≠ gb161))
                  have n10_ := Aside0.mk ((by rw [hg]; exact Nat.ne_of_lt (blk_lt (g := gb174) (o := .cells #[.int .u64 0, .int .u64 0] 24 (0, 0)) (by (with_reducible repeat (first | refine blk_drewN ?_ _ | refine blk_drew ?_ | refine blk_alloc ?_ _)); exact BK174.out)) : gb174 ≠ gb173))
                  have n11_ := Aside0.mk ((by rw [hg]; exact Nat.ne_of_gt (blk_lt (g := gb174) (o := .cells #[.int .u64 0, .int .u64 0] 24 (0, 0)) (by (with_reducible repeat (first | refine blk_drewN ?_ _ | refine blk_drew ?_ | refine blk_alloc ?_ _)); exact BK174.out)) : gb173 ≠ gb174))
                  clear HO164
                  clear HO168
                  clear BK161
                  clear BK174
                  clear HB
                  have HO164 := n0_
                  have HO168 := n1_
                  have BK161 := n2_
                  have BK174 := n3_
                  have HB := n4_
                  have BK173 := n5_
                  have GW173 := n6_
                  have GE173 := n7_
                  have NB161_173 := n8_
                  have NB173_161 := n9_
                  have NB174_173 := n10_
                  have NB173_174 := n11_
                  clear n0_ n1_ n2_ n3_ n4_ n5_ n6_ n7_ n8_ n9_ n10_ n11_
                  clear hb hbox hg
                  refine hK.out _ _ ⟨HS0_, HS1_, HS2_, HS3_, HS4_, HS5_⟩ (fun hHeld => ?_)
                  clear hK K
                  refine norm_ (a' := ?_) ?_ ?_
                  rotate_left
                  ·show Act.put _ (some 8) _ = _
                   simp only [Act.put, List.setIfInBounds_toArray, List.set_cons_zero, List.set_cons_succ, i64_w, i32_w]
                   rfl
                  exact norm_ (by first | (simp only [putAll, Act.put, List.setIfInBounds_toArray, List.set_cons_zero, List.set_cons_succ]; done) | (simp only [putAll, Act.put, List.setIfInBounds_toArray, List.set_cons_zero, List.set_cons_succ]; rfl)) (hJ10_11 (gb173, gb174) _ ⟨hHeld, (by (with_reducible repeat (first | apply Kd.R_alloc | apply Kd.R_drewN | apply Kd.R_drew)); exact Kd.R_mono HO164.out (fun _ hk => ⟨hk.1.1, ⟨hk.2, hk.1.2⟩⟩)), (by (with_reducible repeat (first | apply Kd.R_alloc | apply Kd.R_drewN | apply Kd.R_drew)); exact Kd.R_mono HO168.out (fun _ hk => ⟨hk.1.1, ⟨hk.2, hk.1.2⟩⟩)), (by (with_reducible repeat (first | refine blk_drewN ?_ _ | refine blk_drew ?_ | refine blk_alloc ?_ _)); exact BK161.out), (by (with_reducible repeat (first | refine blk_drewN ?_ _ | refine blk_drew ?_ | refine blk_alloc ?_ _)); exact BK173.out), (by (with_reducible repeat (first | refine blk_drewN ?_ _ | refine blk_drew ?_ | refine blk_alloc ?_ _)); exact BK174.out), GW173.out, GE173.out, NB161_173.out, NB173_161.out, NB174_173.out, NB173_174.out, GW174.out, GE174.out, NB161_174.out, NB174_161.out, (by repeat (first | (with_reducible first | exact HB.out | apply below_alloc | apply pw_below_drewN | apply below_drew1 | refine below_set ?_ GE161.out | refine below_set ?_ GE174.out | refine below_set ?_ GE173.out) | exact HB.out))⟩)
               ·skip
                rintro gb173 w36 ⟨hS_, h0_, h1_, h2_, h3_, h4_, h5_, h6_, h7_, h8_⟩
                have n0_ : Aside0 (Kd.R k24 24 w36 w.heap.size (fun k_ => some k_ ≠ (.slice (some ad169) t166.length co34 : Value).ownBlock ∧ k_ ≠ gb173) (.slice Ao31 y162.length co31) y162) := ⟨h0_⟩
                have n1_ : Aside0 (Kd.R k24 24 w36 w.heap.size (fun k_ => some k_ ≠ (.slice Ao31 y162.length co31 : Value).ownBlock ∧ k_ ≠ gb173) (.slice (some ad169) t166.length co34) t166) := ⟨h1_⟩
                have n2_ : Aside0 (w36.heap[gb161]? = some (.cells #[.int .u64 a1_0, .int .u64 a1_1, .int .u64 a1_2, .int .u64 a1_3, .int .u64 a1_4, .int .u64 a1_5] 26 (0, 0))) := ⟨h2_⟩
                have n3_ : Aside0 (w36.heap[gb173]? = some (.cells #[.int .u64 0, .int .u64 0] 24 (0, 0))) := ⟨h3_⟩
                have n4_ : Aside0 (w.heap.size ≤ gb173) := ⟨h4_⟩
                have n5_ : Aside0 (w.heap.size ≤ gb173) := ⟨h5_⟩
                have n6_ : Aside0 (gb161 ≠ gb173) := ⟨h6_⟩
                have n7_ : Aside0 (gb173 ≠ gb161) := ⟨h7_⟩
                have n8_ : Aside0 (Below w.heap.size w w36) := ⟨h8_⟩
                clear HO164
                clear HO168
                clear BK161
                clear HB
                clear h0_ h1_ h2_ h3_ h4_ h5_ h6_ h7_ h8_
                have HO164 := n0_
                have HO168 := n1_
                have BK161 := n2_
                have BK173 := n3_
                have GW173 := n4_
                have GE173 := n5_
                have NB161_173 := n6_
                have NB173_161 := n7_
                have HB := n8_
                clear n0_ n1_ n2_ n3_ n4_ n5_ n6_ n7_ n8_
                have hHeld : w36.cell? ad169 = some (.int .u64 ((rd_T24 t166 0).f0)) ∧ w36.cell? ⟨ad169.block, ad169.off + 1, none⟩ = some (.int .u64 ((rd_T24 t166 0).f1)) ∧ w36.cell? ⟨ad169.block, ad169.off + 2, none⟩ = some (.int .u64 ((rd_T24 t166 1).f0)) ∧ w36.cell? ⟨ad169.block, ad169.off + 2 + 1, none⟩ = some (.int .u64 ((rd_T24 t166 1).f1)) ∧ w36.cell? ⟨ad169.block, ad169.off + 4, none⟩ = some (.int .u64 ((rd_T24 t166 2).f0)) ∧ w36.cell? ⟨ad169.block, ad169.off + 4 + 1, none⟩ = some (.int .u64 ((rd_T24 t166 2).f1)) := hS_
                refine norm_ (a' := ?_) ?_ ?_
                rotate_left
                ·simp only [putAll, Act.put, List.setIfInBounds_toArray, List.set_cons_zero, List.set_cons_succ]
                 rfl
                refine two_ (i := 9) (j := 11) (Ni := some 7) (Nj := some 9) #[true, true, true, true, true, true, true, true, true, true, true, false, false, false, false] #[true, true, true, true, true, true, true, true, true, false, true, true, false, false, false] rfl rfl rfl rfl (two_of HT_.out (by kernel_rfl)) (by decide) (by decide) (fun K hK => ?_) (fun K hK => ?_)
                ·skip
                 refine box_step ?hg (N := 7) ?hd (cs := #[.int .u64 0, .int .u64 0]) (t := 24) ?hr ?_; (case hd => rfl); (case hg => rfl); (case hr => first | (go_simp; done) | (go_simp; rfl))
                 intro gb172 hg w37 hbox hb
                 have HS0_ := (hb.cell (World.block_lt_of_cell? _ _ (hHeld.1))).trans (hHeld.1)
                 have HS1_ := (hb.cell (World.block_lt_of_cell? _ _ (hHeld.2.1))).trans (hHeld.2.1)
                 have HS2_ := (hb.cell (World.block_lt_of_cell? _ _ (hHeld.2.2.1))).trans (hHeld.2.2.1)
                 have HS3_ := (hb.cell (World.block_lt_of_cell? _ _ (hHeld.2.2.2.1))).trans (hHeld.2.2.2.1)
                 have HS4_ := (hb.cell (World.block_lt_of_cell? _ _ (hHeld.2.2.2.2.1))).trans (hHeld.2.2.2.2.1)
                 have HS5_ := (hb.cell (World.block_lt_of_cell? _ _ (hHeld.2.2.2.2.2))).trans (hHeld.2.2.2.2.2)
                 have n0_ := Aside0.mk (Kd.R_below (Kd.R_elderB (by (with_reducible repeat (first | apply Kd.R_alloc | apply Kd.R_drewN | apply Kd.R_drew)); exact HO164.out) gb172 (Nat.le_of_eq hg.symm)) hb)
                 have n1_ := Aside0.mk (Kd.R_below (Kd.R_elderB (by (with_reducible repeat (first | apply Kd.R_alloc | apply Kd.R_drewN | apply Kd.R_drew)); exact HO168.out) gb172 (Nat.le_of_eq hg.symm)) hb)
                 have n2_ := Aside0.mk (blk_below (g := gb161) (o := .cells #[.int .u64 a1_0, .int .u64 a1_1, .int .u64 a1_2, .int .u64 a1_3, .int .u64 a1_4, .int .u64 a1_5] 26 (0, 0)) (by (with_reducible repeat (first | refine blk_drewN ?_ _ | refine blk_drew ?_ | refine blk_alloc ?_ _)); exact BK161.out) hb)
                 have n3_ := Aside0.mk (blk_below (g := gb173) (o := .cells #[.int .u64 0, .int .u64 0] 24 (0, 0)) (by (with_reducible repeat (first | refine blk_drewN ?_ _ | refine blk_drew ?_ | refine blk_alloc ?_ _)); exact BK173.out) hb)
                 have n4_ := Aside0.mk (below_step (by repeat (first | (with_reducible first | exact HB.out | apply below_alloc | apply pw_below_drewN | apply below_drew1 | refine below_set ?_ GE161.out | refine below_set ?_ GE173.out) | exact HB.out)) hb)
                 have n5_ := Aside0.mk (hbox)
                 have n6_ := Aside0.mk ((by rw [hg]; exact (below_size (by repeat (first | (with_reducible first | exact HB.out | apply below_alloc | apply pw_below_drewN | apply below_drew1 | refine below_set ?_ GE161.out | refine below_set ?_ GE173.out) | exact HB.out))) : w.heap.size ≤ gb172))
                 have n7_ := Aside0.mk ((by rw [hg]; exact (below_size (by repeat (first | (with_reducible first | exact HB.out | apply below_alloc | apply pw_below_drewN | apply below_drew1 | refine below_set ?_ GE161.out | refine below_set ?_ GE173.out) | exact HB.out))) : w.heap.size ≤ gb172))
                 have n8_ := Aside0.mk ((by rw [hg]; exact Nat.ne_of_lt (blk_lt (g := gb161) (o := .cells #[.int .u64 a1_0, .int .u64 a1_1, .int .u64 a1_2, .int .u64 a1_3, .int .u64 a1_4, .int .u64 a1_5] 26 (0, 0)) (by (with_reducible repeat (first | refine blk_drewN ?_ _ | refine blk_drew ?_ | refine blk_alloc ?_ _)); exact BK161.out)) : gb161 ≠ gb172))
                 have n9_ := Aside0.mk ((by rw [hg]; exact Nat.ne_of_gt (blk_lt (g := gb161) (o := .cells #[.int .u64 a1_0, .int .u64 a1_1, .int .u64 a1_2, .int .u64 a1_3, .int .u64 a1_4, .int .u64 a1_5] 26 (0, 0)) (by (with_reducible repeat (first | refine blk_drewN ?_ _ | refine blk_drew ?_ | refine blk_alloc ?_ _)); exact BK161.out)) : gb172 ≠ gb161))
                 have n10_ := Aside0.mk ((by rw [hg]; exact Nat.ne_of_lt (blk_lt (g := gb173) (o := .cells #[.int .u64 0, .int .u64 0] 24 (0, 0)) (by (with_reducible repeat (first | refine blk_drewN ?_ _ | refine blk_drew ?_ | refine blk_alloc ?_ _)); exact BK173.out)) : gb173 ≠ gb172))
                 have n11_ := Aside0.mk ((by rw [hg]; exact Nat.ne_of_gt (blk_lt (g := gb173) (o := .cells #[.int .u64 0, .int .u64 0] 24 (0, 0)) (by (with_reducible repeat (first | refine blk_drewN ?_ _ | refine blk_drew ?_ | refine blk_alloc ?_ _)); exact BK173.out)) : gb172 ≠ gb173))
                 clear HO164
                 clear HO168
                 clear BK161
                 clear BK173
                 clear HB
                 have HO164 := n0_
                 have HO168 := n1_
                 have BK161 := n2_
                 have BK173 := n3_
                 have HB := n4_
                 have BK172 := n5_
                 have GW172 := n6_
                 have GE172 := n7_
                 have NB161_172 := n8_
                 have NB172_161 := n9_
                 have NB173_172 := n10_
                 have NB172_173 := n11_
                 clear n0_ n1_ n2_ n3_ n4_ n5_ n6_ n7_ n8_ n9_ n10_ n11_
                 clear hb hbox hg
                 refine hK.out _ _ ⟨HS0_, HS1_, HS2_, HS3_, HS4_, HS5_⟩ (fun hHeld => ?_)
                 clear hK K
                 refine norm_ (a' := ?_) ?_ ?_
                 rotate_left
                 ·show Act.put _ (some 7) _ = _
                  simp only [Act.put, List.setIfInBounds_toArray, List.set_cons_zero, List.set_cons_succ, i64_w, i32_w]
                  rfl
                 exact norm_ (by first | (simp only [putAll, Act.put, List.setIfInBounds_toArray, List.set_cons_zero, List.set_cons_succ]; done) | (simp only [putAll, Act.put, List.setIfInBounds_toArray, List.set_cons_zero, List.set_cons_succ]; rfl)) (hJ9_10 (gb172, gb173) _ ⟨hHeld, (by (with_reducible repeat (first | apply Kd.R_alloc | apply Kd.R_drewN | apply Kd.R_drew)); exact Kd.R_mono HO164.out (fun _ hk => ⟨hk.1.1, ⟨hk.2, hk.1.2⟩⟩)), (by (with_reducible repeat (first | apply Kd.R_alloc | apply Kd.R_drewN | apply Kd.R_drew)); exact Kd.R_mono HO168.out (fun _ hk => ⟨hk.1.1, ⟨hk.2, hk.1.2⟩⟩)), (by (with_reducible repeat (first | refine blk_drewN ?_ _ | refine blk_drew ?_ | refine blk_alloc ?_ _)); exact BK161.out), (by (with_reducible repeat (first | refine blk_drewN ?_ _ | refine blk_drew ?_ | refine blk_alloc ?_ _)); exact BK172.out), (by (with_reducible repeat (first | refine blk_drewN ?_ _ | refine blk_drew ?_ | refine blk_alloc ?_ _)); exact BK173.out), GW172.out, GE172.out, NB161_172.out, NB172_161.out, NB173_172.out, NB172_173.out, GW173.out, GE173.out, NB161_173.out, NB173_161.out, (by repeat (first | (with_reducible first | exact HB.out | apply below_alloc | apply pw_below_drewN | apply below_drew1 | refine below_set ?_ GE161.out | refine below_set ?_ GE173.out | refine below_set ?_ GE172.out) | exact HB.out))⟩)
                ·skip
                 refine box_step ?hg (N := 9) ?hd (cs := #[.int .u64 0, .int .u64 0]) (t := 24) ?hr ?_; (case hd => rfl); (case hg => rfl); (case hr => first | (go_simp; done) | (go_simp; rfl))
                 intro gb174 hg w37 hbox hb
                 have HS0_ := (hb.cell (World.block_lt_of_cell? _ _ (hHeld.1))).trans (hHeld.1)
                 have HS1_ := (hb.cell (World.block_lt_of_cell? _ _ (hHeld.2.1))).trans (hHeld.2.1)
                 have HS2_ := (hb.cell (World.block_lt_of_cell? _ _ (hHeld.2.2.1))).trans (hHeld.2.2.1)
                 have HS3_ := (hb.cell (World.block_lt_of_cell? _ _ (hHeld.2.2.2.1))).trans (hHeld.2.2.2.1)
                 have HS4_ := (hb.cell (World.block_lt_of_cell? _ _ (hHeld.2.2.2.2.1))).trans (hHeld.2.2.2.2.1)
                 have HS5_ := (hb.cell (World.block_lt_of_cell? _ _ (hHeld.2.2.2.2.2))).trans (hHeld.2.2.2.2.2)
                 have n0_ := Aside0.mk (Kd.R_below (Kd.R_elderB (by (with_reducible repeat (first | apply Kd.R_alloc | apply Kd.R_drewN | apply Kd.R_drew)); exact HO164.out) gb174 (Nat.le_of_eq hg.symm)) hb)
                 have n1_ := Aside0.mk (Kd.R_below (Kd.R_elderB (by (with_reducible repeat (first | apply Kd.R_alloc | apply Kd.R_drewN | apply Kd.R_drew)); exact HO168.out) gb174 (Nat.le_of_eq hg.symm)) hb)
                 have n2_ := Aside0.mk (blk_below (g := gb161) (o := .cells #[.int .u64 a1_0, .int .u64 a1_1, .int .u64 a1_2, .int .u64 a1_3, .int .u64 a1_4, .int .u64 a1_5] 26 (0, 0)) (by (with_reducible repeat (first | refine blk_drewN ?_ _ | refine blk_drew ?_ | refine blk_alloc ?_ _)); exact BK161.out) hb)
                 have n3_ := Aside0.mk (blk_below (g := gb173) (o := .cells #[.int .u64 0, .int .u64 0] 24 (0, 0)) (by (with_reducible repeat (first | refine blk_drewN ?_ _ | refine blk_drew ?_ | refine blk_alloc ?_ _)); exact BK173.out) hb)
                 have n4_ := Aside0.mk (below_step (by repeat (first | (with_reducible first | exact HB.out | apply below_alloc | apply pw_below_drewN | apply below_drew1 | refine below_set ?_ GE161.out | refine below_set ?_ GE173.out) | exact HB.out)) hb)
                 have n5_ := Aside0.mk (hbox)
                 have n6_ := Aside0.mk ((by rw [hg]; exact (below_size (by repeat (first | (with_reducible first | exact HB.out | apply below_alloc | apply pw_below_drewN | apply below_drew1 | refine below_set ?_ GE161.out | refine below_set ?_ GE173.out) | exact HB.out))) : w.heap.size ≤ gb174))
                 have n7_ := Aside0.mk ((by rw [hg]; exact (below_size (by repeat (first | (with_reducible first | exact HB.out | apply below_alloc | apply pw_below_drewN | apply below_drew1 | refine below_set ?_ GE161.out | refine below_set ?_ GE173.out) | exact HB.out))) : w.heap.size ≤ gb174))
                 have n8_ := Aside0.mk ((by rw [hg]; exact Nat.ne_of_lt (blk_lt (g := gb161) (o := .cells #[.int .u64 a1_0, .int .u64 a1_1, .int .u64 a1_2, .int .u64 a1_3, .int .u64 a1_4, .int .u64 a1_5] 26 (0, 0)) (by (with_reducible repeat (first | refine blk_drewN ?_ _ | refine blk_drew ?_ | refine blk_alloc ?_ _)); exact BK161.out)) : gb161 ≠ gb174))
                 have n9_ := Aside0.mk ((by rw [hg]; exact Nat.ne_of_gt (blk_lt (g := gb161) (o := .cells #[.int .u64 a1_0, .int .u64 a1_1, .int .u64 a1_2, .int .u64 a1_3, .int .u64 a1_4, .int .u64 a1_5] 26 (0, 0)) (by (with_reducible repeat (first | refine blk_drewN ?_ _ | refine blk_drew ?_ | refine blk_alloc ?_ _)); exact BK161.out)) : gb174 ≠ gb161))
                 have n10_ := Aside0.mk ((by rw [hg]; exact Nat.ne_of_lt (blk_lt (g := gb173) (o := .cells #[.int .u64 0, .int .u64 0] 24 (0, 0)) (by (with_reducible repeat (first | refine blk_drewN ?_ _ | refine blk_drew ?_ | refine blk_alloc ?_ _)); exact BK173.out)) : gb173 ≠ gb174))
                 have n11_ := Aside0.mk ((by rw [hg]; exact Nat.ne_of_gt (blk_lt (g := gb173) (o := .cells #[.int .u64 0, .int .u64 0] 24 (0, 0)) (by (with_reducible repeat (first | refine blk_drewN ?_ _ | refine blk_drew ?_ | refine blk_alloc ?_ _)); exact BK173.out)) : gb174 ≠ gb173))
                 clear HO164
                 clear HO168
                 clear BK161
                 clear BK173
                 clear HB
                 have HO164 := n0_
                 have HO168 := n1_
                 have BK161 := n2_
                 have BK173 := n3_
                 have HB := n4_
                 have BK174 := n5_
                 have GW174 := n6_
                 have GE174 := n7_
                 have NB161_174 := n8_
                 have NB174_161 := n9_
                 have NB173_174 := n10_
                 have NB174_173 := n11_
                 clear n0_ n1_ n2_ n3_ n4_ n5_ n6_ n7_ n8_ n9_ n10_ n11_
                 clear hb hbox hg
                 refine hK.out _ _ ⟨HS0_, HS1_, HS2_, HS3_, HS4_, HS5_⟩ (fun hHeld => ?_)
                 clear hK K
                 refine norm_ (a' := ?_) ?_ ?_
                 rotate_left
                 ·show Act.put _ (some 9) _ = _
                  simp only [Act.put, List.setIfInBounds_toArray, List.set_cons_zero, List.set_cons_succ, i64_w, i32_w]
                  rfl
                 exact norm_ (by first | (simp only [putAll, Act.put, List.setIfInBounds_toArray, List.set_cons_zero, List.set_cons_succ]; done) | (simp only [putAll, Act.put, List.setIfInBounds_toArray, List.set_cons_zero, List.set_cons_succ]; rfl)) (hJ10_11 (gb173, gb174) _ ⟨hHeld, (by (with_reducible repeat (first | apply Kd.R_alloc | apply Kd.R_drewN | apply Kd.R_drew)); exact Kd.R_mono HO164.out (fun _ hk => ⟨hk.1.1, ⟨hk.1.2, hk.2⟩⟩)), (by (with_reducible repeat (first | apply Kd.R_alloc | apply Kd.R_drewN | apply Kd.R_drew)); exact Kd.R_mono HO168.out (fun _ hk => ⟨hk.1.1, ⟨hk.1.2, hk.2⟩⟩)), (by (with_reducible repeat (first | refine blk_drewN ?_ _ | refine blk_drew ?_ | refine blk_alloc ?_ _)); exact BK161.out), (by (with_reducible repeat (first | refine blk_drewN ?_ _ | refine blk_drew ?_ | refine blk_alloc ?_ _)); exact BK173.out), (by (with_reducible repeat (first | refine blk_drewN ?_ _ | refine blk_drew ?_ | refine blk_alloc ?_ _)); exact BK174.out), GW173.out, GE173.out, NB161_173.out, NB173_161.out, NB174_173.out, NB173_174.out, GW174.out, GE174.out, NB161_174.out, NB174_161.out, (by repeat (first | (with_reducible first | exact HB.out | apply below_alloc | apply pw_below_drewN | apply below_drew1 | refine below_set ?_ GE161.out | refine below_set ?_ GE173.out | refine below_set ?_ GE174.out) | exact HB.out))⟩)
              ·skip
               rintro gb172 w36 ⟨hS_, h0_, h1_, h2_, h3_, h4_, h5_, h6_, h7_, h8_⟩
               have n0_ : Aside0 (Kd.R k24 24 w36 w.heap.size (fun k_ => some k_ ≠ (.slice (some ad169) t166.length co34 : Value).ownBlock ∧ k_ ≠ gb172) (.slice Ao31 y162.length co31) y162) := ⟨h0_⟩
               have n1_ : Aside0 (Kd.R k24 24 w36 w.heap.size (fun k_ => some k_ ≠ (.slice Ao31 y162.length co31 : Value).ownBlock ∧ k_ ≠ gb172) (.slice (some ad169) t166.length co34) t166) := ⟨h1_⟩
               have n2_ : Aside0 (w36.heap[gb161]? = some (.cells #[.int .u64 a1_0, .int .u64 a1_1, .int .u64 a1_2, .int .u64 a1_3, .int .u64 a1_4, .int .u64 a1_5] 26 (0, 0))) := ⟨h2_⟩
               have n3_ : Aside0 (w36.heap[gb172]? = some (.cells #[.int .u64 0, .int .u64 0] 24 (0, 0))) := ⟨h3_⟩
               have n4_ : Aside0 (w.heap.size ≤ gb172) := ⟨h4_⟩
               have n5_ : Aside0 (w.heap.size ≤ gb172) := ⟨h5_⟩
               have n6_ : Aside0 (gb161 ≠ gb172) := ⟨h6_⟩
               have n7_ : Aside0 (gb172 ≠ gb161) := ⟨h7_⟩
               have n8_ : Aside0 (Below w.heap.size w w36) := ⟨h8_⟩
               clear HO164
               clear HO168
               clear BK161
               clear HB
               clear h0_ h1_ h2_ h3_ h4_ h5_ h6_ h7_ h8_
               have HO164 := n0_
               have HO168 := n1_
               have BK161 := n2_
               have BK172 := n3_
               have GW172 := n4_
               have GE172 := n5_
               have NB161_172 := n6_
               have NB172_161 := n7_
               have HB := n8_
               clear n0_ n1_ n2_ n3_ n4_ n5_ n6_ n7_ n8_
               have hHeld : w36.cell? ad169 = some (.int .u64 ((rd_T24 t166 0).f0)) ∧ w36.cell? ⟨ad169.block, ad169.off + 1, none⟩ = some (.int .u64 ((rd_T24 t166 0).f1)) ∧ w36.cell? ⟨ad169.block, ad169.off + 2, none⟩ = some (.int .u64 ((rd_T24 t166 1).f0)) ∧ w36.cell? ⟨ad169.block, ad169.off + 2 + 1, none⟩ = some (.int .u64 ((rd_T24 t166 1).f1)) ∧ w36.cell? ⟨ad169.block, ad169.off + 4, none⟩ = some (.int .u64 ((rd_T24 t166 2).f0)) ∧ w36.cell? ⟨ad169.block, ad169.off + 4 + 1, none⟩ = some (.int .u64 ((rd_T24 t166 2).f1)) := hS_
               refine norm_ (a' := ?_) ?_ ?_
               rotate_left
               ·simp only [putAll, Act.put, List.setIfInBounds_toArray, List.set_cons_zero, List.set_cons_succ]
                rfl
               refine two_ (i := 10) (j := 11) (Ni := some 8) (Nj := some 9) #[true, true, true, true, true, true, true, true, true, true, true, false, false, false, false] #[true, true, true, true, true, true, true, true, true, true, false, true, false, false, false] rfl rfl rfl rfl (two_of HT_.out (by kernel_rfl)) (by decide) (by decide) (fun K hK => ?_) (fun K hK => ?_)
               ·skip
                refine box_step ?hg (N := 8) ?hd (cs := #[.int .u64 0, .int .u64 0]) (t := 24) ?hr ?_; (case hd => rfl); (case hg => rfl); (case hr => first | (go_simp; done) | (go_simp; rfl))
                intro gb173 hg w37 hbox hb
                have HS0_ := (hb.cell (World.block_lt_of_cell? _ _ (hHeld.1))).trans (hHeld.1)
                have HS1_ := (hb.cell (World.block_lt_of_cell? _ _ (hHeld.2.1))).trans (hHeld.2.1)
                have HS2_ := (hb.cell (World.block_lt_of_cell? _ _ (hHeld.2.2.1))).trans (hHeld.2.2.1)
                have HS3_ := (hb.cell (World.block_lt_of_cell? _ _ (hHeld.2.2.2.1))).trans (hHeld.2.2.2.1)
                have HS4_ := (hb.cell (World.block_lt_of_cell? _ _ (hHeld.2.2.2.2.1))).trans (hHeld.2.2.2.2.1)
                have HS5_ := (hb.cell (World.block_lt_of_cell? _ _ (hHeld.2.2.2.2.2))).trans (hHeld.2.2.2.2.2)
                have n0_ := Aside0.mk (Kd.R_below (Kd.R_elderB (by (with_reducible repeat (first | apply Kd.R_alloc | apply Kd.R_drewN | apply Kd.R_drew)); exact HO164.out) gb173 (Nat.le_of_eq hg.symm)) hb)
                have n1_ := Aside0.mk (Kd.R_below (Kd.R_elderB (by (with_reducible repeat (first | apply Kd.R_alloc | apply Kd.R_drewN | apply Kd.R_drew)); exact HO168.out) gb173 (Nat.le_of_eq hg.symm)) hb)
                have n2_ := Aside0.mk (blk_below (g := gb161) (o := .cells #[.int .u64 a1_0, .int .u64 a1_1, .int .u64 a1_2, .int .u64 a1_3, .int .u64 a1_4, .int .u64 a1_5] 26 (0, 0)) (by (with_reducible repeat (first | refine blk_drewN ?_ _ | refine blk_drew ?_ | refine blk_alloc ?_ _)); exact BK161.out) hb)
                have n3_ := Aside0.mk (blk_below (g := gb172) (o := .cells #[.int .u64 0, .int .u64 0] 24 (0, 0)) (by (with_reducible repeat (first | refine blk_drewN ?_ _ | refine blk_drew ?_ | refine blk_alloc ?_ _)); exact BK172.out) hb)
                have n4_ := Aside0.mk (below_step (by repeat (first | (with_reducible first | exact HB.out | apply below_alloc | apply pw_below_drewN | apply below_drew1 | refine below_set ?_ GE161.out | refine below_set ?_ GE172.out) | exact HB.out)) hb)
                have n5_ := Aside0.mk (hbox)
                have n6_ := Aside0.mk ((by rw [hg]; exact (below_size (by repeat (first | (with_reducible first | exact HB.out | apply below_alloc | apply pw_below_drewN | apply below_drew1 | refine below_set ?_ GE161.out | refine below_set ?_ GE172.out) | exact HB.out))) : w.heap.size ≤ gb173))
                have n7_ := Aside0.mk ((by rw [hg]; exact (below_size (by repeat (first | (with_reducible first | exact HB.out | apply below_alloc | apply pw_below_drewN | apply below_drew1 | refine below_set ?_ GE161.out | refine below_set ?_ GE172.out) | exact HB.out))) : w.heap.size ≤ gb173))
                have n8_ := Aside0.mk ((by rw [hg]; exact Nat.ne_of_lt (blk_lt (g := gb161) (o := .cells #[.int .u64 a1_0, .int .u64 a1_1, .int .u64 a1_2, .int .u64 a1_3, .int .u64 a1_4, .int .u64 a1_5] 26 (0, 0)) (by (with_reducible repeat (first | refine blk_drewN ?_ _ | refine blk_drew ?_ | refine blk_alloc ?_ _)); exact BK161.out)) : gb161 ≠ gb173))
                have n9_ := Aside0.mk ((by rw [hg]; exact Nat.ne_of_gt (blk_lt (g := gb161) (o := .cells #[.int .u64 a1_0, .int .u64 a1_1, .int .u64 a1_2, .int .u64 a1_3, .int .u64 a1_4, .int .u64 a1_5] 26 (0, 0)) (by (with_reducible repeat (first | refine blk_drewN ?_ _ | refine blk_drew ?_ | refine blk_alloc ?_ _)); exact BK161.out)) : gb173 ≠ gb161))
                have n10_ := Aside0.mk ((by rw [hg]; exact Nat.ne_of_lt (blk_lt (g := gb172) (o := .cells #[.int .u64 0, .int .u64 0] 24 (0, 0)) (by (with_reducible repeat (first | refine blk_drewN ?_ _ | refine blk_drew ?_ | refine blk_alloc ?_ _)); exact BK172.out)) : gb172 ≠ gb173))
                have n11_ := Aside0.mk ((by rw [hg]; exact Nat.ne_of_gt (blk_lt (g := gb172) (o := .cells #[.int .u64 0, .int .u64 0] 24 (0, 0)) (by (with_reducible repeat (first | refine blk_drewN ?_ _ | refine blk_drew ?_ | refine blk_alloc ?_ _)); exact BK172.out)) : gb173 ≠ gb172))
                clear HO164
                clear HO168
                clear BK161
                clear BK172
                clear HB
                have HO164 := n0_
                have HO168 := n1_
                have BK161 := n2_
                have BK172 := n3_
                have HB := n4_
                have BK173 := n5_
                have GW173 := n6_
                have GE173 := n7_
                have NB161_173 := n8_
                have NB173_161 := n9_
                have NB172_173 := n10_
                have NB173_172 := n11_
                clear n0_ n1_ n2_ n3_ n4_ n5_ n6_ n7_ n8_ n9_ n10_ n11_
                clear hb hbox hg
                refine hK.out _ _ ⟨HS0_, HS1_, HS2_, HS3_, HS4_, HS5_⟩ (fun hHeld => ?_)
                clear hK K
                refine norm_ (a' := ?_) ?_ ?_
                rotate_left
                ·show Act.put _ (some 8) _ = _
                 simp only [Act.put, List.setIfInBounds_toArray, List.set_cons_zero, List.set_cons_succ, i64_w, i32_w]
                 rfl
                exact norm_ (by first | (simp only [putAll, Act.put, List.setIfInBounds_toArray, List.set_cons_zero, List.set_cons_succ]; done) | (simp only [putAll, Act.put, List.setIfInBounds_toArray, List.set_cons_zero, List.set_cons_succ]; rfl)) (hJ9_10 (gb172, gb173) _ ⟨hHeld, (by (with_reducible repeat (first | apply Kd.R_alloc | apply Kd.R_drewN | apply Kd.R_drew)); exact Kd.R_mono HO164.out (fun _ hk => ⟨hk.1.1, ⟨hk.1.2, hk.2⟩⟩)), (by (with_reducible repeat (first | apply Kd.R_alloc | apply Kd.R_drewN | apply Kd.R_drew)); exact Kd.R_mono HO168.out (fun _ hk => ⟨hk.1.1, ⟨hk.1.2, hk.2⟩⟩)), (by (with_reducible repeat (first | refine blk_drewN ?_ _ | refine blk_drew ?_ | refine blk_alloc ?_ _)); exact BK161.out), (by (with_reducible repeat (first | refine blk_drewN ?_ _ | refine blk_drew ?_ | refine blk_alloc ?_ _)); exact BK172.out), (by (with_reducible repeat (first | refine blk_drewN ?_ _ | refine blk_drew ?_ | refine blk_alloc ?_ _)); exact BK173.out), GW172.out, GE172.out, NB161_172.out, NB172_161.out, NB173_172.out, NB172_173.out, GW173.out, GE173.out, NB161_173.out, NB173_161.out, (by repeat (first | (with_reducible first | exact HB.out | apply below_alloc | apply pw_below_drewN | apply below_drew1 | refine below_set ?_ GE161.out | refine below_set ?_ GE172.out | refine below_set ?_ GE173.out) | exact HB.out))⟩)
               ·skip
                refine box_step ?hg (N := 9) ?hd (cs := #[.int .u64 0, .int .u64 0]) (t := 24) ?hr ?_; (case hd => rfl); (case hg => rfl); (case hr => first | (go_simp; done) | (go_simp; rfl))
                intro gb174 hg w37 hbox hb
                have HS0_ := (hb.cell (World.block_lt_of_cell? _ _ (hHeld.1))).trans (hHeld.1)
                have HS1_ := (hb.cell (World.block_lt_of_cell? _ _ (hHeld.2.1))).trans (hHeld.2.1)
                have HS2_ := (hb.cell (World.block_lt_of_cell? _ _ (hHeld.2.2.1))).trans (hHeld.2.2.1)
                have HS3_ := (hb.cell (World.block_lt_of_cell? _ _ (hHeld.2.2.2.1))).trans (hHeld.2.2.2.1)
                have HS4_ := (hb.cell (World.block_lt_of_cell? _ _ (hHeld.2.2.2.2.1))).trans (hHeld.2.2.2.2.1)
                have HS5_ := (hb.cell (World.block_lt_of_cell? _ _ (hHeld.2.2.2.2.2))).trans (hHeld.2.2.2.2.2)
                have n0_ := Aside0.mk (Kd.R_below (Kd.R_elderB (by (with_reducible repeat (first | apply Kd.R_alloc | apply Kd.R_drewN | apply Kd.R_drew)); exact HO164.out) gb174 (Nat.le_of_eq hg.symm)) hb)
                have n1_ := Aside0.mk (Kd.R_below (Kd.R_elderB (by (with_reducible repeat (first | apply Kd.R_alloc | apply Kd.R_drewN | apply Kd.R_drew)); exact HO168.out) gb174 (Nat.le_of_eq hg.symm)) hb)
                have n2_ := Aside0.mk (blk_below (g := gb161) (o := .cells #[.int .u64 a1_0, .int .u64 a1_1, .int .u64 a1_2, .int .u64 a1_3, .int .u64 a1_4, .int .u64 a1_5] 26 (0, 0)) (by (with_reducible repeat (first | refine blk_drewN ?_ _ | refine blk_drew ?_ | refine blk_alloc ?_ _)); exact BK161.out) hb)
                have n3_ := Aside0.mk (blk_below (g := gb172) (o := .cells #[.int .u64 0, .int .u64 0] 24 (0, 0)) (by (with_reducible repeat (first | refine blk_drewN ?_ _ | refine blk_drew ?_ | refine blk_alloc ?_ _)); exact BK172.out) hb)
                have n4_ := Aside0.mk (below_step (by repeat (first | (with_reducible first | exact HB.out | apply below_alloc | apply pw_below_drewN | apply below_drew1 | refine below_set ?_ GE161.out | refine below_set ?_ GE172.out) | exact HB.out)) hb)
                have n5_ := Aside0.mk (hbox)
                have n6_ := Aside0.mk ((by rw [hg]; exact (below_size (by repeat (first | (with_reducible first | exact HB.out | apply below_alloc | apply pw_below_drewN | apply below_drew1 | refine below_set ?_ GE161.out | refine below_set ?_ GE172.out) | exact HB.out))) : w.heap.size ≤ gb174))
                have n7_ := Aside0.mk ((by rw [hg]; exact (below_size (by repeat (first | (with_reducible first | exact HB.out | apply below_alloc | apply pw_below_drewN | apply below_drew1 | refine below_set ?_ GE161.out | refine below_set ?_ GE172.out) | exact HB.out))) : w.heap.size ≤ gb174))
                have n8_ := Aside0.mk ((by rw [hg]; exact Nat.ne_of_lt (blk_lt (g := gb161) (o := .cells #[.int .u64 a1_0, .int .u64 a1_1, .int .u64 a1_2, .int .u64 a1_3, .int .u64 a1_4, .int .u64 a1_5] 26 (0, 0)) (by (with_reducible repeat (first | refine blk_drewN ?_ _ | refine blk_drew ?_ | refine blk_alloc ?_ _)); exact BK161.out)) : gb161 ≠ gb174))
                have n9_ := Aside0.mk ((by rw [hg]; exact Nat.ne_of_gt (blk_lt (g := gb161) (o := .cells #[.int .u64 a1_0, .int .u64 a1_1, .int .u64 a1_2, .int .u64 a1_3, .int .u64 a1_4, .int .u64 a1_5] 26 (0, 0)) (by (with_reducible repeat (first | refine blk_drewN ?_ _ | refine blk_drew ?_ | refine blk_alloc ?_ _)); exact BK161.out)) : gb174 ≠ gb161))
                have n10_ := Aside0.mk ((by rw [hg]; exact Nat.ne_of_lt (blk_lt (g := gb172) (o := .cells #[.int .u64 0, .int .u64 0] 24 (0, 0)) (by (with_reducible repeat (first | refine blk_drewN ?_ _ | refine blk_drew ?_ | refine blk_alloc ?_ _)); exact BK172.out)) : gb172 ≠ gb174))
                have n11_ := Aside0.mk ((by rw [hg]; exact Nat.ne_of_gt (blk_lt (g := gb172) (o := .cells #[.int .u64 0, .int .u64 0] 24 (0, 0)) (by (with_reducible repeat (first | refine blk_drewN ?_ _ | refine blk_drew ?_ | refine blk_alloc ?_ _)); exact BK172.out)) : gb174 ≠ gb172))
                clear HO164
                clear HO168
                clear BK161
                clear BK172
                clear HB
                have HO164 := n0_
                have HO168 := n1_
                have BK161 := n2_
                have BK172 := n3_
                have HB := n4_
                have BK174 := n5_
                have GW174 := n6_
                have GE174 := n7_
                have NB161_174 := n8_
                have NB174_161 := n9_
                have NB172_174 := n10_
                have NB174_172 := n11_
                clear n0_ n1_ n2_ n3_ n4_ n5_ n6_ n7_ n8_ n9_ n10_ n11_
                clear hb hbox hg
                refine hK.out _ _ ⟨HS0_, HS1_, HS2_, HS3_, HS4_, HS5_⟩ (fun hHeld => ?_)
                clear hK K
                refine norm_ (a' := ?_) ?_ ?_
                rotate_left
                ·show Act.put _ (some 9) _ = _
                 simp only [Act.put, List.setIfInBounds_toArray, List.set_cons_zero, List.set_cons_succ, i64_w, i32_w]
                 rfl
                exact norm_ (by first | (simp only [putAll, Act.put, List.setIfInBounds_toArray, List.set_cons_zero, List.set_cons_succ]; done) | (simp only [putAll, Act.put, List.setIfInBounds_toArray, List.set_cons_zero, List.set_cons_succ]; rfl)) (hJ9_11 (gb172, gb174) _ ⟨hHeld, (by (with_reducible repeat (first | apply Kd.R_alloc | apply Kd.R_drewN | apply Kd.R_drew)); exact Kd.R_mono HO164.out (fun _ hk => ⟨hk.1.1, ⟨hk.1.2, hk.2⟩⟩)), (by (with_reducible repeat (first | apply Kd.R_alloc | apply Kd.R_drewN | apply Kd.R_drew)); exact Kd.R_mono HO168.out (fun _ hk => ⟨hk.1.1, ⟨hk.1.2, hk.2⟩⟩)), (by (with_reducible repeat (first | refine blk_drewN ?_ _ | refine blk_drew ?_ | refine blk_alloc ?_ _)); exact BK161.out), (by (with_reducible repeat (first | refine blk_drewN ?_ _ | refine blk_drew ?_ | refine blk_alloc ?_ _)); exact BK172.out), (by (with_reducible repeat (first | refine blk_drewN ?_ _ | refine blk_drew ?_ | refine blk_alloc ?_ _)); exact BK174.out), GW172.out, GE172.out, NB161_172.out, NB172_161.out, NB174_172.out, NB172_174.out, GW174.out, GE174.out, NB161_174.out, NB174_161.out, (by repeat (first | (with_reducible first | exact HB.out | apply below_alloc | apply pw_below_drewN | apply below_drew1 | refine below_set ?_ GE161.out | refine below_set ?_ GE172.out | refine below_set ?_ GE174.out) | exact HB.out))⟩)
             ·skip
              rintro ⟨gb173, gb174⟩ w37 ⟨hS_, h0_, h1_, h2_, h3_, h4_, h5_, h6_, h7_, h8_, h9_, h10_, h11_, h12_, h13_, h14_, h15_⟩
              have n0_ : Aside0 (Kd.R k24 24 w37 w.heap.size (fun k_ => some k_ ≠ (.slice (some ad169) t166.length co34 : Value).ownBlock ∧ k_ ≠ gb173 ∧ k_ ≠ gb174) (.slice Ao31 y162.length co31) y162) := ⟨h0_⟩
              have n1_ : Aside0 (Kd.R k24 24 w37 w.heap.size (fun k_ => some k_ ≠ (.slice Ao31 y162.length co31 : Value).ownBlock ∧ k_ ≠ gb173 ∧ k_ ≠ gb174) (.slice (some ad169) t166.length co34) t166) := ⟨h1_⟩
              have n2_ : Aside0 (w37.heap[gb161]? = some (.cells #[.int .u64 a1_0, .int .u64 a1_1, .int .u64 a1_2, .int .u64 a1_3, .int .u64 a1_4, .int .u64 a1_5] 26 (0, 0))) := ⟨h2_⟩
              have n3_ : Aside0 (w37.heap[gb173]? = some (.cells #[.int .u64 0, .int .u64 0] 24 (0, 0))) := ⟨h3_⟩
              have n4_ : Aside0 (w37.heap[gb174]? = some (.cells #[.int .u64 0, .int .u64 0] 24 (0, 0))) := ⟨h4_⟩
              have n5_ : Aside0 (w.heap.size ≤ gb173) := ⟨h5_⟩
              have n6_ : Aside0 (w.heap.size ≤ gb173) := ⟨h6_⟩
              have n7_ : Aside0 (gb161 ≠ gb173) := ⟨h7_⟩
              have n8_ : Aside0 (gb173 ≠ gb161) := ⟨h8_⟩
              have n9_ : Aside0 (gb174 ≠ gb173) := ⟨h9_⟩
              have n10_ : Aside0 (gb173 ≠ gb174) := ⟨h10_⟩
              have n11_ : Aside0 (w.heap.size ≤ gb174) := ⟨h11_⟩
              have n12_ : Aside0 (w.heap.size ≤ gb174) := ⟨h12_⟩
              have n13_ : Aside0 (gb161 ≠ gb174) := ⟨h13_⟩
              have n14_ : Aside0 (gb174 ≠ gb161) := ⟨h14_⟩
              have n15_ : Aside0 (Below w.heap.size w w37) := ⟨h15_⟩
              clear HO164
              clear HO168
              clear BK161
              clear HB
              clear h0_ h1_ h2_ h3_ h4_ h5_ h6_ h7_ h8_ h9_ h10_ h11_ h12_ h13_ h14_ h15_
              have HO164 := n0_
              have HO168 := n1_
              have BK161 := n2_
              have BK173 := n3_
              have BK174 := n4_
              have GW173 := n5_
              have GE173 := n6_
              have NB161_173 := n7_
              have NB173_161 := n8_
              have NB174_173 := n9_
              have NB173_174 := n10_
              have GW174 := n11_
              have GE174 := n12_
              have NB161_174 := n13_
              have NB174_161 := n14_
              have HB := n15_
              clear n0_ n1_ n2_ n3_ n4_ n5_ n6_ n7_ n8_ n9_ n10_ n11_ n12_ n13_ n14_ n15_
              have hHeld : w37.cell? ad169 = some (.int .u64 ((rd_T24 t166 0).f0)) ∧ w37.cell? ⟨ad169.block, ad169.off + 1, none⟩ = some (.int .u64 ((rd_T24 t166 0).f1)) ∧ w37.cell? ⟨ad169.block, ad169.off + 2, none⟩ = some (.int .u64 ((rd_T24 t166 1).f0)) ∧ w37.cell? ⟨ad169.block, ad169.off + 2 + 1, none⟩ = some (.int .u64 ((rd_T24 t166 1).f1)) ∧ w37.cell? ⟨ad169.block, ad169.off + 4, none⟩ = some (.int .u64 ((rd_T24 t166 2).f0)) ∧ w37.cell? ⟨ad169.block, ad169.off + 4 + 1, none⟩ = some (.int .u64 ((rd_T24 t166 2).f1)) := hS_
              refine norm_ (a' := ?_) ?_ ?_
              rotate_left
              ·simp only [putAll, Act.put, List.setIfInBounds_toArray, List.set_cons_zero, List.set_cons_succ]
               rfl
              refine one_ (i := 9) (N := some 7) #[true, true, true, true, true, true, true, true, true, true, true, true, false, false, false] rfl rfl (one_of HT_.out (by kernel_rfl)) (by decide) (fun K hK => ?_)
              refine box_step ?hg (N := 7) ?hd (cs := #[.int .u64 0, .int .u64 0]) (t := 24) ?hr ?_; (case hd => rfl); (case hg => rfl); (case hr => first | (go_simp; done) | (go_simp; rfl))
              intro gb172 hg w38 hbox hb
              have HS0_ := (hb.cell (World.block_lt_of_cell? _ _ (hHeld.1))).trans (hHeld.1)
              have HS1_ := (hb.cell (World.block_lt_of_cell? _ _ (hHeld.2.1))).trans (hHeld.2.1)
              have HS2_ := (hb.cell (World.block_lt_of_cell? _ _ (hHeld.2.2.1))).trans (hHeld.2.2.1)
              have HS3_ := (hb.cell (World.block_lt_of_cell? _ _ (hHeld.2.2.2.1))).trans (hHeld.2.2.2.1)
              have HS4_ := (hb.cell (World.block_lt_of_cell? _ _ (hHeld.2.2.2.2.1))).trans (hHeld.2.2.2.2.1)
              have HS5_ := (hb.cell (World.block_lt_of_cell? _ _ (hHeld.2.2.2.2.2))).trans (hHeld.2.2.2.2.2)
              have n0_ := Aside0.mk (Kd.R_below (Kd.R_elderB (by (with_reducible repeat (first | apply Kd.R_alloc | apply Kd.R_drewN | apply Kd.R_drew)); exact HO164.out) gb172 (Nat.le_of_eq hg.symm)) hb)
              have n1_ := Aside0.mk (Kd.R_below (Kd.R_elderB (by (with_reducible repeat (first | apply Kd.R_alloc | apply Kd.R_drewN | apply Kd.R_drew)); exact HO168.out) gb172 (Nat.le_of_eq hg.symm)) hb)
              have n2_ := Aside0.mk (blk_below (g := gb161) (o := .cells #[.int .u64 a1_0, .int .u64 a1_1, .int .u64 a1_2, .int .u64 a1_3, .int .u64 a1_4, .int .u64 a1_5] 26 (0, 0)) (by (with_reducible repeat (first | refine blk_drewN ?_ _ | refine blk_drew ?_ | refine blk_alloc ?_ _)); exact BK161.out) hb)
              have n3_ := Aside0.mk (blk_below (g := gb173) (o := .cells #[.int .u64 0, .int .u64 0] 24 (0, 0)) (by (with_reducible repeat (first | refine blk_drewN ?_ _ | refine blk_drew ?_ | refine blk_alloc ?_ _)); exact BK173.out) hb)
              have n4_ := Aside0.mk (blk_below (g := gb174) (o := .cells #[.int .u64 0, .int .u64 0] 24 (0, 0)) (by (with_reducible repeat (first | refine blk_drewN ?_ _ | refine blk_drew ?_ | refine blk_alloc ?_ _)); exact BK174.out) hb)
              have n5_ := Aside0.mk (below_step (by repeat (first | (with_reducible first | exact HB.out | apply below_alloc | apply pw_below_drewN | apply below_drew1 | refine below_set ?_ GE161.out | refine below_set ?_ GE173.out | refine below_set ?_ GE174.out) | exact HB.out)) hb)
              have n6_ := Aside0.mk (hbox)
              have n7_ := Aside0.mk ((by rw [hg]; exact (below_size (by repeat (first | (with_reducible first | exact HB.out | apply below_alloc | apply pw_below_drewN | apply below_drew1 | refine below_set ?_ GE161.out | refine below_set ?_ GE173.out | refine below_set ?_ GE174.out) | exact HB.out))) : w.heap.size ≤ gb172))
              have n8_ := Aside0.mk ((by rw [hg]; exact (below_size (by repeat (first | (with_reducible first | exact HB.out | apply below_alloc | apply pw_below_drewN | apply below_drew1 | refine below_set ?_ GE161.out | refine below_set ?_ GE173.out | refine below_set ?_ GE174.out) | exact HB.out))) : w.heap.size ≤ gb172))
              have n9_ := Aside0.mk ((by rw [hg]; exact Nat.ne_of_lt (blk_lt (g := gb161) (o := .cells #[.int .u64 a1_0, .int .u64 a1_1, .int .u64 a1_2, .int .u64 a1_3, .int .u64 a1_4, .int .u64 a1_5] 26 (0, 0)) (by (with_reducible repeat (first | refine blk_drewN ?_ _ | refine blk_drew ?_ | refine blk_alloc ?_ _)); exact BK161.out)) : gb161 ≠ gb172))
              have n10_ := Aside0.mk ((by rw [hg]; exact Nat.ne_of_gt (blk_lt (g := gb161) (o := .cells #[.int .u64 a1_0, .int .u64 a1_1, .int .u64 a1_2, .int .u64 a1_3, .int .u64 a1_4, .int .u64 a1_5] 26 (0, 0)) (by (with_reducible repeat (first | refine blk_drewN ?_ _ | refine blk_drew ?_ | refine blk_alloc ?_ _)); exact BK161.out)) : gb172 ≠ gb161))
              have n11_ := Aside0.mk ((by rw [hg]; exact Nat.ne_of_lt (blk_lt (g := gb173) (o := .cells #[.int .u64 0, .int .u64 0] 24 (0, 0)) (by (with_reducible repeat (first | refine blk_drewN ?_ _ | refine blk_drew ?_ | refine blk_alloc ?_ _)); exact BK173.out)) : gb173 ≠ gb172))
              have n12_ := Aside0.mk ((by rw [hg]; exact Nat.ne_of_gt (blk_lt (g := gb173) (o := .cells #[.int .u64 0, .int .u64 0] 24 (0, 0)) (by (with_reducible repeat (first | refine blk_drewN ?_ _ | refine blk_drew ?_ | refine blk_alloc ?_ _)); exact BK173.out)) : gb172 ≠ gb173))
              have n13_ := Aside0.mk ((by rw [hg]; exact Nat.ne_of_lt (blk_lt (g := gb174) (o := .cells #[.int .u64 0, .int .u64 0] 24 (0, 0)) (by (with_reducible repeat (first | refine blk_drewN ?_ _ | refine blk_drew ?_ | refine blk_alloc ?_ _)); exact BK174.out)) : gb174 ≠ gb172))
              have n14_ := Aside0.mk ((by rw [hg]; exact Nat.ne_of_gt (blk_lt (g := gb174) (o := .cells #[.int .u64 0, .int .u64 0] 24 (0, 0)) (by (with_reducible repeat (first | refine blk_drewN ?_ _ | refine blk_drew ?_ | refine blk_alloc ?_ _)); exact BK174.out)) : gb172 ≠ gb174))
              clear HO164
              clear HO168
              clear BK161
              clear BK173
              clear BK174
              clear HB
              have HO164 := n0_
              have HO168 := n1_
              have BK161 := n2_
              have BK173 := n3_
              have BK174 := n4_
              have HB := n5_
              have BK172 := n6_
              have GW172 := n7_
              have GE172 := n8_
              have NB161_172 := n9_
              have NB172_161 := n10_
              have NB173_172 := n11_
              have NB172_173 := n12_
              have NB174_172 := n13_
              have NB172_174 := n14_
              clear n0_ n1_ n2_ n3_ n4_ n5_ n6_ n7_ n8_ n9_ n10_ n11_ n12_ n13_ n14_
              clear hb hbox hg
              refine hK.out _ _ ⟨HS0_, HS1_, HS2_, HS3_, HS4_, HS5_⟩ (fun hHeld => ?_)
              clear hK K
              refine norm_ (a' := ?_) ?_ ?_
              rotate_left
              ·show Act.put _ (some 7) _ = _
               simp only [Act.put, List.setIfInBounds_toArray, List.set_cons_zero, List.set_cons_succ, i64_w, i32_w]
               rfl
              exact norm_ (by first | (simp only [putAll, Act.put, List.setIfInBounds_toArray, List.set_cons_zero, List.set_cons_succ]; done) | (simp only [putAll, Act.put, List.setIfInBounds_toArray, List.set_cons_zero, List.set_cons_succ]; rfl)) (hJ9_10_11 (gb172, gb173, gb174) _ ⟨hHeld, (by (with_reducible repeat (first | apply Kd.R_alloc | apply Kd.R_drewN | apply Kd.R_drew)); exact Kd.R_mono HO164.out (fun _ hk => ⟨hk.1.1, ⟨hk.2, ⟨hk.1.2.1, hk.1.2.2⟩⟩⟩)), (by (with_reducible repeat (first | apply Kd.R_alloc | apply Kd.R_drewN | apply Kd.R_drew)); exact Kd.R_mono HO168.out (fun _ hk => ⟨hk.1.1, ⟨hk.2, ⟨hk.1.2.1, hk.1.2.2⟩⟩⟩)), (by (with_reducible repeat (first | refine blk_drewN ?_ _ | refine blk_drew ?_ | refine blk_alloc ?_ _)); exact BK161.out), (by (with_reducible repeat (first | refine blk_drewN ?_ _ | refine blk_drew ?_ | refine blk_alloc ?_ _)); exact BK172.out), (by (with_reducible repeat (first | refine blk_drewN ?_ _ | refine blk_drew ?_ | refine blk_alloc ?_ _)); exact BK173.out), (by (with_reducible repeat (first | refine blk_drewN ?_ _ | refine blk_drew ?_ | refine blk_alloc ?_ _)); exact BK174.out), GW172.out, GE172.out, NB161_172.out, NB172_161.out, NB173_172.out, NB172_173.out, NB174_172.out, NB172_174.out, GW173.out, GE173.out, NB161_173.out, NB173_161.out, NB174_173.out, NB173_174.out, GW174.out, GE174.out, NB161_174.out, NB174_161.out, (by repeat (first | (with_reducible first | exact HB.out | apply below_alloc | apply pw_below_drewN | apply below_drew1 | refine below_set ?_ GE161.out | refine below_set ?_ GE173.out | refine below_set ?_ GE174.out | refine below_set ?_ GE172.out) | exact HB.out))⟩)
            ·skip
             rintro ⟨gb172, gb174⟩ w37 ⟨hS_, h0_, h1_, h2_, h3_, h4_, h5_, h6_, h7_, h8_, h9_, h10_, h11_, h12_, h13_, h14_, h15_⟩
             have n0_ : Aside0 (Kd.R k24 24 w37 w.heap.size (fun k_ => some k_ ≠ (.slice (some ad169) t166.length co34 : Value).ownBlock ∧ k_ ≠ gb172 ∧ k_ ≠ gb174) (.slice Ao31 y162.length co31) y162) := ⟨h0_⟩
             have n1_ : Aside0 (Kd.R k24 24 w37 w.heap.size (fun k_ => some k_ ≠ (.slice Ao31 y162.length co31 : Value).ownBlock ∧ k_ ≠ gb172 ∧ k_ ≠ gb174) (.slice (some ad169) t166.length co34) t166) := ⟨h1_⟩
             have n2_ : Aside0 (w37.heap[gb161]? = some (.cells #[.int .u64 a1_0, .int .u64 a1_1, .int .u64 a1_2, .int .u64 a1_3, .int .u64 a1_4, .int .u64 a1_5] 26 (0, 0))) := ⟨h2_⟩
             have n3_ : Aside0 (w37.heap[gb172]? = some (.cells #[.int .u64 0, .int .u64 0] 24 (0, 0))) := ⟨h3_⟩
             have n4_ : Aside0 (w37.heap[gb174]? = some (.cells #[.int .u64 0, .int .u64 0] 24 (0, 0))) := ⟨h4_⟩
             have n5_ : Aside0 (w.heap.size ≤ gb172) := ⟨h5_⟩
             have n6_ : Aside0 (w.heap.size ≤ gb172) := ⟨h6_⟩
             have n7_ : Aside0 (gb161 ≠ gb172) := ⟨h7_⟩
             have n8_ : Aside0 (gb172 ≠ gb161) := ⟨h8_⟩
             have n9_ : Aside0 (gb174 ≠ gb172) := ⟨h9_⟩
             have n10_ : Aside0 (gb172 ≠ gb174) := ⟨h10_⟩
             have n11_ : Aside0 (w.heap.size ≤ gb174) := ⟨h11_⟩
             have n12_ : Aside0 (w.heap.size ≤ gb174) := ⟨h12_⟩
             have n13_ : Aside0 (gb161 ≠ gb174) := ⟨h13_⟩
             have n14_ : Aside0 (gb174 ≠ gb161) := ⟨h14_⟩
             have n15_ : Aside0 (Below w.heap.size w w37) := ⟨h15_⟩
             clear HO164
             clear HO168
             clear BK161
             clear HB
             clear h0_ h1_ h2_ h3_ h4_ h5_ h6_ h7_ h8_ h9_ h10_ h11_ h12_ h13_ h14_ h15_
             have HO164 := n0_
             have HO168 := n1_
             have BK161 := n2_
             have BK172 := n3_
             have BK174 := n4_
             have GW172 := n5_
             have GE172 := n6_
             have NB161_172 := n7_
             have NB172_161 := n8_
             have NB174_172 := n9_
             have NB172_174 := n10_
             have GW174 := n11_
             have GE174 := n12_
             have NB161_174 := n13_
             have NB174_161 := n14_
             have HB := n15_
             clear n0_ n1_ n2_ n3_ n4_ n5_ n6_ n7_ n8_ n9_ n10_ n11_ n12_ n13_ n14_ n15_
             have hHeld : w37.cell? ad169 = some (.int .u64 ((rd_T24 t166 0).f0)) ∧ w37.cell? ⟨ad169.block, ad169.off + 1, none⟩ = some (.int .u64 ((rd_T24 t166 0).f1)) ∧ w37.cell? ⟨ad169.block, ad169.off + 2, none⟩ = some (.int .u64 ((rd_T24 t166 1).f0)) ∧ w37.cell? ⟨ad169.block, ad169.off + 2 + 1, none⟩ = some (.int .u64 ((rd_T24 t166 1).f1)) ∧ w37.cell? ⟨ad169.block, ad169.off + 4, none⟩ = some (.int .u64 ((rd_T24 t166 2).f0)) ∧ w37.cell? ⟨ad169.block, ad169.off + 4 + 1, none⟩ = some (.int .u64 ((rd_T24 t166 2).f1)) := hS_
             refine norm_ (a' := ?_) ?_ ?_
             rotate_left
             ·simp only [putAll, Act.put, List.setIfInBounds_toArray, List.set_cons_zero, List.set_cons_succ]
              rfl
             refine one_ (i := 10) (N := some 8) #[true, true, true, true, true, true, true, true, true, true, true, true, false, false, false] rfl rfl (one_of HT_.out (by kernel_rfl)) (by decide) (fun K hK => ?_)
             refine box_step ?hg (N := 8) ?hd (cs := #[.int .u64 0, .int .u64 0]) (t := 24) ?hr ?_; (case hd => rfl); (case hg => rfl); (case hr => first | (go_simp; done) | (go_simp; rfl))
             intro gb173 hg w38 hbox hb
             have HS0_ := (hb.cell (World.block_lt_of_cell? _ _ (hHeld.1))).trans (hHeld.1)
             have HS1_ := (hb.cell (World.block_lt_of_cell? _ _ (hHeld.2.1))).trans (hHeld.2.1)
             have HS2_ := (hb.cell (World.block_lt_of_cell? _ _ (hHeld.2.2.1))).trans (hHeld.2.2.1)
             have HS3_ := (hb.cell (World.block_lt_of_cell? _ _ (hHeld.2.2.2.1))).trans (hHeld.2.2.2.1)
             have HS4_ := (hb.cell (World.block_lt_of_cell? _ _ (hHeld.2.2.2.2.1))).trans (hHeld.2.2.2.2.1)
             have HS5_ := (hb.cell (World.block_lt_of_cell? _ _ (hHeld.2.2.2.2.2))).trans (hHeld.2.2.2.2.2)
             have n0_ := Aside0.mk (Kd.R_below (Kd.R_elderB (by (with_reducible repeat (first | apply Kd.R_alloc | apply Kd.R_drewN | apply Kd.R_drew)); exact HO164.out) gb173 (Nat.le_of_eq hg.symm)) hb)
             have n1_ := Aside0.mk (Kd.R_below (Kd.R_elderB (by (with_reducible repeat (first | apply Kd.R_alloc | apply Kd.R_drewN | apply Kd.R_drew)); exact HO168.out) gb173 (Nat.le_of_eq hg.symm)) hb)
             have n2_ := Aside0.mk (blk_below (g := gb161) (o := .cells #[.int .u64 a1_0, .int .u64 a1_1, .int .u64 a1_2, .int .u64 a1_3, .int .u64 a1_4, .int .u64 a1_5] 26 (0, 0)) (by (with_reducible repeat (first | refine blk_drewN ?_ _ | refine blk_drew ?_ | refine blk_alloc ?_ _)); exact BK161.out) hb)
             have n3_ := Aside0.mk (blk_below (g := gb172) (o := .cells #[.int .u64 0, .int .u64 0] 24 (0, 0)) (by (with_reducible repeat (first | refine blk_drewN ?_ _ | refine blk_drew ?_ | refine blk_alloc ?_ _)); exact BK172.out) hb)
             have n4_ := Aside0.mk (blk_below (g := gb174) (o := .cells #[.int .u64 0, .int .u64 0] 24 (0, 0)) (by (with_reducible repeat (first | refine blk_drewN ?_ _ | refine blk_drew ?_ | refine blk_alloc ?_ _)); exact BK174.out) hb)
             have n5_ := Aside0.mk (below_step (by repeat (first | (with_reducible first | exact HB.out | apply below_alloc | apply pw_below_drewN | apply below_drew1 | refine below_set ?_ GE161.out | refine below_set ?_ GE172.out | refine below_set ?_ GE174.out) | exact HB.out)) hb)
             have n6_ := Aside0.mk (hbox)
             have n7_ := Aside0.mk ((by rw [hg]; exact (below_size (by repeat (first | (with_reducible first | exact HB.out | apply below_alloc | apply pw_below_drewN | apply below_drew1 | refine below_set ?_ GE161.out | refine below_set ?_ GE172.out | refine below_set ?_ GE174.out) | exact HB.out))) : w.heap.size ≤ gb173))
             have n8_ := Aside0.mk ((by rw [hg]; exact (below_size (by repeat (first | (with_reducible first | exact HB.out | apply below_alloc | apply pw_below_drewN | apply below_drew1 | refine below_set ?_ GE161.out | refine below_set ?_ GE172.out | refine below_set ?_ GE174.out) | exact HB.out))) : w.heap.size ≤ gb173))
             have n9_ := Aside0.mk ((by rw [hg]; exact Nat.ne_of_lt (blk_lt (g := gb161) (o := .cells #[.int .u64 a1_0, .int .u64 a1_1, .int .u64 a1_2, .int .u64 a1_3, .int .u64 a1_4, .int .u64 a1_5] 26 (0, 0)) (by (with_reducible repeat (first | refine blk_drewN ?_ _ | refine blk_drew ?_ | refine blk_alloc ?_ _)); exact BK161.out)) : gb161 ≠ gb173))
             have n10_ := Aside0.mk ((by rw [hg]; exact Nat.ne_of_gt (blk_lt (g := gb161) (o := .cells #[.int .u64 a1_0, .int .u64 a1_1, .int .u64 a1_2, .int .u64 a1_3, .int .u64 a1_4, .int .u64 a1_5] 26 (0, 0)) (by (with_reducible repeat (first | refine blk_drewN ?_ _ | refine blk_drew ?_ | refine blk_alloc ?_ _)); exact BK161.out)) : gb173 ≠ gb161))
             have n11_ := Aside0.mk ((by rw [hg]; exact Nat.ne_of_lt (blk_lt (g := gb172) (o := .cells #[.int .u64 0, .int .u64 0] 24 (0, 0)) (by (with_reducible repeat (first | refine blk_drewN ?_ _ | refine blk_drew ?_ | refine blk_alloc ?_ _)); exact BK172.out)) : gb172 ≠ gb173))
             have n12_ := Aside0.mk ((by rw [hg]; exact Nat.ne_of_gt (blk_lt (g := gb172) (o := .cells #[.int .u64 0, .int .u64 0] 24 (0, 0)) (by (with_reducible repeat (first | refine blk_drewN ?_ _ | refine blk_drew ?_ | refine blk_alloc ?_ _)); exact BK172.out)) : gb173 ≠ gb172))
             have n13_ := Aside0.mk ((by rw [hg]; exact Nat.ne_of_lt (blk_lt (g := gb174) (o := .cells #[.int .u64 0, .int .u64 0] 24 (0, 0)) (by (with_reducible repeat (first | refine blk_drewN ?_ _ | refine blk_drew ?_ | refine blk_alloc ?_ _)); exact BK174.out)) : gb174 ≠ gb173))
             have n14_ := Aside0.mk ((by rw [hg]; exact Nat.ne_of_gt (blk_lt (g := gb174) (o := .cells #[.int .u64 0, .int .u64 0] 24 (0, 0)) (by (with_reducible repeat (first | refine blk_drewN ?_ _ | refine blk_drew ?_ | refine blk_alloc ?_ _)); exact BK174.out)) : gb173 ≠ gb174))
             clear HO164
             clear HO168
             clear BK161
             clear BK172
             clear BK174
             clear HB
             have HO164 := n0_
             have HO168 := n1_
             have BK161 := n2_
             have BK172 := n3_
             have BK174 := n4_
             have HB := n5_
             have BK173 := n6_
             have GW173 := n7_
             have GE173 := n8_
             have NB161_173 := n9_
             have NB173_161 := n10_
             have NB172_173 := n11_
             have NB173_172 := n12_
             have NB174_173 := n13_
             have NB173_174 := n14_
             clear n0_ n1_ n2_ n3_ n4_ n5_ n6_ n7_ n8_ n9_ n10_ n11_ n12_ n13_ n14_
             clear hb hbox hg
             refine hK.out _ _ ⟨HS0_, HS1_, HS2_, HS3_, HS4_, HS5_⟩ (fun hHeld => ?_)
             clear hK K
             refine norm_ (a' := ?_) ?_ ?_
             rotate_left
             ·show Act.put _ (some 8) _ = _
              simp only [Act.put, List.setIfInBounds_toArray, List.set_cons_zero, List.set_cons_succ, i64_w, i32_w]
              rfl
             exact norm_ (by first | (simp only [putAll, Act.put, List.setIfInBounds_toArray, List.set_cons_zero, List.set_cons_succ]; done) | (simp only [putAll, Act.put, List.setIfInBounds_toArray, List.set_cons_zero, List.set_cons_succ]; rfl)) (hJ9_10_11 (gb172, gb173, gb174) _ ⟨hHeld, (by (with_reducible repeat (first | apply Kd.R_alloc | apply Kd.R_drewN | apply Kd.R_drew)); exact Kd.R_mono HO164.out (fun _ hk => ⟨hk.1.1, ⟨hk.1.2.1, ⟨hk.2, hk.1.2.2⟩⟩⟩)), (by (with_reducible repeat (first | apply Kd.R_alloc | apply Kd.R_drewN | apply Kd.R_drew)); exact Kd.R_mono HO168.out (fun _ hk => ⟨hk.1.1, ⟨hk.1.2.1, ⟨hk.2, hk.1.2.2⟩⟩⟩)), (by (with_reducible repeat (first | refine blk_drewN ?_ _ | refine blk_drew ?_ | refine blk_alloc ?_ _)); exact BK161.out), (by (with_reducible repeat (first | refine blk_drewN ?_ _ | refine blk_drew ?_ | refine blk_alloc ?_ _)); exact BK172.out), (by (with_reducible repeat (first | refine blk_drewN ?_ _ | refine blk_drew ?_ | refine blk_alloc ?_ _)); exact BK173.out), (by (with_reducible repeat (first | refine blk_drewN ?_ _ | refine blk_drew ?_ | refine blk_alloc ?_ _)); exact BK174.out), GW172.out, GE172.out, NB161_172.out, NB172_161.out, NB173_172.out, NB172_173.out, NB174_172.out, NB172_174.out, GW173.out, GE173.out, NB161_173.out, NB173_161.out, NB174_173.out, NB173_174.out, GW174.out, GE174.out, NB161_174.out, NB174_161.out, (by repeat (first | (with_reducible first | exact HB.out | apply below_alloc | apply pw_below_drewN | apply below_drew1 | refine below_set ?_ GE161.out | refine below_set ?_ GE172.out | refine below_set ?_ GE174.out | refine below_set ?_ GE173.out) | exact HB.out))⟩)
           ·skip
            rintro ⟨gb172, gb173⟩ w37 ⟨hS_, h0_, h1_, h2_, h3_, h4_, h5_, h6_, h7_, h8_, h9_, h10_, h11_, h12_, h13_, h14_, h15_⟩
            have n0_ : Aside0 (Kd.R k24 24 w37 w.heap.size (fun k_ => some k_ ≠ (.slice (some ad169) t166.length co34 : Value).ownBlock ∧ k_ ≠ gb172 ∧ k_ ≠ gb173) (.slice Ao31 y162.length co31) y162) := ⟨h0_⟩
            have n1_ : Aside0 (Kd.R k24 24 w37 w.heap.size (fun k_ => some k_ ≠ (.slice Ao31 y162.length co31 : Value).ownBlock ∧ k_ ≠ gb172 ∧ k_ ≠ gb173) (.slice (some ad169) t166.length co34) t166) := ⟨h1_⟩
            have n2_ : Aside0 (w37.heap[gb161]? = some (.cells #[.int .u64 a1_0, .int .u64 a1_1, .int .u64 a1_2, .int .u64 a1_3, .int .u64 a1_4, .int .u64 a1_5] 26 (0, 0))) := ⟨h2_⟩
            have n3_ : Aside0 (w37.heap[gb172]? = some (.cells #[.int .u64 0, .int .u64 0] 24 (0, 0))) := ⟨h3_⟩
            have n4_ : Aside0 (w37.heap[gb173]? = some (.cells #[.int .u64 0, .int .u64 0] 24 (0, 0))) := ⟨h4_⟩
            have n5_ : Aside0 (w.heap.size ≤ gb172) := ⟨h5_⟩
            have n6_ : Aside0 (w.heap.size ≤ gb172) := ⟨h6_⟩
            have n7_ : Aside0 (gb161 ≠ gb172) := ⟨h7_⟩
            have n8_ : Aside0 (gb172 ≠ gb161) := ⟨h8_⟩
            have n9_ : Aside0 (gb173 ≠ gb172) := ⟨h9_⟩
            have n10_ : Aside0 (gb172 ≠ gb173) := ⟨h10_⟩
            have n11_ : Aside0 (w.heap.size ≤ gb173) := ⟨h11_⟩
            have n12_ : Aside0 (w.heap.size ≤ gb173) := ⟨h12_⟩
            have n13_ : Aside0 (gb161 ≠ gb173) := ⟨h13_⟩
            have n14_ : Aside0 (gb173 ≠ gb161) := ⟨h14_⟩
            have n15_ : Aside0 (Below w.heap.size w w37) := ⟨h15_⟩
            clear HO164
            clear HO168
            clear BK161
            clear HB
            clear h0_ h1_ h2_ h3_ h4_ h5_ h6_ h7_ h8_ h9_ h10_ h11_ h12_ h13_ h14_ h15_
            have HO164 := n0_
            have HO168 := n1_
            have BK161 := n2_
            have BK172 := n3_
            have BK173 := n4_
            have GW172 := n5_
            have GE172 := n6_
            have NB161_172 := n7_
            have NB172_161 := n8_
            have NB173_172 := n9_
            have NB172_173 := n10_
            have GW173 := n11_
            have GE173 := n12_
            have NB161_173 := n13_
            have NB173_161 := n14_
            have HB := n15_
            clear n0_ n1_ n2_ n3_ n4_ n5_ n6_ n7_ n8_ n9_ n10_ n11_ n12_ n13_ n14_ n15_
            have hHeld : w37.cell? ad169 = some (.int .u64 ((rd_T24 t166 0).f0)) ∧ w37.cell? ⟨ad169.block, ad169.off + 1, none⟩ = some (.int .u64 ((rd_T24 t166 0).f1)) ∧ w37.cell? ⟨ad169.block, ad169.off + 2, none⟩ = some (.int .u64 ((rd_T24 t166 1).f0)) ∧ w37.cell? ⟨ad169.block, ad169.off + 2 + 1, none⟩ = some (.int .u64 ((rd_T24 t166 1).f1)) ∧ w37.cell? ⟨ad169.block, ad169.off + 4, none⟩ = some (.int .u64 ((rd_T24 t166 2).f0)) ∧ w37.cell? ⟨ad169.block, ad169.off + 4 + 1, none⟩ = some (.int .u64 ((rd_T24 t166 2).f1)) := hS_
            refine norm_ (a' := ?_) ?_ ?_
            rotate_left
            ·simp only [putAll, Act.put, List.setIfInBounds_toArray, List.set_cons_zero, List.set_cons_succ]
             rfl
            refine one_ (i := 11) (N := some 9) #[true, true, true, true, true, true, true, true, true, true, true, true, false, false, false] rfl rfl (one_of HT_.out (by kernel_rfl)) (by decide) (fun K hK => ?_)
            refine box_step ?hg (N := 9) ?hd (cs := #[.int .u64 0, .int .u64 0]) (t := 24) ?hr ?_; (case hd => rfl); (case hg => rfl); (case hr => first | (go_simp; done) | (go_simp; rfl))
            intro gb174 hg w38 hbox hb
            have HS0_ := (hb.cell (World.block_lt_of_cell? _ _ (hHeld.1))).trans (hHeld.1)
            have HS1_ := (hb.cell (World.block_lt_of_cell? _ _ (hHeld.2.1))).trans (hHeld.2.1)
            have HS2_ := (hb.cell (World.block_lt_of_cell? _ _ (hHeld.2.2.1))).trans (hHeld.2.2.1)
            have HS3_ := (hb.cell (World.block_lt_of_cell? _ _ (hHeld.2.2.2.1))).trans (hHeld.2.2.2.1)
            have HS4_ := (hb.cell (World.block_lt_of_cell? _ _ (hHeld.2.2.2.2.1))).trans (hHeld.2.2.2.2.1)
            have HS5_ := (hb.cell (World.block_lt_of_cell? _ _ (hHeld.2.2.2.2.2))).trans (hHeld.2.2.2.2.2)
            have n0_ := Aside0.mk (Kd.R_below (Kd.R_elderB (by (with_reducible repeat (first | apply Kd.R_alloc | apply Kd.R_drewN | apply Kd.R_drew)); exact HO164.out) gb174 (Nat.le_of_eq hg.symm)) hb)
            have n1_ := Aside0.mk (Kd.R_below (Kd.R_elderB (by (with_reducible repeat (first | apply Kd.R_alloc | apply Kd.R_drewN | apply Kd.R_drew)); exact HO168.out) gb174 (Nat.le_of_eq hg.symm)) hb)
            have n2_ := Aside0.mk (blk_below (g := gb161) (o := .cells #[.int .u64 a1_0, .int .u64 a1_1, .int .u64 a1_2, .int .u64 a1_3, .int .u64 a1_4, .int .u64 a1_5] 26 (0, 0)) (by (with_reducible repeat (first | refine blk_drewN ?_ _ | refine blk_drew ?_ | refine blk_alloc ?_ _)); exact BK161.out) hb)
            have n3_ := Aside0.mk (blk_below (g := gb172) (o := .cells #[.int .u64 0, .int .u64 0] 24 (0, 0)) (by (with_reducible repeat (first | refine blk_drewN ?_ _ | refine blk_drew ?_ | refine blk_alloc ?_ _)); exact BK172.out) hb)
            have n4_ := Aside0.mk (blk_below (g := gb173) (o := .cells #[.int .u64 0, .int .u64 0] 24 (0, 0)) (by (with_reducible repeat (first | refine blk_drewN ?_ _ | refine blk_drew ?_ | refine blk_alloc ?_ _)); exact BK173.out) hb)
            have n5_ := Aside0.mk (below_step (by repeat (first | (with_reducible first | exact HB.out | apply below_alloc | apply pw_below_drewN | apply below_drew1 | refine below_set ?_ GE161.out | refine below_set ?_ GE172.out | refine below_set ?_ GE173.out) | exact HB.out)) hb)
            have n6_ := Aside0.mk (hbox)
            have n7_ := Aside0.mk ((by rw [hg]; exact (below_size (by repeat (first | (with_reducible first | exact HB.out | apply below_alloc | apply pw_below_drewN | apply below_drew1 | refine below_set ?_ GE161.out | refine below_set ?_ GE172.out | refine below_set ?_ GE173.out) | exact HB.out))) : w.heap.size ≤ gb174))
            have n8_ := Aside0.mk ((by rw [hg]; exact (below_size (by repeat (first | (with_reducible first | exact HB.out | apply below_alloc | apply pw_below_drewN | apply below_drew1 | refine below_set ?_ GE161.out | refine below_set ?_ GE172.out | refine below_set ?_ GE173.out) | exact HB.out))) : w.heap.size ≤ gb174))
            have n9_ := Aside0.mk ((by rw [hg]; exact Nat.ne_of_lt (blk_lt (g := gb161) (o := .cells #[.int .u64 a1_0, .int .u64 a1_1, .int .u64 a1_2, .int .u64 a1_3, .int .u64 a1_4, .int .u64 a1_5] 26 (0, 0)) (by (with_reducible repeat (first | refine blk_drewN ?_ _ | refine blk_drew ?_ | refine blk_alloc ?_ _)); exact BK161.out)) : gb161 ≠ gb174))
            have n10_ := Aside0.mk ((by rw [hg]; exact Nat.ne_of_gt (blk_lt (g := gb161) (o := .cells #[.int .u64 a1_0, .int .u64 a1_1, .int .u64 a1_2, .int .u64 a1_3, .int .u64 a1_4, .int .u64 a1_5] 26 (0, 0)) (by (with_reducible repeat (first | refine blk_drewN ?_ _ | refine blk_drew ?_ | refine blk_alloc ?_ _)); exact BK161.out)) : gb174 ≠ gb161))
            have n11_ := Aside0.mk ((by rw [hg]; exact Nat.ne_of_lt (blk_lt (g := gb172) (o := .cells #[.int .u64 0, .int .u64 0] 24 (0, 0)) (by (with_reducible repeat (first | refine blk_drewN ?_ _ | refine blk_drew ?_ | refine blk_alloc ?_ _)); exact BK172.out)) : gb172 ≠ gb174))
            have n12_ := Aside0.mk ((by rw [hg]; exact Nat.ne_of_gt (blk_lt (g := gb172) (o := .cells #[.int .u64 0, .int .u64 0] 24 (0, 0)) (by (with_reducible repeat (first | refine blk_drewN ?_ _ | refine blk_drew ?_ | refine blk_alloc ?_ _)); exact BK172.out)) : gb174 ≠ gb172))
            have n13_ := Aside0.mk ((by rw [hg]; exact Nat.ne_of_lt (blk_lt (g := gb173) (o := .cells #[.int .u64 0, .int .u64 0] 24 (0, 0)) (by (with_reducible repeat (first | refine blk_drewN ?_ _ | refine blk_drew ?_ | refine blk_alloc ?_ _)); exact BK173.out)) : gb173 ≠ gb174))
            have n14_ := Aside0.mk ((by rw [hg]; exact Nat.ne_of_gt (blk_lt (g := gb173) (o := .cells #[.int .u64 0, .int .u64 0] 24 (0, 0)) (by (with_reducible repeat (first | refine blk_drewN ?_ _ | refine blk_drew ?_ | refine blk_alloc ?_ _)); exact BK173.out)) : gb174 ≠ gb173))
            clear HO164
            clear HO168
            clear BK161
            clear BK172
            clear BK173
            clear HB
            have HO164 := n0_
            have HO168 := n1_
            have BK161 := n2_
            have BK172 := n3_
            have BK173 := n4_
            have HB := n5_
            have BK174 := n6_
            have GW174 := n7_
            have GE174 := n8_
            have NB161_174 := n9_
            have NB174_161 := n10_
            have NB172_174 := n11_
            have NB174_172 := n12_
            have NB173_174 := n13_
            have NB174_173 := n14_
            clear n0_ n1_ n2_ n3_ n4_ n5_ n6_ n7_ n8_ n9_ n10_ n11_ n12_ n13_ n14_
            clear hb hbox hg
            refine hK.out _ _ ⟨HS0_, HS1_, HS2_, HS3_, HS4_, HS5_⟩ (fun hHeld => ?_)
            clear hK K
            refine norm_ (a' := ?_) ?_ ?_
            rotate_left
            ·show Act.put _ (some 9) _ = _
             simp only [Act.put, List.setIfInBounds_toArray, List.set_cons_zero, List.set_cons_succ, i64_w, i32_w]
             rfl
            exact norm_ (by first | (simp only [putAll, Act.put, List.setIfInBounds_toArray, List.set_cons_zero, List.set_cons_succ]; done) | (simp only [putAll, Act.put, List.setIfInBounds_toArray, List.set_cons_zero, List.set_cons_succ]; rfl)) (hJ9_10_11 (gb172, gb173, gb174) _ ⟨hHeld, (by (with_reducible repeat (first | apply Kd.R_alloc | apply Kd.R_drewN | apply Kd.R_drew)); exact Kd.R_mono HO164.out (fun _ hk => ⟨hk.1.1, ⟨hk.1.2.1, ⟨hk.1.2.2, hk.2⟩⟩⟩)), (by (with_reducible repeat (first | apply Kd.R_alloc | apply Kd.R_drewN | apply Kd.R_drew)); exact Kd.R_mono HO168.out (fun _ hk => ⟨hk.1.1, ⟨hk.1.2.1, ⟨hk.1.2.2, hk.2⟩⟩⟩)), (by (with_reducible repeat (first | refine blk_drewN ?_ _ | refine blk_drew ?_ | refine blk_alloc ?_ _)); exact BK161.out), (by (with_reducible repeat (first | refine blk_drewN ?_ _ | refine blk_drew ?_ | refine blk_alloc ?_ _)); exact BK172.out), (by (with_reducible repeat (first | refine blk_drewN ?_ _ | refine blk_drew ?_ | refine blk_alloc ?_ _)); exact BK173.out), (by (with_reducible repeat (first | refine blk_drewN ?_ _ | refine blk_drew ?_ | refine blk_alloc ?_ _)); exact BK174.out), GW172.out, GE172.out, NB161_172.out, NB172_161.out, NB173_172.out, NB172_173.out, NB174_172.out, NB172_174.out, GW173.out, GE173.out, NB161_173.out, NB173_161.out, NB174_173.out, NB173_174.out, GW174.out, GE174.out, NB161_174.out, NB174_161.out, (by repeat (first | (with_reducible first | exact HB.out | apply below_alloc | apply pw_below_drewN | apply below_drew1 | refine below_set ?_ GE161.out | refine below_set ?_ GE172.out | refine below_set ?_ GE173.out | refine below_set ?_ GE174.out) | exact HB.out))⟩)
          rintro ⟨gb172, gb173, gb174⟩ w38 ⟨hS_, h0_, h1_, h2_, h3_, h4_, h5_, h6_, h7_, h8_, h9_, h10_, h11_, h12_, h13_, h14_, h15_, h16_, h17_, h18_, h19_, h20_, h21_, h22_, h23_, h24_⟩
          have n0_ : Aside0 (Kd.R k24 24 w38 w.heap.size (fun k_ => some k_ ≠ (.slice (some ad169) t166.length co34 : Value).ownBlock ∧ k_ ≠ gb172 ∧ k_ ≠ gb173 ∧ k_ ≠ gb174) (.slice Ao31 y162.length co31) y162) := ⟨h0_⟩
          have n1_ : Aside0 (Kd.R k24 24 w38 w.heap.size (fun k_ => some k_ ≠ (.slice Ao31 y162.length co31 : Value).ownBlock ∧ k_ ≠ gb172 ∧ k_ ≠ gb173 ∧ k_ ≠ gb174) (.slice (some ad169) t166.length co34) t166) := ⟨h1_⟩
          have n2_ : Aside0 (w38.heap[gb161]? = some (.cells #[.int .u64 a1_0, .int .u64 a1_1, .int .u64 a1_2, .int .u64 a1_3, .int .u64 a1_4, .int .u64 a1_5] 26 (0, 0))) := ⟨h2_⟩
          have n3_ : Aside0 (w38.heap[gb172]? = some (.cells #[.int .u64 0, .int .u64 0] 24 (0, 0))) := ⟨h3_⟩
          have n4_ : Aside0 (w38.heap[gb173]? = some (.cells #[.int .u64 0, .int .u64 0] 24 (0, 0))) := ⟨h4_⟩
          have n5_ : Aside0 (w38.heap[gb174]? = some (.cells #[.int .u64 0, .int .u64 0] 24 (0, 0))) := ⟨h5_⟩
          have n6_ : Aside0 (w.heap.size ≤ gb172) := ⟨h6_⟩
          have n7_ : Aside0 (w.heap.size ≤ gb172) := ⟨h7_⟩
          have n8_ : Aside0 (gb161 ≠ gb172) := ⟨h8_⟩
          have n9_ : Aside0 (gb172 ≠ gb161) := ⟨h9_⟩
          have n10_ : Aside0 (gb173 ≠ gb172) := ⟨h10_⟩
          have n11_ : Aside0 (gb172 ≠ gb173) := ⟨h11_⟩
          have n12_ : Aside0 (gb174 ≠ gb172) := ⟨h12_⟩
          have n13_ : Aside0 (gb172 ≠ gb174) := ⟨h13_⟩
          have n14_ : Aside0 (w.heap.size ≤ gb173) := ⟨h14_⟩
          have n15_ : Aside0 (w.heap.size ≤ gb173) := ⟨h15_⟩
          have n16_ : Aside0 (gb161 ≠ gb173) := ⟨h16_⟩
          have n17_ : Aside0 (gb173 ≠ gb161) := ⟨h17_⟩
          have n18_ : Aside0 (gb174 ≠ gb173) := ⟨h18_⟩
          have n19_ : Aside0 (gb173 ≠ gb174) := ⟨h19_⟩
          have n20_ : Aside0 (w.heap.size ≤ gb174) := ⟨h20_⟩
          have n21_ : Aside0 (w.heap.size ≤ gb174) := ⟨h21_⟩
          have n22_ : Aside0 (gb161 ≠ gb174) := ⟨h22_⟩
          have n23_ : Aside0 (gb174 ≠ gb161) := ⟨h23_⟩
          have n24_ : Aside0 (Below w.heap.size w w38) := ⟨h24_⟩
          clear HO164
          clear HO168
          clear BK161
          clear HB
          clear h0_ h1_ h2_ h3_ h4_ h5_ h6_ h7_ h8_ h9_ h10_ h11_ h12_ h13_ h14_ h15_ h16_ h17_ h18_ h19_ h20_ h21_ h22_ h23_ h24_
          have HO164 := n0_
          have HO168 := n1_
          have BK161 := n2_
          have BK172 := n3_
          have BK173 := n4_
          have BK174 := n5_
          have GW172 := n6_
          have GE172 := n7_
          have NB161_172 := n8_
          have NB172_161 := n9_
          have NB173_172 := n10_
          have NB172_173 := n11_
          have NB174_172 := n12_
          have NB172_174 := n13_
          have GW173 := n14_
          have GE173 := n15_
          have NB161_173 := n16_
          have NB173_161 := n17_
          have NB174_173 := n18_
          have NB173_174 := n19_
          have GW174 := n20_
          have GE174 := n21_
          have NB161_174 := n22_
          have NB174_161 := n23_
          have HB := n24_
          clear n0_ n1_ n2_ n3_ n4_ n5_ n6_ n7_ n8_ n9_ n10_ n11_ n12_ n13_ n14_ n15_ n16_ n17_ n18_ n19_ n20_ n21_ n22_ n23_ n24_
          have hHeld : w38.cell? ad169 = some (.int .u64 ((rd_T24 t166 0).f0)) ∧ w38.cell? ⟨ad169.block, ad169.off + 1, none⟩ = some (.int .u64 ((rd_T24 t166 0).f1)) ∧ w38.cell? ⟨ad169.block, ad169.off + 2, none⟩ = some (.int .u64 ((rd_T24 t166 1).f0)) ∧ w38.cell? ⟨ad169.block, ad169.off + 2 + 1, none⟩ = some (.int .u64 ((rd_T24 t166 1).f1)) ∧ w38.cell? ⟨ad169.block, ad169.off + 4, none⟩ = some (.int .u64 ((rd_T24 t166 2).f0)) ∧ w38.cell? ⟨ad169.block, ad169.off + 4 + 1, none⟩ = some (.int .u64 ((rd_T24 t166 2).f1)) := hS_
          refine norm_ (a' := ?_) ?_ ?_
          rotate_left
          ·simp only [putAll, Act.put, List.setIfInBounds_toArray, List.set_cons_zero, List.set_cons_succ]
           rfl
          refine one_ (i := 12) (N := none) #[true, true, true, true, true, true, true, true, true, true, true, true, true, false, false] rfl rfl (one_of HT_.out (by kernel_rfl)) (by decide) (fun K hK => ?_)
          have hs39 : w38.cell? ⟨gb172, 0, none⟩ = some (.int .u64 0) := (blk_cell BK172.out 0).trans rfl
          have hfs39 := blk_frozen BK172.out 0
          have hns39_0 := NB161_172.out
          have hns39_2 := NB173_172.out
          have hns39_3 := NB174_172.out
          have hms39_0 := NB172_161.out
          have hms39_2 := NB172_173.out
          have hms39_3 := NB172_174.out
          have hs40 : w38.cell? ⟨gb172, 1, none⟩ = some (.int .u64 0) := (blk_cell BK172.out 1).trans rfl
          have hfs40 := blk_frozen BK172.out 1
          have hns40_0 := NB161_172.out
          have hns40_2 := NB173_172.out
          have hns40_3 := NB174_172.out
          have hms40_0 := NB172_161.out
          have hms40_2 := NB172_173.out
          have hms40_3 := NB172_174.out
          refine skip_ (w1 := ?_) (by rfl) rfl ?_ ?_
          rotate_left
          ·go_simp
           rfl
          refine hK.out _ _ ⟨((cell_far (p := ⟨gb172, _, none⟩) (by first | exact Kd.own_blk (Kd.R_away HO168.out (fun _ hk => hk.2.1)) | (rw [add_block]; exact Kd.own_blk (Kd.R_away HO168.out (fun _ hk => hk.2.1))) | (show (Addr.add _ _).block ≠ _; rw [add_block]; exact Kd.own_blk (Kd.R_away HO168.out (fun _ hk => hk.2.1))) | (dsimp only; exact Kd.own_blk (Kd.R_away HO168.out (fun _ hk => hk.2.1)))) _).trans (((cell_far (p := ⟨gb172, _, none⟩) (by first | exact Kd.own_blk (Kd.R_away HO168.out (fun _ hk => hk.2.1)) | (rw [add_block]; exact Kd.own_blk (Kd.R_away HO168.out (fun _ hk => hk.2.1))) | (show (Addr.add _ _).block ≠ _; rw [add_block]; exact Kd.own_blk (Kd.R_away HO168.out (fun _ hk => hk.2.1))) | (dsimp only; exact Kd.own_blk (Kd.R_away HO168.out (fun _ hk => hk.2.1)))) _).trans (hHeld.1)))), ((cell_far (p := ⟨gb172, _, none⟩) (by first | exact Kd.own_blk (Kd.R_away HO168.out (fun _ hk => hk.2.1)) | (rw [add_block]; exact Kd.own_blk (Kd.R_away HO168.out (fun _ hk => hk.2.1))) | (show (Addr.add _ _).block ≠ _; rw [add_block]; exact Kd.own_blk (Kd.R_away HO168.out (fun _ hk => hk.2.1))) | (dsimp only; exact Kd.own_blk (Kd.R_away HO168.out (fun _ hk => hk.2.1)))) _).trans (((cell_far (p := ⟨gb172, _, none⟩) (by first | exact Kd.own_blk (Kd.R_away HO168.out (fun _ hk => hk.2.1)) | (rw [add_block]; exact Kd.own_blk (Kd.R_away HO168.out (fun _ hk => hk.2.1))) | (show (Addr.add _ _).block ≠ _; rw [add_block]; exact Kd.own_blk (Kd.R_away HO168.out (fun _ hk => hk.2.1))) | (dsimp only; exact Kd.own_blk (Kd.R_away HO168.out (fun _ hk => hk.2.1)))) _).trans (hHeld.2.1)))), ((cell_far (p := ⟨gb172, _, none⟩) (by first | exact Kd.own_blk (Kd.R_away HO168.out (fun _ hk => hk.2.1)) | (rw [add_block]; exact Kd.own_blk (Kd.R_away HO168.out (fun _ hk => hk.2.1))) | (show (Addr.add _ _).block ≠ _; rw [add_block]; exact Kd.own_blk (Kd.R_away HO168.out (fun _ hk => hk.2.1))) | (dsimp only; exact Kd.own_blk (Kd.R_away HO168.out (fun _ hk => hk.2.1)))) _).trans (((cell_far (p := ⟨gb172, _, none⟩) (by first | exact Kd.own_blk (Kd.R_away HO168.out (fun _ hk => hk.2.1)) | (rw [add_block]; exact Kd.own_blk (Kd.R_away HO168.out (fun _ hk => hk.2.1))) | (show (Addr.add _ _).block ≠ _; rw [add_block]; exact Kd.own_blk (Kd.R_away HO168.out (fun _ hk => hk.2.1))) | (dsimp only; exact Kd.own_blk (Kd.R_away HO168.out (fun _ hk => hk.2.1)))) _).trans (hHeld.2.2.1)))), ((cell_far (p := ⟨gb172, _, none⟩) (by first | exact Kd.own_blk (Kd.R_away HO168.out (fun _ hk => hk.2.1)) | (rw [add_block]; exact Kd.own_blk (Kd.R_away HO168.out (fun _ hk => hk.2.1))) | (show (Addr.add _ _).block ≠ _; rw [add_block]; exact Kd.own_blk (Kd.R_away HO168.out (fun _ hk => hk.2.1))) | (dsimp only; exact Kd.own_blk (Kd.R_away HO168.out (fun _ hk => hk.2.1)))) _).trans (((cell_far (p := ⟨gb172, _, none⟩) (by first | exact Kd.own_blk (Kd.R_away HO168.out (fun _ hk => hk.2.1)) | (rw [add_block]; exact Kd.own_blk (Kd.R_away HO168.out (fun _ hk => hk.2.1))) | (show (Addr.add _ _).block ≠ _; rw [add_block]; exact Kd.own_blk (Kd.R_away HO168.out (fun _ hk => hk.2.1))) | (dsimp only; exact Kd.own_blk (Kd.R_away HO168.out (fun _ hk => hk.2.1)))) _).trans (hHeld.2.2.2.1)))), ((cell_far (p := ⟨gb172, _, none⟩) (by first | exact Kd.own_blk (Kd.R_away HO168.out (fun _ hk => hk.2.1)) | (rw [add_block]; exact Kd.own_blk (Kd.R_away HO168.out (fun _ hk => hk.2.1))) | (show (Addr.add _ _).block ≠ _; rw [add_block]; exact Kd.own_blk (Kd.R_away HO168.out (fun _ hk => hk.2.1))) | (dsimp only; exact Kd.own_blk (Kd.R_away HO168.out (fun _ hk => hk.2.1)))) _).trans (((cell_far (p := ⟨gb172, _, none⟩) (by first | exact Kd.own_blk (Kd.R_away HO168.out (fun _ hk => hk.2.1)) | (rw [add_block]; exact Kd.own_blk (Kd.R_away HO168.out (fun _ hk => hk.2.1))) | (show (Addr.add _ _).block ≠ _; rw [add_block]; exact Kd.own_blk (Kd.R_away HO168.out (fun _ hk => hk.2.1))) | (dsimp only; exact Kd.own_blk (Kd.R_away HO168.out (fun _ hk => hk.2.1)))) _).trans (hHeld.2.2.2.2.1)))), ((cell_far (p := ⟨gb172, _, none⟩) (by first | exact Kd.own_blk (Kd.R_away HO168.out (fun _ hk => hk.2.1)) | (rw [add_block]; exact Kd.own_blk (Kd.R_away HO168.out (fun _ hk => hk.2.1))) | (show (Addr.add _ _).block ≠ _; rw [add_block]; exact Kd.own_blk (Kd.R_away HO168.out (fun _ hk => hk.2.1))) | (dsimp only; exact Kd.own_blk (Kd.R_away HO168.out (fun _ hk => hk.2.1)))) _).trans (((cell_far (p := ⟨gb172, _, none⟩) (by first | exact Kd.own_blk (Kd.R_away HO168.out (fun _ hk => hk.2.1)) | (rw [add_block]; exact Kd.own_blk (Kd.R_away HO168.out (fun _ hk => hk.2.1))) | (show (Addr.add _ _).block ≠ _; rw [add_block]; exact Kd.own_blk (Kd.R_away HO168.out (fun _ hk => hk.2.1))) | (dsimp only; exact Kd.own_blk (Kd.R_away HO168.out (fun _ hk => hk.2.1)))) _).trans (hHeld.2.2.2.2.2))))⟩ (fun hHeld => ?_)
          clear hK K
          refine one_ (i := 13) (N := none) #[true, true, true, true, true, true, true, true, true, true, true, true, true, true, false] rfl rfl (one_of HT_.out (by kernel_rfl)) (by decide) (fun K hK => ?_)
          have hs41 : w38.cell? ⟨gb173, 0, none⟩ = some (.int .u64 0) := (blk_cell BK173.out 0).trans rfl
          have hfs41 := blk_frozen BK173.out 0
          have hns41_0 := NB161_173.out
          have hns41_1 := NB172_173.out
          have hns41_3 := NB174_173.out
          have hms41_0 := NB173_161.out
          have hms41_1 := NB173_172.out
          have hms41_3 := NB173_174.out
          have hs42 : w38.cell? ⟨gb173, 1, none⟩ = some (.int .u64 0) := (blk_cell BK173.out 1).trans rfl
          have hfs42 := blk_frozen BK173.out 1
          have hns42_0 := NB161_173.out
          have hns42_1 := NB172_173.out
          have hns42_3 := NB174_173.out
          have hms42_0 := NB173_161.out
          have hms42_1 := NB173_172.out
          have hms42_3 := NB173_174.out
          refine skip_ (w1 := ?_) (by rfl) rfl ?_ ?_
          rotate_left
          ·go_simp
           rfl
          refine hK.out _ _ ⟨((cell_far (p := ⟨gb173, _, none⟩) (by first | exact Kd.own_blk (Kd.R_away HO168.out (fun _ hk => hk.2.2.1)) | (rw [add_block]; exact Kd.own_blk (Kd.R_away HO168.out (fun _ hk => hk.2.2.1))) | (show (Addr.add _ _).block ≠ _; rw [add_block]; exact Kd.own_blk (Kd.R_away HO168.out (fun _ hk => hk.2.2.1))) | (dsimp only; exact Kd.own_blk (Kd.R_away HO168.out (fun _ hk => hk.2.2.1)))) _).trans (((cell_far (p := ⟨gb173, _, none⟩) (by first | exact Kd.own_blk (Kd.R_away HO168.out (fun _ hk => hk.2.2.1)) | (rw [add_block]; exact Kd.own_blk (Kd.R_away HO168.out (fun _ hk => hk.2.2.1))) | (show (Addr.add _ _).block ≠ _; rw [add_block]; exact Kd.own_blk (Kd.R_away HO168.out (fun _ hk => hk.2.2.1))) | (dsimp only; exact Kd.own_blk (Kd.R_away HO168.out (fun _ hk => hk.2.2.1)))) _).trans (hHeld.1)))), ((cell_far (p := ⟨gb173, _, none⟩) (by first | exact Kd.own_blk (Kd.R_away HO168.out (fun _ hk => hk.2.2.1)) | (rw [add_block]; exact Kd.own_blk (Kd.R_away HO168.out (fun _ hk => hk.2.2.1))) | (show (Addr.add _ _).block ≠ _; rw [add_block]; exact Kd.own_blk (Kd.R_away HO168.out (fun _ hk => hk.2.2.1))) | (dsimp only; exact Kd.own_blk (Kd.R_away HO168.out (fun _ hk => hk.2.2.1)))) _).trans (((cell_far (p := ⟨gb173, _, none⟩) (by first | exact Kd.own_blk (Kd.R_away HO168.out (fun _ hk => hk.2.2.1)) | (rw [add_block]; exact Kd.own_blk (Kd.R_away HO168.out (fun _ hk => hk.2.2.1))) | (show (Addr.add _ _).block ≠ _; rw [add_block]; exact Kd.own_blk (Kd.R_away HO168.out (fun _ hk => hk.2.2.1))) | (dsimp only; exact Kd.own_blk (Kd.R_away HO168.out (fun _ hk => hk.2.2.1)))) _).trans (hHeld.2.1)))), ((cell_far (p := ⟨gb173, _, none⟩) (by first | exact Kd.own_blk (Kd.R_away HO168.out (fun _ hk => hk.2.2.1)) | (rw [add_block]; exact Kd.own_blk (Kd.R_away HO168.out (fun _ hk => hk.2.2.1))) | (show (Addr.add _ _).block ≠ _; rw [add_block]; exact Kd.own_blk (Kd.R_away HO168.out (fun _ hk => hk.2.2.1))) | (dsimp only; exact Kd.own_blk (Kd.R_away HO168.out (fun _ hk => hk.2.2.1)))) _).trans (((cell_far (p := ⟨gb173, _, none⟩) (by first | exact Kd.own_blk (Kd.R_away HO168.out (fun _ hk => hk.2.2.1)) | (rw [add_block]; exact Kd.own_blk (Kd.R_away HO168.out (fun _ hk => hk.2.2.1))) | (show (Addr.add _ _).block ≠ _; rw [add_block]; exact Kd.own_blk (Kd.R_away HO168.out (fun _ hk => hk.2.2.1))) | (dsimp only; exact Kd.own_blk (Kd.R_away HO168.out (fun _ hk => hk.2.2.1)))) _).trans (hHeld.2.2.1)))), ((cell_far (p := ⟨gb173, _, none⟩) (by first | exact Kd.own_blk (Kd.R_away HO168.out (fun _ hk => hk.2.2.1)) | (rw [add_block]; exact Kd.own_blk (Kd.R_away HO168.out (fun _ hk => hk.2.2.1))) | (show (Addr.add _ _).block ≠ _; rw [add_block]; exact Kd.own_blk (Kd.R_away HO168.out (fun _ hk => hk.2.2.1))) | (dsimp only; exact Kd.own_blk (Kd.R_away HO168.out (fun _ hk => hk.2.2.1)))) _).trans (((cell_far (p := ⟨gb173, _, none⟩) (by first | exact Kd.own_blk (Kd.R_away HO168.out (fun _ hk => hk.2.2.1)) | (rw [add_block]; exact Kd.own_blk (Kd.R_away HO168.out (fun _ hk => hk.2.2.1))) | (show (Addr.add _ _).block ≠ _; rw [add_block]; exact Kd.own_blk (Kd.R_away HO168.out (fun _ hk => hk.2.2.1))) | (dsimp only; exact Kd.own_blk (Kd.R_away HO168.out (fun _ hk => hk.2.2.1)))) _).trans (hHeld.2.2.2.1)))), ((cell_far (p := ⟨gb173, _, none⟩) (by first | exact Kd.own_blk (Kd.R_away HO168.out (fun _ hk => hk.2.2.1)) | (rw [add_block]; exact Kd.own_blk (Kd.R_away HO168.out (fun _ hk => hk.2.2.1))) | (show (Addr.add _ _).block ≠ _; rw [add_block]; exact Kd.own_blk (Kd.R_away HO168.out (fun _ hk => hk.2.2.1))) | (dsimp only; exact Kd.own_blk (Kd.R_away HO168.out (fun _ hk => hk.2.2.1)))) _).trans (((cell_far (p := ⟨gb173, _, none⟩) (by first | exact Kd.own_blk (Kd.R_away HO168.out (fun _ hk => hk.2.2.1)) | (rw [add_block]; exact Kd.own_blk (Kd.R_away HO168.out (fun _ hk => hk.2.2.1))) | (show (Addr.add _ _).block ≠ _; rw [add_block]; exact Kd.own_blk (Kd.R_away HO168.out (fun _ hk => hk.2.2.1))) | (dsimp only; exact Kd.own_blk (Kd.R_away HO168.out (fun _ hk => hk.2.2.1)))) _).trans (hHeld.2.2.2.2.1)))), ((cell_far (p := ⟨gb173, _, none⟩) (by first | exact Kd.own_blk (Kd.R_away HO168.out (fun _ hk => hk.2.2.1)) | (rw [add_block]; exact Kd.own_blk (Kd.R_away HO168.out (fun _ hk => hk.2.2.1))) | (show (Addr.add _ _).block ≠ _; rw [add_block]; exact Kd.own_blk (Kd.R_away HO168.out (fun _ hk => hk.2.2.1))) | (dsimp only; exact Kd.own_blk (Kd.R_away HO168.out (fun _ hk => hk.2.2.1)))) _).trans (((cell_far (p := ⟨gb173, _, none⟩) (by first | exact Kd.own_blk (Kd.R_away HO168.out (fun _ hk => hk.2.2.1)) | (rw [add_block]; exact Kd.own_blk (Kd.R_away HO168.out (fun _ hk => hk.2.2.1))) | (show (Addr.add _ _).block ≠ _; rw [add_block]; exact Kd.own_blk (Kd.R_away HO168.out (fun _ hk => hk.2.2.1))) | (dsimp only; exact Kd.own_blk (Kd.R_away HO168.out (fun _ hk => hk.2.2.1)))) _).trans (hHeld.2.2.2.2.2))))⟩ (fun hHeld => ?_)
          clear hK K
          refine one_ (i := 14) (N := none) #[true, true, true, true, true, true, true, true, true, true, true, true, true, true, true] rfl rfl (one_of HT_.out (by kernel_rfl)) (by decide) (fun K hK => ?_)
          have hs43 : w38.cell? ⟨gb174, 0, none⟩ = some (.int .u64 0) := (blk_cell BK174.out 0).trans rfl
          have hfs43 := blk_frozen BK174.out 0
          have hns43_0 := NB161_174.out
          have hns43_1 := NB172_174.out
          have hns43_2 := NB173_174.out
          have hms43_0 := NB174_161.out
          have hms43_1 := NB174_172.out
          have hms43_2 := NB174_173.out
          have hs44 : w38.cell? ⟨gb174, 1, none⟩ = some (.int .u64 0) := (blk_cell BK174.out 1).trans rfl
          have hfs44 := blk_frozen BK174.out 1
          have hns44_0 := NB161_174.out
          have hns44_1 := NB172_174.out
          have hns44_2 := NB173_174.out
          have hms44_0 := NB174_161.out
          have hms44_1 := NB174_172.out
          have hms44_2 := NB174_173.out
          refine skip_ (w1 := ?_) (by rfl) rfl ?_ ?_
          rotate_left
          ·go_simp
           rfl
          refine hK.out _ _ ⟨((cell_far (p := ⟨gb174, _, none⟩) (by first | exact Kd.own_blk (Kd.R_away HO168.out (fun _ hk => hk.2.2.2)) | (rw [add_block]; exact Kd.own_blk (Kd.R_away HO168.out (fun _ hk => hk.2.2.2))) | (show (Addr.add _ _).block ≠ _; rw [add_block]; exact Kd.own_blk (Kd.R_away HO168.out (fun _ hk => hk.2.2.2))) | (dsimp only; exact Kd.own_blk (Kd.R_away HO168.out (fun _ hk => hk.2.2.2)))) _).trans (((cell_far (p := ⟨gb174, _, none⟩) (by first | exact Kd.own_blk (Kd.R_away HO168.out (fun _ hk => hk.2.2.2)) | (rw [add_block]; exact Kd.own_blk (Kd.R_away HO168.out (fun _ hk => hk.2.2.2))) | (show (Addr.add _ _).block ≠ _; rw [add_block]; exact Kd.own_blk (Kd.R_away HO168.out (fun _ hk => hk.2.2.2))) | (dsimp only; exact Kd.own_blk (Kd.R_away HO168.out (fun _ hk => hk.2.2.2)))) _).trans (hHeld.1)))), ((cell_far (p := ⟨gb174, _, none⟩) (by first | exact Kd.own_blk (Kd.R_away HO168.out (fun _ hk => hk.2.2.2)) | (rw [add_block]; exact Kd.own_blk (Kd.R_away HO168.out (fun _ hk => hk.2.2.2))) | (show (Addr.add _ _).block ≠ _; rw [add_block]; exact Kd.own_blk (Kd.R_away HO168.out (fun _ hk => hk.2.2.2))) | (dsimp only; exact Kd.own_blk (Kd.R_away HO168.out (fun _ hk => hk.2.2.2)))) _).trans (((cell_far (p := ⟨gb174, _, none⟩) (by first | exact Kd.own_blk (Kd.R_away HO168.out (fun _ hk => hk.2.2.2)) | (rw [add_block]; exact Kd.own_blk (Kd.R_away HO168.out (fun _ hk => hk.2.2.2))) | (show (Addr.add _ _).block ≠ _; rw [add_block]; exact Kd.own_blk (Kd.R_away HO168.out (fun _ hk => hk.2.2.2))) | (dsimp only; exact Kd.own_blk (Kd.R_away HO168.out (fun _ hk => hk.2.2.2)))) _).trans (hHeld.2.1)))), ((cell_far (p := ⟨gb174, _, none⟩) (by first | exact Kd.own_blk (Kd.R_away HO168.out (fun _ hk => hk.2.2.2)) | (rw [add_block]; exact Kd.own_blk (Kd.R_away HO168.out (fun _ hk => hk.2.2.2))) | (show (Addr.add _ _).block ≠ _; rw [add_block]; exact Kd.own_blk (Kd.R_away HO168.out (fun _ hk => hk.2.2.2))) | (dsimp only; exact Kd.own_blk (Kd.R_away HO168.out (fun _ hk => hk.2.2.2)))) _).trans (((cell_far (p := ⟨gb174, _, none⟩) (by first | exact Kd.own_blk (Kd.R_away HO168.out (fun _ hk => hk.2.2.2)) | (rw [add_block]; exact Kd.own_blk (Kd.R_away HO168.out (fun _ hk => hk.2.2.2))) | (show (Addr.add _ _).block ≠ _; rw [add_block]; exact Kd.own_blk (Kd.R_away HO168.out (fun _ hk => hk.2.2.2))) | (dsimp only; exact Kd.own_blk (Kd.R_away HO168.out (fun _ hk => hk.2.2.2)))) _).trans (hHeld.2.2.1)))), ((cell_far (p := ⟨gb174, _, none⟩) (by first | exact Kd.own_blk (Kd.R_away HO168.out (fun _ hk => hk.2.2.2)) | (rw [add_block]; exact Kd.own_blk (Kd.R_away HO168.out (fun _ hk => hk.2.2.2))) | (show (Addr.add _ _).block ≠ _; rw [add_block]; exact Kd.own_blk (Kd.R_away HO168.out (fun _ hk => hk.2.2.2))) | (dsimp only; exact Kd.own_blk (Kd.R_away HO168.out (fun _ hk => hk.2.2.2)))) _).trans (((cell_far (p := ⟨gb174, _, none⟩) (by first | exact Kd.own_blk (Kd.R_away HO168.out (fun _ hk => hk.2.2.2)) | (rw [add_block]; exact Kd.own_blk (Kd.R_away HO168.out (fun _ hk => hk.2.2.2))) | (show (Addr.add _ _).block ≠ _; rw [add_block]; exact Kd.own_blk (Kd.R_away HO168.out (fun _ hk => hk.2.2.2))) | (dsimp only; exact Kd.own_blk (Kd.R_away HO168.out (fun _ hk => hk.2.2.2)))) _).trans (hHeld.2.2.2.1)))), ((cell_far (p := ⟨gb174, _, none⟩) (by first | exact Kd.own_blk (Kd.R_away HO168.out (fun _ hk => hk.2.2.2)) | (rw [add_block]; exact Kd.own_blk (Kd.R_away HO168.out (fun _ hk => hk.2.2.2))) | (show (Addr.add _ _).block ≠ _; rw [add_block]; exact Kd.own_blk (Kd.R_away HO168.out (fun _ hk => hk.2.2.2))) | (dsimp only; exact Kd.own_blk (Kd.R_away HO168.out (fun _ hk => hk.2.2.2)))) _).trans (((cell_far (p := ⟨gb174, _, none⟩) (by first | exact Kd.own_blk (Kd.R_away HO168.out (fun _ hk => hk.2.2.2)) | (rw [add_block]; exact Kd.own_blk (Kd.R_away HO168.out (fun _ hk => hk.2.2.2))) | (show (Addr.add _ _).block ≠ _; rw [add_block]; exact Kd.own_blk (Kd.R_away HO168.out (fun _ hk => hk.2.2.2))) | (dsimp only; exact Kd.own_blk (Kd.R_away HO168.out (fun _ hk => hk.2.2.2)))) _).trans (hHeld.2.2.2.2.1)))), ((cell_far (p := ⟨gb174, _, none⟩) (by first | exact Kd.own_blk (Kd.R_away HO168.out (fun _ hk => hk.2.2.2)) | (rw [add_block]; exact Kd.own_blk (Kd.R_away HO168.out (fun _ hk => hk.2.2.2))) | (show (Addr.add _ _).block ≠ _; rw [add_block]; exact Kd.own_blk (Kd.R_away HO168.out (fun _ hk => hk.2.2.2))) | (dsimp only; exact Kd.own_blk (Kd.R_away HO168.out (fun _ hk => hk.2.2.2)))) _).trans (((cell_far (p := ⟨gb174, _, none⟩) (by first | exact Kd.own_blk (Kd.R_away HO168.out (fun _ hk => hk.2.2.2)) | (rw [add_block]; exact Kd.own_blk (Kd.R_away HO168.out (fun _ hk => hk.2.2.2))) | (show (Addr.add _ _).block ≠ _; rw [add_block]; exact Kd.own_blk (Kd.R_away HO168.out (fun _ hk => hk.2.2.2))) | (dsimp only; exact Kd.own_blk (Kd.R_away HO168.out (fun _ hk => hk.2.2.2)))) _).trans (hHeld.2.2.2.2.2))))⟩ (fun hHeld => ?_)
          clear hK K
          refine done_ (done_of HT_.out (by kernel_rfl)) ?_
          have hnb45 := NB172_161.out
          have hnc45 := NB161_172.out
          have hnb46 := NB172_173.out
          have hnc46 := NB173_172.out
          have hnb47 := NB172_174.out
          have hnc47 := NB174_172.out
          have hcz48_0 : w38.cell? ⟨gb172, 0, none⟩ = some (.int .u64 0) := (blk_cell BK172.out 0).trans rfl
          have hcz48_1 : w38.cell? ⟨gb172, 1, none⟩ = some (.int .u64 0) := (blk_cell BK172.out 1).trans rfl
          have hfz48_0 := blk_frozen BK172.out 0
          have hfz48_1 := blk_frozen BK172.out 1
          have hnb49 := NB173_161.out
          have hnc49 := NB161_173.out
          have hnb50 := NB173_174.out
          have hnc50 := NB174_173.out
          have hcz51_0 : w38.cell? ⟨gb173, 0, none⟩ = some (.int .u64 0) := (blk_cell BK173.out 0).trans rfl
          have hcz51_1 : w38.cell? ⟨gb173, 1, none⟩ = some (.int .u64 0) := (blk_cell BK173.out 1).trans rfl
          have hfz51_0 := blk_frozen BK173.out 0
          have hfz51_1 := blk_frozen BK173.out 1
          try go_wp2_with (first | ((with_reducible refine gate_callee (f := 13) rfl ?_); refine goesL_ (some 35) rfl rfl Try.func13 (by kernel_rfl) rfl #[.int .i64 t165, .agg #[.int .u64 ((rd_T24 t166 0).f0), .int .u64 ((rd_T24 t166 0).f1)], .agg #[.int .u64 ((rd_T24 t166 1).f0), .int .u64 ((rd_T24 t166 1).f1)]] rfl (by (try simp only [List.map_toArray, List.map_cons, List.map_nil]); first | done | rfl | (simp only [List.length_drop, List.length_take]; rfl)) ?_; (with_reducible refine (tower_Mul.calls k t165 ((rd_T24 t166 0).f0) ((rd_T24 t166 0).f1) ((rd_T24 t166 1).f0) ((rd_T24 t166 1).f1) t175 t176 _ A7.out).mono ?_); rintro e w52 ⟨rfl, hb⟩; refine ⟨_, rfl, ?_⟩; have n0_ := Aside0.mk (Kd.R_below (by (with_reducible repeat (first | apply Kd.R_alloc | apply Kd.R_drewN | apply Kd.R_drew)); exact (Kd.R_mono (Kd.R_mono (Kd.R_mono (Kd.R_far (p := ⟨gb174, 1, none⟩) (Kd.R_far (p := ⟨gb174, 0, none⟩) (Kd.R_far (p := ⟨gb173, 1, none⟩) (Kd.R_far (p := ⟨gb173, 0, none⟩) (Kd.R_far (p := ⟨gb172, 1, none⟩) (Kd.R_far (p := ⟨gb172, 0, none⟩) (Kd.R_mono (Kd.R_mono (Kd.R_mono HO164.out (fun k_ hk => (⟨hk, hk.2.1⟩ : _ ∧ k_ ≠ gb172))) (fun k_ hk => (⟨hk, hk.1.2.2.1⟩ : _ ∧ k_ ≠ gb173))) (fun k_ hk => (⟨hk, hk.1.1.2.2.2⟩ : _ ∧ k_ ≠ gb174))) (fun _ hk => hk.1.1.2) (.int .u64 ((rd_T24 t166 0).f0))) (fun _ hk => hk.1.1.2) (.int .u64 ((rd_T24 t166 0).f1))) (fun _ hk => hk.1.2) (.int .u64 ((rd_T24 t166 1).f0))) (fun _ hk => hk.1.2) (.int .u64 ((rd_T24 t166 1).f1))) (fun _ hk => hk.2) (.int .u64 ((rd_T24 t166 2).f0))) (fun _ hk => hk.2) (.int .u64 ((rd_T24 t166 2).f1))) (fun _ h_ => h_.1)) (fun _ h_ => h_.1)) (fun _ h_ => h_.1))) hb); have n1_ := Aside0.mk (Kd.R_below (by (with_reducible repeat (first | apply Kd.R_alloc | apply Kd.R_drewN | apply Kd.R_drew)); exact (Kd.R_mono (Kd.R_mono (Kd.R_mono (Kd.R_far (p := ⟨gb174, 1, none⟩) (Kd.R_far (p := ⟨gb174, 0, none⟩) (Kd.R_far (p := ⟨gb173, 1, none⟩) (Kd.R_far (p := ⟨gb173, 0, none⟩) (Kd.R_far (p := ⟨gb172, 1, none⟩) (Kd.R_far (p := ⟨gb172, 0, none⟩) (Kd.R_mono (Kd.R_mono (Kd.R_mono HO168.out (fun k_ hk => (⟨hk, hk.2.1⟩ : _ ∧ k_ ≠ gb172))) (fun k_ hk => (⟨hk, hk.1.2.2.1⟩ : _ ∧ k_ ≠ gb173))) (fun k_ hk => (⟨hk, hk.1.1.2.2.2⟩ : _ ∧ k_ ≠ gb174))) (fun _ hk => hk.1.1.2) (.int .u64 ((rd_T24 t166 0).f0))) (fun _ hk => hk.1.1.2) (.int .u64 ((rd_T24 t166 0).f1))) (fun _ hk => hk.1.2) (.int .u64 ((rd_T24 t166 1).f0))) (fun _ hk => hk.1.2) (.int .u64 ((rd_T24 t166 1).f1))) (fun _ hk => hk.2) (.int .u64 ((rd_T24 t166 2).f0))) (fun _ hk => hk.2) (.int .u64 ((rd_T24 t166 2).f1))) (fun _ h_ => h_.1)) (fun _ h_ => h_.1)) (fun _ h_ => h_.1))) hb); have n2_ := Aside0.mk (blk_below (g := gb161) (o := .cells #[.int .u64 a1_0, .int .u64 a1_1, .int .u64 a1_2, .int .u64 a1_3, .int .u64 a1_4, .int .u64 a1_5] 26 (0, 0)) (by (with_reducible repeat (first | refine blk_drewN ?_ _ | refine blk_drew ?_ | refine blk_alloc ?_ _)); refine blk_far ?_ NB161_174.out _; (with_reducible repeat (first | refine blk_drewN ?_ _ | refine blk_drew ?_ | refine blk_alloc ?_ _)); refine blk_far ?_ NB161_174.out _; (with_reducible repeat (first | refine blk_drewN ?_ _ | refine blk_drew ?_ | refine blk_alloc ?_ _)); refine blk_far ?_ NB161_173.out _; (with_reducible repeat (first | refine blk_drewN ?_ _ | refine blk_drew ?_ | refine blk_alloc ?_ _)); refine blk_far ?_ NB161_173.out _; (with_reducible repeat (first | refine blk_drewN ?_ _ | refine blk_drew ?_ | refine blk_alloc ?_ _)); refine blk_far ?_ NB161_172.out _; (with_reducible repeat (first | refine blk_drewN ?_ _ | refine blk_drew ?_ | refine blk_alloc ?_ _)); refine blk_far ?_ NB161_172.out _; (with_reducible repeat (first | refine blk_drewN ?_ _ | refine blk_drew ?_ | refine blk_alloc ?_ _)); exact BK161.out) hb); have n3_ := Aside0.mk (blk_below (g := gb172) (o := .cells #[.int .u64 ((rd_T24 t166 0).f0), .int .u64 ((rd_T24 t166 0).f1)] 24 (0, 0)) (by (with_reducible repeat (first | refine blk_drewN ?_ _ | refine blk_drew ?_ | refine blk_alloc ?_ _)); refine blk_far ?_ NB172_174.out _; (with_reducible repeat (first | refine blk_drewN ?_ _ | refine blk_drew ?_ | refine blk_alloc ?_ _)); refine blk_far ?_ NB172_174.out _; (with_reducible repeat (first | refine blk_drewN ?_ _ | refine blk_drew ?_ | refine blk_alloc ?_ _)); refine blk_far ?_ NB172_173.out _; (with_reducible repeat (first | refine blk_drewN ?_ _ | refine blk_drew ?_ | refine blk_alloc ?_ _)); refine blk_far ?_ NB172_173.out _; (with_reducible repeat (first | refine blk_drewN ?_ _ | refine blk_drew ?_ | refine blk_alloc ?_ _)); refine blk_put (cs := #[.int .u64 ((rd_T24 t166 0).f0), .int .u64 0]) ?_ 1 _ rfl; (with_reducible repeat (first | refine blk_drewN ?_ _ | refine blk_drew ?_ | refine blk_alloc ?_ _)); refine blk_put (cs := #[.int .u64 0, .int .u64 0]) ?_ 0 _ rfl; (with_reducible repeat (first | refine blk_drewN ?_ _ | refine blk_drew ?_ | refine blk_alloc ?_ _)); exact BK172.out) hb); have n4_ := Aside0.mk (blk_below (g := gb173) (o := .cells #[.int .u64 ((rd_T24 t166 1).f0), .int .u64 ((rd_T24 t166 1).f1)] 24 (0, 0)) (by (with_reducible repeat (first | refine blk_drewN ?_ _ | refine blk_drew ?_ | refine blk_alloc ?_ _)); refine blk_far ?_ NB173_174.out _; (with_reducible repeat (first | refine blk_drewN ?_ _ | refine blk_drew ?_ | refine blk_alloc ?_ _)); refine blk_far ?_ NB173_174.out _; (with_reducible repeat (first | refine blk_drewN ?_ _ | refine blk_drew ?_ | refine blk_alloc ?_ _)); refine blk_put (cs := #[.int .u64 ((rd_T24 t166 1).f0), .int .u64 0]) ?_ 1 _ rfl; (with_reducible repeat (first | refine blk_drewN ?_ _ | refine blk_drew ?_ | refine blk_alloc ?_ _)); refine blk_put (cs := #[.int .u64 0, .int .u64 0]) ?_ 0 _ rfl; (with_reducible repeat (first | refine blk_drewN ?_ _ | refine blk_drew ?_ | refine blk_alloc ?_ _)); refine blk_far ?_ NB173_172.out _; (with_reducible repeat (first | refine blk_drewN ?_ _ | refine blk_drew ?_ | refine blk_alloc ?_ _)); refine blk_far ?_ NB173_172.out _; (with_reducible repeat (first | refine blk_drewN ?_ _ | refine blk_drew ?_ | refine blk_alloc ?_ _)); exact BK173.out) hb); have n5_ := Aside0.mk (blk_below (g := gb174) (o := .cells #[.int .u64 ((rd_T24 t166 2).f0), .int .u64 ((rd_T24 t166 2).f1)] 24 (0, 0)) (by (with_reducible repeat (first | refine blk_drewN ?_ _ | refine blk_drew ?_ | refine blk_alloc ?_ _)); refine blk_put (cs := #[.int .u64 ((rd_T24 t166 2).f0), .int .u64 0]) ?_ 1 _ rfl; (with_reducible repeat (first | refine blk_drewN ?_ _ | refine blk_drew ?_ | refine blk_alloc ?_ _)); refine blk_put (cs := #[.int .u64 0, .int .u64 0]) ?_ 0 _ rfl; (with_reducible repeat (first | refine blk_drewN ?_ _ | refine blk_drew ?_ | refine blk_alloc ?_ _)); refine blk_far ?_ NB174_173.out _; (with_reducible repeat (first | refine blk_drewN ?_ _ | refine blk_drew ?_ | refine blk_alloc ?_ _)); refine blk_far ?_ NB174_173.out _; (with_reducible repeat (first | refine blk_drewN ?_ _ | refine blk_drew ?_ | refine blk_alloc ?_ _)); refine blk_far ?_ NB174_172.out _; (with_reducible repeat (first | refine blk_drewN ?_ _ | refine blk_drew ?_ | refine blk_alloc ?_ _)); refine blk_far ?_ NB174_172.out _; (with_reducible repeat (first | refine blk_drewN ?_ _ | refine blk_drew ?_ | refine blk_alloc ?_ _)); exact BK174.out) hb); have n6_ := Aside0.mk (below_step (by repeat (first | (with_reducible first | exact HB.out | apply below_alloc | apply pw_below_drewN | apply below_drew1 | refine below_set ?_ GE161.out | refine below_set ?_ GE172.out | refine below_set ?_ GE173.out | refine below_set ?_ GE174.out) | exact HB.out)) hb); clear HO164; clear HO168; clear BK161; clear BK172; clear BK173; clear BK174; clear HB; have HO164 := n0_; have HO168 := n1_; have BK161 := n2_; have BK172 := n3_; have BK173 := n4_; have BK174 := n5_; have HB := n6_; clear n0_ n1_ n2_ n3_ n4_ n5_ n6_; (try clear hb); (try clear hb2); (try clear hk); (try clear hi)) | ((with_reducible refine gate_dst (N := 10) rfl ?_); (try (refine gate_guard (by rfl) ?_; dsimp only)); refine box_event ?hg (N := 10) ?hd (cs := #[.int .u64 0, .int .u64 0]) (t := 24) ?hr ?_; (case hd => rfl); (case hg => rfl); (case hr => first | (go_simp; done) | (go_simp; rfl)); intro gb177 hg w53 hbox hb; have n0_ := Aside0.mk (Kd.R_below (Kd.R_elderB (by (with_reducible repeat (first | apply Kd.R_alloc | apply Kd.R_drewN | apply Kd.R_drew)); exact HO164.out) gb177 (Nat.le_of_eq hg.symm)) hb); have n1_ := Aside0.mk (Kd.R_below (Kd.R_elderB (by (with_reducible repeat (first | apply Kd.R_alloc | apply Kd.R_drewN | apply Kd.R_drew)); exact HO168.out) gb177 (Nat.le_of_eq hg.symm)) hb); have n2_ := Aside0.mk (blk_below (g := gb161) (o := .cells #[.int .u64 a1_0, .int .u64 a1_1, .int .u64 a1_2, .int .u64 a1_3, .int .u64 a1_4, .int .u64 a1_5] 26 (0, 0)) (by (with_reducible repeat (first | refine blk_drewN ?_ _ | refine blk_drew ?_ | refine blk_alloc ?_ _)); exact BK161.out) hb); have n3_ := Aside0.mk (blk_below (g := gb172) (o := .cells #[.int .u64 ((rd_T24 t166 0).f0), .int .u64 ((rd_T24 t166 0).f1)] 24 (0, 0)) (by (with_reducible repeat (first | refine blk_drewN ?_ _ | refine blk_drew ?_ | refine blk_alloc ?_ _)); exact BK172.out) hb); have n4_ := Aside0.mk (blk_below (g := gb173) (o := .cells #[.int .u64 ((rd_T24 t166 1).f0), .int .u64 ((rd_T24 t166 1).f1)] 24 (0, 0)) (by (with_reducible repeat (first | refine blk_drewN ?_ _ | refine blk_drew ?_ | refine blk_alloc ?_ _)); exact BK173.out) hb); have n5_ := Aside0.mk (blk_below (g := gb174) (o := .cells #[.int .u64 ((rd_T24 t166 2).f0), .int .u64 ((rd_T24 t166 2).f1)] 24 (0, 0)) (by (with_reducible repeat (first | refine blk_drewN ?_ _ | refine blk_drew ?_ | refine blk_alloc ?_ _)); exact BK174.out) hb); have n6_ := Aside0.mk (below_step (by repeat (first | (with_reducible first | exact HB.out | apply below_alloc | apply pw_below_drewN | apply below_drew1 | refine below_set ?_ GE161.out | refine below_set ?_ GE172.out | refine below_set ?_ GE173.out | refine below_set ?_ GE174.out) | exact HB.out)) hb); have n7_ := Aside0.mk (hbox); have n8_ := Aside0.mk ((by rw [hg]; exact (below_size (by repeat (first | (with_reducible first | exact HB.out | apply below_alloc | apply pw_below_drewN | apply below_drew1 | refine below_set ?_ GE161.out | refine below_set ?_ GE172.out | refine below_set ?_ GE173.out | refine below_set ?_ GE174.out) | exact HB.out))) : w.heap.size ≤ gb177)); have n9_ := Aside0.mk ((by rw [hg]; exact (below_size (by repeat (first | (with_reducible first | exact HB.out | apply below_alloc | apply pw_below_drewN | apply below_drew1 | refine below_set ?_ GE161.out | refine below_set ?_ GE172.out | refine below_set ?_ GE173.out | refine below_set ?_ GE174.out) | exact HB.out))) : w.heap.size ≤ gb177)); have n10_ := Aside0.mk ((by rw [hg]; exact Nat.ne_of_lt (blk_lt (g := gb161) (o := .cells #[.int .u64 a1_0, .int .u64 a1_1, .int .u64 a1_2, .int .u64 a1_3, .int .u64 a1_4, .int .u64 a1_5] 26 (0, 0)) (by (with_reducible repeat (first | refine blk_drewN ?_ _ | refine blk_drew ?_ | refine blk_alloc ?_ _)); exact BK161.out)) : gb161 ≠ gb177)); have n11_ := Aside0.mk ((by rw [hg]; exact Nat.ne_of_gt (blk_lt (g := gb161) (o := .cells #[.int .u64 a1_0, .int .u64 a1_1, .int .u64 a1_2, .int .u64 a1_3, .int .u64 a1_4, .int .u64 a1_5] 26 (0, 0)) (by (with_reducible repeat (first | refine blk_drewN ?_ _ | refine blk_drew ?_ | refine blk_alloc ?_ _)); exact BK161.out)) : gb177 ≠ gb161)); have n12_ := Aside0.mk ((by rw [hg]; exact Nat.ne_of_lt (blk_lt (g := gb172) (o := .cells #[.int .u64 ((rd_T24 t166 0).f0), .int .u64 ((rd_T24 t166 0).f1)] 24 (0, 0)) (by (with_reducible repeat (first | refine blk_drewN ?_ _ | refine blk_drew ?_ | refine blk_alloc ?_ _)); exact BK172.out)) : gb172 ≠ gb177)); have n13_ := Aside0.mk ((by rw [hg]; exact Nat.ne_of_gt (blk_lt (g := gb172) (o := .cells #[.int .u64 ((rd_T24 t166 0).f0), .int .u64 ((rd_T24 t166 0).f1)] 24 (0, 0)) (by (with_reducible repeat (first | refine blk_drewN ?_ _ | refine blk_drew ?_ | refine blk_alloc ?_ _)); exact BK172.out)) : gb177 ≠ gb172)); have n14_ := Aside0.mk ((by rw [hg]; exact Nat.ne_of_lt (blk_lt (g := gb173) (o := .cells #[.int .u64 ((rd_T24 t166 1).f0), .int .u64 ((rd_T24 t166 1).f1)] 24 (0, 0)) (by (with_reducible repeat (first | refine blk_drewN ?_ _ | refine blk_drew ?_ | refine blk_alloc ?_ _)); exact BK173.out)) : gb173 ≠ gb177)); have n15_ := Aside0.mk ((by rw [hg]; exact Nat.ne_of_gt (blk_lt (g := gb173) (o := .cells #[.int .u64 ((rd_T24 t166 1).f0), .int .u64 ((rd_T24 t166 1).f1)] 24 (0, 0)) (by (with_reducible repeat (first | refine blk_drewN ?_ _ | refine blk_drew ?_ | refine blk_alloc ?_ _)); exact BK173.out)) : gb177 ≠ gb173)); have n16_ := Aside0.mk ((by rw [hg]; exact Nat.ne_of_lt (blk_lt (g := gb174) (o := .cells #[.int .u64 ((rd_T24 t166 2).f0), .int .u64 ((rd_T24 t166 2).f1)] 24 (0, 0)) (by (with_reducible repeat (first | refine blk_drewN ?_ _ | refine blk_drew ?_ | refine blk_alloc ?_ _)); exact BK174.out)) : gb174 ≠ gb177)); have n17_ := Aside0.mk ((by rw [hg]; exact Nat.ne_of_gt (blk_lt (g := gb174) (o := .cells #[.int .u64 ((rd_T24 t166 2).f0), .int .u64 ((rd_T24 t166 2).f1)] 24 (0, 0)) (by (with_reducible repeat (first | refine blk_drewN ?_ _ | refine blk_drew ?_ | refine blk_alloc ?_ _)); exact BK174.out)) : gb177 ≠ gb174)); clear HO164; clear HO168; clear BK161; clear BK172; clear BK173; clear BK174; clear HB; have HO164 := n0_; have HO168 := n1_; have BK161 := n2_; have BK172 := n3_; have BK173 := n4_; have BK174 := n5_; have HB := n6_; have BK177 := n7_; have GW177 := n8_; have GE177 := n9_; have NB161_177 := n10_; have NB177_161 := n11_; have NB172_177 := n12_; have NB177_172 := n13_; have NB173_177 := n14_; have NB177_173 := n15_; have NB174_177 := n16_; have NB177_174 := n17_; clear n0_ n1_ n2_ n3_ n4_ n5_ n6_ n7_ n8_ n9_ n10_ n11_ n12_ n13_ n14_ n15_ n16_ n17_; clear hb hbox hg; have hnb54 := NB177_161.out; have hnc54 := NB161_177.out; have hnb55 := NB177_172.out; have hnc55 := NB172_177.out; have hnb56 := NB177_173.out; have hnc56 := NB173_177.out; have hnb57 := NB177_174.out; have hnc57 := NB174_177.out; have hcz58_0 : w53.cell? ⟨gb177, 0, none⟩ = some (.int .u64 0) := (blk_cell BK177.out 0).trans rfl; have hcz58_1 : w53.cell? ⟨gb177, 1, none⟩ = some (.int .u64 0) := (blk_cell BK177.out 1).trans rfl; have hfz58_0 := blk_frozen BK177.out 0; have hfz58_1 := blk_frozen BK177.out 1))
          have n0_ : Aside0 (Kd.R k24 24 ((w53.setCell ⟨gb177, 0, none⟩ (.int .u64 t175)).setCell ⟨gb177, 1, none⟩ (.int .u64 t176)) w.heap.size (fun k_ => some k_ ≠ (.slice (some ad169) t166.length co34 : Value).ownBlock ∧ k_ ≠ gb172 ∧ k_ ≠ gb173 ∧ k_ ≠ gb174 ∧ k_ ≠ gb177) (.slice Ao31 y162.length co31) y162) := ⟨by (with_reducible repeat (first | apply Kd.R_alloc | apply Kd.R_drewN | apply Kd.R_drew)); exact Kd.R_mono (Kd.R_far (p := ⟨gb177, 1, none⟩) (Kd.R_far (p := ⟨gb177, 0, none⟩) (Kd.R_mono HO164.out (fun k_ hk => (⟨hk, hk.2⟩ : _ ∧ k_ ≠ gb177))) (fun _ hk => hk.2) (.int .u64 t175)) (fun _ hk => hk.2) (.int .u64 t176)) (fun _ hk => ⟨hk.1.1.1, ⟨hk.1.1.2.1, ⟨hk.1.1.2.2.1, ⟨hk.1.1.2.2.2, hk.1.2⟩⟩⟩⟩)⟩
          have n1_ : Aside0 (Kd.R k24 24 ((w53.setCell ⟨gb177, 0, none⟩ (.int .u64 t175)).setCell ⟨gb177, 1, none⟩ (.int .u64 t176)) w.heap.size (fun k_ => some k_ ≠ (.slice Ao31 y162.length co31 : Value).ownBlock ∧ k_ ≠ gb172 ∧ k_ ≠ gb173 ∧ k_ ≠ gb174 ∧ k_ ≠ gb177) (.slice (some ad169) t166.length co34) t166) := ⟨by (with_reducible repeat (first | apply Kd.R_alloc | apply Kd.R_drewN | apply Kd.R_drew)); exact Kd.R_mono (Kd.R_far (p := ⟨gb177, 1, none⟩) (Kd.R_far (p := ⟨gb177, 0, none⟩) (Kd.R_mono HO168.out (fun k_ hk => (⟨hk, hk.2⟩ : _ ∧ k_ ≠ gb177))) (fun _ hk => hk.2) (.int .u64 t175)) (fun _ hk => hk.2) (.int .u64 t176)) (fun _ hk => ⟨hk.1.1.1, ⟨hk.1.1.2.1, ⟨hk.1.1.2.2.1, ⟨hk.1.1.2.2.2, hk.1.2⟩⟩⟩⟩)⟩
          have n2_ : Aside0 (((w53.setCell ⟨gb177, 0, none⟩ (.int .u64 t175)).setCell ⟨gb177, 1, none⟩ (.int .u64 t176)).heap[gb161]? = some (.cells #[.int .u64 a1_0, .int .u64 a1_1, .int .u64 a1_2, .int .u64 a1_3, .int .u64 a1_4, .int .u64 a1_5] 26 (0, 0))) := ⟨by (with_reducible repeat (first | refine blk_drewN ?_ _ | refine blk_drew ?_ | refine blk_alloc ?_ _)); refine blk_far ?_ NB161_177.out _; (with_reducible repeat (first | refine blk_drewN ?_ _ | refine blk_drew ?_ | refine blk_alloc ?_ _)); refine blk_far ?_ NB161_177.out _; (with_reducible repeat (first | refine blk_drewN ?_ _ | refine blk_drew ?_ | refine blk_alloc ?_ _)); exact BK161.out⟩
          have n3_ : Aside0 (((w53.setCell ⟨gb177, 0, none⟩ (.int .u64 t175)).setCell ⟨gb177, 1, none⟩ (.int .u64 t176)).heap[gb172]? = some (.cells #[.int .u64 ((rd_T24 t166 0).f0), .int .u64 ((rd_T24 t166 0).f1)] 24 (0, 0))) := ⟨by (with_reducible repeat (first | refine blk_drewN ?_ _ | refine blk_drew ?_ | refine blk_alloc ?_ _)); refine blk_far ?_ NB172_177.out _; (with_reducible repeat (first | refine blk_drewN ?_ _ | refine blk_drew ?_ | refine blk_alloc ?_ _)); refine blk_far ?_ NB172_177.out _; (with_reducible repeat (first | refine blk_drewN ?_ _ | refine blk_drew ?_ | refine blk_alloc ?_ _)); exact BK172.out⟩
          have n4_ : Aside0 (((w53.setCell ⟨gb177, 0, none⟩ (.int .u64 t175)).setCell ⟨gb177, 1, none⟩ (.int .u64 t176)).heap[gb173]? = some (.cells #[.int .u64 ((rd_T24 t166 1).f0), .int .u64 ((rd_T24 t166 1).f1)] 24 (0, 0))) := ⟨by (with_reducible repeat (first | refine blk_drewN ?_ _ | refine blk_drew ?_ | refine blk_alloc ?_ _)); refine blk_far ?_ NB173_177.out _; (with_reducible repeat (first | refine blk_drewN ?_ _ | refine blk_drew ?_ | refine blk_alloc ?_ _)); refine blk_far ?_ NB173_177.out _; (with_reducible repeat (first | refine blk_drewN ?_ _ | refine blk_drew ?_ | refine blk_alloc ?_ _)); exact BK173.out⟩
          have n5_ : Aside0 (((w53.setCell ⟨gb177, 0, none⟩ (.int .u64 t175)).setCell ⟨gb177, 1, none⟩ (.int .u64 t176)).heap[gb174]? = some (.cells #[.int .u64 ((rd_T24 t166 2).f0), .int .u64 ((rd_T24 t166 2).f1)] 24 (0, 0))) := ⟨by (with_reducible repeat (first | refine blk_drewN ?_ _ | refine blk_drew ?_ | refine blk_alloc ?_ _)); refine blk_far ?_ NB174_177.out _; (with_reducible repeat (first | refine blk_drewN ?_ _ | refine blk_drew ?_ | refine blk_alloc ?_ _)); refine blk_far ?_ NB174_177.out _; (with_reducible repeat (first | refine blk_drewN ?_ _ | refine blk_drew ?_ | refine blk_alloc ?_ _)); exact BK174.out⟩
          have n6_ : Aside0 (((w53.setCell ⟨gb177, 0, none⟩ (.int .u64 t175)).setCell ⟨gb177, 1, none⟩ (.int .u64 t176)).heap[gb177]? = some (.cells #[.int .u64 t175, .int .u64 t176] 24 (0, 0))) := ⟨by (with_reducible repeat (first | refine blk_drewN ?_ _ | refine blk_drew ?_ | refine blk_alloc ?_ _)); refine blk_put (cs := #[.int .u64 t175, .int .u64 0]) ?_ 1 _ rfl; (with_reducible repeat (first | refine blk_drewN ?_ _ | refine blk_drew ?_ | refine blk_alloc ?_ _)); refine blk_put (cs := #[.int .u64 0, .int .u64 0]) ?_ 0 _ rfl; (with_reducible repeat (first | refine blk_drewN ?_ _ | refine blk_drew ?_ | refine blk_alloc ?_ _)); exact BK177.out⟩
          have n7_ : Aside0 (Below w.heap.size w ((w53.setCell ⟨gb177, 0, none⟩ (.int .u64 t175)).setCell ⟨gb177, 1, none⟩ (.int .u64 t176))) := ⟨by repeat (first | (with_reducible first | exact HB.out | apply below_alloc | apply pw_below_drewN | apply below_drew1 | refine below_set ?_ GE161.out | refine below_set ?_ GE172.out | refine below_set ?_ GE173.out | refine below_set ?_ GE174.out | refine below_set ?_ GE177.out) | exact HB.out)⟩
          (try clear HO164)
          (try clear HO168)
          (try clear BK161)
          (try clear BK172)
          (try clear BK173)
          (try clear BK174)
          (try clear BK177)
          (try clear HB)
          generalize ((w53.setCell ⟨gb177, 0, none⟩ (.int .u64 t175)).setCell ⟨gb177, 1, none⟩ (.int .u64 t176)) = w59 at n0_ n1_ n2_ n3_ n4_ n5_ n6_ n7_ ⊢
          have HO164 := n0_
          have HO168 := n1_
          have BK161 := n2_
          have BK172 := n3_
          have BK173 := n4_
          have BK174 := n5_
          have BK177 := n6_
          have HB := n7_
          clear n0_ n1_ n2_ n3_ n4_ n5_ n6_ n7_
          have n0_ := Aside0.mk (Kd.R_drew HO164.out)
          have n1_ := Aside0.mk (Kd.R_drew HO168.out)
          have n2_ := Aside0.mk (blk_drew BK161.out)
          have n3_ := Aside0.mk (blk_drew BK172.out)
          have n4_ := Aside0.mk (blk_drew BK173.out)
          have n5_ := Aside0.mk (blk_drew BK174.out)
          have n6_ := Aside0.mk (blk_drew BK177.out)
          have n7_ := Aside0.mk (below_drew1 HB.out)
          clear HO164
          clear HO168
          clear BK161
          clear BK172
          clear BK173
          clear BK174
          clear BK177
          clear HB
          have HO164 := n0_
          have HO168 := n1_
          have BK161 := n2_
          have BK172 := n3_
          have BK173 := n4_
          have BK174 := n5_
          have BK177 := n6_
          have HB := n7_
          clear n0_ n1_ n2_ n3_ n4_ n5_ n6_ n7_
          refine start_ (n := 35) (S := fun w' => w'.cell? ⟨gb177, 0, none⟩ = some (.int .u64 t175) ∧ w'.cell? ⟨gb177, 1, none⟩ = some (.int .u64 t176) ∧ w'.cell? ⟨gb173, 0, none⟩ = some (.int .u64 ((rd_T24 t166 1).f0)) ∧ w'.cell? ⟨gb173, 1, none⟩ = some (.int .u64 ((rd_T24 t166 1).f1)) ∧ w'.cell? ⟨gb172, 0, none⟩ = some (.int .u64 ((rd_T24 t166 0).f0)) ∧ w'.cell? ⟨gb172, 1, none⟩ = some (.int .u64 ((rd_T24 t166 0).f1)) ∧ w'.cell? ⟨gb174, 0, none⟩ = some (.int .u64 ((rd_T24 t166 2).f0)) ∧ w'.cell? ⟨gb174, 1, none⟩ = some (.int .u64 ((rd_T24 t166 2).f1))) (ds := []) #[false, false, false, false, false, false, false, false, false, false, false, false, false, false, false, false, false, false, false, false, false, false, false, false, false, false, false, false, false, false, false, false, false, false, false] (by kernel_rfl) rfl rfl ⟨(blk_cell BK177.out 0).trans rfl, (blk_cell BK177.out 1).trans rfl, (blk_cell BK173.out 0).trans rfl, (blk_cell BK173.out 1).trans rfl, (blk_cell BK172.out 0).trans rfl, (blk_cell BK172.out 1).trans rfl, (blk_cell BK174.out 0).trans rfl, (blk_cell BK174.out 1).trans rfl⟩ (fun hHeld => ?_); refine with_tabW steeplelaw02_TowerRing.tab4 steeplelaw02_TowerRing.bits4 (fun HT_ HW_ => ?_)
          generalize w59.drew = w60 at HO164 HO168 BK161 BK172 BK173 BK174 BK177 HB hHeld ⊢
          refine pure_ (i := 1) (N := some 37) (v := ?_) (a' := ?_) #[false, true, false, false, false, false, false, false, false, false, false, false, false, false, false, false, false, false, false, false, false, false, false, false, false, false, false, false, false, false, false, false, false, false, false] rfl rfl (any_of HT_.out (by kernel_rfl)) (fun _ _ _ h => h) (Or.inl ⟨by rfl, ?_⟩) ?_ ?_
          rotate_left
          ·intro w'
           go_simp
           with_reducible rfl
          rotate_left
          ·simp only [Act.put, List.setIfInBounds_toArray, List.set_cons_zero, List.set_cons_succ, i64_w, i32_w]
           rfl
          refine take_ (i := 0) (N := some 36) (v := ?_) (a' := ?_) #[true, true, false, false, false, false, false, false, false, false, false, false, false, false, false, false, false, false, false, false, false, false, false, false, false, false, false, false, false, false, false, false, false, false, false] rfl rfl (take_ofW HT_.out HW_.out (by kernel_rfl)) (fun _ _ _ h => h) (Or.inl ⟨by rfl, ?_⟩) hHeld ?_ ?_
          rotate_left
          ·rintro w' ⟨s0, s1, s2, s3, s4, s5, s6, s7⟩
           go_simp
           with_reducible rfl
          rotate_left
          ·simp only [Act.put, List.setIfInBounds_toArray, List.set_cons_zero, List.set_cons_succ, i64_w, i32_w]
           rfl
          refine take_ (i := 2) (N := some 38) (v := ?_) (a' := ?_) #[true, true, true, false, false, false, false, false, false, false, false, false, false, false, false, false, false, false, false, false, false, false, false, false, false, false, false, false, false, false, false, false, false, false, false] rfl rfl (take_ofW HT_.out HW_.out (by kernel_rfl)) (fun _ _ _ h => h) (Or.inl ⟨by rfl, ?_⟩) hHeld ?_ ?_
          rotate_left
          ·rintro w' ⟨s0, s1, s2, s3, s4, s5, s6, s7⟩
           go_simp
           with_reducible rfl
          rotate_left
          ·simp only [Act.put, List.setIfInBounds_toArray, List.set_cons_zero, List.set_cons_succ, i64_w, i32_w]
           rfl
          refine take_ (i := 3) (N := some 39) (v := ?_) (a' := ?_) #[true, true, true, true, false, false, false, false, false, false, false, false, false, false, false, false, false, false, false, false, false, false, false, false, false, false, false, false, false, false, false, false, false, false, false] rfl rfl (take_ofW HT_.out HW_.out (by kernel_rfl)) (fun _ _ _ h => h) (Or.inl ⟨by rfl, ?_⟩) hHeld ?_ ?_
          rotate_left
          ·rintro w' ⟨s0, s1, s2, s3, s4, s5, s6, s7⟩
           go_simp
           with_reducible rfl
          rotate_left
          ·simp only [Act.put, List.setIfInBounds_toArray, List.set_cons_zero, List.set_cons_succ, i64_w, i32_w]
           rfl
          refine one_ (i := 4) (N := some 40) #[true, true, true, true, true, false, false, false, false, false, false, false, false, false, false, false, false, false, false, false, false, false, false, false, false, false, false, false, false, false, false, false, false, false, false] rfl rfl (one_of HT_.out (by kernel_rfl)) (by decide) (fun K hK => ?_)
          refine goes_ Try.func13 (by kernel_rfl) rfl #[.int .i64 t165, .agg #[.int .u64 ((rd_T24 t166 1).f0), .int .u64 ((rd_T24 t166 1).f1)], .agg #[.int .u64 ((rd_T24 t166 0).f0), .int .u64 ((rd_T24 t166 0).f1)]] (by rfl) rfl rfl (by (try simp only [List.map_toArray, List.map_cons, List.map_nil]); first | done | rfl | (simp only [List.length_drop, List.length_take]; rfl)) ?_
          with_reducible refine (tower_Mul.calls k t165 ((rd_T24 t166 1).f0) ((rd_T24 t166 1).f1) ((rd_T24 t166 0).f0) ((rd_T24 t166 0).f1) t178 t179 _ A8.out).mono ?_
          rintro e w61 ⟨rfl, hb⟩
          refine ⟨_, rfl, ?_⟩
          have n0_ := Aside0.mk (Kd.R_below (by (with_reducible repeat (first | apply Kd.R_alloc | apply Kd.R_drewN | apply Kd.R_drew)); exact HO164.out) hb)
          have n1_ := Aside0.mk (Kd.R_below (by (with_reducible repeat (first | apply Kd.R_alloc | apply Kd.R_drewN | apply Kd.R_drew)); exact HO168.out) hb)
          have n2_ := Aside0.mk (blk_below (g := gb161) (o := .cells #[.int .u64 a1_0, .int .u64 a1_1, .int .u64 a1_2, .int .u64 a1_3, .int .u64 a1_4, .int .u64 a1_5] 26 (0, 0)) (by (with_reducible repeat (first | refine blk_drewN ?_ _ | refine blk_drew ?_ | refine blk_alloc ?_ _)); exact BK161.out) hb)
          have n3_ := Aside0.mk (blk_below (g := gb172) (o := .cells #[.int .u64 ((rd_T24 t166 0).f0), .int .u64 ((rd_T24 t166 0).f1)] 24 (0, 0)) (by (with_reducible repeat (first | refine blk_drewN ?_ _ | refine blk_drew ?_ | refine blk_alloc ?_ _)); exact BK172.out) hb)
          have n4_ := Aside0.mk (blk_below (g := gb173) (o := .cells #[.int .u64 ((rd_T24 t166 1).f0), .int .u64 ((rd_T24 t166 1).f1)] 24 (0, 0)) (by (with_reducible repeat (first | refine blk_drewN ?_ _ | refine blk_drew ?_ | refine blk_alloc ?_ _)); exact BK173.out) hb)
          have n5_ := Aside0.mk (blk_below (g := gb174) (o := .cells #[.int .u64 ((rd_T24 t166 2).f0), .int .u64 ((rd_T24 t166 2).f1)] 24 (0, 0)) (by (with_reducible repeat (first | refine blk_drewN ?_ _ | refine blk_drew ?_ | refine blk_alloc ?_ _)); exact BK174.out) hb)
          have n6_ := Aside0.mk (blk_below (g := gb177) (o := .cells #[.int .u64 t175, .int .u64 t176] 24 (0, 0)) (by (with_reducible repeat (first | refine blk_drewN ?_ _ | refine blk_drew ?_ | refine blk_alloc ?_ _)); exact BK177.out) hb)
          have n7_ := Aside0.mk (below_step (by repeat (first | (with_reducible first | exact HB.out | apply below_alloc | apply pw_below_drewN | apply below_drew1 | refine below_set ?_ GE161.out | refine below_set ?_ GE172.out | refine below_set ?_ GE173.out | refine below_set ?_ GE174.out | refine below_set ?_ GE177.out) | exact HB.out)) hb)
          clear HO164
          clear HO168
          clear BK161
          clear BK172
          clear BK173
          clear BK174
          clear BK177
          clear HB
          have HO164 := n0_
          have HO168 := n1_
          have BK161 := n2_
          have BK172 := n3_
          have BK173 := n4_
          have BK174 := n5_
          have BK177 := n6_
          have HB := n7_
          clear n0_ n1_ n2_ n3_ n4_ n5_ n6_ n7_
          (try clear hb)
          (try clear hb2)
          (try clear hk)
          (try clear hi)
          refine hK.out _ _ ⟨(blk_cell BK177.out 0).trans rfl, (blk_cell BK177.out 1).trans rfl, (blk_cell BK173.out 0).trans rfl, (blk_cell BK173.out 1).trans rfl, (blk_cell BK172.out 0).trans rfl, (blk_cell BK172.out 1).trans rfl, (blk_cell BK174.out 0).trans rfl, (blk_cell BK174.out 1).trans rfl⟩ (fun hHeld => ?_)
          clear hK K
          refine norm_ (a' := ?_) ?_ ?_
          rotate_left
          ·show Act.put _ (some 40) _ = _
           simp only [Act.put, List.setIfInBounds_toArray, List.set_cons_zero, List.set_cons_succ, i64_w, i32_w]
           rfl
          refine pure_ (i := 5) (N := some 41) (v := ?_) (a' := ?_) #[true, true, true, true, true, true, false, false, false, false, false, false, false, false, false, false, false, false, false, false, false, false, false, false, false, false, false, false, false, false, false, false, false, false, false] rfl rfl (any_of HT_.out (by kernel_rfl)) (fun _ _ _ h => h) (Or.inl ⟨by rfl, ?_⟩) ?_ ?_
          rotate_left
          ·intro w'
           go_simp
           with_reducible rfl
          rotate_left
          ·simp only [Act.put, List.setIfInBounds_toArray, List.set_cons_zero, List.set_cons_succ, i64_w, i32_w]
           rfl
          refine pure_ (i := 6) (N := some 42) (v := ?_) (a' := ?_) #[true, true, true, true, true, true, true, false, false, false, false, false, false, false, false, false, false, false, false, false, false, false, false, false, false, false, false, false, false, false, false, false, false, false, false] rfl rfl (any_of HT_.out (by kernel_rfl)) (fun _ _ _ h => h) (Or.inl ⟨by rfl, ?_⟩) ?_ ?_
          rotate_left
          ·intro w'
           go_simp
           with_reducible rfl
          rotate_left
          ·simp only [Act.put, List.setIfInBounds_toArray, List.set_cons_zero, List.set_cons_succ, i64_w, i32_w]
           rfl
          refine pure_ (i := 7) (N := some 43) (v := ?_) (a' := ?_) #[true, true, true, true, true, true, true, true, false, false, false, false, false, false, false, false, false, false, false, false, false, false, false, false, false, false, false, false, false, false, false, false, false, false, false] rfl rfl (any_of HT_.out (by kernel_rfl)) (fun _ _ _ h => h) (Or.inl ⟨by rfl, ?_⟩) ?_ ?_
          rotate_left
          ·intro w'
           go_simp
           with_reducible rfl
          rotate_left
          ·simp only [Act.put, List.setIfInBounds_toArray, List.set_cons_zero, List.set_cons_succ, i64_w, i32_w]
           rfl
          refine pure_ (i := 11) (N := some 47) (v := ?_) (a' := ?_) #[true, true, true, true, true, true, true, true, false, false, false, true, false, false, false, false, false, false, false, false, false, false, false, false, false, false, false, false, false, false, false, false, false, false, false] rfl rfl (any_of HT_.out (by kernel_rfl)) (fun _ _ _ h => h) (Or.inl ⟨by rfl, ?_⟩) ?_ ?_
          rotate_left
          ·intro w'
           go_simp
           with_reducible rfl
          rotate_left
          ·simp only [Act.put, List.setIfInBounds_toArray, List.set_cons_zero, List.set_cons_succ, i64_w, i32_w]
           rfl
          refine pure_ (i := 13) (N := some 49) (v := ?_) (a' := ?_) #[true, true, true, true, true, true, true, true, false, false, false, true, false, true, false, false, false, false, false, false, false, false, false, false, false, false, false, false, false, false, false, false, false, false, false] rfl rfl (any_of HT_.out (by kernel_rfl)) (fun _ _ _ h => h) (Or.inl ⟨by rfl, ?_⟩) ?_ ?_
          rotate_left
          ·intro w'
           go_simp
           with_reducible rfl
          rotate_left
          ·simp only [Act.put, List.setIfInBounds_toArray, List.set_cons_zero, List.set_cons_succ, i64_w, i32_w]
           rfl
          refine take_ (i := 8) (N := some 44) (v := ?_) (a' := ?_) #[true, true, true, true, true, true, true, true, true, false, false, true, false, true, false, false, false, false, false, false, false, false, false, false, false, false, false, false, false, false, false, false, false, false, false] rfl rfl (take_ofW HT_.out HW_.out (by kernel_rfl)) (fun _ _ _ h => h) (Or.inl ⟨by rfl, ?_⟩) hHeld ?_ ?_
          rotate_left
          ·rintro w' ⟨s0, s1, s2, s3, s4, s5, s6, s7⟩
           go_simp
           with_reducible rfl
          rotate_left
          ·simp only [Act.put, List.setIfInBounds_toArray, List.set_cons_zero, List.set_cons_succ, i64_w, i32_w]
           rfl
          refine take_ (i := 9) (N := some 45) (v := ?_) (a' := ?_) #[true, true, true, true, true, true, true, true, true, true, false, true, false, true, false, false, false, false, false, false, false, false, false, false, false, false, false, false, false, false, false, false, false, false, false] rfl rfl (take_ofW HT_.out HW_.out (by kernel_rfl)) (fun _ _ _ h => h) (Or.inl ⟨by rfl, ?_⟩) hHeld ?_ ?_
          rotate_left
          ·rintro w' ⟨s0, s1, s2, s3, s4, s5, s6, s7⟩
           go_simp
           with_reducible rfl
          rotate_left
          ·simp only [Act.put, List.setIfInBounds_toArray, List.set_cons_zero, List.set_cons_succ, i64_w, i32_w]
           rfl
          refine take_ (i := 12) (N := some 48) (v := ?_) (a' := ?_) #[true, true, true, true, true, true, true, true, true, true, false, true, true, true, false, false, false, false, false, false, false, false, false, false, false, false, false, false, false, false, false, false, false, false, false] rfl rfl (take_ofW HT_.out HW_.out (by kernel_rfl)) (fun _ _ _ h => h) (Or.inl ⟨by rfl, ?_⟩) hHeld ?_ ?_
          rotate_left
          ·rintro w' ⟨s0, s1, s2, s3, s4, s5, s6, s7⟩
           go_simp
           with_reducible rfl
          rotate_left
          ·simp only [Act.put, List.setIfInBounds_toArray, List.set_cons_zero, List.set_cons_succ, i64_w, i32_w]
           rfl
          refine take_ (i := 14) (N := some 50) (v := ?_) (a' := ?_) #[true, true, true, true, true, true, true, true, true, true, false, true, true, true, true, false, false, false, false, false, false, false, false, false, false, false, false, false, false, false, false, false, false, false, false] rfl rfl (take_ofW HT_.out HW_.out (by kernel_rfl)) (fun _ _ _ h => h) (Or.inl ⟨by rfl, ?_⟩) hHeld ?_ ?_
          rotate_left
          ·rintro w' ⟨s0, s1, s2, s3, s4, s5, s6, s7⟩
           go_simp
           with_reducible rfl
          rotate_left
          ·simp only [Act.put, List.setIfInBounds_toArray, List.set_cons_zero, List.set_cons_succ, i64_w, i32_w]
           rfl
          refine take_ (i := 15) (N := some 51) (v := ?_) (a' := ?_) #[true, true, true, true, true, true, true, true, true, true, false, true, true, true, true, true, false, false, false, false, false, false, false, false, false, false, false, false, false, false, false, false, false, false, false] rfl rfl (take_ofW HT_.out HW_.out (by kernel_rfl)) (fun _ _ _ h => h) (Or.inl ⟨by rfl, ?_⟩) hHeld ?_ ?_
          rotate_left
          ·rintro w' ⟨s0, s1, s2, s3, s4, s5, s6, s7⟩
           go_simp
           with_reducible rfl
          rotate_left
          ·simp only [Act.put, List.setIfInBounds_toArray, List.set_cons_zero, List.set_cons_succ, i64_w, i32_w]
           rfl
          refine one_ (i := 10) (N := some 46) #[true, true, true, true, true, true, true, true, true, true, true, true, true, true, true, true, false, false, false, false, false, false, false, false, false, false, false, false, false, false, false, false, false, false, false] rfl rfl (one_of HT_.out (by kernel_rfl)) (by decide) (fun K hK => ?_)
          refine goes_ Try.func13 (by kernel_rfl) rfl #[.int .i64 t165, .agg #[.int .u64 t175, .int .u64 t176], .agg #[.int .u64 ((rd_T24 t166 2).f0), .int .u64 ((rd_T24 t166 2).f1)]] (by rfl) rfl rfl (by (try simp only [List.map_toArray, List.map_cons, List.map_nil]); first | done | rfl | (simp only [List.length_drop, List.length_take]; rfl)) ?_
          with_reducible refine (tower_Mul.calls k t165 t175 t176 ((rd_T24 t166 2).f0) ((rd_T24 t166 2).f1) t180 t181 _ A10.out).mono ?_
          rintro e w62 ⟨rfl, hb⟩
          refine ⟨_, rfl, ?_⟩
          have n0_ := Aside0.mk (Kd.R_below (by (with_reducible repeat (first | apply Kd.R_alloc | apply Kd.R_drewN | apply Kd.R_drew)); exact HO164.out) hb)
          have n1_ := Aside0.mk (Kd.R_below (by (with_reducible repeat (first | apply Kd.R_alloc | apply Kd.R_drewN | apply Kd.R_drew)); exact HO168.out) hb)
          have n2_ := Aside0.mk (blk_below (g := gb161) (o := .cells #[.int .u64 a1_0, .int .u64 a1_1, .int .u64 a1_2, .int .u64 a1_3, .int .u64 a1_4, .int .u64 a1_5] 26 (0, 0)) (by (with_reducible repeat (first | refine blk_drewN ?_ _ | refine blk_drew ?_ | refine blk_alloc ?_ _)); exact BK161.out) hb)
          have n3_ := Aside0.mk (blk_below (g := gb172) (o := .cells #[.int .u64 ((rd_T24 t166 0).f0), .int .u64 ((rd_T24 t166 0).f1)] 24 (0, 0)) (by (with_reducible repeat (first | refine blk_drewN ?_ _ | refine blk_drew ?_ | refine blk_alloc ?_ _)); exact BK172.out) hb)
          have n4_ := Aside0.mk (blk_below (g := gb173) (o := .cells #[.int .u64 ((rd_T24 t166 1).f0), .int .u64 ((rd_T24 t166 1).f1)] 24 (0, 0)) (by (with_reducible repeat (first | refine blk_drewN ?_ _ | refine blk_drew ?_ | refine blk_alloc ?_ _)); exact BK173.out) hb)
          have n5_ := Aside0.mk (blk_below (g := gb174) (o := .cells #[.int .u64 ((rd_T24 t166 2).f0), .int .u64 ((rd_T24 t166 2).f1)] 24 (0, 0)) (by (with_reducible repeat (first | refine blk_drewN ?_ _ | refine blk_drew ?_ | refine blk_alloc ?_ _)); exact BK174.out) hb)
          have n6_ := Aside0.mk (blk_below (g := gb177) (o := .cells #[.int .u64 t175, .int .u64 t176] 24 (0, 0)) (by (with_reducible repeat (first | refine blk_drewN ?_ _ | refine blk_drew ?_ | refine blk_alloc ?_ _)); exact BK177.out) hb)
          have n7_ := Aside0.mk (below_step (by repeat (first | (with_reducible first | exact HB.out | apply below_alloc | apply pw_below_drewN | apply below_drew1 | refine below_set ?_ GE161.out | refine below_set ?_ GE172.out | refine below_set ?_ GE173.out | refine below_set ?_ GE174.out | refine below_set ?_ GE177.out) | exact HB.out)) hb)
          clear HO164
          clear HO168
          clear BK161
          clear BK172
          clear BK173
          clear BK174
          clear BK177
          clear HB
          have HO164 := n0_
          have HO168 := n1_
          have BK161 := n2_
          have BK172 := n3_
          have BK173 := n4_
          have BK174 := n5_
          have BK177 := n6_
          have HB := n7_
          clear n0_ n1_ n2_ n3_ n4_ n5_ n6_ n7_
          (try clear hb)
          (try clear hb2)
          (try clear hk)
          (try clear hi)
          refine hK.out _ _ ⟨(blk_cell BK177.out 0).trans rfl, (blk_cell BK177.out 1).trans rfl, (blk_cell BK173.out 0).trans rfl, (blk_cell BK173.out 1).trans rfl, (blk_cell BK172.out 0).trans rfl, (blk_cell BK172.out 1).trans rfl, (blk_cell BK174.out 0).trans rfl, (blk_cell BK174.out 1).trans rfl⟩ (fun hHeld => ?_)
          clear hK K
          refine norm_ (a' := ?_) ?_ ?_
          rotate_left
          ·show Act.put _ (some 46) _ = _
           simp only [Act.put, List.setIfInBounds_toArray, List.set_cons_zero, List.set_cons_succ, i64_w, i32_w]
           rfl
          refine one_ (i := 16) (N := some 52) #[true, true, true, true, true, true, true, true, true, true, true, true, true, true, true, true, true, false, false, false, false, false, false, false, false, false, false, false, false, false, false, false, false, false, false] rfl rfl (one_of HT_.out (by kernel_rfl)) (by decide) (fun K hK => ?_)
          refine goes_ Try.func13 (by kernel_rfl) rfl #[.int .i64 t165, .agg #[.int .u64 ((rd_T24 t166 1).f0), .int .u64 ((rd_T24 t166 1).f1)], .agg #[.int .u64 ((rd_T24 t166 2).f0), .int .u64 ((rd_T24 t166 2).f1)]] (by rfl) rfl rfl (by (try simp only [List.map_toArray, List.map_cons, List.map_nil]); first | done | rfl | (simp only [List.length_drop, List.length_take]; rfl)) ?_
          with_reducible refine (tower_Mul.calls k t165 ((rd_T24 t166 1).f0) ((rd_T24 t166 1).f1) ((rd_T24 t166 2).f0) ((rd_T24 t166 2).f1) t182 t183 _ A11.out).mono ?_
          rintro e w63 ⟨rfl, hb⟩
          refine ⟨_, rfl, ?_⟩
          have n0_ := Aside0.mk (Kd.R_below (by (with_reducible repeat (first | apply Kd.R_alloc | apply Kd.R_drewN | apply Kd.R_drew)); exact HO164.out) hb)
          have n1_ := Aside0.mk (Kd.R_below (by (with_reducible repeat (first | apply Kd.R_alloc | apply Kd.R_drewN | apply Kd.R_drew)); exact HO168.out) hb)
          have n2_ := Aside0.mk (blk_below (g := gb161) (o := .cells #[.int .u64 a1_0, .int .u64 a1_1, .int .u64 a1_2, .int .u64 a1_3, .int .u64 a1_4, .int .u64 a1_5] 26 (0, 0)) (by (with_reducible repeat (first | refine blk_drewN ?_ _ | refine blk_drew ?_ | refine blk_alloc ?_ _)); exact BK161.out) hb)
          have n3_ := Aside0.mk (blk_below (g := gb172) (o := .cells #[.int .u64 ((rd_T24 t166 0).f0), .int .u64 ((rd_T24 t166 0).f1)] 24 (0, 0)) (by (with_reducible repeat (first | refine blk_drewN ?_ _ | refine blk_drew ?_ | refine blk_alloc ?_ _)); exact BK172.out) hb)
          have n4_ := Aside0.mk (blk_below (g := gb173) (o := .cells #[.int .u64 ((rd_T24 t166 1).f0), .int .u64 ((rd_T24 t166 1).f1)] 24 (0, 0)) (by (with_reducible repeat (first | refine blk_drewN ?_ _ | refine blk_drew ?_ | refine blk_alloc ?_ _)); exact BK173.out) hb)
          have n5_ := Aside0.mk (blk_below (g := gb174) (o := .cells #[.int .u64 ((rd_T24 t166 2).f0), .int .u64 ((rd_T24 t166 2).f1)] 24 (0, 0)) (by (with_reducible repeat (first | refine blk_drewN ?_ _ | refine blk_drew ?_ | refine blk_alloc ?_ _)); exact BK174.out) hb)
          have n6_ := Aside0.mk (blk_below (g := gb177) (o := .cells #[.int .u64 t175, .int .u64 t176] 24 (0, 0)) (by (with_reducible repeat (first | refine blk_drewN ?_ _ | refine blk_drew ?_ | refine blk_alloc ?_ _)); exact BK177.out) hb)
          have n7_ := Aside0.mk (below_step (by repeat (first | (with_reducible first | exact HB.out | apply below_alloc | apply pw_below_drewN | apply below_drew1 | refine below_set ?_ GE161.out | refine below_set ?_ GE172.out | refine below_set ?_ GE173.out | refine below_set ?_ GE174.out | refine below_set ?_ GE177.out) | exact HB.out)) hb)
          clear HO164
          clear HO168
          clear BK161
          clear BK172
          clear BK173
          clear BK174
          clear BK177
          clear HB
          have HO164 := n0_
          have HO168 := n1_
          have BK161 := n2_
          have BK172 := n3_
          have BK173 := n4_
          have BK174 := n5_
          have BK177 := n6_
          have HB := n7_
          clear n0_ n1_ n2_ n3_ n4_ n5_ n6_ n7_
          (try clear hb)
          (try clear hb2)
          (try clear hk)
          (try clear hi)
          refine hK.out _ _ ⟨(blk_cell BK177.out 0).trans rfl, (blk_cell BK177.out 1).trans rfl, (blk_cell BK173.out 0).trans rfl, (blk_cell BK173.out 1).trans rfl, (blk_cell BK172.out 0).trans rfl, (blk_cell BK172.out 1).trans rfl, (blk_cell BK174.out 0).trans rfl, (blk_cell BK174.out 1).trans rfl⟩ (fun hHeld => ?_)
          clear hK K
          refine norm_ (a' := ?_) ?_ ?_
          rotate_left
          ·show Act.put _ (some 52) _ = _
           simp only [Act.put, List.setIfInBounds_toArray, List.set_cons_zero, List.set_cons_succ, i64_w, i32_w]
           rfl
          refine one_ (i := 17) (N := some 53) #[true, true, true, true, true, true, true, true, true, true, true, true, true, true, true, true, true, true, false, false, false, false, false, false, false, false, false, false, false, false, false, false, false, false, false] rfl rfl (one_of HT_.out (by kernel_rfl)) (by decide) (fun K hK => ?_)
          refine goes_ Try.func13 (by kernel_rfl) rfl #[.int .i64 t165, .agg #[.int .u64 ((rd_T24 t166 0).f0), .int .u64 ((rd_T24 t166 0).f1)], .agg #[.int .u64 t182, .int .u64 t183]] (by rfl) rfl rfl (by (try simp only [List.map_toArray, List.map_cons, List.map_nil]); first | done | rfl | (simp only [List.length_drop, List.length_take]; rfl)) ?_
          with_reducible refine (tower_Mul.calls k t165 ((rd_T24 t166 0).f0) ((rd_T24 t166 0).f1) t182 t183 t184 t185 _ A12.out).mono ?_
          rintro e w64 ⟨rfl, hb⟩
          refine ⟨_, rfl, ?_⟩
          have n0_ := Aside0.mk (Kd.R_below (by (with_reducible repeat (first | apply Kd.R_alloc | apply Kd.R_drewN | apply Kd.R_drew)); exact HO164.out) hb)
          have n1_ := Aside0.mk (Kd.R_below (by (with_reducible repeat (first | apply Kd.R_alloc | apply Kd.R_drewN | apply Kd.R_drew)); exact HO168.out) hb)
          have n2_ := Aside0.mk (blk_below (g := gb161) (o := .cells #[.int .u64 a1_0, .int .u64 a1_1, .int .u64 a1_2, .int .u64 a1_3, .int .u64 a1_4, .int .u64 a1_5] 26 (0, 0)) (by (with_reducible repeat (first | refine blk_drewN ?_ _ | refine blk_drew ?_ | refine blk_alloc ?_ _)); exact BK161.out) hb)
          have n3_ := Aside0.mk (blk_below (g := gb172) (o := .cells #[.int .u64 ((rd_T24 t166 0).f0), .int .u64 ((rd_T24 t166 0).f1)] 24 (0, 0)) (by (with_reducible repeat (first | refine blk_drewN ?_ _ | refine blk_drew ?_ | refine blk_alloc ?_ _)); exact BK172.out) hb)
          have n4_ := Aside0.mk (blk_below (g := gb173) (o := .cells #[.int .u64 ((rd_T24 t166 1).f0), .int .u64 ((rd_T24 t166 1).f1)] 24 (0, 0)) (by (with_reducible repeat (first | refine blk_drewN ?_ _ | refine blk_drew ?_ | refine blk_alloc ?_ _)); exact BK173.out) hb)
          have n5_ := Aside0.mk (blk_below (g := gb174) (o := .cells #[.int .u64 ((rd_T24 t166 2).f0), .int .u64 ((rd_T24 t166 2).f1)] 24 (0, 0)) (by (with_reducible repeat (first | refine blk_drewN ?_ _ | refine blk_drew ?_ | refine blk_alloc ?_ _)); exact BK174.out) hb)
          have n6_ := Aside0.mk (blk_below (g := gb177) (o := .cells #[.int .u64 t175, .int .u64 t176] 24 (0, 0)) (by (with_reducible repeat (first | refine blk_drewN ?_ _ | refine blk_drew ?_ | refine blk_alloc ?_ _)); exact BK177.out) hb)
          have n7_ := Aside0.mk (below_step (by repeat (first | (with_reducible first | exact HB.out | apply below_alloc | apply pw_below_drewN | apply below_drew1 | refine below_set ?_ GE161.out | refine below_set ?_ GE172.out | refine below_set ?_ GE173.out | refine below_set ?_ GE174.out | refine below_set ?_ GE177.out) | exact HB.out)) hb)
          clear HO164
          clear HO168
          clear BK161
          clear BK172
          clear BK173
          clear BK174
          clear BK177
          clear HB
          have HO164 := n0_
          have HO168 := n1_
          have BK161 := n2_
          have BK172 := n3_
          have BK173 := n4_
          have BK174 := n5_
          have BK177 := n6_
          have HB := n7_
          clear n0_ n1_ n2_ n3_ n4_ n5_ n6_ n7_
          (try clear hb)
          (try clear hb2)
          (try clear hk)
          (try clear hi)
          refine hK.out _ _ ⟨(blk_cell BK177.out 0).trans rfl, (blk_cell BK177.out 1).trans rfl, (blk_cell BK173.out 0).trans rfl, (blk_cell BK173.out 1).trans rfl, (blk_cell BK172.out 0).trans rfl, (blk_cell BK172.out 1).trans rfl, (blk_cell BK174.out 0).trans rfl, (blk_cell BK174.out 1).trans rfl⟩ (fun hHeld => ?_)
          clear hK K
          refine norm_ (a' := ?_) ?_ ?_
          rotate_left
          ·show Act.put _ (some 53) _ = _
           simp only [Act.put, List.setIfInBounds_toArray, List.set_cons_zero, List.set_cons_succ, i64_w, i32_w]
           rfl
          refine pure_ (i := 18) (N := some 54) (v := ?_) (a' := ?_) #[true, true, true, true, true, true, true, true, true, true, true, true, true, true, true, true, true, true, true, false, false, false, false, false, false, false, false, false, false, false, false, false, false, false, false] rfl rfl (any_of HT_.out (by kernel_rfl)) (fun _ _ _ h => h) (Or.inl ⟨by rfl, ?_⟩) ?_ ?_
          rotate_left
          ·intro w'
           go_simp
           with_reducible rfl
          rotate_left
          ·simp only [Act.put, List.setIfInBounds_toArray, List.set_cons_zero, List.set_cons_succ, i64_w, i32_w]
           rfl
          refine pure_ (i := 19) (N := some 55) (v := ?_) (a' := ?_) #[true, true, true, true, true, true, true, true, true, true, true, true, true, true, true, true, true, true, true, true, false, false, false, false, false, false, false, false, false, false, false, false, false, false, false] rfl rfl (any_of HT_.out (by kernel_rfl)) (fun _ _ _ h => h) (Or.inl ⟨by rfl, ?_⟩) ?_ ?_
          rotate_left
          ·intro w'
           go_simp
           with_reducible rfl
          rotate_left
          ·simp only [Act.put, List.setIfInBounds_toArray, List.set_cons_zero, List.set_cons_succ, i64_w, i32_w]
           rfl
          refine pure_ (i := 20) (N := some 56) (v := ?_) (a' := ?_) #[true, true, true, true, true, true, true, true, true, true, true, true, true, true, true, true, true, true, true, true, true, false, false, false, false, false, false, false, false, false, false, false, false, false, false] rfl rfl (any_of HT_.out (by kernel_rfl)) (fun _ _ _ h => h) (Or.inl ⟨by rfl, ?_⟩) ?_ ?_
          rotate_left
          ·intro w'
           go_simp
           with_reducible rfl
          rotate_left
          ·simp only [Act.put, List.setIfInBounds_toArray, List.set_cons_zero, List.set_cons_succ, i64_w, i32_w]
           rfl
          refine pure_ (i := 21) (N := some 57) (v := ?_) (a' := ?_) #[true, true, true, true, true, true, true, true, true, true, true, true, true, true, true, true, true, true, true, true, true, true, false, false, false, false, false, false, false, false, false, false, false, false, false] rfl rfl (any_of HT_.out (by kernel_rfl)) (fun _ _ _ h => h) (Or.inl ⟨by rfl, ?_⟩) ?_ ?_
          rotate_left
          ·intro w'
           go_simp
           with_reducible rfl
          rotate_left
          ·simp only [Act.put, List.setIfInBounds_toArray, List.set_cons_zero, List.set_cons_succ, i64_w, i32_w]
           rfl
          refine pure_ (i := 28) (N := some 64) (v := ?_) (a' := ?_) #[true, true, true, true, true, true, true, true, true, true, true, true, true, true, true, true, true, true, true, true, true, true, false, false, false, false, false, false, true, false, false, false, false, false, false] rfl rfl (any_of HT_.out (by kernel_rfl)) (fun _ _ _ h => h) (Or.inl ⟨by rfl, ?_⟩) ?_ ?_
          rotate_left
          ·intro w'
           go_simp
           with_reducible rfl
          rotate_left
          ·simp only [Act.put, List.setIfInBounds_toArray, List.set_cons_zero, List.set_cons_succ, i64_w, i32_w]
           rfl
          refine take_ (i := 22) (N := some 58) (v := ?_) (a' := ?_) #[true, true, true, true, true, true, true, true, true, true, true, true, true, true, true, true, true, true, true, true, true, true, true, false, false, false, false, false, true, false, false, false, false, false, false] rfl rfl (take_ofW HT_.out HW_.out (by kernel_rfl)) (fun _ _ _ h => h) (Or.inl ⟨by rfl, ?_⟩) hHeld ?_ ?_
          rotate_left
          ·rintro w' ⟨s0, s1, s2, s3, s4, s5, s6, s7⟩
           go_simp
           with_reducible rfl
          rotate_left
          ·simp only [Act.put, List.setIfInBounds_toArray, List.set_cons_zero, List.set_cons_succ, i64_w, i32_w]
           rfl
          refine take_ (i := 23) (N := some 59) (v := ?_) (a' := ?_) #[true, true, true, true, true, true, true, true, true, true, true, true, true, true, true, true, true, true, true, true, true, true, true, true, false, false, false, false, true, false, false, false, false, false, false] rfl rfl (take_ofW HT_.out HW_.out (by kernel_rfl)) (fun _ _ _ h => h) (Or.inl ⟨by rfl, ?_⟩) hHeld ?_ ?_
          rotate_left
          ·rintro w' ⟨s0, s1, s2, s3, s4, s5, s6, s7⟩
           go_simp
           with_reducible rfl
          rotate_left
          ·simp only [Act.put, List.setIfInBounds_toArray, List.set_cons_zero, List.set_cons_succ, i64_w, i32_w]
           rfl
          refine take_ (i := 24) (N := some 60) (v := ?_) (a' := ?_) #[true, true, true, true, true, true, true, true, true, true, true, true, true, true, true, true, true, true, true, true, true, true, true, true, true, false, false, false, true, false, false, false, false, false, false] rfl rfl (take_ofW HT_.out HW_.out (by kernel_rfl)) (fun _ _ _ h => h) (Or.inl ⟨by rfl, ?_⟩) hHeld ?_ ?_
          rotate_left
          ·rintro w' ⟨s0, s1, s2, s3, s4, s5, s6, s7⟩
           go_simp
           with_reducible rfl
          rotate_left
          ·simp only [Act.put, List.setIfInBounds_toArray, List.set_cons_zero, List.set_cons_succ, i64_w, i32_w]
           rfl
          refine take_ (i := 27) (N := some 63) (v := ?_) (a' := ?_) #[true, true, true, true, true, true, true, true, true, true, true, true, true, true, true, true, true, true, true, true, true, true, true, true, true, false, false, true, true, false, false, false, false, false, false] rfl rfl (take_ofW HT_.out HW_.out (by kernel_rfl)) (fun _ _ _ h => h) (Or.inl ⟨by rfl, ?_⟩) hHeld ?_ ?_
          rotate_left
          ·rintro w' ⟨s0, s1, s2, s3, s4, s5, s6, s7⟩
           go_simp
           with_reducible rfl
          rotate_left
          ·simp only [Act.put, List.setIfInBounds_toArray, List.set_cons_zero, List.set_cons_succ, i64_w, i32_w]
           rfl
          refine take_ (i := 29) (N := some 65) (v := ?_) (a' := ?_) #[true, true, true, true, true, true, true, true, true, true, true, true, true, true, true, true, true, true, true, true, true, true, true, true, true, false, false, true, true, true, false, false, false, false, false] rfl rfl (take_ofW HT_.out HW_.out (by kernel_rfl)) (fun _ _ _ h => h) (Or.inl ⟨by rfl, ?_⟩) hHeld ?_ ?_
          rotate_left
          ·rintro w' ⟨s0, s1, s2, s3, s4, s5, s6, s7⟩
           go_simp
           with_reducible rfl
          rotate_left
          ·simp only [Act.put, List.setIfInBounds_toArray, List.set_cons_zero, List.set_cons_succ, i64_w, i32_w]
           rfl
          refine take_ (i := 30) (N := some 66) (v := ?_) (a' := ?_) #[true, true, true, true, true, true, true, true, true, true, true, true, true, true, true, true, true, true, true, true, true, true, true, true, true, false, false, true, true, true, true, false, false, false, false] rfl rfl (take_ofW HT_.out HW_.out (by kernel_rfl)) (fun _ _ _ h => h) (Or.inl ⟨by rfl, ?_⟩) hHeld ?_ ?_
          rotate_left
          ·rintro w' ⟨s0, s1, s2, s3, s4, s5, s6, s7⟩
           go_simp
           with_reducible rfl
          rotate_left
          ·simp only [Act.put, List.setIfInBounds_toArray, List.set_cons_zero, List.set_cons_succ, i64_w, i32_w]
           rfl
          refine one_ (i := 25) (N := some 61) #[true, true, true, true, true, true, true, true, true, true, true, true, true, true, true, true, true, true, true, true, true, true, true, true, true, true, false, true, true, true, true, false, false, false, false] rfl rfl (one_of HT_.out (by kernel_rfl)) (by decide) (fun K hK => ?_)
          refine goes_ Try.func14 (by kernel_rfl) rfl #[.agg #[.int .u64 ((rd_T24 t166 1).f0), .int .u64 ((rd_T24 t166 1).f1)], .agg #[.int .u64 ((rd_T24 t166 2).f0), .int .u64 ((rd_T24 t166 2).f1)]] (by rfl) rfl rfl (by (try simp only [List.map_toArray, List.map_cons, List.map_nil]); first | done | rfl | (simp only [List.length_drop, List.length_take]; rfl)) ?_
          with_reducible refine (tower_Add.calls ((rd_T24 t166 1).f0) ((rd_T24 t166 1).f1) ((rd_T24 t166 2).f0) ((rd_T24 t166 2).f1) t186 t187 _ A14.out).mono ?_
          rintro e w65 ⟨rfl, hb⟩
          refine ⟨_, rfl, ?_⟩
          have n0_ := Aside0.mk (Kd.R_below (by (with_reducible repeat (first | apply Kd.R_alloc | apply Kd.R_drewN | apply Kd.R_drew)); exact HO164.out) hb)
          have n1_ := Aside0.mk (Kd.R_below (by (with_reducible repeat (first | apply Kd.R_alloc | apply Kd.R_drewN | apply Kd.R_drew)); exact HO168.out) hb)
          have n2_ := Aside0.mk (blk_below (g := gb161) (o := .cells #[.int .u64 a1_0, .int .u64 a1_1, .int .u64 a1_2, .int .u64 a1_3, .int .u64 a1_4, .int .u64 a1_5] 26 (0, 0)) (by (with_reducible repeat (first | refine blk_drewN ?_ _ | refine blk_drew ?_ | refine blk_alloc ?_ _)); exact BK161.out) hb)
          have n3_ := Aside0.mk (blk_below (g := gb172) (o := .cells #[.int .u64 ((rd_T24 t166 0).f0), .int .u64 ((rd_T24 t166 0).f1)] 24 (0, 0)) (by (with_reducible repeat (first | refine blk_drewN ?_ _ | refine blk_drew ?_ | refine blk_alloc ?_ _)); exact BK172.out) hb)
          have n4_ := Aside0.mk (blk_below (g := gb173) (o := .cells #[.int .u64 ((rd_T24 t166 1).f0), .int .u64 ((rd_T24 t166 1).f1)] 24 (0, 0)) (by (with_reducible repeat (first | refine blk_drewN ?_ _ | refine blk_drew ?_ | refine blk_alloc ?_ _)); exact BK173.out) hb)
          have n5_ := Aside0.mk (blk_below (g := gb174) (o := .cells #[.int .u64 ((rd_T24 t166 2).f0), .int .u64 ((rd_T24 t166 2).f1)] 24 (0, 0)) (by (with_reducible repeat (first | refine blk_drewN ?_ _ | refine blk_drew ?_ | refine blk_alloc ?_ _)); exact BK174.out) hb)
          have n6_ := Aside0.mk (blk_below (g := gb177) (o := .cells #[.int .u64 t175, .int .u64 t176] 24 (0, 0)) (by (with_reducible repeat (first | refine blk_drewN ?_ _ | refine blk_drew ?_ | refine blk_alloc ?_ _)); exact BK177.out) hb)
          have n7_ := Aside0.mk (below_step (by repeat (first | (with_reducible first | exact HB.out | apply below_alloc | apply pw_below_drewN | apply below_drew1 | refine below_set ?_ GE161.out | refine below_set ?_ GE172.out | refine below_set ?_ GE173.out | refine below_set ?_ GE174.out | refine below_set ?_ GE177.out) | exact HB.out)) hb)
          clear HO164
          clear HO168
          clear BK161
          clear BK172
          clear BK173
          clear BK174
          clear BK177
          clear HB
          have HO164 := n0_
          have HO168 := n1_
          have BK161 := n2_
          have BK172 := n3_
          have BK173 := n4_
          have BK174 := n5_
          have BK177 := n6_
          have HB := n7_
          clear n0_ n1_ n2_ n3_ n4_ n5_ n6_ n7_
          (try clear hb)
          (try clear hb2)
          (try clear hk)
          (try clear hi)
          refine hK.out _ _ ⟨(blk_cell BK177.out 0).trans rfl, (blk_cell BK177.out 1).trans rfl, (blk_cell BK173.out 0).trans rfl, (blk_cell BK173.out 1).trans rfl, (blk_cell BK172.out 0).trans rfl, (blk_cell BK172.out 1).trans rfl, (blk_cell BK174.out 0).trans rfl, (blk_cell BK174.out 1).trans rfl⟩ (fun hHeld => ?_)
          clear hK K
          refine norm_ (a' := ?_) ?_ ?_
          rotate_left
          ·show Act.put _ (some 61) _ = _
           simp only [Act.put, List.setIfInBounds_toArray, List.set_cons_zero, List.set_cons_succ, i64_w, i32_w]
           rfl
          refine one_ (i := 26) (N := some 62) #[true, true, true, true, true, true, true, true, true, true, true, true, true, true, true, true, true, true, true, true, true, true, true, true, true, true, true, true, true, true, true, false, false, false, false] rfl rfl (one_of HT_.out (by kernel_rfl)) (by decide) (fun K hK => ?_)
          refine goes_ Try.func13 (by kernel_rfl) rfl #[.int .i64 t165, .agg #[.int .u64 ((rd_T24 t166 0).f0), .int .u64 ((rd_T24 t166 0).f1)], .agg #[.int .u64 t186, .int .u64 t187]] (by rfl) rfl rfl (by (try simp only [List.map_toArray, List.map_cons, List.map_nil]); first | done | rfl | (simp only [List.length_drop, List.length_take]; rfl)) ?_
          with_reducible refine (tower_Mul.calls k t165 ((rd_T24 t166 0).f0) ((rd_T24 t166 0).f1) t186 t187 t188 t189 _ A15.out).mono ?_
          rintro e w66 ⟨rfl, hb⟩
          refine ⟨_, rfl, ?_⟩
          have n0_ := Aside0.mk (Kd.R_below (by (with_reducible repeat (first | apply Kd.R_alloc | apply Kd.R_drewN | apply Kd.R_drew)); exact HO164.out) hb)
          have n1_ := Aside0.mk (Kd.R_below (by (with_reducible repeat (first | apply Kd.R_alloc | apply Kd.R_drewN | apply Kd.R_drew)); exact HO168.out) hb)
          have n2_ := Aside0.mk (blk_below (g := gb161) (o := .cells #[.int .u64 a1_0, .int .u64 a1_1, .int .u64 a1_2, .int .u64 a1_3, .int .u64 a1_4, .int .u64 a1_5] 26 (0, 0)) (by (with_reducible repeat (first | refine blk_drewN ?_ _ | refine blk_drew ?_ | refine blk_alloc ?_ _)); exact BK161.out) hb)
          have n3_ := Aside0.mk (blk_below (g := gb172) (o := .cells #[.int .u64 ((rd_T24 t166 0).f0), .int .u64 ((rd_T24 t166 0).f1)] 24 (0, 0)) (by (with_reducible repeat (first | refine blk_drewN ?_ _ | refine blk_drew ?_ | refine blk_alloc ?_ _)); exact BK172.out) hb)
          have n4_ := Aside0.mk (blk_below (g := gb173) (o := .cells #[.int .u64 ((rd_T24 t166 1).f0), .int .u64 ((rd_T24 t166 1).f1)] 24 (0, 0)) (by (with_reducible repeat (first | refine blk_drewN ?_ _ | refine blk_drew ?_ | refine blk_alloc ?_ _)); exact BK173.out) hb)
          have n5_ := Aside0.mk (blk_below (g := gb174) (o := .cells #[.int .u64 ((rd_T24 t166 2).f0), .int .u64 ((rd_T24 t166 2).f1)] 24 (0, 0)) (by (with_reducible repeat (first | refine blk_drewN ?_ _ | refine blk_drew ?_ | refine blk_alloc ?_ _)); exact BK174.out) hb)
          have n6_ := Aside0.mk (blk_below (g := gb177) (o := .cells #[.int .u64 t175, .int .u64 t176] 24 (0, 0)) (by (with_reducible repeat (first | refine blk_drewN ?_ _ | refine blk_drew ?_ | refine blk_alloc ?_ _)); exact BK177.out) hb)
          have n7_ := Aside0.mk (below_step (by repeat (first | (with_reducible first | exact HB.out | apply below_alloc | apply pw_below_drewN | apply below_drew1 | refine below_set ?_ GE161.out | refine below_set ?_ GE172.out | refine below_set ?_ GE173.out | refine below_set ?_ GE174.out | refine below_set ?_ GE177.out) | exact HB.out)) hb)
          clear HO164
          clear HO168
          clear BK161
          clear BK172
          clear BK173
          clear BK174
          clear BK177
          clear HB
          have HO164 := n0_
          have HO168 := n1_
          have BK161 := n2_
          have BK172 := n3_
          have BK173 := n4_
          have BK174 := n5_
          have BK177 := n6_
          have HB := n7_
          clear n0_ n1_ n2_ n3_ n4_ n5_ n6_ n7_
          (try clear hb)
          (try clear hb2)
          (try clear hk)
          (try clear hi)
          refine hK.out _ _ ⟨(blk_cell BK177.out 0).trans rfl, (blk_cell BK177.out 1).trans rfl, (blk_cell BK173.out 0).trans rfl, (blk_cell BK173.out 1).trans rfl, (blk_cell BK172.out 0).trans rfl, (blk_cell BK172.out 1).trans rfl, (blk_cell BK174.out 0).trans rfl, (blk_cell BK174.out 1).trans rfl⟩ (fun hHeld => ?_)
          clear hK K
          refine norm_ (a' := ?_) ?_ ?_
          rotate_left
          ·show Act.put _ (some 62) _ = _
           simp only [Act.put, List.setIfInBounds_toArray, List.set_cons_zero, List.set_cons_succ, i64_w, i32_w]
           rfl
          refine one_ (i := 31) (N := some 67) #[true, true, true, true, true, true, true, true, true, true, true, true, true, true, true, true, true, true, true, true, true, true, true, true, true, true, true, true, true, true, true, true, false, false, false] rfl rfl (one_of HT_.out (by kernel_rfl)) (by decide) (fun K hK => ?_)
          refine goes_ Try.func13 (by kernel_rfl) rfl #[.int .i64 t165, .agg #[.int .u64 ((rd_T24 t166 0).f0), .int .u64 ((rd_T24 t166 0).f1)], .agg #[.int .u64 ((rd_T24 t166 2).f0), .int .u64 ((rd_T24 t166 2).f1)]] (by rfl) rfl rfl (by (try simp only [List.map_toArray, List.map_cons, List.map_nil]); first | done | rfl | (simp only [List.length_drop, List.length_take]; rfl)) ?_
          with_reducible refine (tower_Mul.calls k t165 ((rd_T24 t166 0).f0) ((rd_T24 t166 0).f1) ((rd_T24 t166 2).f0) ((rd_T24 t166 2).f1) t190 t191 _ A16.out).mono ?_
          rintro e w67 ⟨rfl, hb⟩
          refine ⟨_, rfl, ?_⟩
          have n0_ := Aside0.mk (Kd.R_below (by (with_reducible repeat (first | apply Kd.R_alloc | apply Kd.R_drewN | apply Kd.R_drew)); exact HO164.out) hb)
          have n1_ := Aside0.mk (Kd.R_below (by (with_reducible repeat (first | apply Kd.R_alloc | apply Kd.R_drewN | apply Kd.R_drew)); exact HO168.out) hb)
          have n2_ := Aside0.mk (blk_below (g := gb161) (o := .cells #[.int .u64 a1_0, .int .u64 a1_1, .int .u64 a1_2, .int .u64 a1_3, .int .u64 a1_4, .int .u64 a1_5] 26 (0, 0)) (by (with_reducible repeat (first | refine blk_drewN ?_ _ | refine blk_drew ?_ | refine blk_alloc ?_ _)); exact BK161.out) hb)
          have n3_ := Aside0.mk (blk_below (g := gb172) (o := .cells #[.int .u64 ((rd_T24 t166 0).f0), .int .u64 ((rd_T24 t166 0).f1)] 24 (0, 0)) (by (with_reducible repeat (first | refine blk_drewN ?_ _ | refine blk_drew ?_ | refine blk_alloc ?_ _)); exact BK172.out) hb)
          have n4_ := Aside0.mk (blk_below (g := gb173) (o := .cells #[.int .u64 ((rd_T24 t166 1).f0), .int .u64 ((rd_T24 t166 1).f1)] 24 (0, 0)) (by (with_reducible repeat (first | refine blk_drewN ?_ _ | refine blk_drew ?_ | refine blk_alloc ?_ _)); exact BK173.out) hb)
          have n5_ := Aside0.mk (blk_below (g := gb174) (o := .cells #[.int .u64 ((rd_T24 t166 2).f0), .int .u64 ((rd_T24 t166 2).f1)] 24 (0, 0)) (by (with_reducible repeat (first | refine blk_drewN ?_ _ | refine blk_drew ?_ | refine blk_alloc ?_ _)); exact BK174.out) hb)
          have n6_ := Aside0.mk (blk_below (g := gb177) (o := .cells #[.int .u64 t175, .int .u64 t176] 24 (0, 0)) (by (with_reducible repeat (first | refine blk_drewN ?_ _ | refine blk_drew ?_ | refine blk_alloc ?_ _)); exact BK177.out) hb)
          have n7_ := Aside0.mk (below_step (by repeat (first | (with_reducible first | exact HB.out | apply below_alloc | apply pw_below_drewN | apply below_drew1 | refine below_set ?_ GE161.out | refine below_set ?_ GE172.out | refine below_set ?_ GE173.out | refine below_set ?_ GE174.out | refine below_set ?_ GE177.out) | exact HB.out)) hb)
          clear HO164
          clear HO168
          clear BK161
          clear BK172
          clear BK173
          clear BK174
          clear BK177
          clear HB
          have HO164 := n0_
          have HO168 := n1_
          have BK161 := n2_
          have BK172 := n3_
          have BK173 := n4_
          have BK174 := n5_
          have BK177 := n6_
          have HB := n7_
          clear n0_ n1_ n2_ n3_ n4_ n5_ n6_ n7_
          (try clear hb)
          (try clear hb2)
          (try clear hk)
          (try clear hi)
          refine hK.out _ _ ⟨(blk_cell BK177.out 0).trans rfl, (blk_cell BK177.out 1).trans rfl, (blk_cell BK173.out 0).trans rfl, (blk_cell BK173.out 1).trans rfl, (blk_cell BK172.out 0).trans rfl, (blk_cell BK172.out 1).trans rfl, (blk_cell BK174.out 0).trans rfl, (blk_cell BK174.out 1).trans rfl⟩ (fun hHeld => ?_)
          clear hK K
          refine norm_ (a' := ?_) ?_ ?_
          rotate_left
          ·show Act.put _ (some 67) _ = _
           simp only [Act.put, List.setIfInBounds_toArray, List.set_cons_zero, List.set_cons_succ, i64_w, i32_w]
           rfl
          refine one_ (i := 32) (N := some 68) #[true, true, true, true, true, true, true, true, true, true, true, true, true, true, true, true, true, true, true, true, true, true, true, true, true, true, true, true, true, true, true, true, true, false, false] rfl rfl (one_of HT_.out (by kernel_rfl)) (by decide) (fun K hK => ?_)
          refine goes_ Try.func14 (by kernel_rfl) rfl #[.agg #[.int .u64 t175, .int .u64 t176], .agg #[.int .u64 t190, .int .u64 t191]] (by rfl) rfl rfl (by (try simp only [List.map_toArray, List.map_cons, List.map_nil]); first | done | rfl | (simp only [List.length_drop, List.length_take]; rfl)) ?_
          with_reducible refine (tower_Add.calls t175 t176 t190 t191 t192 t193 _ A17.out).mono ?_
          rintro e w68 ⟨rfl, hb⟩
          refine ⟨_, rfl, ?_⟩
          have n0_ := Aside0.mk (Kd.R_below (by (with_reducible repeat (first | apply Kd.R_alloc | apply Kd.R_drewN | apply Kd.R_drew)); exact HO164.out) hb)
          have n1_ := Aside0.mk (Kd.R_below (by (with_reducible repeat (first | apply Kd.R_alloc | apply Kd.R_drewN | apply Kd.R_drew)); exact HO168.out) hb)
          have n2_ := Aside0.mk (blk_below (g := gb161) (o := .cells #[.int .u64 a1_0, .int .u64 a1_1, .int .u64 a1_2, .int .u64 a1_3, .int .u64 a1_4, .int .u64 a1_5] 26 (0, 0)) (by (with_reducible repeat (first | refine blk_drewN ?_ _ | refine blk_drew ?_ | refine blk_alloc ?_ _)); exact BK161.out) hb)
          have n3_ := Aside0.mk (blk_below (g := gb172) (o := .cells #[.int .u64 ((rd_T24 t166 0).f0), .int .u64 ((rd_T24 t166 0).f1)] 24 (0, 0)) (by (with_reducible repeat (first | refine blk_drewN ?_ _ | refine blk_drew ?_ | refine blk_alloc ?_ _)); exact BK172.out) hb)
          have n4_ := Aside0.mk (blk_below (g := gb173) (o := .cells #[.int .u64 ((rd_T24 t166 1).f0), .int .u64 ((rd_T24 t166 1).f1)] 24 (0, 0)) (by (with_reducible repeat (first | refine blk_drewN ?_ _ | refine blk_drew ?_ | refine blk_alloc ?_ _)); exact BK173.out) hb)
          have n5_ := Aside0.mk (blk_below (g := gb174) (o := .cells #[.int .u64 ((rd_T24 t166 2).f0), .int .u64 ((rd_T24 t166 2).f1)] 24 (0, 0)) (by (with_reducible repeat (first | refine blk_drewN ?_ _ | refine blk_drew ?_ | refine blk_alloc ?_ _)); exact BK174.out) hb)
          have n6_ := Aside0.mk (blk_below (g := gb177) (o := .cells #[.int .u64 t175, .int .u64 t176] 24 (0, 0)) (by (with_reducible repeat (first | refine blk_drewN ?_ _ | refine blk_drew ?_ | refine blk_alloc ?_ _)); exact BK177.out) hb)
          have n7_ := Aside0.mk (below_step (by repeat (first | (with_reducible first | exact HB.out | apply below_alloc | apply pw_below_drewN | apply below_drew1 | refine below_set ?_ GE161.out | refine below_set ?_ GE172.out | refine below_set ?_ GE173.out | refine below_set ?_ GE174.out | refine below_set ?_ GE177.out) | exact HB.out)) hb)
          clear HO164
          clear HO168
          clear BK161
          clear BK172
          clear BK173
          clear BK174
          clear BK177
          clear HB
          have HO164 := n0_
          have HO168 := n1_
          have BK161 := n2_
          have BK172 := n3_
          have BK173 := n4_
          have BK174 := n5_
          have BK177 := n6_
          have HB := n7_
          clear n0_ n1_ n2_ n3_ n4_ n5_ n6_ n7_
          (try clear hb)
          (try clear hb2)
          (try clear hk)
          (try clear hi)
          refine hK.out _ _ ⟨(blk_cell BK177.out 0).trans rfl, (blk_cell BK177.out 1).trans rfl, (blk_cell BK173.out 0).trans rfl, (blk_cell BK173.out 1).trans rfl, (blk_cell BK172.out 0).trans rfl, (blk_cell BK172.out 1).trans rfl, (blk_cell BK174.out 0).trans rfl, (blk_cell BK174.out 1).trans rfl⟩ (fun hHeld => ?_)
          clear hK K
          refine norm_ (a' := ?_) ?_ ?_
          rotate_left
          ·show Act.put _ (some 68) _ = _
           simp only [Act.put, List.setIfInBounds_toArray, List.set_cons_zero, List.set_cons_succ, i64_w, i32_w]
           rfl
          refine pure_ (i := 33) (N := some 69) (v := ?_) (a' := ?_) #[true, true, true, true, true, true, true, true, true, true, true, true, true, true, true, true, true, true, true, true, true, true, true, true, true, true, true, true, true, true, true, true, true, true, false] rfl rfl (any_of HT_.out (by kernel_rfl)) (fun _ _ _ h => h) (Or.inl ⟨by rfl, ?_⟩) ?_ ?_
          rotate_left
          ·intro w'
           go_simp
           with_reducible rfl
          rotate_left
          ·simp only [Act.put, List.setIfInBounds_toArray, List.set_cons_zero, List.set_cons_succ, i64_w, i32_w]
           rfl
          refine pure_ (i := 34) (N := some 70) (v := ?_) (a' := ?_) #[true, true, true, true, true, true, true, true, true, true, true, true, true, true, true, true, true, true, true, true, true, true, true, true, true, true, true, true, true, true, true, true, true, true, true] rfl rfl (any_of HT_.out (by kernel_rfl)) (fun _ _ _ h => h) (Or.inl ⟨by rfl, ?_⟩) ?_ ?_
          rotate_left
          ·intro w'
           go_simp
           with_reducible rfl
          rotate_left
          ·simp only [Act.put, List.setIfInBounds_toArray, List.set_cons_zero, List.set_cons_succ, i64_w, i32_w]
           rfl
          refine done_ (done_of HT_.out (by kernel_rfl)) ?_
          try go_wp2
          have n0_ := Aside0.mk (Kd.R_drew HO164.out)
          have n1_ := Aside0.mk (Kd.R_drew HO168.out)
          have n2_ := Aside0.mk (blk_drew BK161.out)
          have n3_ := Aside0.mk (blk_drew BK172.out)
          have n4_ := Aside0.mk (blk_drew BK173.out)
          have n5_ := Aside0.mk (blk_drew BK174.out)
          have n6_ := Aside0.mk (blk_drew BK177.out)
          have n7_ := Aside0.mk (below_drew1 HB.out)
          clear HO164
          clear HO168
          clear BK161
          clear BK172
          clear BK173
          clear BK174
          clear BK177
          clear HB
          have HO164 := n0_
          have HO168 := n1_
          have BK161 := n2_
          have BK172 := n3_
          have BK173 := n4_
          have BK174 := n5_
          have BK177 := n6_
          have HB := n7_
          clear n0_ n1_ n2_ n3_ n4_ n5_ n6_ n7_
          refine start_ (n := 24) (S := fun w' => w'.cell? ⟨gb172, 0, none⟩ = some (.int .u64 ((rd_T24 t166 0).f0)) ∧ w'.cell? ⟨gb172, 1, none⟩ = some (.int .u64 ((rd_T24 t166 0).f1)) ∧ w'.cell? ⟨gb173, 0, none⟩ = some (.int .u64 ((rd_T24 t166 1).f0)) ∧ w'.cell? ⟨gb173, 1, none⟩ = some (.int .u64 ((rd_T24 t166 1).f1))) (ds := []) #[false, false, false, false, false, false, false, false, false, false, false, false, false, false, false, false, false, false, false, false, false, false, false, false] (by kernel_rfl) rfl rfl ⟨(blk_cell BK172.out 0).trans rfl, (blk_cell BK172.out 1).trans rfl, (blk_cell BK173.out 0).trans rfl, (blk_cell BK173.out 1).trans rfl⟩ (fun hHeld => ?_); refine with_tabW steeplelaw02_TowerRing.tab6 steeplelaw02_TowerRing.bits6 (fun HT_ HW_ => ?_)
          generalize w68.drew = w69 at HO164 HO168 BK161 BK172 BK173 BK174 BK177 HB hHeld ⊢
          refine one_ (i := 0) (N := some 71) #[true, false, false, false, false, false, false, false, false, false, false, false, false, false, false, false, false, false, false, false, false, false, false, false] rfl rfl (one_of HT_.out (by kernel_rfl)) (by decide) (fun K hK => ?_)
          refine goes_ Try.func15 (by kernel_rfl) rfl #[] (by rfl) rfl rfl (by (try simp only [List.map_toArray, List.map_cons, List.map_nil]); first | done | rfl | (simp only [List.length_drop, List.length_take]; rfl)) ?_
          with_reducible refine (steeplelaw02_awake.calls k  true _ A19.out).mono ?_
          rintro e w70 ⟨rfl, hb⟩
          refine ⟨_, rfl, ?_⟩
          have n0_ := Aside0.mk (Kd.R_below (by (with_reducible repeat (first | apply Kd.R_alloc | apply Kd.R_drewN | apply Kd.R_drew)); exact HO164.out) hb)
          have n1_ := Aside0.mk (Kd.R_below (by (with_reducible repeat (first | apply Kd.R_alloc | apply Kd.R_drewN | apply Kd.R_drew)); exact HO168.out) hb)
          have n2_ := Aside0.mk (blk_below (g := gb161) (o := .cells #[.int .u64 a1_0, .int .u64 a1_1, .int .u64 a1_2, .int .u64 a1_3, .int .u64 a1_4, .int .u64 a1_5] 26 (0, 0)) (by (with_reducible repeat (first | refine blk_drewN ?_ _ | refine blk_drew ?_ | refine blk_alloc ?_ _)); exact BK161.out) hb)
          have n3_ := Aside0.mk (blk_below (g := gb172) (o := .cells #[.int .u64 ((rd_T24 t166 0).f0), .int .u64 ((rd_T24 t166 0).f1)] 24 (0, 0)) (by (with_reducible repeat (first | refine blk_drewN ?_ _ | refine blk_drew ?_ | refine blk_alloc ?_ _)); exact BK172.out) hb)
          have n4_ := Aside0.mk (blk_below (g := gb173) (o := .cells #[.int .u64 ((rd_T24 t166 1).f0), .int .u64 ((rd_T24 t166 1).f1)] 24 (0, 0)) (by (with_reducible repeat (first | refine blk_drewN ?_ _ | refine blk_drew ?_ | refine blk_alloc ?_ _)); exact BK173.out) hb)
          have n5_ := Aside0.mk (blk_below (g := gb174) (o := .cells #[.int .u64 ((rd_T24 t166 2).f0), .int .u64 ((rd_T24 t166 2).f1)] 24 (0, 0)) (by (with_reducible repeat (first | refine blk_drewN ?_ _ | refine blk_drew ?_ | refine blk_alloc ?_ _)); exact BK174.out) hb)
          have n6_ := Aside0.mk (blk_below (g := gb177) (o := .cells #[.int .u64 t175, .int .u64 t176] 24 (0, 0)) (by (with_reducible repeat (first | refine blk_drewN ?_ _ | refine blk_drew ?_ | refine blk_alloc ?_ _)); exact BK177.out) hb)
          have n7_ := Aside0.mk (below_step (by repeat (first | (with_reducible first | exact HB.out | apply below_alloc | apply pw_below_drewN | apply below_drew1 | refine below_set ?_ GE161.out | refine below_set ?_ GE172.out | refine below_set ?_ GE173.out | refine below_set ?_ GE174.out | refine below_set ?_ GE177.out) | exact HB.out)) hb)
          clear HO164
          clear HO168
          clear BK161
          clear BK172
          clear BK173
          clear BK174
          clear BK177
          clear HB
          have HO164 := n0_
          have HO168 := n1_
          have BK161 := n2_
          have BK172 := n3_
          have BK173 := n4_
          have BK174 := n5_
          have BK177 := n6_
          have HB := n7_
          clear n0_ n1_ n2_ n3_ n4_ n5_ n6_ n7_
          (try clear hb)
          (try clear hb2)
          (try clear hk)
          (try clear hi)
          refine hK.out _ _ ⟨(blk_cell BK172.out 0).trans rfl, (blk_cell BK172.out 1).trans rfl, (blk_cell BK173.out 0).trans rfl, (blk_cell BK173.out 1).trans rfl⟩ (fun hHeld => ?_)
          clear hK K
          refine norm_ (a' := ?_) ?_ ?_
          rotate_left
          ·show Act.put _ (some 71) _ = _
           simp only [Act.put, List.setIfInBounds_toArray, List.set_cons_zero, List.set_cons_succ, i64_w, i32_w]
           rfl
          refine pure_ (i := 1) (N := some 72) (v := ?_) (a' := ?_) #[true, true, false, false, false, false, false, false, false, false, false, false, false, false, false, false, false, false, false, false, false, false, false, false] rfl rfl (any_of HT_.out (by kernel_rfl)) (fun _ _ _ h => h) (Or.inl ⟨by rfl, ?_⟩) ?_ ?_
          rotate_left
          ·intro w'
           go_simp
           with_reducible rfl
          rotate_left
          ·simp only [Act.put, List.setIfInBounds_toArray, List.set_cons_zero, List.set_cons_succ, i64_w, i32_w]
           rfl
          refine pure_ (i := 2) (N := some 73) (v := ?_) (a' := ?_) #[true, true, true, false, false, false, false, false, false, false, false, false, false, false, false, false, false, false, false, false, false, false, false, false] rfl rfl (any_of HT_.out (by kernel_rfl)) (fun _ _ _ h => h) (Or.inl ⟨by rfl, ?_⟩) ?_ ?_
          rotate_left
          ·intro w'
           go_simp
           with_reducible rfl
          rotate_left
          ·simp only [Act.put, List.setIfInBounds_toArray, List.set_cons_zero, List.set_cons_succ, i64_w, i32_w]
           rfl
          refine take_ (i := 3) (N := some 74) (v := ?_) (a' := ?_) #[true, true, true, true, false, false, false, false, false, false, false, false, false, false, false, false, false, false, false, false, false, false, false, false] rfl rfl (take_ofW HT_.out HW_.out (by kernel_rfl)) (fun _ _ _ h => h) (Or.inl ⟨by rfl, ?_⟩) hHeld ?_ ?_
          rotate_left
          ·rintro w' ⟨s0, s1, s2, s3⟩
           go_simp
           with_reducible rfl
          rotate_left
          ·simp only [Act.put, List.setIfInBounds_toArray, List.set_cons_zero, List.set_cons_succ, i64_w, i32_w]
           rfl
          refine take_ (i := 6) (N := some 77) (v := ?_) (a' := ?_) #[true, true, true, true, false, false, true, false, false, false, false, false, false, false, false, false, false, false, false, false, false, false, false, false] rfl rfl (take_ofW HT_.out HW_.out (by kernel_rfl)) (fun _ _ _ h => h) (Or.inl ⟨by rfl, ?_⟩) hHeld ?_ ?_
          rotate_left
          ·rintro w' ⟨s0, s1, s2, s3⟩
           go_simp
           with_reducible rfl
          rotate_left
          ·simp only [Act.put, List.setIfInBounds_toArray, List.set_cons_zero, List.set_cons_succ, i64_w, i32_w]
           rfl
          refine one_ (i := 4) (N := some 75) #[true, true, true, true, true, false, true, false, false, false, false, false, false, false, false, false, false, false, false, false, false, false, false, false] rfl rfl (one_of HT_.out (by kernel_rfl)) (by decide) (fun K hK => ?_)
          refine goes_ Try.func16 (by kernel_rfl) rfl #[] (by rfl) rfl rfl (by (try simp only [List.map_toArray, List.map_cons, List.map_nil]); first | done | rfl | (simp only [List.length_drop, List.length_take]; rfl)) ?_
          with_reducible refine (tower_One.calls  t195 t196 _ A21.out).mono ?_
          rintro e w71 ⟨rfl, hb⟩
          refine ⟨_, rfl, ?_⟩
          have n0_ := Aside0.mk (Kd.R_below (by (with_reducible repeat (first | apply Kd.R_alloc | apply Kd.R_drewN | apply Kd.R_drew)); exact HO164.out) hb)
          have n1_ := Aside0.mk (Kd.R_below (by (with_reducible repeat (first | apply Kd.R_alloc | apply Kd.R_drewN | apply Kd.R_drew)); exact HO168.out) hb)
          have n2_ := Aside0.mk (blk_below (g := gb161) (o := .cells #[.int .u64 a1_0, .int .u64 a1_1, .int .u64 a1_2, .int .u64 a1_3, .int .u64 a1_4, .int .u64 a1_5] 26 (0, 0)) (by (with_reducible repeat (first | refine blk_drewN ?_ _ | refine blk_drew ?_ | refine blk_alloc ?_ _)); exact BK161.out) hb)
          have n3_ := Aside0.mk (blk_below (g := gb172) (o := .cells #[.int .u64 ((rd_T24 t166 0).f0), .int .u64 ((rd_T24 t166 0).f1)] 24 (0, 0)) (by (with_reducible repeat (first | refine blk_drewN ?_ _ | refine blk_drew ?_ | refine blk_alloc ?_ _)); exact BK172.out) hb)
          have n4_ := Aside0.mk (blk_below (g := gb173) (o := .cells #[.int .u64 ((rd_T24 t166 1).f0), .int .u64 ((rd_T24 t166 1).f1)] 24 (0, 0)) (by (with_reducible repeat (first | refine blk_drewN ?_ _ | refine blk_drew ?_ | refine blk_alloc ?_ _)); exact BK173.out) hb)
          have n5_ := Aside0.mk (blk_below (g := gb174) (o := .cells #[.int .u64 ((rd_T24 t166 2).f0), .int .u64 ((rd_T24 t166 2).f1)] 24 (0, 0)) (by (with_reducible repeat (first | refine blk_drewN ?_ _ | refine blk_drew ?_ | refine blk_alloc ?_ _)); exact BK174.out) hb)
          have n6_ := Aside0.mk (blk_below (g := gb177) (o := .cells #[.int .u64 t175, .int .u64 t176] 24 (0, 0)) (by (with_reducible repeat (first | refine blk_drewN ?_ _ | refine blk_drew ?_ | refine blk_alloc ?_ _)); exact BK177.out) hb)
          have n7_ := Aside0.mk (below_step (by repeat (first | (with_reducible first | exact HB.out | apply below_alloc | apply pw_below_drewN | apply below_drew1 | refine below_set ?_ GE161.out | refine below_set ?_ GE172.out | refine below_set ?_ GE173.out | refine below_set ?_ GE174.out | refine below_set ?_ GE177.out) | exact HB.out)) hb)
          clear HO164
          clear HO168
          clear BK161
          clear BK172
          clear BK173
          clear BK174
          clear BK177
          clear HB
          have HO164 := n0_
          have HO168 := n1_
          have BK161 := n2_
          have BK172 := n3_
          have BK173 := n4_
          have BK174 := n5_
          have BK177 := n6_
          have HB := n7_
          clear n0_ n1_ n2_ n3_ n4_ n5_ n6_ n7_
          (try clear hb)
          (try clear hb2)
          (try clear hk)
          (try clear hi)
          refine hK.out _ _ ⟨(blk_cell BK172.out 0).trans rfl, (blk_cell BK172.out 1).trans rfl, (blk_cell BK173.out 0).trans rfl, (blk_cell BK173.out 1).trans rfl⟩ (fun hHeld => ?_)
          clear hK K
          refine norm_ (a' := ?_) ?_ ?_
          rotate_left
          ·show Act.put _ (some 75) _ = _
           simp only [Act.put, List.setIfInBounds_toArray, List.set_cons_zero, List.set_cons_succ, i64_w, i32_w]
           rfl
          refine one_ (i := 5) (N := some 76) #[true, true, true, true, true, true, true, false, false, false, false, false, false, false, false, false, false, false, false, false, false, false, false, false] rfl rfl (one_of HT_.out (by kernel_rfl)) (by decide) (fun K hK => ?_)
          refine goes_ Try.func13 (by kernel_rfl) rfl #[.int .i64 t165, .agg #[.int .u64 ((rd_T24 t166 0).f0), .int .u64 ((rd_T24 t166 0).f1)], .agg #[.int .u64 t195, .int .u64 t196]] (by rfl) rfl rfl (by (try simp only [List.map_toArray, List.map_cons, List.map_nil]); first | done | rfl | (simp only [List.length_drop, List.length_take]; rfl)) ?_
          with_reducible refine (tower_Mul.calls k t165 ((rd_T24 t166 0).f0) ((rd_T24 t166 0).f1) t195 t196 t197 t198 _ A22.out).mono ?_
          rintro e w72 ⟨rfl, hb⟩
          refine ⟨_, rfl, ?_⟩
          have n0_ := Aside0.mk (Kd.R_below (by (with_reducible repeat (first | apply Kd.R_alloc | apply Kd.R_drewN | apply Kd.R_drew)); exact HO164.out) hb)
          have n1_ := Aside0.mk (Kd.R_below (by (with_reducible repeat (first | apply Kd.R_alloc | apply Kd.R_drewN | apply Kd.R_drew)); exact HO168.out) hb)
          have n2_ := Aside0.mk (blk_below (g := gb161) (o := .cells #[.int .u64 a1_0, .int .u64 a1_1, .int .u64 a1_2, .int .u64 a1_3, .int .u64 a1_4, .int .u64 a1_5] 26 (0, 0)) (by (with_reducible repeat (first | refine blk_drewN ?_ _ | refine blk_drew ?_ | refine blk_alloc ?_ _)); exact BK161.out) hb)
          have n3_ := Aside0.mk (blk_below (g := gb172) (o := .cells #[.int .u64 ((rd_T24 t166 0).f0), .int .u64 ((rd_T24 t166 0).f1)] 24 (0, 0)) (by (with_reducible repeat (first | refine blk_drewN ?_ _ | refine blk_drew ?_ | refine blk_alloc ?_ _)); exact BK172.out) hb)
          have n4_ := Aside0.mk (blk_below (g := gb173) (o := .cells #[.int .u64 ((rd_T24 t166 1).f0), .int .u64 ((rd_T24 t166 1).f1)] 24 (0, 0)) (by (with_reducible repeat (first | refine blk_drewN ?_ _ | refine blk_drew ?_ | refine blk_alloc ?_ _)); exact BK173.out) hb)
          have n5_ := Aside0.mk (blk_below (g := gb174) (o := .cells #[.int .u64 ((rd_T24 t166 2).f0), .int .u64 ((rd_T24 t166 2).f1)] 24 (0, 0)) (by (with_reducible repeat (first | refine blk_drewN ?_ _ | refine blk_drew ?_ | refine blk_alloc ?_ _)); exact BK174.out) hb)
          have n6_ := Aside0.mk (blk_below (g := gb177) (o := .cells #[.int .u64 t175, .int .u64 t176] 24 (0, 0)) (by (with_reducible repeat (first | refine blk_drewN ?_ _ | refine blk_drew ?_ | refine blk_alloc ?_ _)); exact BK177.out) hb)
          have n7_ := Aside0.mk (below_step (by repeat (first | (with_reducible first | exact HB.out | apply below_alloc | apply pw_below_drewN | apply below_drew1 | refine below_set ?_ GE161.out | refine below_set ?_ GE172.out | refine below_set ?_ GE173.out | refine below_set ?_ GE174.out | refine below_set ?_ GE177.out) | exact HB.out)) hb)
          clear HO164
          clear HO168
          clear BK161
          clear BK172
          clear BK173
          clear BK174
          clear BK177
          clear HB
          have HO164 := n0_
          have HO168 := n1_
          have BK161 := n2_
          have BK172 := n3_
          have BK173 := n4_
          have BK174 := n5_
          have BK177 := n6_
          have HB := n7_
          clear n0_ n1_ n2_ n3_ n4_ n5_ n6_ n7_
          (try clear hb)
          (try clear hb2)
          (try clear hk)
          (try clear hi)
          refine hK.out _ _ ⟨(blk_cell BK172.out 0).trans rfl, (blk_cell BK172.out 1).trans rfl, (blk_cell BK173.out 0).trans rfl, (blk_cell BK173.out 1).trans rfl⟩ (fun hHeld => ?_)
          clear hK K
          refine norm_ (a' := ?_) ?_ ?_
          rotate_left
          ·show Act.put _ (some 76) _ = _
           simp only [Act.put, List.setIfInBounds_toArray, List.set_cons_zero, List.set_cons_succ, i64_w, i32_w]
           rfl
          refine pure_ (i := 7) (N := some 78) (v := ?_) (a' := ?_) #[true, true, true, true, true, true, true, true, false, false, false, false, false, false, false, false, false, false, false, false, false, false, false, false] rfl rfl (any_of HT_.out (by kernel_rfl)) (fun _ _ _ h => h) (Or.inl ⟨by rfl, ?_⟩) ?_ ?_
          rotate_left
          ·intro w'
           go_simp
           with_reducible rfl
          rotate_left
          ·simp only [Act.put, List.setIfInBounds_toArray, List.set_cons_zero, List.set_cons_succ, i64_w, i32_w]
           rfl
          refine pure_ (i := 8) (N := some 79) (v := ?_) (a' := ?_) #[true, true, true, true, true, true, true, true, true, false, false, false, false, false, false, false, false, false, false, false, false, false, false, false] rfl rfl (any_of HT_.out (by kernel_rfl)) (fun _ _ _ h => h) (Or.inl ⟨by rfl, ?_⟩) ?_ ?_
          rotate_left
          ·intro w'
           go_simp
           with_reducible rfl
          rotate_left
          ·simp only [Act.put, List.setIfInBounds_toArray, List.set_cons_zero, List.set_cons_succ, i64_w, i32_w]
           rfl
          refine pure_ (i := 9) (N := some 80) (v := ?_) (a' := ?_) #[true, true, true, true, true, true, true, true, true, true, false, false, false, false, false, false, false, false, false, false, false, false, false, false] rfl rfl (any_of HT_.out (by kernel_rfl)) (fun _ _ _ h => h) (Or.inl ⟨by rfl, ?_⟩) ?_ ?_
          rotate_left
          ·intro w'
           go_simp
           with_reducible rfl
          rotate_left
          ·simp only [Act.put, List.setIfInBounds_toArray, List.set_cons_zero, List.set_cons_succ, i64_w, i32_w]
           rfl
          refine take_ (i := 10) (N := some 81) (v := ?_) (a' := ?_) #[true, true, true, true, true, true, true, true, true, true, true, false, false, false, false, false, false, false, false, false, false, false, false, false] rfl rfl (take_ofW HT_.out HW_.out (by kernel_rfl)) (fun _ _ _ h => h) (Or.inl ⟨by rfl, ?_⟩) hHeld ?_ ?_
          rotate_left
          ·rintro w' ⟨s0, s1, s2, s3⟩
           go_simp
           with_reducible rfl
          rotate_left
          ·simp only [Act.put, List.setIfInBounds_toArray, List.set_cons_zero, List.set_cons_succ, i64_w, i32_w]
           rfl
          refine take_ (i := 11) (N := some 82) (v := ?_) (a' := ?_) #[true, true, true, true, true, true, true, true, true, true, true, true, false, false, false, false, false, false, false, false, false, false, false, false] rfl rfl (take_ofW HT_.out HW_.out (by kernel_rfl)) (fun _ _ _ h => h) (Or.inl ⟨by rfl, ?_⟩) hHeld ?_ ?_
          rotate_left
          ·rintro w' ⟨s0, s1, s2, s3⟩
           go_simp
           with_reducible rfl
          rotate_left
          ·simp only [Act.put, List.setIfInBounds_toArray, List.set_cons_zero, List.set_cons_succ, i64_w, i32_w]
           rfl
          refine take_ (i := 12) (N := some 83) (v := ?_) (a' := ?_) #[true, true, true, true, true, true, true, true, true, true, true, true, true, false, false, false, false, false, false, false, false, false, false, false] rfl rfl (take_ofW HT_.out HW_.out (by kernel_rfl)) (fun _ _ _ h => h) (Or.inl ⟨by rfl, ?_⟩) hHeld ?_ ?_
          rotate_left
          ·rintro w' ⟨s0, s1, s2, s3⟩
           go_simp
           with_reducible rfl
          rotate_left
          ·simp only [Act.put, List.setIfInBounds_toArray, List.set_cons_zero, List.set_cons_succ, i64_w, i32_w]
           rfl
          refine take_ (i := 15) (N := some 86) (v := ?_) (a' := ?_) #[true, true, true, true, true, true, true, true, true, true, true, true, true, false, false, true, false, false, false, false, false, false, false, false] rfl rfl (take_ofW HT_.out HW_.out (by kernel_rfl)) (fun _ _ _ h => h) (Or.inl ⟨by rfl, ?_⟩) hHeld ?_ ?_
          rotate_left
          ·rintro w' ⟨s0, s1, s2, s3⟩
           go_simp
           with_reducible rfl
          rotate_left
          ·simp only [Act.put, List.setIfInBounds_toArray, List.set_cons_zero, List.set_cons_succ, i64_w, i32_w]
           rfl
          refine one_ (i := 13) (N := some 84) #[true, true, true, true, true, true, true, true, true, true, true, true, true, true, false, true, false, false, false, false, false, false, false, false] rfl rfl (one_of HT_.out (by kernel_rfl)) (by decide) (fun K hK => ?_)
          refine Kd.R_lit_step k24 _ 24 ?hg (N := 84) ?hd (xs := ([(⟨(rd_T24 t166 0).f0, (rd_T24 t166 0).f1⟩ : S24), (⟨(rd_T24 t166 1).f0, (rd_T24 t166 1).f1⟩ : S24), (⟨(rd_T24 t166 0).f0, (rd_T24 t166 0).f1⟩ : S24)] : List (S24))) (inner := [.int .u64 ((rd_T24 t166 0).f0), .int .u64 ((rd_T24 t166 0).f1), .int .u64 ((rd_T24 t166 1).f0), .int .u64 ((rd_T24 t166 1).f1), .int .u64 ((rd_T24 t166 0).f0), .int .u64 ((rd_T24 t166 0).f1)]) (ok := fun _ => True) (okp := fun _ => True) ?hr ?hp (fun _ hk => hk) trivial (Below.refl _ _) (Nat.le_refl _) (by simp) ?_; (case hd => rfl); (case hg => rfl); (case hr => first | (go_simp; done) | (go_simp; rfl)); (case hp => exact (Reps.c2 (show Kd.M k24 _ _ _ (⟨(rd_T24 t166 0).f0, (rd_T24 t166 0).f1⟩ : S24) [.int .u64 ((rd_T24 t166 0).f0), .int .u64 ((rd_T24 t166 0).f1)] from (k24_mkM _ _ _ (⟨(rd_T24 t166 0).f0, (rd_T24 t166 0).f1⟩ : S24) )) (Reps.c2 (show Kd.M k24 _ _ _ (⟨(rd_T24 t166 1).f0, (rd_T24 t166 1).f1⟩ : S24) [.int .u64 ((rd_T24 t166 1).f0), .int .u64 ((rd_T24 t166 1).f1)] from (k24_mkM _ _ _ (⟨(rd_T24 t166 1).f0, (rd_T24 t166 1).f1⟩ : S24) )) (Reps.c2 (show Kd.M k24 _ _ _ (⟨(rd_T24 t166 0).f0, (rd_T24 t166 0).f1⟩ : S24) [.int .u64 ((rd_T24 t166 0).f0), .int .u64 ((rd_T24 t166 0).f1)] from (k24_mkM _ _ _ (⟨(rd_T24 t166 0).f0, (rd_T24 t166 0).f1⟩ : S24) )) (Reps.none _ _)))))
          intro v200 w73 ho74 hb hg_ hnew_
          clear hg_ hnew_
          (first | rw [← Ny199.out] at ho74 | (simp only [Int.reduceToNat] at ho74; rw [← Ny199.out] at ho74))
          have n0_ := Aside0.mk (Kd.R_elder' (by (with_reducible repeat (first | apply Kd.R_alloc | apply Kd.R_drewN | apply Kd.R_drew)); exact HO164.out) (Kd.R_base ho74) hb)
          have n1_ := Aside0.mk (Kd.R_elder' (by (with_reducible repeat (first | apply Kd.R_alloc | apply Kd.R_drewN | apply Kd.R_drew)); exact HO168.out) (Kd.R_base ho74) hb)
          have n2_ := Aside0.mk (Kd.R_lower (Kd.R_newB (Kd.R_newB (Kd.R_newB (Kd.R_newB (Kd.R_new' (Kd.R_new' ho74 (Kd.R_lt (by (with_reducible repeat (first | apply Kd.R_alloc | apply Kd.R_drewN | apply Kd.R_drew)); exact HO164.out))) (Kd.R_lt (by (with_reducible repeat (first | apply Kd.R_alloc | apply Kd.R_drewN | apply Kd.R_drew)); exact HO168.out))) (g := gb172) (o := .cells #[.int .u64 ((rd_T24 t166 0).f0), .int .u64 ((rd_T24 t166 0).f1)] 24 (0, 0)) (by (with_reducible repeat (first | refine blk_drewN ?_ _ | refine blk_drew ?_ | refine blk_alloc ?_ _)); exact BK172.out)) (g := gb173) (o := .cells #[.int .u64 ((rd_T24 t166 1).f0), .int .u64 ((rd_T24 t166 1).f1)] 24 (0, 0)) (by (with_reducible repeat (first | refine blk_drewN ?_ _ | refine blk_drew ?_ | refine blk_alloc ?_ _)); exact BK173.out)) (g := gb174) (o := .cells #[.int .u64 ((rd_T24 t166 2).f0), .int .u64 ((rd_T24 t166 2).f1)] 24 (0, 0)) (by (with_reducible repeat (first | refine blk_drewN ?_ _ | refine blk_drew ?_ | refine blk_alloc ?_ _)); exact BK174.out)) (g := gb177) (o := .cells #[.int .u64 t175, .int .u64 t176] 24 (0, 0)) (by (with_reducible repeat (first | refine blk_drewN ?_ _ | refine blk_drew ?_ | refine blk_alloc ?_ _)); exact BK177.out)) (below_size (by repeat (first | (with_reducible first | exact HB.out | apply below_alloc | apply pw_below_drewN | apply below_drew1 | refine below_set ?_ GE161.out | refine below_set ?_ GE172.out | refine below_set ?_ GE173.out | refine below_set ?_ GE174.out | refine below_set ?_ GE177.out) | exact HB.out))))
          have n3_ := Aside0.mk (blk_below (g := gb161) (o := .cells #[.int .u64 a1_0, .int .u64 a1_1, .int .u64 a1_2, .int .u64 a1_3, .int .u64 a1_4, .int .u64 a1_5] 26 (0, 0)) (by (with_reducible repeat (first | refine blk_drewN ?_ _ | refine blk_drew ?_ | refine blk_alloc ?_ _)); exact BK161.out) hb)
          have n4_ := Aside0.mk (blk_below (g := gb172) (o := .cells #[.int .u64 ((rd_T24 t166 0).f0), .int .u64 ((rd_T24 t166 0).f1)] 24 (0, 0)) (by (with_reducible repeat (first | refine blk_drewN ?_ _ | refine blk_drew ?_ | refine blk_alloc ?_ _)); exact BK172.out) hb)
          have n5_ := Aside0.mk (blk_below (g := gb173) (o := .cells #[.int .u64 ((rd_T24 t166 1).f0), .int .u64 ((rd_T24 t166 1).f1)] 24 (0, 0)) (by (with_reducible repeat (first | refine blk_drewN ?_ _ | refine blk_drew ?_ | refine blk_alloc ?_ _)); exact BK173.out) hb)
          have n6_ := Aside0.mk (blk_below (g := gb174) (o := .cells #[.int .u64 ((rd_T24 t166 2).f0), .int .u64 ((rd_T24 t166 2).f1)] 24 (0, 0)) (by (with_reducible repeat (first | refine blk_drewN ?_ _ | refine blk_drew ?_ | refine blk_alloc ?_ _)); exact BK174.out) hb)
          have n7_ := Aside0.mk (blk_below (g := gb177) (o := .cells #[.int .u64 t175, .int .u64 t176] 24 (0, 0)) (by (with_reducible repeat (first | refine blk_drewN ?_ _ | refine blk_drew ?_ | refine blk_alloc ?_ _)); exact BK177.out) hb)
          have n8_ := Aside0.mk (below_step (by repeat (first | (with_reducible first | exact HB.out | apply below_alloc | apply pw_below_drewN | apply below_drew1 | refine below_set ?_ GE161.out | refine below_set ?_ GE172.out | refine below_set ?_ GE173.out | refine below_set ?_ GE174.out | refine below_set ?_ GE177.out) | exact HB.out)) hb)
          clear HO164
          clear HO168
          clear BK161
          clear BK172
          clear BK173
          clear BK174
          clear BK177
          clear HB
          have HO164 := n0_
          have HO168 := n1_
          have HO201 := n2_
          have BK161 := n3_
          have BK172 := n4_
          have BK173 := n5_
          have BK174 := n6_
          have BK177 := n7_
          have HB := n8_
          clear n0_ n1_ n2_ n3_ n4_ n5_ n6_ n7_ n8_
          clear hb ho74
          obtain ⟨Ao75, co75, eo75⟩ := Kd.R_slice HO201.out
          (first | subst eo75 | (injection eo75 with f1_ f2_ f3_; have f4_ := f1_.symm; have f5_ := f3_.symm; clear f1_ f2_ f3_; subst f4_; subst f5_))
          refine hK.out _ _ ⟨(blk_cell BK172.out 0).trans rfl, (blk_cell BK172.out 1).trans rfl, (blk_cell BK173.out 0).trans rfl, (blk_cell BK173.out 1).trans rfl⟩ (fun hHeld => ?_)
          clear hK K
          refine norm_ (a' := ?_) ?_ ?_
          rotate_left
          ·show Act.put _ (some 84) _ = _
           simp only [Act.put, List.setIfInBounds_toArray, List.set_cons_zero, List.set_cons_succ, i64_w, i32_w]
           rfl
          refine one_ (i := 14) (N := some 85) #[true, true, true, true, true, true, true, true, true, true, true, true, true, true, true, true, false, false, false, false, false, false, false, false] rfl rfl (one_of HT_.out (by kernel_rfl)) (by decide) (fun K hK => ?_)
          refine goes_ Try.func17 (by kernel_rfl) rfl #[.slice Ao75 y199.length co75] (by rfl) rfl rfl (by (try simp only [List.map_toArray, List.map_cons, List.map_nil]); first | done | rfl | (simp only [List.length_drop, List.length_take]; rfl)) ?_
          with_reducible refine (tower_Sum.calls k _ _ y199 t202 t203 _ ?side1 ?side2 A24.out).mono ?_
          (case side1 => repeat (first | exact (Kd.R_reads' HO201.out).2.2 | (with_reducible refine Kd.C_alloc ?_ _) | (with_reducible refine Kd.C_drewN ?_ _) | (with_reducible refine Kd.C_drew ?_)))
          (case side2 => exact (Kd.R_reads' HO201.out).2.1)
          rintro e w76 ⟨rfl, hb⟩
          refine ⟨_, rfl, ?_⟩
          have n0_ := Aside0.mk (Kd.R_below (by (with_reducible repeat (first | apply Kd.R_alloc | apply Kd.R_drewN | apply Kd.R_drew)); exact HO164.out) hb)
          have n1_ := Aside0.mk (Kd.R_below (by (with_reducible repeat (first | apply Kd.R_alloc | apply Kd.R_drewN | apply Kd.R_drew)); exact HO168.out) hb)
          have n2_ := Aside0.mk (Kd.R_below (by (with_reducible repeat (first | apply Kd.R_alloc | apply Kd.R_drewN | apply Kd.R_drew)); exact HO201.out) hb)
          have n3_ := Aside0.mk (blk_below (g := gb161) (o := .cells #[.int .u64 a1_0, .int .u64 a1_1, .int .u64 a1_2, .int .u64 a1_3, .int .u64 a1_4, .int .u64 a1_5] 26 (0, 0)) (by (with_reducible repeat (first | refine blk_drewN ?_ _ | refine blk_drew ?_ | refine blk_alloc ?_ _)); exact BK161.out) hb)
          have n4_ := Aside0.mk (blk_below (g := gb172) (o := .cells #[.int .u64 ((rd_T24 t166 0).f0), .int .u64 ((rd_T24 t166 0).f1)] 24 (0, 0)) (by (with_reducible repeat (first | refine blk_drewN ?_ _ | refine blk_drew ?_ | refine blk_alloc ?_ _)); exact BK172.out) hb)
          have n5_ := Aside0.mk (blk_below (g := gb173) (o := .cells #[.int .u64 ((rd_T24 t166 1).f0), .int .u64 ((rd_T24 t166 1).f1)] 24 (0, 0)) (by (with_reducible repeat (first | refine blk_drewN ?_ _ | refine blk_drew ?_ | refine blk_alloc ?_ _)); exact BK173.out) hb)
          have n6_ := Aside0.mk (blk_below (g := gb174) (o := .cells #[.int .u64 ((rd_T24 t166 2).f0), .int .u64 ((rd_T24 t166 2).f1)] 24 (0, 0)) (by (with_reducible repeat (first | refine blk_drewN ?_ _ | refine blk_drew ?_ | refine blk_alloc ?_ _)); exact BK174.out) hb)
          have n7_ := Aside0.mk (blk_below (g := gb177) (o := .cells #[.int .u64 t175, .int .u64 t176] 24 (0, 0)) (by (with_reducible repeat (first | refine blk_drewN ?_ _ | refine blk_drew ?_ | refine blk_alloc ?_ _)); exact BK177.out) hb)
          have n8_ := Aside0.mk (below_step (by repeat (first | (with_reducible first | exact HB.out | apply below_alloc | apply pw_below_drewN | apply below_drew1 | refine below_set ?_ GE161.out | refine below_set ?_ GE172.out | refine below_set ?_ GE173.out | refine below_set ?_ GE174.out | refine below_set ?_ GE177.out) | exact HB.out)) hb)
          clear HO164
          clear HO168
          clear HO201
          clear BK161
          clear BK172
          clear BK173
          clear BK174
          clear BK177
          clear HB
          have HO164 := n0_
          have HO168 := n1_
          have HO201 := n2_
          have BK161 := n3_
          have BK172 := n4_
          have BK173 := n5_
          have BK174 := n6_
          have BK177 := n7_
          have HB := n8_
          clear n0_ n1_ n2_ n3_ n4_ n5_ n6_ n7_ n8_
          (try clear hb)
          (try clear hb2)
          (try clear hk)
          (try clear hi)
          refine hK.out _ _ ⟨(blk_cell BK172.out 0).trans rfl, (blk_cell BK172.out 1).trans rfl, (blk_cell BK173.out 0).trans rfl, (blk_cell BK173.out 1).trans rfl⟩ (fun hHeld => ?_)
          clear hK K
          refine norm_ (a' := ?_) ?_ ?_
          rotate_left
          ·show Act.put _ (some 85) _ = _
           simp only [Act.put, List.setIfInBounds_toArray, List.set_cons_zero, List.set_cons_succ, i64_w, i32_w]
           rfl
          refine pure_ (i := 16) (N := some 87) (v := ?_) (a' := ?_) #[true, true, true, true, true, true, true, true, true, true, true, true, true, true, true, true, true, false, false, false, false, false, false, false] rfl rfl (any_of HT_.out (by kernel_rfl)) (fun _ _ _ h => h) (Or.inl ⟨by rfl, ?_⟩) ?_ ?_
          rotate_left
          ·intro w'
           go_simp
           with_reducible rfl
          rotate_left
          ·simp only [Act.put, List.setIfInBounds_toArray, List.set_cons_zero, List.set_cons_succ, i64_w, i32_w]
           rfl
          refine pure_ (i := 17) (N := some 88) (v := ?_) (a' := ?_) #[true, true, true, true, true, true, true, true, true, true, true, true, true, true, true, true, true, true, false, false, false, false, false, false] rfl rfl (any_of HT_.out (by kernel_rfl)) (fun _ _ _ h => h) (Or.inl ⟨by rfl, ?_⟩) ?_ ?_
          rotate_left
          ·intro w'
           go_simp
           with_reducible rfl
          rotate_left
          ·simp only [Act.put, List.setIfInBounds_toArray, List.set_cons_zero, List.set_cons_succ, i64_w, i32_w]
           rfl
          refine pure_ (i := 18) (N := some 89) (v := ?_) (a' := ?_) #[true, true, true, true, true, true, true, true, true, true, true, true, true, true, true, true, true, true, true, false, false, false, false, false] rfl rfl (any_of HT_.out (by kernel_rfl)) (fun _ _ _ h => h) (Or.inl ⟨by rfl, ?_⟩) ?_ ?_
          rotate_left
          ·intro w'
           go_simp
           with_reducible rfl
          rotate_left
          ·simp only [Act.put, List.setIfInBounds_toArray, List.set_cons_zero, List.set_cons_succ, i64_w, i32_w]
           rfl
          refine pure_ (i := 20) (N := some 91) (v := ?_) (a' := ?_) #[true, true, true, true, true, true, true, true, true, true, true, true, true, true, true, true, true, true, true, false, true, false, false, false] rfl rfl (any_of HT_.out (by kernel_rfl)) (fun _ _ _ h => h) (Or.inl ⟨by rfl, ?_⟩) ?_ ?_
          rotate_left
          ·intro w'
           go_simp
           with_reducible rfl
          rotate_left
          ·simp only [Act.put, List.setIfInBounds_toArray, List.set_cons_zero, List.set_cons_succ, i64_w, i32_w]
           rfl
          refine one_ (i := 19) (N := some 90) #[true, true, true, true, true, true, true, true, true, true, true, true, true, true, true, true, true, true, true, true, true, false, false, false] rfl rfl (one_of HT_.out (by kernel_rfl)) (by decide) (fun K hK => ?_)
          refine goes_ Try.func17 (by kernel_rfl) rfl #[.slice none 0 0] (by rfl) rfl rfl (by (try simp only [List.map_toArray, List.map_cons, List.map_nil]); first | done | rfl | (simp only [List.length_drop, List.length_take]; rfl)) ?_
          refine (tower_Sum.calls k _ _ ([] : List (S24)) t204 t205 _ ?side1 ?side2 A26.out).mono ?_
          (case side1 => exact Kd.C_nil _ _)
          (case side2 => exact Nat.le_refl _)
          rintro e w77 ⟨rfl, hb⟩
          refine ⟨_, rfl, ?_⟩
          have n0_ := Aside0.mk (Kd.R_below (by (with_reducible repeat (first | apply Kd.R_alloc | apply Kd.R_drewN | apply Kd.R_drew)); exact HO164.out) hb)
          have n1_ := Aside0.mk (Kd.R_below (by (with_reducible repeat (first | apply Kd.R_alloc | apply Kd.R_drewN | apply Kd.R_drew)); exact HO168.out) hb)
          have n2_ := Aside0.mk (Kd.R_below (by (with_reducible repeat (first | apply Kd.R_alloc | apply Kd.R_drewN | apply Kd.R_drew)); exact HO201.out) hb)
          have n3_ := Aside0.mk (blk_below (g := gb161) (o := .cells #[.int .u64 a1_0, .int .u64 a1_1, .int .u64 a1_2, .int .u64 a1_3, .int .u64 a1_4, .int .u64 a1_5] 26 (0, 0)) (by (with_reducible repeat (first | refine blk_drewN ?_ _ | refine blk_drew ?_ | refine blk_alloc ?_ _)); exact BK161.out) hb)
          have n4_ := Aside0.mk (blk_below (g := gb172) (o := .cells #[.int .u64 ((rd_T24 t166 0).f0), .int .u64 ((rd_T24 t166 0).f1)] 24 (0, 0)) (by (with_reducible repeat (first | refine blk_drewN ?_ _ | refine blk_drew ?_ | refine blk_alloc ?_ _)); exact BK172.out) hb)
          have n5_ := Aside0.mk (blk_below (g := gb173) (o := .cells #[.int .u64 ((rd_T24 t166 1).f0), .int .u64 ((rd_T24 t166 1).f1)] 24 (0, 0)) (by (with_reducible repeat (first | refine blk_drewN ?_ _ | refine blk_drew ?_ | refine blk_alloc ?_ _)); exact BK173.out) hb)
          have n6_ := Aside0.mk (blk_below (g := gb174) (o := .cells #[.int .u64 ((rd_T24 t166 2).f0), .int .u64 ((rd_T24 t166 2).f1)] 24 (0, 0)) (by (with_reducible repeat (first | refine blk_drewN ?_ _ | refine blk_drew ?_ | refine blk_alloc ?_ _)); exact BK174.out) hb)
          have n7_ := Aside0.mk (blk_below (g := gb177) (o := .cells #[.int .u64 t175, .int .u64 t176] 24 (0, 0)) (by (with_reducible repeat (first | refine blk_drewN ?_ _ | refine blk_drew ?_ | refine blk_alloc ?_ _)); exact BK177.out) hb)
          have n8_ := Aside0.mk (below_step (by repeat (first | (with_reducible first | exact HB.out | apply below_alloc | apply pw_below_drewN | apply below_drew1 | refine below_set ?_ GE161.out | refine below_set ?_ GE172.out | refine below_set ?_ GE173.out | refine below_set ?_ GE174.out | refine below_set ?_ GE177.out) | exact HB.out)) hb)
          clear HO164
          clear HO168
          clear HO201
          clear BK161
          clear BK172
          clear BK173
          clear BK174
          clear BK177
          clear HB
          have HO164 := n0_
          have HO168 := n1_
          have HO201 := n2_
          have BK161 := n3_
          have BK172 := n4_
          have BK173 := n5_
          have BK174 := n6_
          have BK177 := n7_
          have HB := n8_
          clear n0_ n1_ n2_ n3_ n4_ n5_ n6_ n7_ n8_
          (try clear hb)
          (try clear hb2)
          (try clear hk)
          (try clear hi)
          refine hK.out _ _ ⟨(blk_cell BK172.out 0).trans rfl, (blk_cell BK172.out 1).trans rfl, (blk_cell BK173.out 0).trans rfl, (blk_cell BK173.out 1).trans rfl⟩ (fun hHeld => ?_)
          clear hK K
          refine norm_ (a' := ?_) ?_ ?_
          rotate_left
          ·show Act.put _ (some 90) _ = _
           simp only [Act.put, List.setIfInBounds_toArray, List.set_cons_zero, List.set_cons_succ, i64_w, i32_w]
           rfl
          refine pure_ (i := 21) (N := some 92) (v := ?_) (a' := ?_) #[true, true, true, true, true, true, true, true, true, true, true, true, true, true, true, true, true, true, true, true, true, true, false, false] rfl rfl (any_of HT_.out (by kernel_rfl)) (fun _ _ _ h => h) (Or.inl ⟨by rfl, ?_⟩) ?_ ?_
          rotate_left
          ·intro w'
           go_simp
           with_reducible rfl
          rotate_left
          ·simp only [Act.put, List.setIfInBounds_toArray, List.set_cons_zero, List.set_cons_succ, i64_w, i32_w]
           rfl
          refine pure_ (i := 22) (N := some 93) (v := ?_) (a' := ?_) #[true, true, true, true, true, true, true, true, true, true, true, true, true, true, true, true, true, true, true, true, true, true, true, false] rfl rfl (any_of HT_.out (by kernel_rfl)) (fun _ _ _ h => h) (Or.inl ⟨by rfl, ?_⟩) ?_ ?_
          rotate_left
          ·intro w'
           go_simp
           with_reducible rfl
          rotate_left
          ·simp only [Act.put, List.setIfInBounds_toArray, List.set_cons_zero, List.set_cons_succ, i64_w, i32_w]
           rfl
          refine pure_ (i := 23) (N := some 4) (v := ?_) (a' := ?_) #[true, true, true, true, true, true, true, true, true, true, true, true, true, true, true, true, true, true, true, true, true, true, true, true] rfl rfl (any_of HT_.out (by kernel_rfl)) (fun _ _ _ h => h) (Or.inl ⟨by rfl, ?_⟩) ?_ ?_
          rotate_left
          ·intro w'
           go_simp
           with_reducible rfl
          rotate_left
          ·simp only [Act.put, List.setIfInBounds_toArray, List.set_cons_zero, List.set_cons_succ, i64_w, i32_w]
           rfl
          refine done_ (done_of HT_.out (by kernel_rfl)) ?_
          try go_wp2
          go_ret
          exact ⟨by first | rfl | (simp [errW_none, errW_some] <;> rfl) | (simp [*, errW_none, errW_some] <;> rfl), by repeat (first | (with_reducible first | exact HB.out | apply below_alloc | apply pw_below_drewN | apply below_drew1 | refine below_set ?_ GE161.out | refine below_set ?_ GE172.out | refine below_set ?_ GE173.out | refine below_set ?_ GE174.out | refine below_set ?_ GE177.out) | exact HB.out)⟩
         ·rw [if_neg c25] at H
          have c25b0 : (t202 == ((rd_T24 t166 1).f0) && (t203 == ((rd_T24 t166 1).f1))) = false := by simpa using c25
          (try (have c25b1 : decide (t202 = ((rd_T24 t166 1).f0) && (t203 == ((rd_T24 t166 1).f1))) = false := by simpa using c25))
          (try (have c25b2 : (t202 == ((rd_T24 t166 1).f0) && (t203 == ((rd_T24 t166 1).f1))) = false := by simpa using c25))
          (try (have c25b3 : ¬ (t202 = ((rd_T24 t166 1).f0) && (t203 == ((rd_T24 t166 1).f1))) := by simpa using c25))
          clear c25
          exact absurd H (by simp)
        ·rw [if_neg c23] at H
         have c23b0 : (t197 == ((rd_T24 t166 0).f0) && (t198 == ((rd_T24 t166 0).f1))) = false := by simpa using c23
         (try (have c23b1 : decide (t197 = ((rd_T24 t166 0).f0) && (t198 == ((rd_T24 t166 0).f1))) = false := by simpa using c23))
         (try (have c23b2 : (t197 == ((rd_T24 t166 0).f0) && (t198 == ((rd_T24 t166 0).f1))) = false := by simpa using c23))
         (try (have c23b3 : ¬ (t197 = ((rd_T24 t166 0).f0) && (t198 == ((rd_T24 t166 0).f1))) := by simpa using c23))
         clear c23
         exact absurd H (by simp)
       ·replace c20 := Bool.eq_false_iff.mpr c20
        subst c20
        have H1 : (none) = some r := by rw [if_neg (show ¬ (false = true) by decide)] at H; exact H
        clear H
        have H := H1
        clear H1
        exact absurd H (by simp)
   ·rw [if_neg c6] at H
    exact absurd H (by simp)
  ·rw [if_neg c5] at H
   exact absurd H (by simp)
 ·rw [if_neg c4] at H
  exact absurd H (by simp)

/-- THE ONE PURE STATEMENT of steeplelaw02_TowerRing. -/
def steeplelaw02_TowerRing.Pure : Prop := ∀ (x0 : Int) (x1 : S26), (Lit.int .i64 x0).wf = true → (((Lit.int .u64 x1.f0.f0).wf = true ∧ (Lit.int .u64 x1.f0.f1).wf = true) ∧ ((Lit.int .u64 x1.f1.f0).wf = true ∧ (Lit.int .u64 x1.f1.f1).wf = true) ∧ ((Lit.int .u64 x1.f2.f0).wf = true ∧ (Lit.int .u64 x1.f2.f1).wf = true)) → ∃ k, steeplelaw02_TowerRing.f k x0 x1.f0.f0 x1.f0.f1 x1.f1.f0 x1.f1.f1 x1.f2.f0 x1.f2.f1 = some true

end Go.Proofs.Ytbjjjdallodbgaa.P
