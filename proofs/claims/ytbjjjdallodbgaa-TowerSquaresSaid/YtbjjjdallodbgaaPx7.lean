/- Written by a program of this session: functions that the law reaches, as Lean functions, and that the code comes to their answers. Conditions: those that each theorem names. -/
import Derived.Test.YtbjjjdallodbgaaPx0
import Derived.Test.YtbjjjdallodbgaaPx1
import Derived.Test.YtbjjjdallodbgaaPx3
import Derived.Test.YtbjjjdallodbgaaPx4
import Derived.Test.YtbjjjdallodbgaaPx6
namespace Go.Proofs.Ytbjjjdallodbgaa.P
open Go.RowKit Go.Proofs.YtbjjjdallodbgaaW.PrintWords Go.Proofs.YtbjjjdallodbgaaW.PrintLast Go.Proofs.YtbjjjdallodbgaaW.PrintMore
attribute [local go_sem] max2_int min2_int max_two min_two max_three min_three max_four min_four   -- for this text's walks alone
set_option linter.unusedVariables false
set_option linter.unusedSimpArgs false

attribute [local go_sem high] eqA24
/-! ### steeplelaw02_TowerSquares: function 4 -/
def steeplelaw02_TowerSquares.l0 : Nat → Int → Int → Int → Int → Int → Int → Option (Bool)
 | 0, _, _, _, _, _, _ => none
 | k + 1, x7, x12, x231000, x231001, x247000, x247001 => (some (([1, 2, 4, 8, 16, 32, 64, 128] : List Int) : List Int)).bind fun y247 => (if 0 ≤ x7 then (if x7 < (y247.length : Int) then (if x12 < (rd y247 x7) then ((tower_Square.f k x7 x247000 x247001).bind fun bt251 => (steeplelaw02_TowerSquares.l0 k x7 (wrap64 (x12 + 1)) x231000 x231001 bt251.1 bt251.2)) else ((steeplelaw02_awake.f k).bind fun t253 => (if t253 = true then (some (x247000 == x231000 && (x247001 == x231001))) else (none)))) else (none)) else (none))
def steeplelaw02_TowerSquares.f (k : Nat) (a0 : Int) (a1_0 : Int) (a1_1 : Int) (a2_0 : Int) (a2_1 : Int) : Option (Bool) := (steeplelaw02_of.f k a0 (([(⟨a1_0, a1_1⟩ : S24), (⟨a2_0, a2_1⟩ : S24)] : List (S24)))).bind fun bt224 => (if 0 < (bt224.2.length : Int) then (if 1 < (bt224.2.length : Int) then ((tower_Add.f ((rd_T24 bt224.2 0).f0) ((rd_T24 bt224.2 0).f1) ((rd_T24 bt224.2 1).f0) ((rd_T24 bt224.2 1).f1)).bind fun bt232 => ((tower_Square.f k bt224.1 bt232.1 bt232.2).bind fun bt234 => ((tower_Square.f k bt224.1 ((rd_T24 bt224.2 0).f0) ((rd_T24 bt224.2 0).f1)).bind fun bt236 => ((tower_Square.f k bt224.1 ((rd_T24 bt224.2 1).f0) ((rd_T24 bt224.2 1).f1)).bind fun bt238 => ((tower_Add.f bt236.1 bt236.2 bt238.1 bt238.2).bind fun bt240 => (if (!(bt234.1 == bt240.1) || (!(bt234.2 == bt240.2))) = true then (none) else ((tower_Square.f k bt224.1 ((rd_T24 bt224.2 0).f0) ((rd_T24 bt224.2 0).f1)).bind fun bt242 => ((tower_Mul.f k bt224.1 ((rd_T24 bt224.2 0).f0) ((rd_T24 bt224.2 0).f1) ((rd_T24 bt224.2 0).f0) ((rd_T24 bt224.2 0).f1)).bind fun bt244 => (if (!(bt242.1 == bt244.1) || (!(bt242.2 == bt244.2))) = true then (none) else (steeplelaw02_TowerSquares.l0 k bt224.1 0 ((rd_T24 bt224.2 0).f0) ((rd_T24 bt224.2 0).f1) ((rd_T24 bt224.2 0).f0) ((rd_T24 bt224.2 0).f1))))))))))) else (none)) else (none))
theorem steeplelaw02_TowerSquares.mono_l : ∀ k, (∀ y0 y1 y2 y3 y4 y5, LeO (steeplelaw02_TowerSquares.l0 k y0 y1 y2 y3 y4 y5) (steeplelaw02_TowerSquares.l0 (k + 1) y0 y1 y2 y3 y4 y5))
 | 0 => fun _ _ _ _ _ _ r h => by simp [steeplelaw02_TowerSquares.l0] at h
 | k + 1 => by
  have ih0 := steeplelaw02_TowerSquares.mono_l k
  ·intro y0 y1 y2 y3 y4 y5
   unfold steeplelaw02_TowerSquares.l0
   repeat' first
   | (with_reducible exact ih0 _ _ _ _ _ _)
   | (with_reducible exact steeplelaw02_awake.mono _)
   | (with_reducible exact steeplelaw02_of.mono _ _ _)
   | (with_reducible exact tower_Mul.mono _ _ _ _ _ _)
   | (with_reducible exact tower_Square.mono _ _ _ _)
   | (with_reducible exact LeO.refl _)
   | (with_reducible exact LeO.none _)
   | (with_reducible refine LeO.ite ?_ ?_)
   | (with_reducible refine LeO.bind ?_ (fun _ => ?_))
   | exact ih0 _ _ _ _ _ _
   | exact steeplelaw02_awake.mono _
   | exact steeplelaw02_of.mono _ _ _
   | exact tower_Mul.mono _ _ _ _ _ _
   | exact tower_Square.mono _ _ _ _
   | exact LeO.none _
   | refine LeO.ite ?_ ?_
   | refine LeO.bind ?_ (fun _ => ?_)
theorem steeplelaw02_TowerSquares.mono : ∀ a0 a1 a2 a3 a4 k, LeO (steeplelaw02_TowerSquares.f k a0 a1 a2 a3 a4) (steeplelaw02_TowerSquares.f (k + 1) a0 a1 a2 a3 a4) := by
 intro a0 a1 a2 a3 a4 k
 have ih0 := steeplelaw02_TowerSquares.mono_l k
 unfold steeplelaw02_TowerSquares.f
 repeat' first
   | (with_reducible exact ih0 _ _ _ _ _ _)
   | (with_reducible exact steeplelaw02_awake.mono _)
   | (with_reducible exact steeplelaw02_of.mono _ _ _)
   | (with_reducible exact tower_Mul.mono _ _ _ _ _ _)
   | (with_reducible exact tower_Square.mono _ _ _ _)
   | (with_reducible exact LeO.refl _)
   | (with_reducible exact LeO.none _)
   | (with_reducible refine LeO.ite ?_ ?_)
   | (with_reducible refine LeO.bind ?_ (fun _ => ?_))
   | exact ih0 _ _ _ _ _ _
   | exact steeplelaw02_awake.mono _
   | exact steeplelaw02_of.mono _ _ _
   | exact tower_Mul.mono _ _ _ _ _ _
   | exact tower_Square.mono _ _ _ _
   | exact LeO.none _
   | refine LeO.ite ?_ ?_
   | refine LeO.bind ?_ (fun _ => ?_)
def steeplelaw02_TowerSquares.T2 : Bool × List (List Nat × List Nat) := (true, [([], []), ([0], [0]), ([1], [1]), ([], []), ([3], [3]), ([4], [4]), ([], []), ([], []), ([6, 2, 0, 1, 2, 6, 7], [2, 6]), ([7, 5, 8, 0, 1, 2, 3, 4, 5, 6, 7, 8], [5, 7])])
def steeplelaw02_TowerSquares.B2 : List Nat := [0, 1, 3, 0, 8, 24, 0, 0, 199, 511]
theorem steeplelaw02_TowerSquares.tab2 : rtab .any (opsOf Try.f4 2) = steeplelaw02_TowerSquares.T2 := by kernel_rfl
theorem steeplelaw02_TowerSquares.bits2 : waitsOk steeplelaw02_TowerSquares.T2.2 steeplelaw02_TowerSquares.B2 = true := by kernel_rfl
def steeplelaw02_TowerSquares.T3 : Bool × List (List Nat × List Nat) := (true, [([], []), ([], []), ([], []), ([1, 2], [1, 2]), ([0, 3, 3], [0, 3]), ([], []), ([], []), ([5, 6, 4], [5, 6]), ([], []), ([], []), ([8, 9, 7], [8, 9]), ([7, 10, 10], [7, 10]), ([4, 11], [4, 11]), ([12, 11], [12]), ([13], [13]), ([13], [13]), ([14, 15, 13, 13], [13, 14, 15]), ([13], [13]), ([13], [13]), ([13], [13]), ([17, 18, 19, 16, 13], [13, 17, 18, 19]), ([16, 20, 13], [13, 16, 20]), ([13, 21], [13, 21])])
def steeplelaw02_TowerSquares.B3 : List Nat := [0, 0, 0, 6, 15, 0, 0, 127, 0, 0, 1023, 2047, 4095, 8191, 16383, 16383, 65535, 16383, 16383, 16383, 1048575, 2097151, 4194303]
theorem steeplelaw02_TowerSquares.tab3 : rtab .any (opsOf Try.f4 3) = steeplelaw02_TowerSquares.T3 := by kernel_rfl
theorem steeplelaw02_TowerSquares.bits3 : waitsOk steeplelaw02_TowerSquares.T3.2 steeplelaw02_TowerSquares.B3 = true := by kernel_rfl
set_option maxHeartbeats 8000000 in
set_option maxRecDepth 100000 in
theorem steeplelaw02_TowerSquares.calls (k : Nat) (a0 : Int) (a1_0 : Int) (a1_1 : Int) (a2_0 : Int) (a2_1 : Int) (r : Bool) (w : World) (h : steeplelaw02_TowerSquares.f k a0 a1_0 a1_1 a2_0 a2_1 = some r) :
  Calls Try.prog 4 #[.int .i64 a0, .agg #[.int .u64 a1_0, .int .u64 a1_1], .agg #[.int .u64 a2_0, .int .u64 a2_1]] w fun e w' => e = .returned (.bool r) ∧ Below w.heap.size w w' := by
 have hu24 := Try.underlying24
 have HB := Aside0.mk (Below.refl w.heap.size w)
 have H : ((steeplelaw02_of.f k a0 (([(⟨a1_0, a1_1⟩ : S24), (⟨a2_0, a2_1⟩ : S24)] : List (S24)))).bind fun bt224 => (if 0 < (bt224.2.length : Int) then (if 1 < (bt224.2.length : Int) then ((tower_Add.f ((rd_T24 bt224.2 0).f0) ((rd_T24 bt224.2 0).f1) ((rd_T24 bt224.2 1).f0) ((rd_T24 bt224.2 1).f1)).bind fun bt232 => ((tower_Square.f k bt224.1 bt232.1 bt232.2).bind fun bt234 => ((tower_Square.f k bt224.1 ((rd_T24 bt224.2 0).f0) ((rd_T24 bt224.2 0).f1)).bind fun bt236 => ((tower_Square.f k bt224.1 ((rd_T24 bt224.2 1).f0) ((rd_T24 bt224.2 1).f1)).bind fun bt238 => ((tower_Add.f bt236.1 bt236.2 bt238.1 bt238.2).bind fun bt240 => (if (!(bt234.1 == bt240.1) || (!(bt234.2 == bt240.2))) = true then (none) else ((tower_Square.f k bt224.1 ((rd_T24 bt224.2 0).f0) ((rd_T24 bt224.2 0).f1)).bind fun bt242 => ((tower_Mul.f k bt224.1 ((rd_T24 bt224.2 0).f0) ((rd_T24 bt224.2 0).f1) ((rd_T24 bt224.2 0).f0) ((rd_T24 bt224.2 0).f1)).bind fun bt244 => (if (!(bt242.1 == bt244.1) || (!(bt242.2 == bt244.2))) = true then (none) else (steeplelaw02_TowerSquares.l0 k bt224.1 0 ((rd_T24 bt224.2 0).f0) ((rd_T24 bt224.2 0).f1) ((rd_T24 bt224.2 0).f0) ((rd_T24 bt224.2 0).f1))))))))))) else (none)) else (none))) = some r := h
 clear h
 obtain ⟨y221, hy221⟩ : ∃ y_ : List (S24), y_ = (([(⟨a1_0, a1_1⟩ : S24), (⟨a2_0, a2_1⟩ : S24)] : List (S24))) := ⟨_, rfl⟩
 replace H : ((steeplelaw02_of.f k a0 y221).bind fun bt224 => (if 0 < (bt224.2.length : Int) then (if 1 < (bt224.2.length : Int) then ((tower_Add.f ((rd_T24 bt224.2 0).f0) ((rd_T24 bt224.2 0).f1) ((rd_T24 bt224.2 1).f0) ((rd_T24 bt224.2 1).f1)).bind fun bt232 => ((tower_Square.f k bt224.1 bt232.1 bt232.2).bind fun bt234 => ((tower_Square.f k bt224.1 ((rd_T24 bt224.2 0).f0) ((rd_T24 bt224.2 0).f1)).bind fun bt236 => ((tower_Square.f k bt224.1 ((rd_T24 bt224.2 1).f0) ((rd_T24 bt224.2 1).f1)).bind fun bt238 => ((tower_Add.f bt236.1 bt236.2 bt238.1 bt238.2).bind fun bt240 => (if (!(bt234.1 == bt240.1) || (!(bt234.2 == bt240.2))) = true then (none) else ((tower_Square.f k bt224.1 ((rd_T24 bt224.2 0).f0) ((rd_T24 bt224.2 0).f1)).bind fun bt242 => ((tower_Mul.f k bt224.1 ((rd_T24 bt224.2 0).f0) ((rd_T24 bt224.2 0).f1) ((rd_T24 bt224.2 0).f0) ((rd_T24 bt224.2 0).f1)).bind fun bt244 => (if (!(bt242.1 == bt244.1) || (!(bt242.2 == bt244.2))) = true then (none) else (steeplelaw02_TowerSquares.l0 k bt224.1 0 ((rd_T24 bt224.2 0).f0) ((rd_T24 bt224.2 0).f1) ((rd_T24 bt224.2 0).f0) ((rd_T24 bt224.2 0).f1))))))))))) else (none)) else (none))) = some r := by first | (rw [hy221]; with_reducible exact H) | (have H2_ := (Option.bind_some _ _).symm.trans H; rw [hy221]; with_reducible exact H2_) | (have H2_ := (Option.bind_some _ _).symm.trans H; with_reducible exact H2_) | with_reducible exact H | (rw [hy221]; exact H) | exact H
 have Ny221 := Aside0.mk hy221
 clear hy221
 replace H := Option.bind_eq_some_iff.mp H
 obtain ⟨⟨t224, t225⟩, A40, H⟩ := H
 replace H : (if 0 < (t225.length : Int) then (if 1 < (t225.length : Int) then ((tower_Add.f ((rd_T24 t225 0).f0) ((rd_T24 t225 0).f1) ((rd_T24 t225 1).f0) ((rd_T24 t225 1).f1)).bind fun bt232 => ((tower_Square.f k t224 bt232.1 bt232.2).bind fun bt234 => ((tower_Square.f k t224 ((rd_T24 t225 0).f0) ((rd_T24 t225 0).f1)).bind fun bt236 => ((tower_Square.f k t224 ((rd_T24 t225 1).f0) ((rd_T24 t225 1).f1)).bind fun bt238 => ((tower_Add.f bt236.1 bt236.2 bt238.1 bt238.2).bind fun bt240 => (if (!(bt234.1 == bt240.1) || (!(bt234.2 == bt240.2))) = true then (none) else ((tower_Square.f k t224 ((rd_T24 t225 0).f0) ((rd_T24 t225 0).f1)).bind fun bt242 => ((tower_Mul.f k t224 ((rd_T24 t225 0).f0) ((rd_T24 t225 0).f1) ((rd_T24 t225 0).f0) ((rd_T24 t225 0).f1)).bind fun bt244 => (if (!(bt242.1 == bt244.1) || (!(bt242.2 == bt244.2))) = true then (none) else (steeplelaw02_TowerSquares.l0 k t224 0 ((rd_T24 t225 0).f0) ((rd_T24 t225 0).f1) ((rd_T24 t225 0).f0) ((rd_T24 t225 0).f1))))))))))) else (none)) else (none)) = some r := H
 have A4 := Aside0.mk A40
 clear A40
 by_cases c5 : 0 < (t225.length : Int)
 ·rw [if_pos c5] at H
  have c5b0 : decide (0 < (t225.length : Int)) = true := decide_eq_true c5
  have c5b1 : decide (0 < t225.length) = true := decide_eq_true (by omega)
  clear c5
  by_cases c6 : 1 < (t225.length : Int)
  ·rw [if_pos c6] at H
   have c6b0 : decide (1 < (t225.length : Int)) = true := decide_eq_true c6
   have c6b1 : decide (1 < t225.length) = true := decide_eq_true (by omega)
   clear c6
   replace H := Option.bind_eq_some_iff.mp H
   obtain ⟨⟨t232, t233⟩, A70, H⟩ := H
   replace H : ((tower_Square.f k t224 t232 t233).bind fun bt234 => ((tower_Square.f k t224 ((rd_T24 t225 0).f0) ((rd_T24 t225 0).f1)).bind fun bt236 => ((tower_Square.f k t224 ((rd_T24 t225 1).f0) ((rd_T24 t225 1).f1)).bind fun bt238 => ((tower_Add.f bt236.1 bt236.2 bt238.1 bt238.2).bind fun bt240 => (if (!(bt234.1 == bt240.1) || (!(bt234.2 == bt240.2))) = true then (none) else ((tower_Square.f k t224 ((rd_T24 t225 0).f0) ((rd_T24 t225 0).f1)).bind fun bt242 => ((tower_Mul.f k t224 ((rd_T24 t225 0).f0) ((rd_T24 t225 0).f1) ((rd_T24 t225 0).f0) ((rd_T24 t225 0).f1)).bind fun bt244 => (if (!(bt242.1 == bt244.1) || (!(bt242.2 == bt244.2))) = true then (none) else (steeplelaw02_TowerSquares.l0 k t224 0 ((rd_T24 t225 0).f0) ((rd_T24 t225 0).f1) ((rd_T24 t225 0).f0) ((rd_T24 t225 0).f1)))))))))) = some r := H
   have A7 := Aside0.mk A70
   clear A70
   replace H := Option.bind_eq_some_iff.mp H
   obtain ⟨⟨t234, t235⟩, A80, H⟩ := H
   replace H : ((tower_Square.f k t224 ((rd_T24 t225 0).f0) ((rd_T24 t225 0).f1)).bind fun bt236 => ((tower_Square.f k t224 ((rd_T24 t225 1).f0) ((rd_T24 t225 1).f1)).bind fun bt238 => ((tower_Add.f bt236.1 bt236.2 bt238.1 bt238.2).bind fun bt240 => (if (!(t234 == bt240.1) || (!(t235 == bt240.2))) = true then (none) else ((tower_Square.f k t224 ((rd_T24 t225 0).f0) ((rd_T24 t225 0).f1)).bind fun bt242 => ((tower_Mul.f k t224 ((rd_T24 t225 0).f0) ((rd_T24 t225 0).f1) ((rd_T24 t225 0).f0) ((rd_T24 t225 0).f1)).bind fun bt244 => (if (!(bt242.1 == bt244.1) || (!(bt242.2 == bt244.2))) = true then (none) else (steeplelaw02_TowerSquares.l0 k t224 0 ((rd_T24 t225 0).f0) ((rd_T24 t225 0).f1) ((rd_T24 t225 0).f0) ((rd_T24 t225 0).f1))))))))) = some r := H
   have A8 := Aside0.mk A80
   clear A80
   replace H := Option.bind_eq_some_iff.mp H
   obtain ⟨⟨t236, t237⟩, A90, H⟩ := H
   replace H : ((tower_Square.f k t224 ((rd_T24 t225 1).f0) ((rd_T24 t225 1).f1)).bind fun bt238 => ((tower_Add.f t236 t237 bt238.1 bt238.2).bind fun bt240 => (if (!(t234 == bt240.1) || (!(t235 == bt240.2))) = true then (none) else ((tower_Square.f k t224 ((rd_T24 t225 0).f0) ((rd_T24 t225 0).f1)).bind fun bt242 => ((tower_Mul.f k t224 ((rd_T24 t225 0).f0) ((rd_T24 t225 0).f1) ((rd_T24 t225 0).f0) ((rd_T24 t225 0).f1)).bind fun bt244 => (if (!(bt242.1 == bt244.1) || (!(bt242.2 == bt244.2))) = true then (none) else (steeplelaw02_TowerSquares.l0 k t224 0 ((rd_T24 t225 0).f0) ((rd_T24 t225 0).f1) ((rd_T24 t225 0).f0) ((rd_T24 t225 0).f1)))))))) = some r := H
   have A9 := Aside0.mk A90
   clear A90
   replace H := Option.bind_eq_some_iff.mp H
   obtain ⟨⟨t238, t239⟩, A100, H⟩ := H
   replace H : ((tower_Add.f t236 t237 t238 t239).bind fun bt240 => (if (!(t234 == bt240.1) || (!(t235 == bt240.2))) = true then (none) else ((tower_Square.f k t224 ((rd_T24 t225 0).f0) ((rd_T24 t225 0).f1)).bind fun bt242 => ((tower_Mul.f k t224 ((rd_T24 t225 0).f0) ((rd_T24 t225 0).f1) ((rd_T24 t225 0).f0) ((rd_T24 t225 0).f1)).bind fun bt244 => (if (!(bt242.1 == bt244.1) || (!(bt242.2 == bt244.2))) = true then (none) else (steeplelaw02_TowerSquares.l0 k t224 0 ((rd_T24 t225 0).f0) ((rd_T24 t225 0).f1) ((rd_T24 t225 0).f0) ((rd_T24 t225 0).f1))))))) = some r := H
   have A10 := Aside0.mk A100
   clear A100
   replace H := Option.bind_eq_some_iff.mp H
   obtain ⟨⟨t240, t241⟩, A110, H⟩ := H
   replace H : (if (!(t234 == t240) || (!(t235 == t241))) = true then (none) else ((tower_Square.f k t224 ((rd_T24 t225 0).f0) ((rd_T24 t225 0).f1)).bind fun bt242 => ((tower_Mul.f k t224 ((rd_T24 t225 0).f0) ((rd_T24 t225 0).f1) ((rd_T24 t225 0).f0) ((rd_T24 t225 0).f1)).bind fun bt244 => (if (!(bt242.1 == bt244.1) || (!(bt242.2 == bt244.2))) = true then (none) else (steeplelaw02_TowerSquares.l0 k t224 0 ((rd_T24 t225 0).f0) ((rd_T24 t225 0).f1) ((rd_T24 t225 0).f0) ((rd_T24 t225 0).f1)))))) = some r := H
   have A11 := Aside0.mk A110
   clear A110
   by_cases c12 : (!(t234 == t240) || (!(t235 == t241))) = true
   ·rw [if_pos c12] at H
    have c12b0 : (!(t234 == t240) || (!(t235 == t241))) = true := c12
    clear c12
    exact absurd H (by simp)
   ·rw [if_neg c12] at H
    have c12b0 : (!(t234 == t240) || (!(t235 == t241))) = false := by simpa using c12
    clear c12
    replace H := Option.bind_eq_some_iff.mp H
    obtain ⟨⟨t242, t243⟩, A130, H⟩ := H
    replace H : ((tower_Mul.f k t224 ((rd_T24 t225 0).f0) ((rd_T24 t225 0).f1) ((rd_T24 t225 0).f0) ((rd_T24 t225 0).f1)).bind fun bt244 => (if (!(t242 == bt244.1) || (!(t243 == bt244.2))) = true then (none) else (steeplelaw02_TowerSquares.l0 k t224 0 ((rd_T24 t225 0).f0) ((rd_T24 t225 0).f1) ((rd_T24 t225 0).f0) ((rd_T24 t225 0).f1)))) = some r := H
    have A13 := Aside0.mk A130
    clear A130
    replace H := Option.bind_eq_some_iff.mp H
    obtain ⟨⟨t244, t245⟩, A140, H⟩ := H
    replace H : (if (!(t242 == t244) || (!(t243 == t245))) = true then (none) else (steeplelaw02_TowerSquares.l0 k t224 0 ((rd_T24 t225 0).f0) ((rd_T24 t225 0).f1) ((rd_T24 t225 0).f0) ((rd_T24 t225 0).f1))) = some r := H
    have A14 := Aside0.mk A140
    clear A140
    by_cases c15 : (!(t242 == t244) || (!(t243 == t245))) = true
    ·rw [if_pos c15] at H
     exact absurd H (by simp)
    ·rw [if_neg c15] at H
     have c15b0 : (!(t242 == t244) || (!(t243 == t245))) = false := by simpa using c15
     clear c15
     have H' := Aside0.mk H
     clear H
     go_enter Try.func4, Try.ntmps4
     try go_wp2_with (first | ((with_reducible refine gate_dst (N := 4) rfl ?_); refine box_event ?hg (N := 4) ?hd (cs := #[.int .u64 a1_0, .int .u64 a1_1]) (t := 24) ?hr ?_; (case hd => rfl); (case hg => rfl); (case hr => first | (go_simp; done) | (go_simp; rfl)); intro gb219 hg w16 hbox hb; have n0_ := Aside0.mk (below_step (by repeat (first | (with_reducible first | exact HB.out | apply below_alloc | apply pw_below_drewN | apply below_drew1) | exact HB.out)) hb); have n1_ := Aside0.mk (hbox); have n2_ := Aside0.mk ((by rw [hg]; exact (below_size (by repeat (first | (with_reducible first | exact HB.out | apply below_alloc | apply pw_below_drewN | apply below_drew1) | exact HB.out))) : w.heap.size ≤ gb219)); have n3_ := Aside0.mk ((by rw [hg]; exact (below_size (by repeat (first | (with_reducible first | exact HB.out | apply below_alloc | apply pw_below_drewN | apply below_drew1) | exact HB.out))) : w.heap.size ≤ gb219)); clear HB; have HB := n0_; have BK219 := n1_; have GW219 := n2_; have GE219 := n3_; clear n0_ n1_ n2_ n3_; clear hb hbox hg) | ((with_reducible refine gate_dst (N := 5) rfl ?_); refine box_event ?hg (N := 5) ?hd (cs := #[.int .u64 a2_0, .int .u64 a2_1]) (t := 24) ?hr ?_; (case hd => rfl); (case hg => rfl); (case hr => first | (go_simp; done) | (go_simp; rfl)); intro gb220 hg w17 hbox hb; have n0_ := Aside0.mk (blk_below (g := gb219) (o := .cells #[.int .u64 a1_0, .int .u64 a1_1] 24 (0, 0)) (by (with_reducible repeat (first | refine blk_drewN ?_ _ | refine blk_drew ?_ | refine blk_alloc ?_ _)); exact BK219.out) hb); have n1_ := Aside0.mk (below_step (by repeat (first | (with_reducible first | exact HB.out | apply below_alloc | apply pw_below_drewN | apply below_drew1 | refine below_set ?_ GE219.out) | exact HB.out)) hb); have n2_ := Aside0.mk (hbox); have n3_ := Aside0.mk ((by rw [hg]; exact (below_size (by repeat (first | (with_reducible first | exact HB.out | apply below_alloc | apply pw_below_drewN | apply below_drew1 | refine below_set ?_ GE219.out) | exact HB.out))) : w.heap.size ≤ gb220)); have n4_ := Aside0.mk ((by rw [hg]; exact (below_size (by repeat (first | (with_reducible first | exact HB.out | apply below_alloc | apply pw_below_drewN | apply below_drew1 | refine below_set ?_ GE219.out) | exact HB.out))) : w.heap.size ≤ gb220)); have n5_ := Aside0.mk ((by rw [hg]; exact Nat.ne_of_lt (blk_lt (g := gb219) (o := .cells #[.int .u64 a1_0, .int .u64 a1_1] 24 (0, 0)) (by (with_reducible repeat (first | refine blk_drewN ?_ _ | refine blk_drew ?_ | refine blk_alloc ?_ _)); exact BK219.out)) : gb219 ≠ gb220)); have n6_ := Aside0.mk ((by rw [hg]; exact Nat.ne_of_gt (blk_lt (g := gb219) (o := .cells #[.int .u64 a1_0, .int .u64 a1_1] 24 (0, 0)) (by (with_reducible repeat (first | refine blk_drewN ?_ _ | refine blk_drew ?_ | refine blk_alloc ?_ _)); exact BK219.out)) : gb220 ≠ gb219)); clear BK219; clear HB; have BK219 := n0_; have HB := n1_; have BK220 := n2_; have GW220 := n3_; have GE220 := n4_; have NB219_220 := n5_; have NB220_219 := n6_; clear n0_ n1_ n2_ n3_ n4_ n5_ n6_; clear hb hbox hg; have hnb18 := NB219_220.out; have hnc18 := NB220_219.out; have hcz19_0 : w17.cell? ⟨gb219, 0, none⟩ = some (.int .u64 a1_0) := (blk_cell BK219.out 0).trans rfl; have hcz19_1 : w17.cell? ⟨gb219, 1, none⟩ = some (.int .u64 a1_1) := (blk_cell BK219.out 1).trans rfl; have hfz19_0 := blk_frozen BK219.out 0; have hfz19_1 := blk_frozen BK219.out 1; have hcz20_0 : w17.cell? ⟨gb220, 0, none⟩ = some (.int .u64 a2_0) := (blk_cell BK220.out 0).trans rfl; have hcz20_1 : w17.cell? ⟨gb220, 1, none⟩ = some (.int .u64 a2_1) := (blk_cell BK220.out 1).trans rfl; have hfz20_0 := blk_frozen BK220.out 0; have hfz20_1 := blk_frozen BK220.out 1) | ((with_reducible refine gate_dst (N := 17) rfl ?_); refine Kd.R_lit k24 _ 24 ?hg (N := 17) ?hd (xs := ([(⟨a1_0, a1_1⟩ : S24), (⟨a2_0, a2_1⟩ : S24)] : List (S24))) (inner := [.int .u64 a1_0, .int .u64 a1_1, .int .u64 a2_0, .int .u64 a2_1]) (ok := fun _ => True) (okp := fun _ => True) ?hr ?hp (fun _ hk => hk) trivial (Below.refl _ _) (Nat.le_refl _) (by simp) ?_; (case hd => rfl); (case hg => rfl); (case hr => first | (go_simp; done) | (go_simp; rfl)); (case hp => exact (Reps.c2 (show Kd.M k24 _ _ _ (⟨a1_0, a1_1⟩ : S24) [.int .u64 a1_0, .int .u64 a1_1] from (k24_mkM _ _ _ (⟨a1_0, a1_1⟩ : S24) )) (Reps.c2 (show Kd.M k24 _ _ _ (⟨a2_0, a2_1⟩ : S24) [.int .u64 a2_0, .int .u64 a2_1] from (k24_mkM _ _ _ (⟨a2_0, a2_1⟩ : S24) )) (Reps.none _ _)))); intro v222 w21 ho22 hb hg_ hnew_; clear hg_ hnew_; (first | rw [← Ny221.out] at ho22 | (simp only [Int.reduceToNat] at ho22; rw [← Ny221.out] at ho22)); have n0_ := Aside0.mk (Kd.R_lower (Kd.R_newB (Kd.R_newB ho22 (g := gb219) (o := .cells #[.int .u64 a1_0, .int .u64 a1_1] 24 (0, 0)) (by (with_reducible repeat (first | refine blk_drewN ?_ _ | refine blk_drew ?_ | refine blk_alloc ?_ _)); exact BK219.out)) (g := gb220) (o := .cells #[.int .u64 a2_0, .int .u64 a2_1] 24 (0, 0)) (by (with_reducible repeat (first | refine blk_drewN ?_ _ | refine blk_drew ?_ | refine blk_alloc ?_ _)); exact BK220.out)) (below_size (by repeat (first | (with_reducible first | exact HB.out | apply below_alloc | apply pw_below_drewN | apply below_drew1 | refine below_set ?_ GE219.out | refine below_set ?_ GE220.out) | exact HB.out)))); have n1_ := Aside0.mk (blk_below (g := gb219) (o := .cells #[.int .u64 a1_0, .int .u64 a1_1] 24 (0, 0)) (by (with_reducible repeat (first | refine blk_drewN ?_ _ | refine blk_drew ?_ | refine blk_alloc ?_ _)); exact BK219.out) hb); have n2_ := Aside0.mk (blk_below (g := gb220) (o := .cells #[.int .u64 a2_0, .int .u64 a2_1] 24 (0, 0)) (by (with_reducible repeat (first | refine blk_drewN ?_ _ | refine blk_drew ?_ | refine blk_alloc ?_ _)); exact BK220.out) hb); have n3_ := Aside0.mk (below_step (by repeat (first | (with_reducible first | exact HB.out | apply below_alloc | apply pw_below_drewN | apply below_drew1 | refine below_set ?_ GE219.out | refine below_set ?_ GE220.out) | exact HB.out)) hb); clear BK219; clear BK220; clear HB; have HO223 := n0_; have BK219 := n1_; have BK220 := n2_; have HB := n3_; clear n0_ n1_ n2_ n3_; clear hb ho22; obtain ⟨Ao23, co23, eo23⟩ := Kd.R_slice HO223.out; subst eo23) | ((with_reducible refine gate_callee (f := 12) rfl ?_); refine goesL_ (some 18) rfl rfl Try.func12 (by kernel_rfl) rfl #[.int .i64 a0, .slice Ao23 y221.length co23] rfl (by (try simp only [List.map_toArray, List.map_cons, List.map_nil]); first | done | rfl | (simp only [List.length_drop, List.length_take]; rfl)) ?_; (with_reducible refine (steeplelaw02_of.calls k a0 _ _ y221 t224 t225 _ ?side1 ?side2 A4.out).mono ?_); (case side1 => repeat (first | exact (Kd.R_reads' HO223.out).2.2 | (with_reducible refine Kd.C_alloc ?_ _) | (with_reducible refine Kd.C_drewN ?_ _) | (with_reducible refine Kd.C_drew ?_))); (case side2 => exact (Kd.R_reads' HO223.out).2.1); rintro e w24 ⟨v226, rfl, ho0, hb⟩; refine ⟨_, rfl, ?_⟩; have n0_ := Aside0.mk (Kd.R_elder' (by (with_reducible repeat (first | apply Kd.R_alloc | apply Kd.R_drewN | apply Kd.R_drew)); exact HO223.out) (Kd.R_base ho0) hb); have n1_ := Aside0.mk (Kd.R_lower (Kd.R_newB (Kd.R_newB (Kd.R_new' ho0 (Kd.R_lt (by (with_reducible repeat (first | apply Kd.R_alloc | apply Kd.R_drewN | apply Kd.R_drew)); exact HO223.out))) (g := gb219) (o := .cells #[.int .u64 a1_0, .int .u64 a1_1] 24 (0, 0)) (by (with_reducible repeat (first | refine blk_drewN ?_ _ | refine blk_drew ?_ | refine blk_alloc ?_ _)); exact BK219.out)) (g := gb220) (o := .cells #[.int .u64 a2_0, .int .u64 a2_1] 24 (0, 0)) (by (with_reducible repeat (first | refine blk_drewN ?_ _ | refine blk_drew ?_ | refine blk_alloc ?_ _)); exact BK220.out)) (below_size (by repeat (first | (with_reducible first | exact HB.out | apply below_alloc | apply pw_below_drewN | apply below_drew1 | refine below_set ?_ GE219.out | refine below_set ?_ GE220.out) | exact HB.out)))); have n2_ := Aside0.mk (blk_below (g := gb219) (o := .cells #[.int .u64 a1_0, .int .u64 a1_1] 24 (0, 0)) (by (with_reducible repeat (first | refine blk_drewN ?_ _ | refine blk_drew ?_ | refine blk_alloc ?_ _)); exact BK219.out) hb); have n3_ := Aside0.mk (blk_below (g := gb220) (o := .cells #[.int .u64 a2_0, .int .u64 a2_1] 24 (0, 0)) (by (with_reducible repeat (first | refine blk_drewN ?_ _ | refine blk_drew ?_ | refine blk_alloc ?_ _)); exact BK220.out) hb); have n4_ := Aside0.mk (below_step (by repeat (first | (with_reducible first | exact HB.out | apply below_alloc | apply pw_below_drewN | apply below_drew1 | refine below_set ?_ GE219.out | refine below_set ?_ GE220.out) | exact HB.out)) hb); clear HO223; clear BK219; clear BK220; clear HB; have HO223 := n0_; have HO227 := n1_; have BK219 := n2_; have BK220 := n3_; have HB := n4_; clear n0_ n1_ n2_ n3_ n4_; (try clear hb); (try clear hb2); (try clear hk); (try clear hi); (try clear ho0)))
     have n0_ := Aside0.mk (Kd.R_drew HO223.out)
     have n1_ := Aside0.mk (Kd.R_drew HO227.out)
     have n2_ := Aside0.mk (blk_drew BK219.out)
     have n3_ := Aside0.mk (blk_drew BK220.out)
     have n4_ := Aside0.mk (below_drew1 HB.out)
     clear HO223
     clear HO227
     clear BK219
     clear BK220
     clear HB
     have HO223 := n0_
     have HO227 := n1_
     have BK219 := n2_
     have BK220 := n3_
     have HB := n4_
     clear n0_ n1_ n2_ n3_ n4_
     obtain ⟨Ao26, co26, eo26⟩ := Kd.R_slice HO227.out
     (first | subst eo26 | (injection eo26 with f1_ f2_ f3_; have f4_ := f1_.symm; have f5_ := f3_.symm; clear f1_ f2_ f3_; subst f4_; subst f5_))
     have p228 : 0 ≤ (0 : Int) := (by omega)
     have q228 : 0 < (t225.length : Int) := of_decide_eq_true (by first | (with_reducible assumption) | assumption)
     obtain ⟨ad228, e228, hx228_0, hx228_1⟩ := at_T24 (Kd.R_reads' HO227.out).2.2 0 p228 q228
     cases e228
     have qi228 : (0 < t225.length) = True := eq_true (by omega)
     (try rw [show ((0 : Int)).toNat = 0 from rfl] at hx228_0)
     (try rw [show 0 * 2 = 0 from rfl] at hx228_0)
     (try rw [Addr.add_zero'] at hx228_0)
     (try rw [show ((0 : Int)).toNat = 0 from rfl] at hx228_1)
     (try rw [show 0 * 2 = 0 from rfl] at hx228_1)
     (try rw [Addr.add_zero'] at hx228_1)
     replace p228 := eq_true p228
     replace q228 := eq_true q228
     have p229 : 0 ≤ (1 : Int) := (by omega)
     have q229 : 1 < (t225.length : Int) := of_decide_eq_true (by first | (with_reducible assumption) | assumption)
     obtain ⟨ad229, e229, hx229_0, hx229_1⟩ := at_T24 (Kd.R_reads' HO227.out).2.2 1 p229 q229
     obtain rfl : ad228 = ad229 := (by injection e229)
     (try simp only [show (1 : Int).toNat = 1 from rfl, Nat.reduceMul, Nat.reduceEqDiff, Go.Addr.add, ↓reduceIte] at hx229_0)
     (try simp only [show (1 : Int).toNat = 1 from rfl, Nat.reduceMul, Nat.reduceEqDiff, Go.Addr.add, ↓reduceIte] at hx229_1)
     have qi229 : (1 < t225.length) = True := eq_true (by omega)
     (try rw [show ((1 : Int)).toNat = 1 from rfl] at hx229_0)
     (try rw [show 1 * 2 = 2 from rfl] at hx229_0)
     (try rw [show ((1 : Int)).toNat = 1 from rfl] at hx229_1)
     (try rw [show 1 * 2 = 2 from rfl] at hx229_1)
     replace p229 := eq_true p229
     replace q229 := eq_true q229
     refine start_ (n := 10) (S := fun w' => w'.cell? ad228 = some (.int .u64 ((rd_T24 t225 0).f0)) ∧ w'.cell? ⟨ad228.block, ad228.off + 1, none⟩ = some (.int .u64 ((rd_T24 t225 0).f1)) ∧ w'.cell? ⟨ad228.block, ad228.off + 2, none⟩ = some (.int .u64 ((rd_T24 t225 1).f0)) ∧ w'.cell? ⟨ad228.block, ad228.off + 2 + 1, none⟩ = some (.int .u64 ((rd_T24 t225 1).f1))) (ds := []) #[false, false, false, false, false, false, false, false, false, false] (by kernel_rfl) rfl rfl ⟨hx228_0, hx228_1, hx229_0, hx229_1⟩ (fun hHeld => ?_); refine with_tabW steeplelaw02_TowerSquares.tab2 steeplelaw02_TowerSquares.bits2 (fun HT_ HW_ => ?_)
     generalize w24.drew = w25 at HO223 HO227 BK219 BK220 HB hx228_0 hx228_1 hx229_0 hx229_1 hHeld ⊢
     refine pure_ (i := 0) (N := some 21) (v := ?_) (a' := ?_) #[true, false, false, false, false, false, false, false, false, false] rfl rfl (any_of HT_.out (by kernel_rfl)) (fun _ _ _ h => h) (Or.inl ⟨by rfl, ?_⟩) ?_ ?_
     rotate_left
     ·intro w'
      go_simp
      with_reducible rfl
     rotate_left
     ·simp only [Act.put, List.setIfInBounds_toArray, List.set_cons_zero, List.set_cons_succ, i64_w, i32_w]
      rfl
     refine pure_ (i := 1) (N := some 22) (v := ?_) (a' := ?_) #[true, true, false, false, false, false, false, false, false, false] rfl rfl (any_of HT_.out (by kernel_rfl)) (fun _ _ _ h => h) (Or.inl ⟨by rfl, ?_⟩) ?_ ?_
     rotate_left
     ·intro w'
      go_simp
      with_reducible rfl
     rotate_left
     ·simp only [Act.put, List.setIfInBounds_toArray, List.set_cons_zero, List.set_cons_succ, i64_w, i32_w]
      rfl
     refine pure_ (i := 3) (N := some 24) (v := ?_) (a' := ?_) #[true, true, false, true, false, false, false, false, false, false] rfl rfl (any_of HT_.out (by kernel_rfl)) (fun _ _ _ h => h) (Or.inl ⟨by rfl, ?_⟩) ?_ ?_
     rotate_left
     ·intro w'
      go_simp
      with_reducible rfl
     rotate_left
     ·simp only [Act.put, List.setIfInBounds_toArray, List.set_cons_zero, List.set_cons_succ, i64_w, i32_w]
      rfl
     refine pure_ (i := 4) (N := some 25) (v := ?_) (a' := ?_) #[true, true, false, true, true, false, false, false, false, false] rfl rfl (any_of HT_.out (by kernel_rfl)) (fun _ _ _ h => h) (Or.inl ⟨by rfl, ?_⟩) ?_ ?_
     rotate_left
     ·intro w'
      go_simp
      with_reducible rfl
     rotate_left
     ·simp only [Act.put, List.setIfInBounds_toArray, List.set_cons_zero, List.set_cons_succ, i64_w, i32_w]
      rfl
     refine take_ (i := 2) (N := some 23) (v := ?_) (a' := ?_) #[true, true, true, true, true, false, false, false, false, false] rfl rfl (take_ofW HT_.out HW_.out (by kernel_rfl)) (fun _ _ _ h => h) (Or.inl ⟨by rfl, ?_⟩) hHeld ?_ ?_
     rotate_left
     ·rintro w' ⟨s0, s1, s2, s3⟩
      go_simp
      with_reducible rfl
     rotate_left
     ·simp only [Act.put, List.setIfInBounds_toArray, List.set_cons_zero, List.set_cons_succ, i64_w, i32_w]
      rfl
     refine take_ (i := 5) (N := some 26) (v := ?_) (a' := ?_) #[true, true, true, true, true, true, false, false, false, false] rfl rfl (take_ofW HT_.out HW_.out (by kernel_rfl)) (fun _ _ _ h => h) (Or.inl ⟨by rfl, ?_⟩) hHeld ?_ ?_
     rotate_left
     ·rintro w' ⟨s0, s1, s2, s3⟩
      go_simp
      with_reducible rfl
     rotate_left
     ·simp only [Act.put, List.setIfInBounds_toArray, List.set_cons_zero, List.set_cons_succ, i64_w, i32_w]
      rfl
     refine join_ (σ := Nat × Nat) 2 #[true, true, true, true, true, true, true, true, false, false] (fun s_ => [(9, .pointer (some ⟨s_.1, 0, none⟩)), (10, .pointer (some ⟨s_.2, 0, none⟩))]) (fun s_ w' => (w'.cell? ad228 = some (.int .u64 ((rd_T24 t225 0).f0)) ∧ w'.cell? ⟨ad228.block, ad228.off + 1, none⟩ = some (.int .u64 ((rd_T24 t225 0).f1)) ∧ w'.cell? ⟨ad228.block, ad228.off + 2, none⟩ = some (.int .u64 ((rd_T24 t225 1).f0)) ∧ w'.cell? ⟨ad228.block, ad228.off + 2 + 1, none⟩ = some (.int .u64 ((rd_T24 t225 1).f1))) ∧ (Kd.R k24 24 w' w.heap.size (fun k_ => some k_ ≠ (.slice (some ad228) t225.length co26 : Value).ownBlock ∧ k_ ≠ gb219 ∧ k_ ≠ gb220 ∧ k_ ≠ s_.1 ∧ k_ ≠ s_.2) (.slice Ao23 y221.length co23) y221) ∧ (Kd.R k24 24 w' w.heap.size (fun k_ => some k_ ≠ (.slice Ao23 y221.length co23 : Value).ownBlock ∧ k_ ≠ gb219 ∧ k_ ≠ gb220 ∧ k_ ≠ s_.1 ∧ k_ ≠ s_.2) (.slice (some ad228) t225.length co26) t225) ∧ (w'.heap[gb219]? = some (.cells #[.int .u64 a1_0, .int .u64 a1_1] 24 (0, 0))) ∧ (w'.heap[gb220]? = some (.cells #[.int .u64 a2_0, .int .u64 a2_1] 24 (0, 0))) ∧ (w'.heap[s_.1]? = some (.cells #[.int .u64 0, .int .u64 0] 24 (0, 0))) ∧ (w'.heap[s_.2]? = some (.cells #[.int .u64 0, .int .u64 0] 24 (0, 0))) ∧ (w.heap.size ≤ s_.1) ∧ (w.heap.size ≤ s_.1) ∧ (gb219 ≠ s_.1) ∧ (s_.1 ≠ gb219) ∧ (gb220 ≠ s_.1) ∧ (s_.1 ≠ gb220) ∧ (s_.2 ≠ s_.1) ∧ (s_.1 ≠ s_.2) ∧ (w.heap.size ≤ s_.2) ∧ (w.heap.size ≤ s_.2) ∧ (gb219 ≠ s_.2) ∧ (s_.2 ≠ gb219) ∧ (gb220 ≠ s_.2) ∧ (s_.2 ≠ gb220) ∧ (Below w.heap.size w w')) ?_ ?_
     rotate_left
     ·intro hCont
      refine two_ (i := 6) (j := 7) (Ni := some 9) (Nj := some 10) #[true, true, true, true, true, true, true, false, false, false] #[true, true, true, true, true, true, false, true, false, false] rfl rfl rfl rfl (two_of HT_.out (by kernel_rfl)) (by decide) (by decide) (fun K hK => ?_) (fun K hK => ?_)
      ·skip
       refine box_step ?hg (N := 9) ?hd (cs := #[.int .u64 0, .int .u64 0]) (t := 24) ?hr ?_; (case hd => rfl); (case hg => rfl); (case hr => first | (go_simp; done) | (go_simp; rfl))
       intro gb230 hg w27 hbox hb
       have HS0_ := (hb.cell (World.block_lt_of_cell? _ _ (hHeld.1))).trans (hHeld.1)
       have HS1_ := (hb.cell (World.block_lt_of_cell? _ _ (hHeld.2.1))).trans (hHeld.2.1)
       have HS2_ := (hb.cell (World.block_lt_of_cell? _ _ (hHeld.2.2.1))).trans (hHeld.2.2.1)
       have HS3_ := (hb.cell (World.block_lt_of_cell? _ _ (hHeld.2.2.2))).trans (hHeld.2.2.2)
       have n0_ := Aside0.mk (Kd.R_below (Kd.R_elderB (by (with_reducible repeat (first | apply Kd.R_alloc | apply Kd.R_drewN | apply Kd.R_drew)); exact HO223.out) gb230 (Nat.le_of_eq hg.symm)) hb)
       have n1_ := Aside0.mk (Kd.R_below (Kd.R_elderB (by (with_reducible repeat (first | apply Kd.R_alloc | apply Kd.R_drewN | apply Kd.R_drew)); exact HO227.out) gb230 (Nat.le_of_eq hg.symm)) hb)
       have n2_ := Aside0.mk (blk_below (g := gb219) (o := .cells #[.int .u64 a1_0, .int .u64 a1_1] 24 (0, 0)) (by (with_reducible repeat (first | refine blk_drewN ?_ _ | refine blk_drew ?_ | refine blk_alloc ?_ _)); exact BK219.out) hb)
       have n3_ := Aside0.mk (blk_below (g := gb220) (o := .cells #[.int .u64 a2_0, .int .u64 a2_1] 24 (0, 0)) (by (with_reducible repeat (first | refine blk_drewN ?_ _ | refine blk_drew ?_ | refine blk_alloc ?_ _)); exact BK220.out) hb)
       have n4_ := Aside0.mk (below_step (by repeat (first | (with_reducible first | exact HB.out | apply below_alloc | apply pw_below_drewN | apply below_drew1 | refine below_set ?_ GE219.out | refine below_set ?_ GE220.out) | exact HB.out)) hb)
       have n5_ := Aside0.mk (hbox)
       have n6_ := Aside0.mk ((by rw [hg]; exact (below_size (by repeat (first | (with_reducible first | exact HB.out | apply below_alloc | apply pw_below_drewN | apply below_drew1 | refine below_set ?_ GE219.out | refine below_set ?_ GE220.out) | exact HB.out))) : w.heap.size ≤ gb230))
       have n7_ := Aside0.mk ((by rw [hg]; exact (below_size (by repeat (first | (with_reducible first | exact HB.out | apply below_alloc | apply pw_below_drewN | apply below_drew1 | refine below_set ?_ GE219.out | refine below_set ?_ GE220.out) | exact HB.out))) : w.heap.size ≤ gb230))
       have n8_ := Aside0.mk ((by rw [hg]; exact Nat.ne_of_lt (blk_lt (g := gb219) (o := .cells #[.int .u64 a1_0, .int .u64 a1_1] 24 (0, 0)) (by (with_reducible repeat (first | refine blk_drewN ?_ _ | refine blk_drew ?_ | refine blk_alloc ?_ _)); exact BK219.out)) : gb219 ≠ gb230))
       have n9_ := Aside0.mk ((by rw [hg]; exact Nat.ne_of_gt (blk_lt (g := gb219) (o := .cells #[.int .u64 a1_0, .int .u64 a1_1] 24 (0, 0)) (by (with_reducible repeat (first | refine blk_drewN ?_ _ | refine blk_drew ?_ | refine blk_alloc ?_ _)); exact BK219.out)) : gb230 ≠ gb219))
       have n10_ := Aside0.mk ((by rw [hg]; exact Nat.ne_of_lt (blk_lt (g := gb220) (o := .cells #[.int .u64 a2_0, .int .u64 a2_1] 24 (0, 0)) (by (with_reducible repeat (first | refine blk_drewN ?_ _ | refine blk_drew ?_ | refine blk_alloc ?_ _)); exact BK220.out)) : gb220 ≠ gb230))
       have n11_ := Aside0.mk ((by rw [hg]; exact Nat.ne_of_gt (blk_lt (g := gb220) (o := .cells #[.int .u64 a2_0, .int .u64 a2_1] 24 (0, 0)) (by (with_reducible repeat (first | refine blk_drewN ?_ _ | refine blk_drew ?_ | refine blk_alloc ?_ _)); exact BK220.out)) : gb230 ≠ gb220))
       clear HO223
       clear HO227
       clear BK219
       clear BK220
       clear HB
       have HO223 := n0_
       have HO227 := n1_
       have BK219 := n2_
       have BK220 := n3_
       have HB := n4_
       have BK230 := n5_
       have GW230 := n6_
       have GE230 := n7_
       have NB219_230 := n8_
       have NB230_219 := n9_
       have NB220_230 := n10_
       have NB230_220 := n11_
       clear n0_ n1_ n2_ n3_ n4_ n5_ n6_ n7_ n8_ n9_ n10_ n11_
       clear hb hbox hg
       refine hK.out _ _ ⟨HS0_, HS1_, HS2_, HS3_⟩ (fun hHeld => ?_)
       clear hK K
       refine norm_ (a' := ?_) ?_ ?_
       rotate_left
       ·show Act.put _ (some 9) _ = _
        simp only [Act.put, List.setIfInBounds_toArray, List.set_cons_zero, List.set_cons_succ, i64_w, i32_w]
        rfl
       refine one_ (i := 7) (N := some 10) #[true, true, true, true, true, true, true, true, false, false] rfl rfl (one_of HT_.out (by kernel_rfl)) (by decide) (fun K hK => ?_)
       refine box_step ?hg (N := 10) ?hd (cs := #[.int .u64 0, .int .u64 0]) (t := 24) ?hr ?_; (case hd => rfl); (case hg => rfl); (case hr => first | (go_simp; done) | (go_simp; rfl))
       intro gb231 hg w28 hbox hb
       have HS0_ := (hb.cell (World.block_lt_of_cell? _ _ (hHeld.1))).trans (hHeld.1)
       have HS1_ := (hb.cell (World.block_lt_of_cell? _ _ (hHeld.2.1))).trans (hHeld.2.1)
       have HS2_ := (hb.cell (World.block_lt_of_cell? _ _ (hHeld.2.2.1))).trans (hHeld.2.2.1)
       have HS3_ := (hb.cell (World.block_lt_of_cell? _ _ (hHeld.2.2.2))).trans (hHeld.2.2.2)
       have n0_ := Aside0.mk (Kd.R_below (Kd.R_elderB (by (with_reducible repeat (first | apply Kd.R_alloc | apply Kd.R_drewN | apply Kd.R_drew)); exact HO223.out) gb231 (Nat.le_of_eq hg.symm)) hb)
       have n1_ := Aside0.mk (Kd.R_below (Kd.R_elderB (by (with_reducible repeat (first | apply Kd.R_alloc | apply Kd.R_drewN | apply Kd.R_drew)); exact HO227.out) gb231 (Nat.le_of_eq hg.symm)) hb)
       have n2_ := Aside0.mk (blk_below (g := gb219) (o := .cells #[.int .u64 a1_0, .int .u64 a1_1] 24 (0, 0)) (by (with_reducible repeat (first | refine blk_drewN ?_ _ | refine blk_drew ?_ | refine blk_alloc ?_ _)); exact BK219.out) hb)
       have n3_ := Aside0.mk (blk_below (g := gb220) (o := .cells #[.int .u64 a2_0, .int .u64 a2_1] 24 (0, 0)) (by (with_reducible repeat (first | refine blk_drewN ?_ _ | refine blk_drew ?_ | refine blk_alloc ?_ _)); exact BK220.out) hb)
       have n4_ := Aside0.mk (blk_below (g := gb230) (o := .cells #[.int .u64 0, .int .u64 0] 24 (0, 0)) (by (with_reducible repeat (first | refine blk_drewN ?_ _ | refine blk_drew ?_ | refine blk_alloc ?_ _)); exact BK230.out) hb)
       have n5_ := Aside0.mk (below_step (by repeat (first | (with_reducible first | exact HB.out | apply below_alloc | apply pw_below_drewN | apply below_drew1 | refine below_set ?_ GE219.out | refine below_set ?_ GE220.out | refine below_set ?_ GE230.out) | exact HB.out)) hb)
       have n6_ := Aside0.mk (hbox)
       have n7_ := Aside0.mk ((by rw [hg]; exact (below_size (by repeat (first | (with_reducible first | exact HB.out | apply below_alloc | apply pw_below_drewN | apply below_drew1 | refine below_set ?_ GE219.out | refine below_set ?_ GE220.out | refine below_set ?_ GE230.out) | exact HB.out))) : w.heap.size ≤ gb231))
       have n8_ := Aside0.mk ((by rw [hg]; exact (below_size (by repeat (first | (with_reducible first | exact HB.out | apply below_alloc | apply pw_below_drewN | apply below_drew1 | refine below_set ?_ GE219.out | refine below_set ?_ GE220.out | refine below_set ?_ GE230.out) | exact HB.out))) : w.heap.size ≤ gb231))
       have n9_ := Aside0.mk ((by rw [hg]; exact Nat.ne_of_lt (blk_lt (g := gb219) (o := .cells #[.int .u64 a1_0, .int .u64 a1_1] 24 (0, 0)) (by (with_reducible repeat (first | refine blk_drewN ?_ _ | refine blk_drew ?_ | refine blk_alloc ?_ _)); exact BK219.out)) : gb219 ≠ gb231))
       have n10_ := Aside0.mk ((by rw [hg]; exact Nat.ne_of_gt (blk_lt (g := gb219) (o := .cells #[.int .u64 a1_0, .int .u64 a1_1] 24 (0, 0)) (by (with_reducible repeat (first | refine blk_drewN ?_ _ | refine blk_drew ?_ | refine blk_alloc ?_ _)); exact BK219.out)) : gb231 ≠ gb219))
       have n11_ := Aside0.mk ((by rw [hg]; exact Nat.ne_of_lt (blk_lt (g := gb220) (o := .cells #[.int .u64 a2_0, .int .u64 a2_1] 24 (0, 0)) (by (with_reducible repeat (first | refine blk_drewN ?_ _ | refine blk_drew ?_ | refine blk_alloc ?_ _)); exact BK220.out)) : gb220 ≠ gb231))
       have n12_ := Aside0.mk ((by rw [hg]; exact Nat.ne_of_gt (blk_lt (g := gb220) (o := .cells #[.int .u64 a2_0, .int .u64 a2_1] 24 (0, 0)) (by (with_reducible repeat (first | refine blk_drewN ?_ _ | refine blk_drew ?_ | refine blk_alloc ?_ _)); exact BK220.out)) : gb231 ≠ gb220))
       have n13_ := Aside0.mk ((by rw [hg]; exact Nat.ne_of_lt (blk_lt (g := gb230) (o := .cells #[.int .u64 0, .int .u64 0] 24 (0, 0)) (by (with_reducible repeat (first | refine blk_drewN ?_ _ | refine blk_drew ?_ | refine blk_alloc ?_ _)); exact BK230.out)) : gb230 ≠ gb231))
       have n14_ := Aside0.mk ((by rw [hg]; exact Nat.ne_of_gt (blk_lt (g := gb230) (o := .cells #[.int .u64 0, .int .u64 0] 24 (0, 0)) (by (with_reducible repeat (first | refine blk_drewN ?_ _ | refine blk_drew ?_ | refine blk_alloc ?_ _)); exact BK230.out)) : gb231 ≠ gb230))
       clear HO223
       clear HO227
       clear BK219
       clear BK220
       clear BK230
       clear HB
       have HO223 := n0_
       have HO227 := n1_
       have BK219 := n2_
       have BK220 := n3_
       have BK230 := n4_
       have HB := n5_
       have BK231 := n6_
       have GW231 := n7_
       have GE231 := n8_
       have NB219_231 := n9_
       have NB231_219 := n10_
       have NB220_231 := n11_
       have NB231_220 := n12_
       have NB230_231 := n13_
       have NB231_230 := n14_
       clear n0_ n1_ n2_ n3_ n4_ n5_ n6_ n7_ n8_ n9_ n10_ n11_ n12_ n13_ n14_
       clear hb hbox hg
       refine hK.out _ _ ⟨HS0_, HS1_, HS2_, HS3_⟩ (fun hHeld => ?_)
       clear hK K
       refine norm_ (a' := ?_) ?_ ?_
       rotate_left
       ·show Act.put _ (some 10) _ = _
        simp only [Act.put, List.setIfInBounds_toArray, List.set_cons_zero, List.set_cons_succ, i64_w, i32_w]
        rfl
       exact norm_ (by simp only [putAll, Act.put, List.setIfInBounds_toArray, List.set_cons_zero, List.set_cons_succ]) (hCont (gb230, gb231) _ ⟨hHeld, (by (with_reducible repeat (first | apply Kd.R_alloc | apply Kd.R_drewN | apply Kd.R_drew)); exact Kd.R_mono HO223.out (fun _ hk => ⟨hk.1.1.2, ⟨hk.1.1.1.1.2, ⟨hk.1.1.1.2, ⟨hk.1.2, hk.2⟩⟩⟩⟩)), (by (with_reducible repeat (first | apply Kd.R_alloc | apply Kd.R_drewN | apply Kd.R_drew)); exact Kd.R_mono HO227.out (fun _ hk => ⟨hk.1.1.1.1.2, ⟨hk.1.1.1.2, ⟨hk.1.1.2, ⟨hk.1.2, hk.2⟩⟩⟩⟩)), (by (with_reducible repeat (first | refine blk_drewN ?_ _ | refine blk_drew ?_ | refine blk_alloc ?_ _)); exact BK219.out), (by (with_reducible repeat (first | refine blk_drewN ?_ _ | refine blk_drew ?_ | refine blk_alloc ?_ _)); exact BK220.out), (by (with_reducible repeat (first | refine blk_drewN ?_ _ | refine blk_drew ?_ | refine blk_alloc ?_ _)); exact BK230.out), (by (with_reducible repeat (first | refine blk_drewN ?_ _ | refine blk_drew ?_ | refine blk_alloc ?_ _)); exact BK231.out), GW230.out, GE230.out, NB219_230.out, NB230_219.out, NB220_230.out, NB230_220.out, NB231_230.out, NB230_231.out, GW231.out, GE231.out, NB219_231.out, NB231_219.out, NB220_231.out, NB231_220.out, (by repeat (first | (with_reducible first | exact HB.out | apply below_alloc | apply pw_below_drewN | apply below_drew1 | refine below_set ?_ GE219.out | refine below_set ?_ GE220.out | refine below_set ?_ GE230.out | refine below_set ?_ GE231.out) | exact HB.out))⟩)
      ·skip
       refine box_step ?hg (N := 10) ?hd (cs := #[.int .u64 0, .int .u64 0]) (t := 24) ?hr ?_; (case hd => rfl); (case hg => rfl); (case hr => first | (go_simp; done) | (go_simp; rfl))
       intro gb231 hg w27 hbox hb
       have HS0_ := (hb.cell (World.block_lt_of_cell? _ _ (hHeld.1))).trans (hHeld.1)
       have HS1_ := (hb.cell (World.block_lt_of_cell? _ _ (hHeld.2.1))).trans (hHeld.2.1)
       have HS2_ := (hb.cell (World.block_lt_of_cell? _ _ (hHeld.2.2.1))).trans (hHeld.2.2.1)
       have HS3_ := (hb.cell (World.block_lt_of_cell? _ _ (hHeld.2.2.2))).trans (hHeld.2.2.2)
       have n0_ := Aside0.mk (Kd.R_below (Kd.R_elderB (by (with_reducible repeat (first | apply Kd.R_alloc | apply Kd.R_drewN | apply Kd.R_drew)); exact HO223.out) gb231 (Nat.le_of_eq hg.symm)) hb)
       have n1_ := Aside0.mk (Kd.R_below (Kd.R_elderB (by (with_reducible repeat (first | apply Kd.R_alloc | apply Kd.R_drewN | apply Kd.R_drew)); exact HO227.out) gb231 (Nat.le_of_eq hg.symm)) hb)
       have n2_ := Aside0.mk (blk_below (g := gb219) (o := .cells #[.int .u64 a1_0, .int .u64 a1_1] 24 (0, 0)) (by (with_reducible repeat (first | refine blk_drewN ?_ _ | refine blk_drew ?_ | refine blk_alloc ?_ _)); exact BK219.out) hb)
       have n3_ := Aside0.mk (blk_below (g := gb220) (o := .cells #[.int .u64 a2_0, .int .u64 a2_1] 24 (0, 0)) (by (with_reducible repeat (first | refine blk_drewN ?_ _ | refine blk_drew ?_ | refine blk_alloc ?_ _)); exact BK220.out) hb)
       have n4_ := Aside0.mk (below_step (by repeat (first | (with_reducible first | exact HB.out | apply below_alloc | apply pw_below_drewN | apply below_drew1 | refine below_set ?_ GE219.out | refine below_set ?_ GE220.out) | exact HB.out)) hb)
       have n5_ := Aside0.mk (hbox)
       have n6_ := Aside0.mk ((by rw [hg]; exact (below_size (by repeat (first | (with_reducible first | exact HB.out | apply below_alloc | apply pw_below_drewN | apply below_drew1 | refine below_set ?_ GE219.out | refine below_set ?_ GE220.out) | exact HB.out))) : w.heap.size ≤ gb231))
       have n7_ := Aside0.mk ((by rw [hg]; exact (below_size (by repeat (first | (with_reducible first | exact HB.out | apply below_alloc | apply pw_below_drewN | apply below_drew1 | refine below_set ?_ GE219.out | refine below_set ?_ GE220.out) | exact HB.out))) : w.heap.size ≤ gb231))
       have n8_ := Aside0.mk ((by rw [hg]; exact Nat.ne_of_lt (blk_lt (g := gb219) (o := .cells #[.int .u64 a1_0, .int .u64 a1_1] 24 (0, 0)) (by (with_reducible repeat (first | refine blk_drewN ?_ _ | refine blk_drew ?_ | refine blk_alloc ?_ _)); exact BK219.out)) : gb219 ≠ gb231))
       have n9_ := Aside0.mk ((by rw [hg]; exact Nat.ne_of_gt (blk_lt (g := gb219) (o := .cells #[.int .u64 a1_0, .int .u64 a1_1] 24 (0, 0)) (by (with_reducible repeat (first | refine blk_drewN ?_ _ | refine blk_drew ?_ | refine blk_alloc ?_ _)); exact BK219.out)) : gb231 ≠ gb219))
       have n10_ := Aside0.mk ((by rw [hg]; exact Nat.ne_of_lt (blk_lt (g := gb220) (o := .cells #[.int .u64 a2_0, .int .u64 a2_1] 24 (0, 0)) (by (with_reducible repeat (first | refine blk_drewN ?_ _ | refine blk_drew ?_ | refine blk_alloc ?_ _)); exact BK220.out)) : gb220 ≠ gb231))
       have n11_ := Aside0.mk ((by rw [hg]; exact Nat.ne_of_gt (blk_lt (g := gb220) (o := .cells #[.int .u64 a2_0, .int .u64 a2_1] 24 (0, 0)) (by (with_reducible repeat (first | refine blk_drewN ?_ _ | refine blk_drew ?_ | refine blk_alloc ?_ _)); exact BK220.out)) : gb231 ≠ gb220))
       clear HO223
       clear HO227
       clear BK219
       clear BK220
       clear HB
       have HO223 := n0_
       have HO227 := n1_
       have BK219 := n2_
       have BK220 := n3_
       have HB := n4_
       have BK231 := n5_
       have GW231 := n6_
       have GE231 := n7_
       have NB219_231 := n8_
       have NB231_219 := n9_
       have NB220_231 := n10_
       have NB231_220 := n11_
       clear n0_ n1_ n2_ n3_ n4_ n5_ n6_ n7_ n8_ n9_ n10_ n11_
       clear hb hbox hg
       refine hK.out _ _ ⟨HS0_, HS1_, HS2_, HS3_⟩ (fun hHeld => ?_)
       clear hK K
       refine norm_ (a' := ?_) ?_ ?_
       rotate_left
       ·show Act.put _ (some 10) _ = _
        simp only [Act.put, List.setIfInBounds_toArray, List.set_cons_zero, List.set_cons_succ, i64_w, i32_w]
        rfl
       refine one_ (i := 6) (N := some 9) #[true, true, true, true, true, true, true, true, false, false] rfl rfl (one_of HT_.out (by kernel_rfl)) (by decide) (fun K hK => ?_)
       refine box_step ?hg (N := 9) ?hd (cs := #[.int .u64 0, .int .u64 0]) (t := 24) ?hr ?_; (case hd => rfl); (case hg => rfl); (case hr => first | (go_simp; done) | (go_simp; rfl))
       intro gb230 hg w28 hbox hb
       have HS0_ := (hb.cell (World.block_lt_of_cell? _ _ (hHeld.1))).trans (hHeld.1)
       have HS1_ := (hb.cell (World.block_lt_of_cell? _ _ (hHeld.2.1))).trans (hHeld.2.1)
       have HS2_ := (hb.cell (World.block_lt_of_cell? _ _ (hHeld.2.2.1))).trans (hHeld.2.2.1)
       have HS3_ := (hb.cell (World.block_lt_of_cell? _ _ (hHeld.2.2.2))).trans (hHeld.2.2.2)
       have n0_ := Aside0.mk (Kd.R_below (Kd.R_elderB (by (with_reducible repeat (first | apply Kd.R_alloc | apply Kd.R_drewN | apply Kd.R_drew)); exact HO223.out) gb230 (Nat.le_of_eq hg.symm)) hb)
       have n1_ := Aside0.mk (Kd.R_below (Kd.R_elderB (by (with_reducible repeat (first | apply Kd.R_alloc | apply Kd.R_drewN | apply Kd.R_drew)); exact HO227.out) gb230 (Nat.le_of_eq hg.symm)) hb)
       have n2_ := Aside0.mk (blk_below (g := gb219) (o := .cells #[.int .u64 a1_0, .int .u64 a1_1] 24 (0, 0)) (by (with_reducible repeat (first | refine blk_drewN ?_ _ | refine blk_drew ?_ | refine blk_alloc ?_ _)); exact BK219.out) hb)
       have n3_ := Aside0.mk (blk_below (g := gb220) (o := .cells #[.int .u64 a2_0, .int .u64 a2_1] 24 (0, 0)) (by (with_reducible repeat (first | refine blk_drewN ?_ _ | refine blk_drew ?_ | refine blk_alloc ?_ _)); exact BK220.out) hb)
       have n4_ := Aside0.mk (blk_below (g := gb231) (o := .cells #[.int .u64 0, .int .u64 0] 24 (0, 0)) (by (with_reducible repeat (first | refine blk_drewN ?_ _ | refine blk_drew ?_ | refine blk_alloc ?_ _)); exact BK231.out) hb)
       have n5_ := Aside0.mk (below_step (by repeat (first | (with_reducible first | exact HB.out | apply below_alloc | apply pw_below_drewN | apply below_drew1 | refine below_set ?_ GE219.out | refine below_set ?_ GE220.out | refine below_set ?_ GE231.out) | exact HB.out)) hb)
       have n6_ := Aside0.mk (hbox)
       have n7_ := Aside0.mk ((by rw [hg]; exact (below_size (by repeat (first | (with_reducible first | exact HB.out | apply below_alloc | apply pw_below_drewN | apply below_drew1 | refine below_set ?_ GE219.out | refine below_set ?_ GE220.out | refine below_set ?_ GE231.out) | exact HB.out))) : w.heap.size ≤ gb230))
       have n8_ := Aside0.mk ((by rw [hg]; exact (below_size (by repeat (first | (with_reducible first | exact HB.out | apply below_alloc | apply pw_below_drewN | apply below_drew1 | refine below_set ?_ GE219.out | refine below_set ?_ GE220.out | refine below_set ?_ GE231.out) | exact HB.out))) : w.heap.size ≤ gb230))
       have n9_ := Aside0.mk ((by rw [hg]; exact Nat.ne_of_lt (blk_lt (g := gb219) (o := .cells #[.int .u64 a1_0, .int .u64 a1_1] 24 (0, 0)) (by (with_reducible repeat (first | refine blk_drewN ?_ _ | refine blk_drew ?_ | refine blk_alloc ?_ _)); exact BK219.out)) : gb219 ≠ gb230))
       have n10_ := Aside0.mk ((by rw [hg]; exact Nat.ne_of_gt (blk_lt (g := gb219) (o := .cells #[.int .u64 a1_0, .int .u64 a1_1] 24 (0, 0)) (by (with_reducible repeat (first | refine blk_drewN ?_ _ | refine blk_drew ?_ | refine blk_alloc ?_ _)); exact BK219.out)) : gb230 ≠ gb219))
       have n11_ := Aside0.mk ((by rw [hg]; exact Nat.ne_of_lt (blk_lt (g := gb220) (o := .cells #[.int .u64 a2_0, .int .u64 a2_1] 24 (0, 0)) (by (with_reducible repeat (first | refine blk_drewN ?_ _ | refine blk_drew ?_ | refine blk_alloc ?_ _)); exact BK220.out)) : gb220 ≠ gb230))
       have n12_ := Aside0.mk ((by rw [hg]; exact Nat.ne_of_gt (blk_lt (g := gb220) (o := .cells #[.int .u64 a2_0, .int .u64 a2_1] 24 (0, 0)) (by (with_reducible repeat (first | refine blk_drewN ?_ _ | refine blk_drew ?_ | refine blk_alloc ?_ _)); exact BK220.out)) : gb230 ≠ gb220))
       have n13_ := Aside0.mk ((by rw [hg]; exact Nat.ne_of_lt (blk_lt (g := gb231) (o := .cells #[.int .u64 0, .int .u64 0] 24 (0, 0)) (by (with_reducible repeat (first | refine blk_drewN ?_ _ | refine blk_drew ?_ | refine blk_alloc ?_ _)); exact BK231.out)) : gb231 ≠ gb230))
       have n14_ := Aside0.mk ((by rw [hg]; exact Nat.ne_of_gt (blk_lt (g := gb231) (o := .cells #[.int .u64 0, .int .u64 0] 24 (0, 0)) (by (with_reducible repeat (first | refine blk_drewN ?_ _ | refine blk_drew ?_ | refine blk_alloc ?_ _)); exact BK231.out)) : gb230 ≠ gb231))
       clear HO223
       clear HO227
       clear BK219
       clear BK220
       clear BK231
       clear HB
       have HO223 := n0_
       have HO227 := n1_
       have BK219 := n2_
       have BK220 := n3_
       have BK231 := n4_
       have HB := n5_
       have BK230 := n6_
       have GW230 := n7_
       have GE230 := n8_
       have NB219_230 := n9_
       have NB230_219 := n10_
       have NB220_230 := n11_
       have NB230_220 := n12_
       have NB231_230 := n13_
       have NB230_231 := n14_
       clear n0_ n1_ n2_ n3_ n4_ n5_ n6_ n7_ n8_ n9_ n10_ n11_ n12_ n13_ n14_
       clear hb hbox hg
       refine hK.out _ _ ⟨HS0_, HS1_, HS2_, HS3_⟩ (fun hHeld => ?_)
       clear hK K
       refine norm_ (a' := ?_) ?_ ?_
       rotate_left
       ·show Act.put _ (some 9) _ = _
        simp only [Act.put, List.setIfInBounds_toArray, List.set_cons_zero, List.set_cons_succ, i64_w, i32_w]
        rfl
       exact norm_ (by simp only [putAll, Act.put, List.setIfInBounds_toArray, List.set_cons_zero, List.set_cons_succ]) (hCont (gb230, gb231) _ ⟨hHeld, (by (with_reducible repeat (first | apply Kd.R_alloc | apply Kd.R_drewN | apply Kd.R_drew)); exact Kd.R_mono HO223.out (fun _ hk => ⟨hk.1.1.2, ⟨hk.1.1.1.1.2, ⟨hk.1.1.1.2, ⟨hk.2, hk.1.2⟩⟩⟩⟩)), (by (with_reducible repeat (first | apply Kd.R_alloc | apply Kd.R_drewN | apply Kd.R_drew)); exact Kd.R_mono HO227.out (fun _ hk => ⟨hk.1.1.1.1.2, ⟨hk.1.1.1.2, ⟨hk.1.1.2, ⟨hk.2, hk.1.2⟩⟩⟩⟩)), (by (with_reducible repeat (first | refine blk_drewN ?_ _ | refine blk_drew ?_ | refine blk_alloc ?_ _)); exact BK219.out), (by (with_reducible repeat (first | refine blk_drewN ?_ _ | refine blk_drew ?_ | refine blk_alloc ?_ _)); exact BK220.out), (by (with_reducible repeat (first | refine blk_drewN ?_ _ | refine blk_drew ?_ | refine blk_alloc ?_ _)); exact BK230.out), (by (with_reducible repeat (first | refine blk_drewN ?_ _ | refine blk_drew ?_ | refine blk_alloc ?_ _)); exact BK231.out), GW230.out, GE230.out, NB219_230.out, NB230_219.out, NB220_230.out, NB230_220.out, NB231_230.out, NB230_231.out, GW231.out, GE231.out, NB219_231.out, NB231_219.out, NB220_231.out, NB231_220.out, (by repeat (first | (with_reducible first | exact HB.out | apply below_alloc | apply pw_below_drewN | apply below_drew1 | refine below_set ?_ GE219.out | refine below_set ?_ GE220.out | refine below_set ?_ GE231.out | refine below_set ?_ GE230.out) | exact HB.out))⟩)
     rintro ⟨gb230, gb231⟩ w29 ⟨hS_, h0_, h1_, h2_, h3_, h4_, h5_, h6_, h7_, h8_, h9_, h10_, h11_, h12_, h13_, h14_, h15_, h16_, h17_, h18_, h19_, h20_⟩
     have n0_ : Aside0 (Kd.R k24 24 w29 w.heap.size (fun k_ => some k_ ≠ (.slice (some ad228) t225.length co26 : Value).ownBlock ∧ k_ ≠ gb219 ∧ k_ ≠ gb220 ∧ k_ ≠ gb230 ∧ k_ ≠ gb231) (.slice Ao23 y221.length co23) y221) := ⟨h0_⟩
     have n1_ : Aside0 (Kd.R k24 24 w29 w.heap.size (fun k_ => some k_ ≠ (.slice Ao23 y221.length co23 : Value).ownBlock ∧ k_ ≠ gb219 ∧ k_ ≠ gb220 ∧ k_ ≠ gb230 ∧ k_ ≠ gb231) (.slice (some ad228) t225.length co26) t225) := ⟨h1_⟩
     have n2_ : Aside0 (w29.heap[gb219]? = some (.cells #[.int .u64 a1_0, .int .u64 a1_1] 24 (0, 0))) := ⟨h2_⟩
     have n3_ : Aside0 (w29.heap[gb220]? = some (.cells #[.int .u64 a2_0, .int .u64 a2_1] 24 (0, 0))) := ⟨h3_⟩
     have n4_ : Aside0 (w29.heap[gb230]? = some (.cells #[.int .u64 0, .int .u64 0] 24 (0, 0))) := ⟨h4_⟩
     have n5_ : Aside0 (w29.heap[gb231]? = some (.cells #[.int .u64 0, .int .u64 0] 24 (0, 0))) := ⟨h5_⟩
     have n6_ : Aside0 (w.heap.size ≤ gb230) := ⟨h6_⟩
     have n7_ : Aside0 (w.heap.size ≤ gb230) := ⟨h7_⟩
     have n8_ : Aside0 (gb219 ≠ gb230) := ⟨h8_⟩
     have n9_ : Aside0 (gb230 ≠ gb219) := ⟨h9_⟩
     have n10_ : Aside0 (gb220 ≠ gb230) := ⟨h10_⟩
     have n11_ : Aside0 (gb230 ≠ gb220) := ⟨h11_⟩
     have n12_ : Aside0 (gb231 ≠ gb230) := ⟨h12_⟩
     have n13_ : Aside0 (gb230 ≠ gb231) := ⟨h13_⟩
     have n14_ : Aside0 (w.heap.size ≤ gb231) := ⟨h14_⟩
     have n15_ : Aside0 (w.heap.size ≤ gb231) := ⟨h15_⟩
     have n16_ : Aside0 (gb219 ≠ gb231) := ⟨h16_⟩
     have n17_ : Aside0 (gb231 ≠ gb219) := ⟨h17_⟩
     have n18_ : Aside0 (gb220 ≠ gb231) := ⟨h18_⟩
     have n19_ : Aside0 (gb231 ≠ gb220) := ⟨h19_⟩
     have n20_ : Aside0 (Below w.heap.size w w29) := ⟨h20_⟩
     clear HO223
     clear HO227
     clear BK219
     clear BK220
     clear HB
     clear h0_ h1_ h2_ h3_ h4_ h5_ h6_ h7_ h8_ h9_ h10_ h11_ h12_ h13_ h14_ h15_ h16_ h17_ h18_ h19_ h20_
     have HO223 := n0_
     have HO227 := n1_
     have BK219 := n2_
     have BK220 := n3_
     have BK230 := n4_
     have BK231 := n5_
     have GW230 := n6_
     have GE230 := n7_
     have NB219_230 := n8_
     have NB230_219 := n9_
     have NB220_230 := n10_
     have NB230_220 := n11_
     have NB231_230 := n12_
     have NB230_231 := n13_
     have GW231 := n14_
     have GE231 := n15_
     have NB219_231 := n16_
     have NB231_219 := n17_
     have NB220_231 := n18_
     have NB231_220 := n19_
     have HB := n20_
     clear n0_ n1_ n2_ n3_ n4_ n5_ n6_ n7_ n8_ n9_ n10_ n11_ n12_ n13_ n14_ n15_ n16_ n17_ n18_ n19_ n20_
     have hHeld : w29.cell? ad228 = some (.int .u64 ((rd_T24 t225 0).f0)) ∧ w29.cell? ⟨ad228.block, ad228.off + 1, none⟩ = some (.int .u64 ((rd_T24 t225 0).f1)) ∧ w29.cell? ⟨ad228.block, ad228.off + 2, none⟩ = some (.int .u64 ((rd_T24 t225 1).f0)) ∧ w29.cell? ⟨ad228.block, ad228.off + 2 + 1, none⟩ = some (.int .u64 ((rd_T24 t225 1).f1)) := hS_
     refine norm_ (a' := ?_) ?_ ?_
     rotate_left
     ·simp only [putAll, Act.put, List.setIfInBounds_toArray, List.set_cons_zero, List.set_cons_succ]
      rfl
     refine one_ (i := 8) (N := none) #[true, true, true, true, true, true, true, true, true, false] rfl rfl (one_of HT_.out (by kernel_rfl)) (by decide) (fun K hK => ?_)
     have hs30 : w29.cell? ⟨gb230, 0, none⟩ = some (.int .u64 0) := (blk_cell BK230.out 0).trans rfl
     have hfs30 := blk_frozen BK230.out 0
     have hns30_0 := NB219_230.out
     have hns30_1 := NB220_230.out
     have hns30_3 := NB231_230.out
     have hms30_0 := NB230_219.out
     have hms30_1 := NB230_220.out
     have hms30_3 := NB230_231.out
     have hs31 : w29.cell? ⟨gb230, 1, none⟩ = some (.int .u64 0) := (blk_cell BK230.out 1).trans rfl
     have hfs31 := blk_frozen BK230.out 1
     have hns31_0 := NB219_230.out
     have hns31_1 := NB220_230.out
     have hns31_3 := NB231_230.out
     have hms31_0 := NB230_219.out
     have hms31_1 := NB230_220.out
     have hms31_3 := NB230_231.out
     refine skip_ (w1 := ?_) (by rfl) rfl ?_ ?_
     rotate_left
     ·go_simp
      rfl
     refine hK.out _ _ ⟨((cell_far (p := ⟨gb230, _, none⟩) (by first | exact Kd.own_blk (Kd.R_away HO227.out (fun _ hk => hk.2.2.2.1)) | (rw [add_block]; exact Kd.own_blk (Kd.R_away HO227.out (fun _ hk => hk.2.2.2.1))) | (show (Addr.add _ _).block ≠ _; rw [add_block]; exact Kd.own_blk (Kd.R_away HO227.out (fun _ hk => hk.2.2.2.1))) | (dsimp only; exact Kd.own_blk (Kd.R_away HO227.out (fun _ hk => hk.2.2.2.1)))) _).trans (((cell_far (p := ⟨gb230, _, none⟩) (by first | exact Kd.own_blk (Kd.R_away HO227.out (fun _ hk => hk.2.2.2.1)) | (rw [add_block]; exact Kd.own_blk (Kd.R_away HO227.out (fun _ hk => hk.2.2.2.1))) | (show (Addr.add _ _).block ≠ _; rw [add_block]; exact Kd.own_blk (Kd.R_away HO227.out (fun _ hk => hk.2.2.2.1))) | (dsimp only; exact Kd.own_blk (Kd.R_away HO227.out (fun _ hk => hk.2.2.2.1)))) _).trans (hHeld.1)))), ((cell_far (p := ⟨gb230, _, none⟩) (by first | exact Kd.own_blk (Kd.R_away HO227.out (fun _ hk => hk.2.2.2.1)) | (rw [add_block]; exact Kd.own_blk (Kd.R_away HO227.out (fun _ hk => hk.2.2.2.1))) | (show (Addr.add _ _).block ≠ _; rw [add_block]; exact Kd.own_blk (Kd.R_away HO227.out (fun _ hk => hk.2.2.2.1))) | (dsimp only; exact Kd.own_blk (Kd.R_away HO227.out (fun _ hk => hk.2.2.2.1)))) _).trans (((cell_far (p := ⟨gb230, _, none⟩) (by first | exact Kd.own_blk (Kd.R_away HO227.out (fun _ hk => hk.2.2.2.1)) | (rw [add_block]; exact Kd.own_blk (Kd.R_away HO227.out (fun _ hk => hk.2.2.2.1))) | (show (Addr.add _ _).block ≠ _; rw [add_block]; exact Kd.own_blk (Kd.R_away HO227.out (fun _ hk => hk.2.2.2.1))) | (dsimp only; exact Kd.own_blk (Kd.R_away HO227.out (fun _ hk => hk.2.2.2.1)))) _).trans (hHeld.2.1)))), ((cell_far (p := ⟨gb230, _, none⟩) (by first | exact Kd.own_blk (Kd.R_away HO227.out (fun _ hk => hk.2.2.2.1)) | (rw [add_block]; exact Kd.own_blk (Kd.R_away HO227.out (fun _ hk => hk.2.2.2.1))) | (show (Addr.add _ _).block ≠ _; rw [add_block]; exact Kd.own_blk (Kd.R_away HO227.out (fun _ hk => hk.2.2.2.1))) | (dsimp only; exact Kd.own_blk (Kd.R_away HO227.out (fun _ hk => hk.2.2.2.1)))) _).trans (((cell_far (p := ⟨gb230, _, none⟩) (by first | exact Kd.own_blk (Kd.R_away HO227.out (fun _ hk => hk.2.2.2.1)) | (rw [add_block]; exact Kd.own_blk (Kd.R_away HO227.out (fun _ hk => hk.2.2.2.1))) | (show (Addr.add _ _).block ≠ _; rw [add_block]; exact Kd.own_blk (Kd.R_away HO227.out (fun _ hk => hk.2.2.2.1))) | (dsimp only; exact Kd.own_blk (Kd.R_away HO227.out (fun _ hk => hk.2.2.2.1)))) _).trans (hHeld.2.2.1)))), ((cell_far (p := ⟨gb230, _, none⟩) (by first | exact Kd.own_blk (Kd.R_away HO227.out (fun _ hk => hk.2.2.2.1)) | (rw [add_block]; exact Kd.own_blk (Kd.R_away HO227.out (fun _ hk => hk.2.2.2.1))) | (show (Addr.add _ _).block ≠ _; rw [add_block]; exact Kd.own_blk (Kd.R_away HO227.out (fun _ hk => hk.2.2.2.1))) | (dsimp only; exact Kd.own_blk (Kd.R_away HO227.out (fun _ hk => hk.2.2.2.1)))) _).trans (((cell_far (p := ⟨gb230, _, none⟩) (by first | exact Kd.own_blk (Kd.R_away HO227.out (fun _ hk => hk.2.2.2.1)) | (rw [add_block]; exact Kd.own_blk (Kd.R_away HO227.out (fun _ hk => hk.2.2.2.1))) | (show (Addr.add _ _).block ≠ _; rw [add_block]; exact Kd.own_blk (Kd.R_away HO227.out (fun _ hk => hk.2.2.2.1))) | (dsimp only; exact Kd.own_blk (Kd.R_away HO227.out (fun _ hk => hk.2.2.2.1)))) _).trans (hHeld.2.2.2))))⟩ (fun hHeld => ?_)
     clear hK K
     refine one_ (i := 9) (N := none) #[true, true, true, true, true, true, true, true, true, true] rfl rfl (one_of HT_.out (by kernel_rfl)) (by decide) (fun K hK => ?_)
     have hs32 : w29.cell? ⟨gb231, 0, none⟩ = some (.int .u64 0) := (blk_cell BK231.out 0).trans rfl
     have hfs32 := blk_frozen BK231.out 0
     have hns32_0 := NB219_231.out
     have hns32_1 := NB220_231.out
     have hns32_2 := NB230_231.out
     have hms32_0 := NB231_219.out
     have hms32_1 := NB231_220.out
     have hms32_2 := NB231_230.out
     have hs33 : w29.cell? ⟨gb231, 1, none⟩ = some (.int .u64 0) := (blk_cell BK231.out 1).trans rfl
     have hfs33 := blk_frozen BK231.out 1
     have hns33_0 := NB219_231.out
     have hns33_1 := NB220_231.out
     have hns33_2 := NB230_231.out
     have hms33_0 := NB231_219.out
     have hms33_1 := NB231_220.out
     have hms33_2 := NB231_230.out
     refine skip_ (w1 := ?_) (by rfl) rfl ?_ ?_
     rotate_left
     ·go_simp
      rfl
     refine hK.out _ _ ⟨((cell_far (p := ⟨gb231, _, none⟩) (by first | exact Kd.own_blk (Kd.R_away HO227.out (fun _ hk => hk.2.2.2.2)) | (rw [add_block]; exact Kd.own_blk (Kd.R_away HO227.out (fun _ hk => hk.2.2.2.2))) | (show (Addr.add _ _).block ≠ _; rw [add_block]; exact Kd.own_blk (Kd.R_away HO227.out (fun _ hk => hk.2.2.2.2))) | (dsimp only; exact Kd.own_blk (Kd.R_away HO227.out (fun _ hk => hk.2.2.2.2)))) _).trans (((cell_far (p := ⟨gb231, _, none⟩) (by first | exact Kd.own_blk (Kd.R_away HO227.out (fun _ hk => hk.2.2.2.2)) | (rw [add_block]; exact Kd.own_blk (Kd.R_away HO227.out (fun _ hk => hk.2.2.2.2))) | (show (Addr.add _ _).block ≠ _; rw [add_block]; exact Kd.own_blk (Kd.R_away HO227.out (fun _ hk => hk.2.2.2.2))) | (dsimp only; exact Kd.own_blk (Kd.R_away HO227.out (fun _ hk => hk.2.2.2.2)))) _).trans (hHeld.1)))), ((cell_far (p := ⟨gb231, _, none⟩) (by first | exact Kd.own_blk (Kd.R_away HO227.out (fun _ hk => hk.2.2.2.2)) | (rw [add_block]; exact Kd.own_blk (Kd.R_away HO227.out (fun _ hk => hk.2.2.2.2))) | (show (Addr.add _ _).block ≠ _; rw [add_block]; exact Kd.own_blk (Kd.R_away HO227.out (fun _ hk => hk.2.2.2.2))) | (dsimp only; exact Kd.own_blk (Kd.R_away HO227.out (fun _ hk => hk.2.2.2.2)))) _).trans (((cell_far (p := ⟨gb231, _, none⟩) (by first | exact Kd.own_blk (Kd.R_away HO227.out (fun _ hk => hk.2.2.2.2)) | (rw [add_block]; exact Kd.own_blk (Kd.R_away HO227.out (fun _ hk => hk.2.2.2.2))) | (show (Addr.add _ _).block ≠ _; rw [add_block]; exact Kd.own_blk (Kd.R_away HO227.out (fun _ hk => hk.2.2.2.2))) | (dsimp only; exact Kd.own_blk (Kd.R_away HO227.out (fun _ hk => hk.2.2.2.2)))) _).trans (hHeld.2.1)))), ((cell_far (p := ⟨gb231, _, none⟩) (by first | exact Kd.own_blk (Kd.R_away HO227.out (fun _ hk => hk.2.2.2.2)) | (rw [add_block]; exact Kd.own_blk (Kd.R_away HO227.out (fun _ hk => hk.2.2.2.2))) | (show (Addr.add _ _).block ≠ _; rw [add_block]; exact Kd.own_blk (Kd.R_away HO227.out (fun _ hk => hk.2.2.2.2))) | (dsimp only; exact Kd.own_blk (Kd.R_away HO227.out (fun _ hk => hk.2.2.2.2)))) _).trans (((cell_far (p := ⟨gb231, _, none⟩) (by first | exact Kd.own_blk (Kd.R_away HO227.out (fun _ hk => hk.2.2.2.2)) | (rw [add_block]; exact Kd.own_blk (Kd.R_away HO227.out (fun _ hk => hk.2.2.2.2))) | (show (Addr.add _ _).block ≠ _; rw [add_block]; exact Kd.own_blk (Kd.R_away HO227.out (fun _ hk => hk.2.2.2.2))) | (dsimp only; exact Kd.own_blk (Kd.R_away HO227.out (fun _ hk => hk.2.2.2.2)))) _).trans (hHeld.2.2.1)))), ((cell_far (p := ⟨gb231, _, none⟩) (by first | exact Kd.own_blk (Kd.R_away HO227.out (fun _ hk => hk.2.2.2.2)) | (rw [add_block]; exact Kd.own_blk (Kd.R_away HO227.out (fun _ hk => hk.2.2.2.2))) | (show (Addr.add _ _).block ≠ _; rw [add_block]; exact Kd.own_blk (Kd.R_away HO227.out (fun _ hk => hk.2.2.2.2))) | (dsimp only; exact Kd.own_blk (Kd.R_away HO227.out (fun _ hk => hk.2.2.2.2)))) _).trans (((cell_far (p := ⟨gb231, _, none⟩) (by first | exact Kd.own_blk (Kd.R_away HO227.out (fun _ hk => hk.2.2.2.2)) | (rw [add_block]; exact Kd.own_blk (Kd.R_away HO227.out (fun _ hk => hk.2.2.2.2))) | (show (Addr.add _ _).block ≠ _; rw [add_block]; exact Kd.own_blk (Kd.R_away HO227.out (fun _ hk => hk.2.2.2.2))) | (dsimp only; exact Kd.own_blk (Kd.R_away HO227.out (fun _ hk => hk.2.2.2.2)))) _).trans (hHeld.2.2.2))))⟩ (fun hHeld => ?_)
     clear hK K
     refine done_ (done_of HT_.out (by kernel_rfl)) ?_
     try go_wp2
     have n0_ : Aside0 (Kd.R k24 24 ((((w29.setCell ⟨gb230, 0, none⟩ (.int .u64 ((rd_T24 t225 0).f0))).setCell ⟨gb230, 1, none⟩ (.int .u64 ((rd_T24 t225 0).f1))).setCell ⟨gb231, 0, none⟩ (.int .u64 ((rd_T24 t225 1).f0))).setCell ⟨gb231, 1, none⟩ (.int .u64 ((rd_T24 t225 1).f1))) w.heap.size (fun k_ => some k_ ≠ (.slice (some ad228) t225.length co26 : Value).ownBlock ∧ k_ ≠ gb219 ∧ k_ ≠ gb220 ∧ k_ ≠ gb230 ∧ k_ ≠ gb231) (.slice Ao23 y221.length co23) y221) := ⟨by (with_reducible repeat (first | apply Kd.R_alloc | apply Kd.R_drewN | apply Kd.R_drew)); exact Kd.R_mono (Kd.R_far (p := ⟨gb231, 1, none⟩) (Kd.R_far (p := ⟨gb231, 0, none⟩) (Kd.R_far (p := ⟨gb230, 1, none⟩) (Kd.R_far (p := ⟨gb230, 0, none⟩) (Kd.R_mono (Kd.R_mono HO223.out (fun k_ hk => (⟨hk, hk.2.2.2.1⟩ : _ ∧ k_ ≠ gb230))) (fun k_ hk => (⟨hk, hk.1.2.2.2.2⟩ : _ ∧ k_ ≠ gb231))) (fun _ hk => hk.1.2) (.int .u64 ((rd_T24 t225 0).f0))) (fun _ hk => hk.1.2) (.int .u64 ((rd_T24 t225 0).f1))) (fun _ hk => hk.2) (.int .u64 ((rd_T24 t225 1).f0))) (fun _ hk => hk.2) (.int .u64 ((rd_T24 t225 1).f1))) (fun _ hk => ⟨hk.1.1.1, ⟨hk.1.1.2.1, ⟨hk.1.1.2.2.1, ⟨hk.1.1.2.2.2.1, hk.1.1.2.2.2.2⟩⟩⟩⟩)⟩
     have n1_ : Aside0 (Kd.R k24 24 ((((w29.setCell ⟨gb230, 0, none⟩ (.int .u64 ((rd_T24 t225 0).f0))).setCell ⟨gb230, 1, none⟩ (.int .u64 ((rd_T24 t225 0).f1))).setCell ⟨gb231, 0, none⟩ (.int .u64 ((rd_T24 t225 1).f0))).setCell ⟨gb231, 1, none⟩ (.int .u64 ((rd_T24 t225 1).f1))) w.heap.size (fun k_ => some k_ ≠ (.slice Ao23 y221.length co23 : Value).ownBlock ∧ k_ ≠ gb219 ∧ k_ ≠ gb220 ∧ k_ ≠ gb230 ∧ k_ ≠ gb231) (.slice (some ad228) t225.length co26) t225) := ⟨by (with_reducible repeat (first | apply Kd.R_alloc | apply Kd.R_drewN | apply Kd.R_drew)); exact Kd.R_mono (Kd.R_far (p := ⟨gb231, 1, none⟩) (Kd.R_far (p := ⟨gb231, 0, none⟩) (Kd.R_far (p := ⟨gb230, 1, none⟩) (Kd.R_far (p := ⟨gb230, 0, none⟩) (Kd.R_mono (Kd.R_mono HO227.out (fun k_ hk => (⟨hk, hk.2.2.2.1⟩ : _ ∧ k_ ≠ gb230))) (fun k_ hk => (⟨hk, hk.1.2.2.2.2⟩ : _ ∧ k_ ≠ gb231))) (fun _ hk => hk.1.2) (.int .u64 ((rd_T24 t225 0).f0))) (fun _ hk => hk.1.2) (.int .u64 ((rd_T24 t225 0).f1))) (fun _ hk => hk.2) (.int .u64 ((rd_T24 t225 1).f0))) (fun _ hk => hk.2) (.int .u64 ((rd_T24 t225 1).f1))) (fun _ hk => ⟨hk.1.1.1, ⟨hk.1.1.2.1, ⟨hk.1.1.2.2.1, ⟨hk.1.1.2.2.2.1, hk.1.1.2.2.2.2⟩⟩⟩⟩)⟩
     have n2_ : Aside0 (((((w29.setCell ⟨gb230, 0, none⟩ (.int .u64 ((rd_T24 t225 0).f0))).setCell ⟨gb230, 1, none⟩ (.int .u64 ((rd_T24 t225 0).f1))).setCell ⟨gb231, 0, none⟩ (.int .u64 ((rd_T24 t225 1).f0))).setCell ⟨gb231, 1, none⟩ (.int .u64 ((rd_T24 t225 1).f1))).heap[gb219]? = some (.cells #[.int .u64 a1_0, .int .u64 a1_1] 24 (0, 0))) := ⟨by (with_reducible repeat (first | refine blk_drewN ?_ _ | refine blk_drew ?_ | refine blk_alloc ?_ _)); refine blk_far ?_ NB219_231.out _; (with_reducible repeat (first | refine blk_drewN ?_ _ | refine blk_drew ?_ | refine blk_alloc ?_ _)); refine blk_far ?_ NB219_231.out _; (with_reducible repeat (first | refine blk_drewN ?_ _ | refine blk_drew ?_ | refine blk_alloc ?_ _)); refine blk_far ?_ NB219_230.out _; (with_reducible repeat (first | refine blk_drewN ?_ _ | refine blk_drew ?_ | refine blk_alloc ?_ _)); refine blk_far ?_ NB219_230.out _; (with_reducible repeat (first | refine blk_drewN ?_ _ | refine blk_drew ?_ | refine blk_alloc ?_ _)); exact BK219.out⟩
     have n3_ : Aside0 (((((w29.setCell ⟨gb230, 0, none⟩ (.int .u64 ((rd_T24 t225 0).f0))).setCell ⟨gb230, 1, none⟩ (.int .u64 ((rd_T24 t225 0).f1))).setCell ⟨gb231, 0, none⟩ (.int .u64 ((rd_T24 t225 1).f0))).setCell ⟨gb231, 1, none⟩ (.int .u64 ((rd_T24 t225 1).f1))).heap[gb220]? = some (.cells #[.int .u64 a2_0, .int .u64 a2_1] 24 (0, 0))) := ⟨by (with_reducible repeat (first | refine blk_drewN ?_ _ | refine blk_drew ?_ | refine blk_alloc ?_ _)); refine blk_far ?_ NB220_231.out _; (with_reducible repeat (first | refine blk_drewN ?_ _ | refine blk_drew ?_ | refine blk_alloc ?_ _)); refine blk_far ?_ NB220_231.out _; (with_reducible repeat (first | refine blk_drewN ?_ _ | refine blk_drew ?_ | refine blk_alloc ?_ _)); refine blk_far ?_ NB220_230.out _; (with_reducible repeat (first | refine blk_drewN ?_ _ | refine blk_drew ?_ | refine blk_alloc ?_ _)); refine blk_far ?_ NB220_230.out _; (with_reducible repeat (first | refine blk_drewN ?_ _ | refine blk_drew ?_ | refine blk_alloc ?_ _)); exact BK220.out⟩
     have n4_ : Aside0 (((((w29.setCell ⟨gb230, 0, none⟩ (.int .u64 ((rd_T24 t225 0).f0))).setCell ⟨gb230, 1, none⟩ (.int .u64 ((rd_T24 t225 0).f1))).setCell ⟨gb231, 0, none⟩ (.int .u64 ((rd_T24 t225 1).f0))).setCell ⟨gb231, 1, none⟩ (.int .u64 ((rd_T24 t225 1).f1))).heap[gb230]? = some (.cells #[.int .u64 ((rd_T24 t225 0).f0), .int .u64 ((rd_T24 t225 0).f1)] 24 (0, 0))) := ⟨by (with_reducible repeat (first | refine blk_drewN ?_ _ | refine blk_drew ?_ | refine blk_alloc ?_ _)); refine blk_far ?_ NB230_231.out _; (with_reducible repeat (first | refine blk_drewN ?_ _ | refine blk_drew ?_ | refine blk_alloc ?_ _)); refine blk_far ?_ NB230_231.out _; (with_reducible repeat (first | refine blk_drewN ?_ _ | refine blk_drew ?_ | refine blk_alloc ?_ _)); refine blk_put (cs := #[.int .u64 ((rd_T24 t225 0).f0), .int .u64 0]) ?_ 1 _ rfl; (with_reducible repeat (first | refine blk_drewN ?_ _ | refine blk_drew ?_ | refine blk_alloc ?_ _)); refine blk_put (cs := #[.int .u64 0, .int .u64 0]) ?_ 0 _ rfl; (with_reducible repeat (first | refine blk_drewN ?_ _ | refine blk_drew ?_ | refine blk_alloc ?_ _)); exact BK230.out⟩
     have n5_ : Aside0 (((((w29.setCell ⟨gb230, 0, none⟩ (.int .u64 ((rd_T24 t225 0).f0))).setCell ⟨gb230, 1, none⟩ (.int .u64 ((rd_T24 t225 0).f1))).setCell ⟨gb231, 0, none⟩ (.int .u64 ((rd_T24 t225 1).f0))).setCell ⟨gb231, 1, none⟩ (.int .u64 ((rd_T24 t225 1).f1))).heap[gb231]? = some (.cells #[.int .u64 ((rd_T24 t225 1).f0), .int .u64 ((rd_T24 t225 1).f1)] 24 (0, 0))) := ⟨by (with_reducible repeat (first | refine blk_drewN ?_ _ | refine blk_drew ?_ | refine blk_alloc ?_ _)); refine blk_put (cs := #[.int .u64 ((rd_T24 t225 1).f0), .int .u64 0]) ?_ 1 _ rfl; (with_reducible repeat (first | refine blk_drewN ?_ _ | refine blk_drew ?_ | refine blk_alloc ?_ _)); refine blk_put (cs := #[.int .u64 0, .int .u64 0]) ?_ 0 _ rfl; (with_reducible repeat (first | refine blk_drewN ?_ _ | refine blk_drew ?_ | refine blk_alloc ?_ _)); refine blk_far ?_ NB231_230.out _; (with_reducible repeat (first | refine blk_drewN ?_ _ | refine blk_drew ?_ | refine blk_alloc ?_ _)); refine blk_far ?_ NB231_230.out _; (with_reducible repeat (first | refine blk_drewN ?_ _ | refine blk_drew ?_ | refine blk_alloc ?_ _)); exact BK231.out⟩
     have n6_ : Aside0 (Below w.heap.size w ((((w29.setCell ⟨gb230, 0, none⟩ (.int .u64 ((rd_T24 t225 0).f0))).setCell ⟨gb230, 1, none⟩ (.int .u64 ((rd_T24 t225 0).f1))).setCell ⟨gb231, 0, none⟩ (.int .u64 ((rd_T24 t225 1).f0))).setCell ⟨gb231, 1, none⟩ (.int .u64 ((rd_T24 t225 1).f1)))) := ⟨by repeat (first | (with_reducible first | exact HB.out | apply below_alloc | apply pw_below_drewN | apply below_drew1 | refine below_set ?_ GE219.out | refine below_set ?_ GE220.out | refine below_set ?_ GE230.out | refine below_set ?_ GE231.out) | exact HB.out)⟩
     (try clear HO223)
     (try clear HO227)
     (try clear BK219)
     (try clear BK220)
     (try clear BK230)
     (try clear BK231)
     (try clear HB)
     generalize ((((w29.setCell ⟨gb230, 0, none⟩ (.int .u64 ((rd_T24 t225 0).f0))).setCell ⟨gb230, 1, none⟩ (.int .u64 ((rd_T24 t225 0).f1))).setCell ⟨gb231, 0, none⟩ (.int .u64 ((rd_T24 t225 1).f0))).setCell ⟨gb231, 1, none⟩ (.int .u64 ((rd_T24 t225 1).f1))) = w34 at n0_ n1_ n2_ n3_ n4_ n5_ n6_ ⊢
     have HO223 := n0_
     have HO227 := n1_
     have BK219 := n2_
     have BK220 := n3_
     have BK230 := n4_
     have BK231 := n5_
     have HB := n6_
     clear n0_ n1_ n2_ n3_ n4_ n5_ n6_
     have n0_ := Aside0.mk (Kd.R_drew HO223.out)
     have n1_ := Aside0.mk (Kd.R_drew HO227.out)
     have n2_ := Aside0.mk (blk_drew BK219.out)
     have n3_ := Aside0.mk (blk_drew BK220.out)
     have n4_ := Aside0.mk (blk_drew BK230.out)
     have n5_ := Aside0.mk (blk_drew BK231.out)
     have n6_ := Aside0.mk (below_drew1 HB.out)
     clear HO223
     clear HO227
     clear BK219
     clear BK220
     clear BK230
     clear BK231
     clear HB
     have HO223 := n0_
     have HO227 := n1_
     have BK219 := n2_
     have BK220 := n3_
     have BK230 := n4_
     have BK231 := n5_
     have HB := n6_
     clear n0_ n1_ n2_ n3_ n4_ n5_ n6_
     refine start_ (n := 23) (S := fun w' => w'.cell? ⟨gb230, 0, none⟩ = some (.int .u64 ((rd_T24 t225 0).f0)) ∧ w'.cell? ⟨gb230, 1, none⟩ = some (.int .u64 ((rd_T24 t225 0).f1)) ∧ w'.cell? ⟨gb231, 0, none⟩ = some (.int .u64 ((rd_T24 t225 1).f0)) ∧ w'.cell? ⟨gb231, 1, none⟩ = some (.int .u64 ((rd_T24 t225 1).f1))) (ds := []) #[false, false, false, false, false, false, false, false, false, false, false, false, false, false, false, false, false, false, false, false, false, false, false] (by kernel_rfl) rfl rfl ⟨(blk_cell BK230.out 0).trans rfl, (blk_cell BK230.out 1).trans rfl, (blk_cell BK231.out 0).trans rfl, (blk_cell BK231.out 1).trans rfl⟩ (fun hHeld => ?_); refine with_tabW steeplelaw02_TowerSquares.tab3 steeplelaw02_TowerSquares.bits3 (fun HT_ HW_ => ?_)
     generalize w34.drew = w35 at HO223 HO227 BK219 BK220 BK230 BK231 HB hHeld ⊢
     refine pure_ (i := 0) (N := some 27) (v := ?_) (a' := ?_) #[true, false, false, false, false, false, false, false, false, false, false, false, false, false, false, false, false, false, false, false, false, false, false] rfl rfl (any_of HT_.out (by kernel_rfl)) (fun _ _ _ h => h) (Or.inl ⟨by rfl, ?_⟩) ?_ ?_
     rotate_left
     ·intro w'
      go_simp
      with_reducible rfl
     rotate_left
     ·simp only [Act.put, List.setIfInBounds_toArray, List.set_cons_zero, List.set_cons_succ, i64_w, i32_w]
      rfl
     refine pure_ (i := 5) (N := some 32) (v := ?_) (a' := ?_) #[true, false, false, false, false, true, false, false, false, false, false, false, false, false, false, false, false, false, false, false, false, false, false] rfl rfl (any_of HT_.out (by kernel_rfl)) (fun _ _ _ h => h) (Or.inl ⟨by rfl, ?_⟩) ?_ ?_
     rotate_left
     ·intro w'
      go_simp
      with_reducible rfl
     rotate_left
     ·simp only [Act.put, List.setIfInBounds_toArray, List.set_cons_zero, List.set_cons_succ, i64_w, i32_w]
      rfl
     refine pure_ (i := 8) (N := some 35) (v := ?_) (a' := ?_) #[true, false, false, false, false, true, false, false, true, false, false, false, false, false, false, false, false, false, false, false, false, false, false] rfl rfl (any_of HT_.out (by kernel_rfl)) (fun _ _ _ h => h) (Or.inl ⟨by rfl, ?_⟩) ?_ ?_
     rotate_left
     ·intro w'
      go_simp
      with_reducible rfl
     rotate_left
     ·simp only [Act.put, List.setIfInBounds_toArray, List.set_cons_zero, List.set_cons_succ, i64_w, i32_w]
      rfl
     refine take_ (i := 1) (N := some 28) (v := ?_) (a' := ?_) #[true, true, false, false, false, true, false, false, true, false, false, false, false, false, false, false, false, false, false, false, false, false, false] rfl rfl (take_ofW HT_.out HW_.out (by kernel_rfl)) (fun _ _ _ h => h) (Or.inl ⟨by rfl, ?_⟩) hHeld ?_ ?_
     rotate_left
     ·rintro w' ⟨s0, s1, s2, s3⟩
      go_simp
      with_reducible rfl
     rotate_left
     ·simp only [Act.put, List.setIfInBounds_toArray, List.set_cons_zero, List.set_cons_succ, i64_w, i32_w]
      rfl
     refine take_ (i := 2) (N := some 29) (v := ?_) (a' := ?_) #[true, true, true, false, false, true, false, false, true, false, false, false, false, false, false, false, false, false, false, false, false, false, false] rfl rfl (take_ofW HT_.out HW_.out (by kernel_rfl)) (fun _ _ _ h => h) (Or.inl ⟨by rfl, ?_⟩) hHeld ?_ ?_
     rotate_left
     ·rintro w' ⟨s0, s1, s2, s3⟩
      go_simp
      with_reducible rfl
     rotate_left
     ·simp only [Act.put, List.setIfInBounds_toArray, List.set_cons_zero, List.set_cons_succ, i64_w, i32_w]
      rfl
     refine take_ (i := 6) (N := some 33) (v := ?_) (a' := ?_) #[true, true, true, false, false, true, true, false, true, false, false, false, false, false, false, false, false, false, false, false, false, false, false] rfl rfl (take_ofW HT_.out HW_.out (by kernel_rfl)) (fun _ _ _ h => h) (Or.inl ⟨by rfl, ?_⟩) hHeld ?_ ?_
     rotate_left
     ·rintro w' ⟨s0, s1, s2, s3⟩
      go_simp
      with_reducible rfl
     rotate_left
     ·simp only [Act.put, List.setIfInBounds_toArray, List.set_cons_zero, List.set_cons_succ, i64_w, i32_w]
      rfl
     refine take_ (i := 9) (N := some 36) (v := ?_) (a' := ?_) #[true, true, true, false, false, true, true, false, true, true, false, false, false, false, false, false, false, false, false, false, false, false, false] rfl rfl (take_ofW HT_.out HW_.out (by kernel_rfl)) (fun _ _ _ h => h) (Or.inl ⟨by rfl, ?_⟩) hHeld ?_ ?_
     rotate_left
     ·rintro w' ⟨s0, s1, s2, s3⟩
      go_simp
      with_reducible rfl
     rotate_left
     ·simp only [Act.put, List.setIfInBounds_toArray, List.set_cons_zero, List.set_cons_succ, i64_w, i32_w]
      rfl
     refine one_ (i := 3) (N := some 30) #[true, true, true, true, false, true, true, false, true, true, false, false, false, false, false, false, false, false, false, false, false, false, false] rfl rfl (one_of HT_.out (by kernel_rfl)) (by decide) (fun K hK => ?_)
     refine goes_ Try.func14 (by kernel_rfl) rfl #[.agg #[.int .u64 ((rd_T24 t225 0).f0), .int .u64 ((rd_T24 t225 0).f1)], .agg #[.int .u64 ((rd_T24 t225 1).f0), .int .u64 ((rd_T24 t225 1).f1)]] (by rfl) rfl rfl (by (try simp only [List.map_toArray, List.map_cons, List.map_nil]); first | done | rfl | (simp only [List.length_drop, List.length_take]; rfl)) ?_
     with_reducible refine (tower_Add.calls ((rd_T24 t225 0).f0) ((rd_T24 t225 0).f1) ((rd_T24 t225 1).f0) ((rd_T24 t225 1).f1) t232 t233 _ A7.out).mono ?_
     rintro e w36 ⟨rfl, hb⟩
     refine ⟨_, rfl, ?_⟩
     have n0_ := Aside0.mk (Kd.R_below (by (with_reducible repeat (first | apply Kd.R_alloc | apply Kd.R_drewN | apply Kd.R_drew)); exact HO223.out) hb)
     have n1_ := Aside0.mk (Kd.R_below (by (with_reducible repeat (first | apply Kd.R_alloc | apply Kd.R_drewN | apply Kd.R_drew)); exact HO227.out) hb)
     have n2_ := Aside0.mk (blk_below (g := gb219) (o := .cells #[.int .u64 a1_0, .int .u64 a1_1] 24 (0, 0)) (by (with_reducible repeat (first | refine blk_drewN ?_ _ | refine blk_drew ?_ | refine blk_alloc ?_ _)); exact BK219.out) hb)
     have n3_ := Aside0.mk (blk_below (g := gb220) (o := .cells #[.int .u64 a2_0, .int .u64 a2_1] 24 (0, 0)) (by (with_reducible repeat (first | refine blk_drewN ?_ _ | refine blk_drew ?_ | refine blk_alloc ?_ _)); exact BK220.out) hb)
     have n4_ := Aside0.mk (blk_below (g := gb230) (o := .cells #[.int .u64 ((rd_T24 t225 0).f0), .int .u64 ((rd_T24 t225 0).f1)] 24 (0, 0)) (by (with_reducible repeat (first | refine blk_drewN ?_ _ | refine blk_drew ?_ | refine blk_alloc ?_ _)); exact BK230.out) hb)
     have n5_ := Aside0.mk (blk_below (g := gb231) (o := .cells #[.int .u64 ((rd_T24 t225 1).f0), .int .u64 ((rd_T24 t225 1).f1)] 24 (0, 0)) (by (with_reducible repeat (first | refine blk_drewN ?_ _ | refine blk_drew ?_ | refine blk_alloc ?_ _)); exact BK231.out) hb)
     have n6_ := Aside0.mk (below_step (by repeat (first | (with_reducible first | exact HB.out | apply below_alloc | apply pw_below_drewN | apply below_drew1 | refine below_set ?_ GE219.out | refine below_set ?_ GE220.out | refine below_set ?_ GE230.out | refine below_set ?_ GE231.out) | exact HB.out)) hb)
     clear HO223
     clear HO227
     clear BK219
     clear BK220
     clear BK230
     clear BK231
     clear HB
     have HO223 := n0_
     have HO227 := n1_
     have BK219 := n2_
     have BK220 := n3_
     have BK230 := n4_
     have BK231 := n5_
     have HB := n6_
     clear n0_ n1_ n2_ n3_ n4_ n5_ n6_
     (try clear hb)
     (try clear hb2)
     (try clear hk)
     (try clear hi)
     refine hK.out _ _ ⟨(blk_cell BK230.out 0).trans rfl, (blk_cell BK230.out 1).trans rfl, (blk_cell BK231.out 0).trans rfl, (blk_cell BK231.out 1).trans rfl⟩ (fun hHeld => ?_)
     clear hK K
     refine norm_ (a' := ?_) ?_ ?_
     rotate_left
     ·show Act.put _ (some 30) _ = _
      simp only [Act.put, List.setIfInBounds_toArray, List.set_cons_zero, List.set_cons_succ, i64_w, i32_w]
      rfl
     refine one_ (i := 4) (N := some 31) #[true, true, true, true, true, true, true, false, true, true, false, false, false, false, false, false, false, false, false, false, false, false, false] rfl rfl (one_of HT_.out (by kernel_rfl)) (by decide) (fun K hK => ?_)
     refine goes_ Try.func18 (by kernel_rfl) rfl #[.int .i64 t224, .agg #[.int .u64 t232, .int .u64 t233]] (by rfl) rfl rfl (by (try simp only [List.map_toArray, List.map_cons, List.map_nil]); first | done | rfl | (simp only [List.length_drop, List.length_take]; rfl)) ?_
     with_reducible refine (tower_Square.calls k t224 t232 t233 t234 t235 _ A8.out).mono ?_
     rintro e w37 ⟨rfl, hb⟩
     refine ⟨_, rfl, ?_⟩
     have n0_ := Aside0.mk (Kd.R_below (by (with_reducible repeat (first | apply Kd.R_alloc | apply Kd.R_drewN | apply Kd.R_drew)); exact HO223.out) hb)
     have n1_ := Aside0.mk (Kd.R_below (by (with_reducible repeat (first | apply Kd.R_alloc | apply Kd.R_drewN | apply Kd.R_drew)); exact HO227.out) hb)
     have n2_ := Aside0.mk (blk_below (g := gb219) (o := .cells #[.int .u64 a1_0, .int .u64 a1_1] 24 (0, 0)) (by (with_reducible repeat (first | refine blk_drewN ?_ _ | refine blk_drew ?_ | refine blk_alloc ?_ _)); exact BK219.out) hb)
     have n3_ := Aside0.mk (blk_below (g := gb220) (o := .cells #[.int .u64 a2_0, .int .u64 a2_1] 24 (0, 0)) (by (with_reducible repeat (first | refine blk_drewN ?_ _ | refine blk_drew ?_ | refine blk_alloc ?_ _)); exact BK220.out) hb)
     have n4_ := Aside0.mk (blk_below (g := gb230) (o := .cells #[.int .u64 ((rd_T24 t225 0).f0), .int .u64 ((rd_T24 t225 0).f1)] 24 (0, 0)) (by (with_reducible repeat (first | refine blk_drewN ?_ _ | refine blk_drew ?_ | refine blk_alloc ?_ _)); exact BK230.out) hb)
     have n5_ := Aside0.mk (blk_below (g := gb231) (o := .cells #[.int .u64 ((rd_T24 t225 1).f0), .int .u64 ((rd_T24 t225 1).f1)] 24 (0, 0)) (by (with_reducible repeat (first | refine blk_drewN ?_ _ | refine blk_drew ?_ | refine blk_alloc ?_ _)); exact BK231.out) hb)
     have n6_ := Aside0.mk (below_step (by repeat (first | (with_reducible first | exact HB.out | apply below_alloc | apply pw_below_drewN | apply below_drew1 | refine below_set ?_ GE219.out | refine below_set ?_ GE220.out | refine below_set ?_ GE230.out | refine below_set ?_ GE231.out) | exact HB.out)) hb)
     clear HO223
     clear HO227
     clear BK219
     clear BK220
     clear BK230
     clear BK231
     clear HB
     have HO223 := n0_
     have HO227 := n1_
     have BK219 := n2_
     have BK220 := n3_
     have BK230 := n4_
     have BK231 := n5_
     have HB := n6_
     clear n0_ n1_ n2_ n3_ n4_ n5_ n6_
     (try clear hb)
     (try clear hb2)
     (try clear hk)
     (try clear hi)
     refine hK.out _ _ ⟨(blk_cell BK230.out 0).trans rfl, (blk_cell BK230.out 1).trans rfl, (blk_cell BK231.out 0).trans rfl, (blk_cell BK231.out 1).trans rfl⟩ (fun hHeld => ?_)
     clear hK K
     refine norm_ (a' := ?_) ?_ ?_
     rotate_left
     ·show Act.put _ (some 31) _ = _
      simp only [Act.put, List.setIfInBounds_toArray, List.set_cons_zero, List.set_cons_succ, i64_w, i32_w]
      rfl
     refine one_ (i := 7) (N := some 34) #[true, true, true, true, true, true, true, true, true, true, false, false, false, false, false, false, false, false, false, false, false, false, false] rfl rfl (one_of HT_.out (by kernel_rfl)) (by decide) (fun K hK => ?_)
     refine goes_ Try.func18 (by kernel_rfl) rfl #[.int .i64 t224, .agg #[.int .u64 ((rd_T24 t225 0).f0), .int .u64 ((rd_T24 t225 0).f1)]] (by rfl) rfl rfl (by (try simp only [List.map_toArray, List.map_cons, List.map_nil]); first | done | rfl | (simp only [List.length_drop, List.length_take]; rfl)) ?_
     with_reducible refine (tower_Square.calls k t224 ((rd_T24 t225 0).f0) ((rd_T24 t225 0).f1) t236 t237 _ A9.out).mono ?_
     rintro e w38 ⟨rfl, hb⟩
     refine ⟨_, rfl, ?_⟩
     have n0_ := Aside0.mk (Kd.R_below (by (with_reducible repeat (first | apply Kd.R_alloc | apply Kd.R_drewN | apply Kd.R_drew)); exact HO223.out) hb)
     have n1_ := Aside0.mk (Kd.R_below (by (with_reducible repeat (first | apply Kd.R_alloc | apply Kd.R_drewN | apply Kd.R_drew)); exact HO227.out) hb)
     have n2_ := Aside0.mk (blk_below (g := gb219) (o := .cells #[.int .u64 a1_0, .int .u64 a1_1] 24 (0, 0)) (by (with_reducible repeat (first | refine blk_drewN ?_ _ | refine blk_drew ?_ | refine blk_alloc ?_ _)); exact BK219.out) hb)
     have n3_ := Aside0.mk (blk_below (g := gb220) (o := .cells #[.int .u64 a2_0, .int .u64 a2_1] 24 (0, 0)) (by (with_reducible repeat (first | refine blk_drewN ?_ _ | refine blk_drew ?_ | refine blk_alloc ?_ _)); exact BK220.out) hb)
     have n4_ := Aside0.mk (blk_below (g := gb230) (o := .cells #[.int .u64 ((rd_T24 t225 0).f0), .int .u64 ((rd_T24 t225 0).f1)] 24 (0, 0)) (by (with_reducible repeat (first | refine blk_drewN ?_ _ | refine blk_drew ?_ | refine blk_alloc ?_ _)); exact BK230.out) hb)
     have n5_ := Aside0.mk (blk_below (g := gb231) (o := .cells #[.int .u64 ((rd_T24 t225 1).f0), .int .u64 ((rd_T24 t225 1).f1)] 24 (0, 0)) (by (with_reducible repeat (first | refine blk_drewN ?_ _ | refine blk_drew ?_ | refine blk_alloc ?_ _)); exact BK231.out) hb)
     have n6_ := Aside0.mk (below_step (by repeat (first | (with_reducible first | exact HB.out | apply below_alloc | apply pw_below_drewN | apply below_drew1 | refine below_set ?_ GE219.out | refine below_set ?_ GE220.out | refine below_set ?_ GE230.out | refine below_set ?_ GE231.out) | exact HB.out)) hb)
     clear HO223
     clear HO227
     clear BK219
     clear BK220
     clear BK230
     clear BK231
     clear HB
     have HO223 := n0_
     have HO227 := n1_
     have BK219 := n2_
     have BK220 := n3_
     have BK230 := n4_
     have BK231 := n5_
     have HB := n6_
     clear n0_ n1_ n2_ n3_ n4_ n5_ n6_
     (try clear hb)
     (try clear hb2)
     (try clear hk)
     (try clear hi)
     refine hK.out _ _ ⟨(blk_cell BK230.out 0).trans rfl, (blk_cell BK230.out 1).trans rfl, (blk_cell BK231.out 0).trans rfl, (blk_cell BK231.out 1).trans rfl⟩ (fun hHeld => ?_)
     clear hK K
     refine norm_ (a' := ?_) ?_ ?_
     rotate_left
     ·show Act.put _ (some 34) _ = _
      simp only [Act.put, List.setIfInBounds_toArray, List.set_cons_zero, List.set_cons_succ, i64_w, i32_w]
      rfl
     refine one_ (i := 10) (N := some 37) #[true, true, true, true, true, true, true, true, true, true, true, false, false, false, false, false, false, false, false, false, false, false, false] rfl rfl (one_of HT_.out (by kernel_rfl)) (by decide) (fun K hK => ?_)
     refine goes_ Try.func18 (by kernel_rfl) rfl #[.int .i64 t224, .agg #[.int .u64 ((rd_T24 t225 1).f0), .int .u64 ((rd_T24 t225 1).f1)]] (by rfl) rfl rfl (by (try simp only [List.map_toArray, List.map_cons, List.map_nil]); first | done | rfl | (simp only [List.length_drop, List.length_take]; rfl)) ?_
     with_reducible refine (tower_Square.calls k t224 ((rd_T24 t225 1).f0) ((rd_T24 t225 1).f1) t238 t239 _ A10.out).mono ?_
     rintro e w39 ⟨rfl, hb⟩
     refine ⟨_, rfl, ?_⟩
     have n0_ := Aside0.mk (Kd.R_below (by (with_reducible repeat (first | apply Kd.R_alloc | apply Kd.R_drewN | apply Kd.R_drew)); exact HO223.out) hb)
     have n1_ := Aside0.mk (Kd.R_below (by (with_reducible repeat (first | apply Kd.R_alloc | apply Kd.R_drewN | apply Kd.R_drew)); exact HO227.out) hb)
     have n2_ := Aside0.mk (blk_below (g := gb219) (o := .cells #[.int .u64 a1_0, .int .u64 a1_1] 24 (0, 0)) (by (with_reducible repeat (first | refine blk_drewN ?_ _ | refine blk_drew ?_ | refine blk_alloc ?_ _)); exact BK219.out) hb)
     have n3_ := Aside0.mk (blk_below (g := gb220) (o := .cells #[.int .u64 a2_0, .int .u64 a2_1] 24 (0, 0)) (by (with_reducible repeat (first | refine blk_drewN ?_ _ | refine blk_drew ?_ | refine blk_alloc ?_ _)); exact BK220.out) hb)
     have n4_ := Aside0.mk (blk_below (g := gb230) (o := .cells #[.int .u64 ((rd_T24 t225 0).f0), .int .u64 ((rd_T24 t225 0).f1)] 24 (0, 0)) (by (with_reducible repeat (first | refine blk_drewN ?_ _ | refine blk_drew ?_ | refine blk_alloc ?_ _)); exact BK230.out) hb)
     have n5_ := Aside0.mk (blk_below (g := gb231) (o := .cells #[.int .u64 ((rd_T24 t225 1).f0), .int .u64 ((rd_T24 t225 1).f1)] 24 (0, 0)) (by (with_reducible repeat (first | refine blk_drewN ?_ _ | refine blk_drew ?_ | refine blk_alloc ?_ _)); exact BK231.out) hb)
     have n6_ := Aside0.mk (below_step (by repeat (first | (with_reducible first | exact HB.out | apply below_alloc | apply pw_below_drewN | apply below_drew1 | refine below_set ?_ GE219.out | refine below_set ?_ GE220.out | refine below_set ?_ GE230.out | refine below_set ?_ GE231.out) | exact HB.out)) hb)
     clear HO223
     clear HO227
     clear BK219
     clear BK220
     clear BK230
     clear BK231
     clear HB
     have HO223 := n0_
     have HO227 := n1_
     have BK219 := n2_
     have BK220 := n3_
     have BK230 := n4_
     have BK231 := n5_
     have HB := n6_
     clear n0_ n1_ n2_ n3_ n4_ n5_ n6_
     (try clear hb)
     (try clear hb2)
     (try clear hk)
     (try clear hi)
     refine hK.out _ _ ⟨(blk_cell BK230.out 0).trans rfl, (blk_cell BK230.out 1).trans rfl, (blk_cell BK231.out 0).trans rfl, (blk_cell BK231.out 1).trans rfl⟩ (fun hHeld => ?_)
     clear hK K
     refine norm_ (a' := ?_) ?_ ?_
     rotate_left
     ·show Act.put _ (some 37) _ = _
      simp only [Act.put, List.setIfInBounds_toArray, List.set_cons_zero, List.set_cons_succ, i64_w, i32_w]
      rfl
     refine one_ (i := 11) (N := some 38) #[true, true, true, true, true, true, true, true, true, true, true, true, false, false, false, false, false, false, false, false, false, false, false] rfl rfl (one_of HT_.out (by kernel_rfl)) (by decide) (fun K hK => ?_)
     refine goes_ Try.func14 (by kernel_rfl) rfl #[.agg #[.int .u64 t236, .int .u64 t237], .agg #[.int .u64 t238, .int .u64 t239]] (by rfl) rfl rfl (by (try simp only [List.map_toArray, List.map_cons, List.map_nil]); first | done | rfl | (simp only [List.length_drop, List.length_take]; rfl)) ?_
     with_reducible refine (tower_Add.calls t236 t237 t238 t239 t240 t241 _ A11.out).mono ?_
     rintro e w40 ⟨rfl, hb⟩
     refine ⟨_, rfl, ?_⟩
     have n0_ := Aside0.mk (Kd.R_below (by (with_reducible repeat (first | apply Kd.R_alloc | apply Kd.R_drewN | apply Kd.R_drew)); exact HO223.out) hb)
     have n1_ := Aside0.mk (Kd.R_below (by (with_reducible repeat (first | apply Kd.R_alloc | apply Kd.R_drewN | apply Kd.R_drew)); exact HO227.out) hb)
     have n2_ := Aside0.mk (blk_below (g := gb219) (o := .cells #[.int .u64 a1_0, .int .u64 a1_1] 24 (0, 0)) (by (with_reducible repeat (first | refine blk_drewN ?_ _ | refine blk_drew ?_ | refine blk_alloc ?_ _)); exact BK219.out) hb)
     have n3_ := Aside0.mk (blk_below (g := gb220) (o := .cells #[.int .u64 a2_0, .int .u64 a2_1] 24 (0, 0)) (by (with_reducible repeat (first | refine blk_drewN ?_ _ | refine blk_drew ?_ | refine blk_alloc ?_ _)); exact BK220.out) hb)
     have n4_ := Aside0.mk (blk_below (g := gb230) (o := .cells #[.int .u64 ((rd_T24 t225 0).f0), .int .u64 ((rd_T24 t225 0).f1)] 24 (0, 0)) (by (with_reducible repeat (first | refine blk_drewN ?_ _ | refine blk_drew ?_ | refine blk_alloc ?_ _)); exact BK230.out) hb)
     have n5_ := Aside0.mk (blk_below (g := gb231) (o := .cells #[.int .u64 ((rd_T24 t225 1).f0), .int .u64 ((rd_T24 t225 1).f1)] 24 (0, 0)) (by (with_reducible repeat (first | refine blk_drewN ?_ _ | refine blk_drew ?_ | refine blk_alloc ?_ _)); exact BK231.out) hb)
     have n6_ := Aside0.mk (below_step (by repeat (first | (with_reducible first | exact HB.out | apply below_alloc | apply pw_below_drewN | apply below_drew1 | refine below_set ?_ GE219.out | refine below_set ?_ GE220.out | refine below_set ?_ GE230.out | refine below_set ?_ GE231.out) | exact HB.out)) hb)
     clear HO223
     clear HO227
     clear BK219
     clear BK220
     clear BK230
     clear BK231
     clear HB
     have HO223 := n0_
     have HO227 := n1_
     have BK219 := n2_
     have BK220 := n3_
     have BK230 := n4_
     have BK231 := n5_
     have HB := n6_
     clear n0_ n1_ n2_ n3_ n4_ n5_ n6_
     (try clear hb)
     (try clear hb2)
     (try clear hk)
     (try clear hi)
     refine hK.out _ _ ⟨(blk_cell BK230.out 0).trans rfl, (blk_cell BK230.out 1).trans rfl, (blk_cell BK231.out 0).trans rfl, (blk_cell BK231.out 1).trans rfl⟩ (fun hHeld => ?_)
     clear hK K
     refine norm_ (a' := ?_) ?_ ?_
     rotate_left
     ·show Act.put _ (some 38) _ = _
      simp only [Act.put, List.setIfInBounds_toArray, List.set_cons_zero, List.set_cons_succ, i64_w, i32_w]
      rfl
     refine pure_ (i := 12) (N := some 39) (v := ?_) (a' := ?_) #[true, true, true, true, true, true, true, true, true, true, true, true, true, false, false, false, false, false, false, false, false, false, false] rfl rfl (any_of HT_.out (by kernel_rfl)) (fun _ _ _ h => h) (Or.inl ⟨by rfl, ?_⟩) ?_ ?_
     rotate_left
     ·intro w'
      go_simp
      with_reducible rfl
     rotate_left
     ·simp only [Act.put, List.setIfInBounds_toArray, List.set_cons_zero, List.set_cons_succ, i64_w, i32_w]
      rfl
     refine pure_ (i := 13) (N := some 40) (v := ?_) (a' := ?_) #[true, true, true, true, true, true, true, true, true, true, true, true, true, true, false, false, false, false, false, false, false, false, false] rfl rfl (any_of HT_.out (by kernel_rfl)) (fun _ _ _ h => h) (Or.inl ⟨by rfl, ?_⟩) ?_ ?_
     rotate_left
     ·intro w'
      go_simp
      with_reducible rfl
     rotate_left
     ·simp only [Act.put, List.setIfInBounds_toArray, List.set_cons_zero, List.set_cons_succ, i64_w, i32_w]
      rfl
     refine pure_ (i := 14) (N := some 41) (v := ?_) (a' := ?_) #[true, true, true, true, true, true, true, true, true, true, true, true, true, true, true, false, false, false, false, false, false, false, false] rfl rfl (any_of HT_.out (by kernel_rfl)) (fun _ _ _ h => h) (Or.inl ⟨by rfl, ?_⟩) ?_ ?_
     rotate_left
     ·intro w'
      go_simp
      with_reducible rfl
     rotate_left
     ·simp only [Act.put, List.setIfInBounds_toArray, List.set_cons_zero, List.set_cons_succ, i64_w, i32_w]
      rfl
     refine pure_ (i := 17) (N := some 44) (v := ?_) (a' := ?_) #[true, true, true, true, true, true, true, true, true, true, true, true, true, true, true, false, false, true, false, false, false, false, false] rfl rfl (any_of HT_.out (by kernel_rfl)) (fun _ _ _ h => h) (Or.inl ⟨by rfl, ?_⟩) ?_ ?_
     rotate_left
     ·intro w'
      go_simp
      with_reducible rfl
     rotate_left
     ·simp only [Act.put, List.setIfInBounds_toArray, List.set_cons_zero, List.set_cons_succ, i64_w, i32_w]
      rfl
     refine take_ (i := 15) (N := some 42) (v := ?_) (a' := ?_) #[true, true, true, true, true, true, true, true, true, true, true, true, true, true, true, true, false, true, false, false, false, false, false] rfl rfl (take_ofW HT_.out HW_.out (by kernel_rfl)) (fun _ _ _ h => h) (Or.inl ⟨by rfl, ?_⟩) hHeld ?_ ?_
     rotate_left
     ·rintro w' ⟨s0, s1, s2, s3⟩
      go_simp
      with_reducible rfl
     rotate_left
     ·simp only [Act.put, List.setIfInBounds_toArray, List.set_cons_zero, List.set_cons_succ, i64_w, i32_w]
      rfl
     refine take_ (i := 18) (N := some 45) (v := ?_) (a' := ?_) #[true, true, true, true, true, true, true, true, true, true, true, true, true, true, true, true, false, true, true, false, false, false, false] rfl rfl (take_ofW HT_.out HW_.out (by kernel_rfl)) (fun _ _ _ h => h) (Or.inl ⟨by rfl, ?_⟩) hHeld ?_ ?_
     rotate_left
     ·rintro w' ⟨s0, s1, s2, s3⟩
      go_simp
      with_reducible rfl
     rotate_left
     ·simp only [Act.put, List.setIfInBounds_toArray, List.set_cons_zero, List.set_cons_succ, i64_w, i32_w]
      rfl
     refine take_ (i := 19) (N := some 46) (v := ?_) (a' := ?_) #[true, true, true, true, true, true, true, true, true, true, true, true, true, true, true, true, false, true, true, true, false, false, false] rfl rfl (take_ofW HT_.out HW_.out (by kernel_rfl)) (fun _ _ _ h => h) (Or.inl ⟨by rfl, ?_⟩) hHeld ?_ ?_
     rotate_left
     ·rintro w' ⟨s0, s1, s2, s3⟩
      go_simp
      with_reducible rfl
     rotate_left
     ·simp only [Act.put, List.setIfInBounds_toArray, List.set_cons_zero, List.set_cons_succ, i64_w, i32_w]
      rfl
     refine one_ (i := 16) (N := some 43) #[true, true, true, true, true, true, true, true, true, true, true, true, true, true, true, true, true, true, true, true, false, false, false] rfl rfl (one_of HT_.out (by kernel_rfl)) (by decide) (fun K hK => ?_)
     refine goes_ Try.func18 (by kernel_rfl) rfl #[.int .i64 t224, .agg #[.int .u64 ((rd_T24 t225 0).f0), .int .u64 ((rd_T24 t225 0).f1)]] (by rfl) rfl rfl (by (try simp only [List.map_toArray, List.map_cons, List.map_nil]); first | done | rfl | (simp only [List.length_drop, List.length_take]; rfl)) ?_
     with_reducible refine (tower_Square.calls k t224 ((rd_T24 t225 0).f0) ((rd_T24 t225 0).f1) t242 t243 _ A13.out).mono ?_
     rintro e w41 ⟨rfl, hb⟩
     refine ⟨_, rfl, ?_⟩
     have n0_ := Aside0.mk (Kd.R_below (by (with_reducible repeat (first | apply Kd.R_alloc | apply Kd.R_drewN | apply Kd.R_drew)); exact HO223.out) hb)
     have n1_ := Aside0.mk (Kd.R_below (by (with_reducible repeat (first | apply Kd.R_alloc | apply Kd.R_drewN | apply Kd.R_drew)); exact HO227.out) hb)
     have n2_ := Aside0.mk (blk_below (g := gb219) (o := .cells #[.int .u64 a1_0, .int .u64 a1_1] 24 (0, 0)) (by (with_reducible repeat (first | refine blk_drewN ?_ _ | refine blk_drew ?_ | refine blk_alloc ?_ _)); exact BK219.out) hb)
     have n3_ := Aside0.mk (blk_below (g := gb220) (o := .cells #[.int .u64 a2_0, .int .u64 a2_1] 24 (0, 0)) (by (with_reducible repeat (first | refine blk_drewN ?_ _ | refine blk_drew ?_ | refine blk_alloc ?_ _)); exact BK220.out) hb)
     have n4_ := Aside0.mk (blk_below (g := gb230) (o := .cells #[.int .u64 ((rd_T24 t225 0).f0), .int .u64 ((rd_T24 t225 0).f1)] 24 (0, 0)) (by (with_reducible repeat (first | refine blk_drewN ?_ _ | refine blk_drew ?_ | refine blk_alloc ?_ _)); exact BK230.out) hb)
     have n5_ := Aside0.mk (blk_below (g := gb231) (o := .cells #[.int .u64 ((rd_T24 t225 1).f0), .int .u64 ((rd_T24 t225 1).f1)] 24 (0, 0)) (by (with_reducible repeat (first | refine blk_drewN ?_ _ | refine blk_drew ?_ | refine blk_alloc ?_ _)); exact BK231.out) hb)
     have n6_ := Aside0.mk (below_step (by repeat (first | (with_reducible first | exact HB.out | apply below_alloc | apply pw_below_drewN | apply below_drew1 | refine below_set ?_ GE219.out | refine below_set ?_ GE220.out | refine below_set ?_ GE230.out | refine below_set ?_ GE231.out) | exact HB.out)) hb)
     clear HO223
     clear HO227
     clear BK219
     clear BK220
     clear BK230
     clear BK231
     clear HB
     have HO223 := n0_
     have HO227 := n1_
     have BK219 := n2_
     have BK220 := n3_
     have BK230 := n4_
     have BK231 := n5_
     have HB := n6_
     clear n0_ n1_ n2_ n3_ n4_ n5_ n6_
     (try clear hb)
     (try clear hb2)
     (try clear hk)
     (try clear hi)
     refine hK.out _ _ ⟨(blk_cell BK230.out 0).trans rfl, (blk_cell BK230.out 1).trans rfl, (blk_cell BK231.out 0).trans rfl, (blk_cell BK231.out 1).trans rfl⟩ (fun hHeld => ?_)
     clear hK K
     refine norm_ (a' := ?_) ?_ ?_
     rotate_left
     ·show Act.put _ (some 43) _ = _
      simp only [Act.put, List.setIfInBounds_toArray, List.set_cons_zero, List.set_cons_succ, i64_w, i32_w]
      rfl
     refine one_ (i := 20) (N := some 47) #[true, true, true, true, true, true, true, true, true, true, true, true, true, true, true, true, true, true, true, true, true, false, false] rfl rfl (one_of HT_.out (by kernel_rfl)) (by decide) (fun K hK => ?_)
     refine goes_ Try.func13 (by kernel_rfl) rfl #[.int .i64 t224, .agg #[.int .u64 ((rd_T24 t225 0).f0), .int .u64 ((rd_T24 t225 0).f1)], .agg #[.int .u64 ((rd_T24 t225 0).f0), .int .u64 ((rd_T24 t225 0).f1)]] (by rfl) rfl rfl (by (try simp only [List.map_toArray, List.map_cons, List.map_nil]); first | done | rfl | (simp only [List.length_drop, List.length_take]; rfl)) ?_
     with_reducible refine (tower_Mul.calls k t224 ((rd_T24 t225 0).f0) ((rd_T24 t225 0).f1) ((rd_T24 t225 0).f0) ((rd_T24 t225 0).f1) t244 t245 _ A14.out).mono ?_
     rintro e w42 ⟨rfl, hb⟩
     refine ⟨_, rfl, ?_⟩
     have n0_ := Aside0.mk (Kd.R_below (by (with_reducible repeat (first | apply Kd.R_alloc | apply Kd.R_drewN | apply Kd.R_drew)); exact HO223.out) hb)
     have n1_ := Aside0.mk (Kd.R_below (by (with_reducible repeat (first | apply Kd.R_alloc | apply Kd.R_drewN | apply Kd.R_drew)); exact HO227.out) hb)
     have n2_ := Aside0.mk (blk_below (g := gb219) (o := .cells #[.int .u64 a1_0, .int .u64 a1_1] 24 (0, 0)) (by (with_reducible repeat (first | refine blk_drewN ?_ _ | refine blk_drew ?_ | refine blk_alloc ?_ _)); exact BK219.out) hb)
     have n3_ := Aside0.mk (blk_below (g := gb220) (o := .cells #[.int .u64 a2_0, .int .u64 a2_1] 24 (0, 0)) (by (with_reducible repeat (first | refine blk_drewN ?_ _ | refine blk_drew ?_ | refine blk_alloc ?_ _)); exact BK220.out) hb)
     have n4_ := Aside0.mk (blk_below (g := gb230) (o := .cells #[.int .u64 ((rd_T24 t225 0).f0), .int .u64 ((rd_T24 t225 0).f1)] 24 (0, 0)) (by (with_reducible repeat (first | refine blk_drewN ?_ _ | refine blk_drew ?_ | refine blk_alloc ?_ _)); exact BK230.out) hb)
     have n5_ := Aside0.mk (blk_below (g := gb231) (o := .cells #[.int .u64 ((rd_T24 t225 1).f0), .int .u64 ((rd_T24 t225 1).f1)] 24 (0, 0)) (by (with_reducible repeat (first | refine blk_drewN ?_ _ | refine blk_drew ?_ | refine blk_alloc ?_ _)); exact BK231.out) hb)
     have n6_ := Aside0.mk (below_step (by repeat (first | (with_reducible first | exact HB.out | apply below_alloc | apply pw_below_drewN | apply below_drew1 | refine below_set ?_ GE219.out | refine below_set ?_ GE220.out | refine below_set ?_ GE230.out | refine below_set ?_ GE231.out) | exact HB.out)) hb)
     clear HO223
     clear HO227
     clear BK219
     clear BK220
     clear BK230
     clear BK231
     clear HB
     have HO223 := n0_
     have HO227 := n1_
     have BK219 := n2_
     have BK220 := n3_
     have BK230 := n4_
     have BK231 := n5_
     have HB := n6_
     clear n0_ n1_ n2_ n3_ n4_ n5_ n6_
     (try clear hb)
     (try clear hb2)
     (try clear hk)
     (try clear hi)
     refine hK.out _ _ ⟨(blk_cell BK230.out 0).trans rfl, (blk_cell BK230.out 1).trans rfl, (blk_cell BK231.out 0).trans rfl, (blk_cell BK231.out 1).trans rfl⟩ (fun hHeld => ?_)
     clear hK K
     refine norm_ (a' := ?_) ?_ ?_
     rotate_left
     ·show Act.put _ (some 47) _ = _
      simp only [Act.put, List.setIfInBounds_toArray, List.set_cons_zero, List.set_cons_succ, i64_w, i32_w]
      rfl
     refine pure_ (i := 21) (N := some 48) (v := ?_) (a' := ?_) #[true, true, true, true, true, true, true, true, true, true, true, true, true, true, true, true, true, true, true, true, true, true, false] rfl rfl (any_of HT_.out (by kernel_rfl)) (fun _ _ _ h => h) (Or.inl ⟨by rfl, ?_⟩) ?_ ?_
     rotate_left
     ·intro w'
      go_simp
      with_reducible rfl
     rotate_left
     ·simp only [Act.put, List.setIfInBounds_toArray, List.set_cons_zero, List.set_cons_succ, i64_w, i32_w]
      rfl
     refine pure_ (i := 22) (N := some 49) (v := ?_) (a' := ?_) #[true, true, true, true, true, true, true, true, true, true, true, true, true, true, true, true, true, true, true, true, true, true, true] rfl rfl (any_of HT_.out (by kernel_rfl)) (fun _ _ _ h => h) (Or.inl ⟨by rfl, ?_⟩) ?_ ?_
     rotate_left
     ·intro w'
      go_simp
      with_reducible rfl
     rotate_left
     ·simp only [Act.put, List.setIfInBounds_toArray, List.set_cons_zero, List.set_cons_succ, i64_w, i32_w]
      rfl
     refine done_ (done_of HT_.out (by kernel_rfl)) ?_
     have hnb43 := NB230_219.out
     have hnc43 := NB219_230.out
     have hnb44 := NB230_220.out
     have hnc44 := NB220_230.out
     have hnb45 := NB230_231.out
     have hnc45 := NB231_230.out
     have hcz46_0 : w42.cell? ⟨gb230, 0, none⟩ = some (.int .u64 ((rd_T24 t225 0).f0)) := (blk_cell BK230.out 0).trans rfl
     have hcz46_1 : w42.cell? ⟨gb230, 1, none⟩ = some (.int .u64 ((rd_T24 t225 0).f1)) := (blk_cell BK230.out 1).trans rfl
     have hfz46_0 := blk_frozen BK230.out 0
     have hfz46_1 := blk_frozen BK230.out 1
     try go_wp2_with (first | ((with_reducible refine gate_dst (N := 11) rfl ?_); refine box_event ?hg (N := 11) ?hd (cs := #[.int .u64 0, .int .u64 0]) (t := 24) ?hr ?_; (case hd => rfl); (case hg => rfl); (case hr => first | (go_simp; done) | (go_simp; rfl)); intro gb246 hg w47 hbox hb; have n0_ := Aside0.mk (Kd.R_below (Kd.R_elderB (by (with_reducible repeat (first | apply Kd.R_alloc | apply Kd.R_drewN | apply Kd.R_drew)); exact HO223.out) gb246 (Nat.le_of_eq hg.symm)) hb); have n1_ := Aside0.mk (Kd.R_below (Kd.R_elderB (by (with_reducible repeat (first | apply Kd.R_alloc | apply Kd.R_drewN | apply Kd.R_drew)); exact HO227.out) gb246 (Nat.le_of_eq hg.symm)) hb); have n2_ := Aside0.mk (blk_below (g := gb219) (o := .cells #[.int .u64 a1_0, .int .u64 a1_1] 24 (0, 0)) (by (with_reducible repeat (first | refine blk_drewN ?_ _ | refine blk_drew ?_ | refine blk_alloc ?_ _)); exact BK219.out) hb); have n3_ := Aside0.mk (blk_below (g := gb220) (o := .cells #[.int .u64 a2_0, .int .u64 a2_1] 24 (0, 0)) (by (with_reducible repeat (first | refine blk_drewN ?_ _ | refine blk_drew ?_ | refine blk_alloc ?_ _)); exact BK220.out) hb); have n4_ := Aside0.mk (blk_below (g := gb230) (o := .cells #[.int .u64 ((rd_T24 t225 0).f0), .int .u64 ((rd_T24 t225 0).f1)] 24 (0, 0)) (by (with_reducible repeat (first | refine blk_drewN ?_ _ | refine blk_drew ?_ | refine blk_alloc ?_ _)); exact BK230.out) hb); have n5_ := Aside0.mk (blk_below (g := gb231) (o := .cells #[.int .u64 ((rd_T24 t225 1).f0), .int .u64 ((rd_T24 t225 1).f1)] 24 (0, 0)) (by (with_reducible repeat (first | refine blk_drewN ?_ _ | refine blk_drew ?_ | refine blk_alloc ?_ _)); exact BK231.out) hb); have n6_ := Aside0.mk (below_step (by repeat (first | (with_reducible first | exact HB.out | apply below_alloc | apply pw_below_drewN | apply below_drew1 | refine below_set ?_ GE219.out | refine below_set ?_ GE220.out | refine below_set ?_ GE230.out | refine below_set ?_ GE231.out) | exact HB.out)) hb); have n7_ := Aside0.mk (hbox); have n8_ := Aside0.mk ((by rw [hg]; exact (below_size (by repeat (first | (with_reducible first | exact HB.out | apply below_alloc | apply pw_below_drewN | apply below_drew1 | refine below_set ?_ GE219.out | refine below_set ?_ GE220.out | refine below_set ?_ GE230.out | refine below_set ?_ GE231.out) | exact HB.out))) : w.heap.size ≤ gb246)); have n9_ := Aside0.mk ((by rw [hg]; exact (below_size (by repeat (first | (with_reducible first | exact HB.out | apply below_alloc | apply pw_below_drewN | apply below_drew1 | refine below_set ?_ GE219.out | refine below_set ?_ GE220.out | refine below_set ?_ GE230.out | refine below_set ?_ GE231.out) | exact HB.out))) : w.heap.size ≤ gb246)); have n10_ := Aside0.mk ((by rw [hg]; exact Nat.ne_of_lt (blk_lt (g := gb219) (o := .cells #[.int .u64 a1_0, .int .u64 a1_1] 24 (0, 0)) (by (with_reducible repeat (first | refine blk_drewN ?_ _ | refine blk_drew ?_ | refine blk_alloc ?_ _)); exact BK219.out)) : gb219 ≠ gb246)); have n11_ := Aside0.mk ((by rw [hg]; exact Nat.ne_of_gt (blk_lt (g := gb219) (o := .cells #[.int .u64 a1_0, .int .u64 a1_1] 24 (0, 0)) (by (with_reducible repeat (first | refine blk_drewN ?_ _ | refine blk_drew ?_ | refine blk_alloc ?_ _)); exact BK219.out)) : gb246 ≠ gb219)); have n12_ := Aside0.mk ((by rw [hg]; exact Nat.ne_of_lt (blk_lt (g := gb220) (o := .cells #[.int .u64 a2_0, .int .u64 a2_1] 24 (0, 0)) (by (with_reducible repeat (first | refine blk_drewN ?_ _ | refine blk_drew ?_ | refine blk_alloc ?_ _)); exact BK220.out)) : gb220 ≠ gb246)); have n13_ := Aside0.mk ((by rw [hg]; exact Nat.ne_of_gt (blk_lt (g := gb220) (o := .cells #[.int .u64 a2_0, .int .u64 a2_1] 24 (0, 0)) (by (with_reducible repeat (first | refine blk_drewN ?_ _ | refine blk_drew ?_ | refine blk_alloc ?_ _)); exact BK220.out)) : gb246 ≠ gb220)); have n14_ := Aside0.mk ((by rw [hg]; exact Nat.ne_of_lt (blk_lt (g := gb230) (o := .cells #[.int .u64 ((rd_T24 t225 0).f0), .int .u64 ((rd_T24 t225 0).f1)] 24 (0, 0)) (by (with_reducible repeat (first | refine blk_drewN ?_ _ | refine blk_drew ?_ | refine blk_alloc ?_ _)); exact BK230.out)) : gb230 ≠ gb246)); have n15_ := Aside0.mk ((by rw [hg]; exact Nat.ne_of_gt (blk_lt (g := gb230) (o := .cells #[.int .u64 ((rd_T24 t225 0).f0), .int .u64 ((rd_T24 t225 0).f1)] 24 (0, 0)) (by (with_reducible repeat (first | refine blk_drewN ?_ _ | refine blk_drew ?_ | refine blk_alloc ?_ _)); exact BK230.out)) : gb246 ≠ gb230)); have n16_ := Aside0.mk ((by rw [hg]; exact Nat.ne_of_lt (blk_lt (g := gb231) (o := .cells #[.int .u64 ((rd_T24 t225 1).f0), .int .u64 ((rd_T24 t225 1).f1)] 24 (0, 0)) (by (with_reducible repeat (first | refine blk_drewN ?_ _ | refine blk_drew ?_ | refine blk_alloc ?_ _)); exact BK231.out)) : gb231 ≠ gb246)); have n17_ := Aside0.mk ((by rw [hg]; exact Nat.ne_of_gt (blk_lt (g := gb231) (o := .cells #[.int .u64 ((rd_T24 t225 1).f0), .int .u64 ((rd_T24 t225 1).f1)] 24 (0, 0)) (by (with_reducible repeat (first | refine blk_drewN ?_ _ | refine blk_drew ?_ | refine blk_alloc ?_ _)); exact BK231.out)) : gb246 ≠ gb231)); clear HO223; clear HO227; clear BK219; clear BK220; clear BK230; clear BK231; clear HB; have HO223 := n0_; have HO227 := n1_; have BK219 := n2_; have BK220 := n3_; have BK230 := n4_; have BK231 := n5_; have HB := n6_; have BK246 := n7_; have GW246 := n8_; have GE246 := n9_; have NB219_246 := n10_; have NB246_219 := n11_; have NB220_246 := n12_; have NB246_220 := n13_; have NB230_246 := n14_; have NB246_230 := n15_; have NB231_246 := n16_; have NB246_231 := n17_; clear n0_ n1_ n2_ n3_ n4_ n5_ n6_ n7_ n8_ n9_ n10_ n11_ n12_ n13_ n14_ n15_ n16_ n17_; clear hb hbox hg; have hnb48 := NB246_219.out; have hnc48 := NB219_246.out; have hnb49 := NB246_220.out; have hnc49 := NB220_246.out; have hnb50 := NB246_230.out; have hnc50 := NB230_246.out; have hnb51 := NB246_231.out; have hnc51 := NB231_246.out; have hcz52_0 : w47.cell? ⟨gb246, 0, none⟩ = some (.int .u64 0) := (blk_cell BK246.out 0).trans rfl; have hcz52_1 : w47.cell? ⟨gb246, 1, none⟩ = some (.int .u64 0) := (blk_cell BK246.out 1).trans rfl; have hfz52_0 := blk_frozen BK246.out 0; have hfz52_1 := blk_frozen BK246.out 1))
     go_loopg [12] k (fun kq v12 w' => ∃ (x12_1 : Int) (x247000_1 : Int) (x247001_1 : Int), v12 = .int .i64 x12_1 ∧ Aside0 (steeplelaw02_TowerSquares.l0 kq t224 x12_1 ((rd_T24 t225 0).f0) ((rd_T24 t225 0).f1) x247000_1 x247001_1 = some r) ∧ Aside0 (kq ≤ k) ∧ Aside0 (w'.heap[gb219]? = some (.cells #[.int .u64 a1_0, .int .u64 a1_1] 24 (0, 0))) ∧ Aside0 (w'.heap[gb220]? = some (.cells #[.int .u64 a2_0, .int .u64 a2_1] 24 (0, 0))) ∧ Aside0 (w'.heap[gb230]? = some (.cells #[.int .u64 ((rd_T24 t225 0).f0), .int .u64 ((rd_T24 t225 0).f1)] 24 (0, 0))) ∧ Aside0 (w'.heap[gb231]? = some (.cells #[.int .u64 ((rd_T24 t225 1).f0), .int .u64 ((rd_T24 t225 1).f1)] 24 (0, 0))) ∧ Aside0 (w'.heap[gb246]? = some (.cells #[.int .u64 x247000_1, .int .u64 x247001_1] 24 (0, 0))) ∧ Aside0 (Below w.heap.size w w'))
     case atStart => exact ⟨(0), ((rd_T24 t225 0).f0), ((rd_T24 t225 0).f1), (by first | rfl | (simp; done) | (simp [*]; done)), H', ⟨Nat.le_refl _⟩, ⟨by (with_reducible repeat (first | refine blk_drewN ?_ _ | refine blk_drew ?_ | refine blk_alloc ?_ _)); refine blk_far ?_ NB219_246.out _; (with_reducible repeat (first | refine blk_drewN ?_ _ | refine blk_drew ?_ | refine blk_alloc ?_ _)); refine blk_far ?_ NB219_246.out _; (with_reducible repeat (first | refine blk_drewN ?_ _ | refine blk_drew ?_ | refine blk_alloc ?_ _)); exact BK219.out⟩, ⟨by (with_reducible repeat (first | refine blk_drewN ?_ _ | refine blk_drew ?_ | refine blk_alloc ?_ _)); refine blk_far ?_ NB220_246.out _; (with_reducible repeat (first | refine blk_drewN ?_ _ | refine blk_drew ?_ | refine blk_alloc ?_ _)); refine blk_far ?_ NB220_246.out _; (with_reducible repeat (first | refine blk_drewN ?_ _ | refine blk_drew ?_ | refine blk_alloc ?_ _)); exact BK220.out⟩, ⟨by (with_reducible repeat (first | refine blk_drewN ?_ _ | refine blk_drew ?_ | refine blk_alloc ?_ _)); refine blk_far ?_ NB230_246.out _; (with_reducible repeat (first | refine blk_drewN ?_ _ | refine blk_drew ?_ | refine blk_alloc ?_ _)); refine blk_far ?_ NB230_246.out _; (with_reducible repeat (first | refine blk_drewN ?_ _ | refine blk_drew ?_ | refine blk_alloc ?_ _)); exact BK230.out⟩, ⟨by (with_reducible repeat (first | refine blk_drewN ?_ _ | refine blk_drew ?_ | refine blk_alloc ?_ _)); refine blk_far ?_ NB231_246.out _; (with_reducible repeat (first | refine blk_drewN ?_ _ | refine blk_drew ?_ | refine blk_alloc ?_ _)); refine blk_far ?_ NB231_246.out _; (with_reducible repeat (first | refine blk_drewN ?_ _ | refine blk_drew ?_ | refine blk_alloc ?_ _)); exact BK231.out⟩, ⟨by (with_reducible repeat (first | refine blk_drewN ?_ _ | refine blk_drew ?_ | refine blk_alloc ?_ _)); refine blk_put (cs := #[.int .u64 ((rd_T24 t225 0).f0), .int .u64 0]) ?_ 1 _ rfl; (with_reducible repeat (first | refine blk_drewN ?_ _ | refine blk_drew ?_ | refine blk_alloc ?_ _)); refine blk_put (cs := #[.int .u64 0, .int .u64 0]) ?_ 0 _ rfl; (with_reducible repeat (first | refine blk_drewN ?_ _ | refine blk_drew ?_ | refine blk_alloc ?_ _)); exact BK246.out⟩, ⟨by repeat (first | (with_reducible first | exact HB.out | apply below_alloc | apply pw_below_drewN | apply below_drew1 | refine below_set ?_ GE219.out | refine below_set ?_ GE220.out | refine below_set ?_ GE230.out | refine below_set ?_ GE231.out | refine below_set ?_ GE246.out) | exact HB.out)⟩⟩
     case round =>
      clear H'
      try clear c1
      try clear p2
      try clear c4
      try clear c5
      try clear c13
      try clear c14
      try clear c18
      try clear c43
      try clear c44
      try clear c45
      try clear c48
      try clear c49
      try clear c50
      try clear c51
      try clear hcz46_0
      try clear hcz46_1
      try clear hcz52_0
      try clear hcz52_1
      try clear hfz46_0
      try clear hfz46_1
      try clear hfz52_0
      try clear hfz52_1
      obtain ⟨x12_1, x247000_1, x247001_1, rfl, HA, HK1, BK219, BK220, BK230, BK231, BK246, HB⟩ := hrel
      cases gk with
      | zero => exact absurd HA.out (by simp [steeplelaw02_TowerSquares.l0])
      | succ k1 =>
       have H := HA.out
       clear HA
       simp only [steeplelaw02_TowerSquares.l0] at H
       obtain ⟨y247, hy247⟩ : ∃ y_ : List Int, y_ = (([1, 2, 4, 8, 16, 32, 64, 128] : List Int)) := ⟨_, rfl⟩
       replace H : (if 0 ≤ t224 then (if t224 < (y247.length : Int) then (if x12_1 < (rd y247 t224) then ((tower_Square.f k1 t224 x247000_1 x247001_1).bind fun bt251 => (steeplelaw02_TowerSquares.l0 k1 t224 (wrap64 (x12_1 + 1)) ((rd_T24 t225 0).f0) ((rd_T24 t225 0).f1) bt251.1 bt251.2)) else ((steeplelaw02_awake.f k1).bind fun t253 => (if t253 = true then (some (x247000_1 == ((rd_T24 t225 0).f0) && (x247001_1 == ((rd_T24 t225 0).f1)))) else (none)))) else (none)) else (none)) = some r := by first | (rw [hy247]; with_reducible exact H) | (have H2_ := (Option.bind_some _ _).symm.trans H; rw [hy247]; with_reducible exact H2_) | (have H2_ := (Option.bind_some _ _).symm.trans H; with_reducible exact H2_) | with_reducible exact H | (rw [hy247]; exact H) | exact H
       have Ny247 := Aside0.mk hy247
       clear hy247
       by_cases c53 : 0 ≤ t224
       ·rw [if_pos c53] at H
        have c53b0 : decide (0 ≤ t224) = true := decide_eq_true c53
        clear c53
        by_cases c54 : t224 < (y247.length : Int)
        ·rw [if_pos c54] at H
         have c54b0 : decide (t224 < (y247.length : Int)) = true := decide_eq_true c54
         clear c54
         by_cases c55 : x12_1 < (rd y247 t224)
         ·rw [if_pos c55] at H
          have c55b0 : decide (x12_1 < (rd y247 t224)) = true := decide_eq_true c55
          clear c55
          replace H := Option.bind_eq_some_iff.mp H
          obtain ⟨⟨t251, t252⟩, A560, H⟩ := H
          replace H : (steeplelaw02_TowerSquares.l0 k1 t224 (wrap64 (x12_1 + 1)) ((rd_T24 t225 0).f0) ((rd_T24 t225 0).f1) t251 t252) = some r := H
          have A56 := Aside0.mk A560
          clear A560
          have H' := Aside0.mk H
          clear H
          go_wp2_with (first | ((with_reducible refine gate_dst (N := 52) rfl ?_); refine Kd.R_lit (Kd.int .i64) _ 3 ?hg (N := 52) ?hd (xs := ([1, 2, 4, 8, 16, 32, 64, 128] : List Int)) (inner := [.int .i64 1, .int .i64 2, .int .i64 4, .int .i64 8, .int .i64 16, .int .i64 32, .int .i64 64, .int .i64 128]) (ok := fun _ => True) (okp := fun _ => True) ?hr ?hp (fun _ hk => hk) trivial (Below.refl _ _) (Nat.le_refl _) (by simp) ?_; (case hd => rfl); (case hg => rfl); (case hr => first | (go_simp; done) | (go_simp; rfl)); (case hp => exact (Reps.one (show Kd.M (Kd.int .i64) _ _ _ 1 [.int .i64 1] from rfl) (Reps.one (show Kd.M (Kd.int .i64) _ _ _ 2 [.int .i64 2] from rfl) (Reps.one (show Kd.M (Kd.int .i64) _ _ _ 4 [.int .i64 4] from rfl) (Reps.one (show Kd.M (Kd.int .i64) _ _ _ 8 [.int .i64 8] from rfl) (Reps.one (show Kd.M (Kd.int .i64) _ _ _ 16 [.int .i64 16] from rfl) (Reps.one (show Kd.M (Kd.int .i64) _ _ _ 32 [.int .i64 32] from rfl) (Reps.one (show Kd.M (Kd.int .i64) _ _ _ 64 [.int .i64 64] from rfl) (Reps.one (show Kd.M (Kd.int .i64) _ _ _ 128 [.int .i64 128] from rfl) (Reps.none _ _)))))))))); intro v248 w57 ho58 hb hg_ hnew_; clear hg_ hnew_; (first | rw [← Ny247.out] at ho58 | (simp only [Int.reduceToNat] at ho58; rw [← Ny247.out] at ho58)); have n0_ := Aside0.mk (Kd.R_lower ho58 (below_size (by repeat (first | (with_reducible first | exact HB.out | apply below_alloc | apply pw_below_drewN | apply below_drew1 | refine below_set ?_ GE219.out | refine below_set ?_ GE220.out | refine below_set ?_ GE230.out | refine below_set ?_ GE231.out | refine below_set ?_ GE246.out) | exact HB.out)))); have n1_ := Aside0.mk (blk_below (g := gb219) (o := .cells #[.int .u64 a1_0, .int .u64 a1_1] 24 (0, 0)) (by (with_reducible repeat (first | refine blk_drewN ?_ _ | refine blk_drew ?_ | refine blk_alloc ?_ _)); exact BK219.out) hb); have n2_ := Aside0.mk (blk_below (g := gb220) (o := .cells #[.int .u64 a2_0, .int .u64 a2_1] 24 (0, 0)) (by (with_reducible repeat (first | refine blk_drewN ?_ _ | refine blk_drew ?_ | refine blk_alloc ?_ _)); exact BK220.out) hb); have n3_ := Aside0.mk (blk_below (g := gb230) (o := .cells #[.int .u64 ((rd_T24 t225 0).f0), .int .u64 ((rd_T24 t225 0).f1)] 24 (0, 0)) (by (with_reducible repeat (first | refine blk_drewN ?_ _ | refine blk_drew ?_ | refine blk_alloc ?_ _)); exact BK230.out) hb); have n4_ := Aside0.mk (blk_below (g := gb231) (o := .cells #[.int .u64 ((rd_T24 t225 1).f0), .int .u64 ((rd_T24 t225 1).f1)] 24 (0, 0)) (by (with_reducible repeat (first | refine blk_drewN ?_ _ | refine blk_drew ?_ | refine blk_alloc ?_ _)); exact BK231.out) hb); have n5_ := Aside0.mk (blk_below (g := gb246) (o := .cells #[.int .u64 x247000_1, .int .u64 x247001_1] 24 (0, 0)) (by (with_reducible repeat (first | refine blk_drewN ?_ _ | refine blk_drew ?_ | refine blk_alloc ?_ _)); exact BK246.out) hb); have n6_ := Aside0.mk (below_step (by repeat (first | (with_reducible first | exact HB.out | apply below_alloc | apply pw_below_drewN | apply below_drew1 | refine below_set ?_ GE219.out | refine below_set ?_ GE220.out | refine below_set ?_ GE230.out | refine below_set ?_ GE231.out | refine below_set ?_ GE246.out) | exact HB.out)) hb); clear BK219; clear BK220; clear BK230; clear BK231; clear BK246; clear HB; have HO249 := n0_; have BK219 := n1_; have BK220 := n2_; have BK230 := n3_; have BK231 := n4_; have BK246 := n5_; have HB := n6_; clear n0_ n1_ n2_ n3_ n4_ n5_ n6_; clear hb ho58; obtain ⟨Ao59, co59, eo59⟩ := Kd.R_slice HO249.out; subst eo59; have p250 : 0 ≤ (t224 : Int) := of_decide_eq_true (by first | (with_reducible assumption) | assumption); have q250 : t224 < (y247.length : Int) := of_decide_eq_true (by first | (with_reducible assumption) | assumption); obtain ⟨ad250, e250, hx250_0⟩ := Kd.at_int (Kd.R_reads' HO249.out).2.2 t224 p250 q250; cases e250; replace p250 := eq_true p250; replace q250 := eq_true q250; have hnb60 := NB246_219.out; have hnc60 := NB219_246.out; have hnb61 := NB246_220.out; have hnc61 := NB220_246.out; have hnb62 := NB246_230.out; have hnc62 := NB230_246.out; have hnb63 := NB246_231.out; have hnc63 := NB231_246.out; have hcz64_0 : w57.cell? ⟨gb246, 0, none⟩ = some (.int .u64 x247000_1) := (blk_cell BK246.out 0).trans rfl; have hcz64_1 : w57.cell? ⟨gb246, 1, none⟩ = some (.int .u64 x247001_1) := (blk_cell BK246.out 1).trans rfl; have hfz64_0 := blk_frozen BK246.out 0; have hfz64_1 := blk_frozen BK246.out 1) | ((with_reducible refine gate_callee (f := 18) rfl ?_); refine goesL_ (some 61) rfl rfl Try.func18 (by kernel_rfl) rfl #[.int .i64 t224, .agg #[.int .u64 x247000_1, .int .u64 x247001_1]] rfl (by (try simp only [List.map_toArray, List.map_cons, List.map_nil]); first | done | rfl | (simp only [List.length_drop, List.length_take]; rfl)) ?_; (with_reducible refine (tower_Square.calls k1 t224 x247000_1 x247001_1 t251 t252 _ A56.out).mono ?_); rintro e w65 ⟨rfl, hb⟩; refine ⟨_, rfl, ?_⟩; have n0_ := Aside0.mk (Kd.R_below (by (with_reducible repeat (first | apply Kd.R_alloc | apply Kd.R_drewN | apply Kd.R_drew)); exact HO249.out) hb); have n1_ := Aside0.mk (blk_below (g := gb219) (o := .cells #[.int .u64 a1_0, .int .u64 a1_1] 24 (0, 0)) (by (with_reducible repeat (first | refine blk_drewN ?_ _ | refine blk_drew ?_ | refine blk_alloc ?_ _)); exact BK219.out) hb); have n2_ := Aside0.mk (blk_below (g := gb220) (o := .cells #[.int .u64 a2_0, .int .u64 a2_1] 24 (0, 0)) (by (with_reducible repeat (first | refine blk_drewN ?_ _ | refine blk_drew ?_ | refine blk_alloc ?_ _)); exact BK220.out) hb); have n3_ := Aside0.mk (blk_below (g := gb230) (o := .cells #[.int .u64 ((rd_T24 t225 0).f0), .int .u64 ((rd_T24 t225 0).f1)] 24 (0, 0)) (by (with_reducible repeat (first | refine blk_drewN ?_ _ | refine blk_drew ?_ | refine blk_alloc ?_ _)); exact BK230.out) hb); have n4_ := Aside0.mk (blk_below (g := gb231) (o := .cells #[.int .u64 ((rd_T24 t225 1).f0), .int .u64 ((rd_T24 t225 1).f1)] 24 (0, 0)) (by (with_reducible repeat (first | refine blk_drewN ?_ _ | refine blk_drew ?_ | refine blk_alloc ?_ _)); exact BK231.out) hb); have n5_ := Aside0.mk (blk_below (g := gb246) (o := .cells #[.int .u64 x247000_1, .int .u64 x247001_1] 24 (0, 0)) (by (with_reducible repeat (first | refine blk_drewN ?_ _ | refine blk_drew ?_ | refine blk_alloc ?_ _)); exact BK246.out) hb); have n6_ := Aside0.mk (below_step (by repeat (first | (with_reducible first | exact HB.out | apply below_alloc | apply pw_below_drewN | apply below_drew1 | refine below_set ?_ GE219.out | refine below_set ?_ GE220.out | refine below_set ?_ GE230.out | refine below_set ?_ GE231.out | refine below_set ?_ GE246.out) | exact HB.out)) hb); clear HO249; clear BK219; clear BK220; clear BK230; clear BK231; clear BK246; clear HB; have HO249 := n0_; have BK219 := n1_; have BK220 := n2_; have BK230 := n3_; have BK231 := n4_; have BK246 := n5_; have HB := n6_; clear n0_ n1_ n2_ n3_ n4_ n5_ n6_; (try clear hb); (try clear hb2); (try clear hk); (try clear hi); have hcz66_0 : w65.cell? ⟨gb246, 0, none⟩ = some (.int .u64 x247000_1) := (blk_cell BK246.out 0).trans rfl; have hcz66_1 : w65.cell? ⟨gb246, 1, none⟩ = some (.int .u64 x247001_1) := (blk_cell BK246.out 1).trans rfl; have hfz66_0 := blk_frozen BK246.out 0; have hfz66_1 := blk_frozen BK246.out 1))
          go_roundg k1
          case measure => have := HK1.out; omega
          case rel => exact ⟨(wrap64 (x12_1 + 1)), (t251), (t252), (by first | rfl | (simp; done) | (simp [*]; done)), H', ⟨by have := HK1.out; omega⟩, ⟨by (with_reducible repeat (first | refine blk_drewN ?_ _ | refine blk_drew ?_ | refine blk_alloc ?_ _)); refine blk_far ?_ NB219_246.out _; (with_reducible repeat (first | refine blk_drewN ?_ _ | refine blk_drew ?_ | refine blk_alloc ?_ _)); refine blk_far ?_ NB219_246.out _; (with_reducible repeat (first | refine blk_drewN ?_ _ | refine blk_drew ?_ | refine blk_alloc ?_ _)); exact BK219.out⟩, ⟨by (with_reducible repeat (first | refine blk_drewN ?_ _ | refine blk_drew ?_ | refine blk_alloc ?_ _)); refine blk_far ?_ NB220_246.out _; (with_reducible repeat (first | refine blk_drewN ?_ _ | refine blk_drew ?_ | refine blk_alloc ?_ _)); refine blk_far ?_ NB220_246.out _; (with_reducible repeat (first | refine blk_drewN ?_ _ | refine blk_drew ?_ | refine blk_alloc ?_ _)); exact BK220.out⟩, ⟨by (with_reducible repeat (first | refine blk_drewN ?_ _ | refine blk_drew ?_ | refine blk_alloc ?_ _)); refine blk_far ?_ NB230_246.out _; (with_reducible repeat (first | refine blk_drewN ?_ _ | refine blk_drew ?_ | refine blk_alloc ?_ _)); refine blk_far ?_ NB230_246.out _; (with_reducible repeat (first | refine blk_drewN ?_ _ | refine blk_drew ?_ | refine blk_alloc ?_ _)); exact BK230.out⟩, ⟨by (with_reducible repeat (first | refine blk_drewN ?_ _ | refine blk_drew ?_ | refine blk_alloc ?_ _)); refine blk_far ?_ NB231_246.out _; (with_reducible repeat (first | refine blk_drewN ?_ _ | refine blk_drew ?_ | refine blk_alloc ?_ _)); refine blk_far ?_ NB231_246.out _; (with_reducible repeat (first | refine blk_drewN ?_ _ | refine blk_drew ?_ | refine blk_alloc ?_ _)); exact BK231.out⟩, ⟨by (with_reducible repeat (first | refine blk_drewN ?_ _ | refine blk_drew ?_ | refine blk_alloc ?_ _)); refine blk_put (cs := #[.int .u64 t251, .int .u64 x247001_1]) ?_ 1 _ rfl; (with_reducible repeat (first | refine blk_drewN ?_ _ | refine blk_drew ?_ | refine blk_alloc ?_ _)); refine blk_put (cs := #[.int .u64 x247000_1, .int .u64 x247001_1]) ?_ 0 _ rfl; (with_reducible repeat (first | refine blk_drewN ?_ _ | refine blk_drew ?_ | refine blk_alloc ?_ _)); exact BK246.out⟩, ⟨by repeat (first | (with_reducible first | exact HB.out | apply below_alloc | apply pw_below_drewN | apply below_drew1 | refine below_set ?_ GE219.out | refine below_set ?_ GE220.out | refine below_set ?_ GE230.out | refine below_set ?_ GE231.out | refine below_set ?_ GE246.out) | exact HB.out)⟩⟩
         ·rw [if_neg c55] at H
          have c55b0 : decide (x12_1 < (rd y247 t224)) = false := decide_eq_false c55
          clear c55
          replace H := Option.bind_eq_some_iff.mp H
          obtain ⟨t253, A670, H⟩ := H
          replace H : (if t253 = true then (some (x247000_1 == ((rd_T24 t225 0).f0) && (x247001_1 == ((rd_T24 t225 0).f1)))) else (none)) = some r := H
          have A67 := Aside0.mk A670
          clear A670
          by_cases c68 : t253 = true
          ·subst c68
           have H1 : (some (x247000_1 == ((rd_T24 t225 0).f0) && (x247001_1 == ((rd_T24 t225 0).f1)))) = some r := by rw [if_pos rfl] at H; exact H
           clear H
           have H := H1
           clear H1
           obtain rfl := Option.some.inj H
           go_wp2_with (first | ((with_reducible refine gate_dst (N := 52) rfl ?_); refine Kd.R_lit (Kd.int .i64) _ 3 ?hg (N := 52) ?hd (xs := ([1, 2, 4, 8, 16, 32, 64, 128] : List Int)) (inner := [.int .i64 1, .int .i64 2, .int .i64 4, .int .i64 8, .int .i64 16, .int .i64 32, .int .i64 64, .int .i64 128]) (ok := fun _ => True) (okp := fun _ => True) ?hr ?hp (fun _ hk => hk) trivial (Below.refl _ _) (Nat.le_refl _) (by simp) ?_; (case hd => rfl); (case hg => rfl); (case hr => first | (go_simp; done) | (go_simp; rfl)); (case hp => exact (Reps.one (show Kd.M (Kd.int .i64) _ _ _ 1 [.int .i64 1] from rfl) (Reps.one (show Kd.M (Kd.int .i64) _ _ _ 2 [.int .i64 2] from rfl) (Reps.one (show Kd.M (Kd.int .i64) _ _ _ 4 [.int .i64 4] from rfl) (Reps.one (show Kd.M (Kd.int .i64) _ _ _ 8 [.int .i64 8] from rfl) (Reps.one (show Kd.M (Kd.int .i64) _ _ _ 16 [.int .i64 16] from rfl) (Reps.one (show Kd.M (Kd.int .i64) _ _ _ 32 [.int .i64 32] from rfl) (Reps.one (show Kd.M (Kd.int .i64) _ _ _ 64 [.int .i64 64] from rfl) (Reps.one (show Kd.M (Kd.int .i64) _ _ _ 128 [.int .i64 128] from rfl) (Reps.none _ _)))))))))); intro v248 w69 ho70 hb hg_ hnew_; clear hg_ hnew_; (first | rw [← Ny247.out] at ho70 | (simp only [Int.reduceToNat] at ho70; rw [← Ny247.out] at ho70)); have n0_ := Aside0.mk (Kd.R_lower ho70 (below_size (by repeat (first | (with_reducible first | exact HB.out | apply below_alloc | apply pw_below_drewN | apply below_drew1 | refine below_set ?_ GE219.out | refine below_set ?_ GE220.out | refine below_set ?_ GE230.out | refine below_set ?_ GE231.out | refine below_set ?_ GE246.out) | exact HB.out)))); have n1_ := Aside0.mk (blk_below (g := gb219) (o := .cells #[.int .u64 a1_0, .int .u64 a1_1] 24 (0, 0)) (by (with_reducible repeat (first | refine blk_drewN ?_ _ | refine blk_drew ?_ | refine blk_alloc ?_ _)); exact BK219.out) hb); have n2_ := Aside0.mk (blk_below (g := gb220) (o := .cells #[.int .u64 a2_0, .int .u64 a2_1] 24 (0, 0)) (by (with_reducible repeat (first | refine blk_drewN ?_ _ | refine blk_drew ?_ | refine blk_alloc ?_ _)); exact BK220.out) hb); have n3_ := Aside0.mk (blk_below (g := gb230) (o := .cells #[.int .u64 ((rd_T24 t225 0).f0), .int .u64 ((rd_T24 t225 0).f1)] 24 (0, 0)) (by (with_reducible repeat (first | refine blk_drewN ?_ _ | refine blk_drew ?_ | refine blk_alloc ?_ _)); exact BK230.out) hb); have n4_ := Aside0.mk (blk_below (g := gb231) (o := .cells #[.int .u64 ((rd_T24 t225 1).f0), .int .u64 ((rd_T24 t225 1).f1)] 24 (0, 0)) (by (with_reducible repeat (first | refine blk_drewN ?_ _ | refine blk_drew ?_ | refine blk_alloc ?_ _)); exact BK231.out) hb); have n5_ := Aside0.mk (blk_below (g := gb246) (o := .cells #[.int .u64 x247000_1, .int .u64 x247001_1] 24 (0, 0)) (by (with_reducible repeat (first | refine blk_drewN ?_ _ | refine blk_drew ?_ | refine blk_alloc ?_ _)); exact BK246.out) hb); have n6_ := Aside0.mk (below_step (by repeat (first | (with_reducible first | exact HB.out | apply below_alloc | apply pw_below_drewN | apply below_drew1 | refine below_set ?_ GE219.out | refine below_set ?_ GE220.out | refine below_set ?_ GE230.out | refine below_set ?_ GE231.out | refine below_set ?_ GE246.out) | exact HB.out)) hb); clear BK219; clear BK220; clear BK230; clear BK231; clear BK246; clear HB; have HO249 := n0_; have BK219 := n1_; have BK220 := n2_; have BK230 := n3_; have BK231 := n4_; have BK246 := n5_; have HB := n6_; clear n0_ n1_ n2_ n3_ n4_ n5_ n6_; clear hb ho70; obtain ⟨Ao71, co71, eo71⟩ := Kd.R_slice HO249.out; subst eo71; have p250 : 0 ≤ (t224 : Int) := of_decide_eq_true (by first | (with_reducible assumption) | assumption); have q250 : t224 < (y247.length : Int) := of_decide_eq_true (by first | (with_reducible assumption) | assumption); obtain ⟨ad250, e250, hx250_0⟩ := Kd.at_int (Kd.R_reads' HO249.out).2.2 t224 p250 q250; cases e250; replace p250 := eq_true p250; replace q250 := eq_true q250) | ((with_reducible refine gate_callee (f := 15) rfl ?_); refine goesL_ (some 62) rfl rfl Try.func15 (by kernel_rfl) rfl #[] rfl (by (try simp only [List.map_toArray, List.map_cons, List.map_nil]); first | done | rfl | (simp only [List.length_drop, List.length_take]; rfl)) ?_; (with_reducible refine (steeplelaw02_awake.calls k1  true _ A67.out).mono ?_); rintro e w72 ⟨rfl, hb⟩; refine ⟨_, rfl, ?_⟩; have n0_ := Aside0.mk (Kd.R_below (by (with_reducible repeat (first | apply Kd.R_alloc | apply Kd.R_drewN | apply Kd.R_drew)); exact HO249.out) hb); have n1_ := Aside0.mk (blk_below (g := gb219) (o := .cells #[.int .u64 a1_0, .int .u64 a1_1] 24 (0, 0)) (by (with_reducible repeat (first | refine blk_drewN ?_ _ | refine blk_drew ?_ | refine blk_alloc ?_ _)); exact BK219.out) hb); have n2_ := Aside0.mk (blk_below (g := gb220) (o := .cells #[.int .u64 a2_0, .int .u64 a2_1] 24 (0, 0)) (by (with_reducible repeat (first | refine blk_drewN ?_ _ | refine blk_drew ?_ | refine blk_alloc ?_ _)); exact BK220.out) hb); have n3_ := Aside0.mk (blk_below (g := gb230) (o := .cells #[.int .u64 ((rd_T24 t225 0).f0), .int .u64 ((rd_T24 t225 0).f1)] 24 (0, 0)) (by (with_reducible repeat (first | refine blk_drewN ?_ _ | refine blk_drew ?_ | refine blk_alloc ?_ _)); exact BK230.out) hb); have n4_ := Aside0.mk (blk_below (g := gb231) (o := .cells #[.int .u64 ((rd_T24 t225 1).f0), .int .u64 ((rd_T24 t225 1).f1)] 24 (0, 0)) (by (with_reducible repeat (first | refine blk_drewN ?_ _ | refine blk_drew ?_ | refine blk_alloc ?_ _)); exact BK231.out) hb); have n5_ := Aside0.mk (blk_below (g := gb246) (o := .cells #[.int .u64 x247000_1, .int .u64 x247001_1] 24 (0, 0)) (by (with_reducible repeat (first | refine blk_drewN ?_ _ | refine blk_drew ?_ | refine blk_alloc ?_ _)); exact BK246.out) hb); have n6_ := Aside0.mk (below_step (by repeat (first | (with_reducible first | exact HB.out | apply below_alloc | apply pw_below_drewN | apply below_drew1 | refine below_set ?_ GE219.out | refine below_set ?_ GE220.out | refine below_set ?_ GE230.out | refine below_set ?_ GE231.out | refine below_set ?_ GE246.out) | exact HB.out)) hb); clear HO249; clear BK219; clear BK220; clear BK230; clear BK231; clear BK246; clear HB; have HO249 := n0_; have BK219 := n1_; have BK220 := n2_; have BK230 := n3_; have BK231 := n4_; have BK246 := n5_; have HB := n6_; clear n0_ n1_ n2_ n3_ n4_ n5_ n6_; (try clear hb); (try clear hb2); (try clear hk); (try clear hi); have hnb73 := NB246_219.out; have hnc73 := NB219_246.out; have hnb74 := NB246_220.out; have hnc74 := NB220_246.out; have hnb75 := NB246_230.out; have hnc75 := NB230_246.out; have hnb76 := NB246_231.out; have hnc76 := NB231_246.out; have hcz77_0 : w72.cell? ⟨gb246, 0, none⟩ = some (.int .u64 x247000_1) := (blk_cell BK246.out 0).trans rfl; have hcz77_1 : w72.cell? ⟨gb246, 1, none⟩ = some (.int .u64 x247001_1) := (blk_cell BK246.out 1).trans rfl; have hfz77_0 := blk_frozen BK246.out 0; have hfz77_1 := blk_frozen BK246.out 1; have hnb78 := NB230_219.out; have hnc78 := NB219_230.out; have hnb79 := NB230_220.out; have hnc79 := NB220_230.out; have hnb80 := NB230_231.out; have hnc80 := NB231_230.out; have hcz81_0 : w72.cell? ⟨gb230, 0, none⟩ = some (.int .u64 ((rd_T24 t225 0).f0)) := (blk_cell BK230.out 0).trans rfl; have hcz81_1 : w72.cell? ⟨gb230, 1, none⟩ = some (.int .u64 ((rd_T24 t225 0).f1)) := (blk_cell BK230.out 1).trans rfl; have hfz81_0 := blk_frozen BK230.out 0; have hfz81_1 := blk_frozen BK230.out 1))
           go_ret
           exact ⟨by first | rfl | (simp [errW_none, errW_some] <;> rfl) | (simp [*, errW_none, errW_some] <;> rfl), by repeat (first | (with_reducible first | exact HB.out | apply below_alloc | apply pw_below_drewN | apply below_drew1 | refine below_set ?_ GE219.out | refine below_set ?_ GE220.out | refine below_set ?_ GE230.out | refine below_set ?_ GE231.out | refine below_set ?_ GE246.out) | exact HB.out)⟩
          ·replace c68 := Bool.eq_false_iff.mpr c68
           subst c68
           have H1 : (none) = some r := by rw [if_neg (show ¬ (false = true) by decide)] at H; exact H
           clear H
           have H := H1
           clear H1
           exact absurd H (by simp)
        ·rw [if_neg c54] at H
         exact absurd H (by simp)
       ·rw [if_neg c53] at H
        exact absurd H (by simp)
  ·rw [if_neg c6] at H
   exact absurd H (by simp)
 ·rw [if_neg c5] at H
  exact absurd H (by simp)

/-- THE ONE PURE STATEMENT of steeplelaw02_TowerSquares. -/
def steeplelaw02_TowerSquares.Pure : Prop := ∀ (x0 : Int) (x1 : S24) (x2 : S24), (Lit.int .i64 x0).wf = true → ((Lit.int .u64 x1.f0).wf = true ∧ (Lit.int .u64 x1.f1).wf = true) → ((Lit.int .u64 x2.f0).wf = true ∧ (Lit.int .u64 x2.f1).wf = true) → ∃ k, steeplelaw02_TowerSquares.f k x0 x1.f0 x1.f1 x2.f0 x2.f1 = some true

end Go.Proofs.Ytbjjjdallodbgaa.P
