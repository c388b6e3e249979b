/- Written by a program of this session: functions that the law reaches, as Lean functions, and that the code comes to their answers. Conditions: those that each theorem names. -/
import Derived.Test.YtceneggampgboaaPx0
import Derived.Test.YtceneggampgboaaPx1
import Derived.Test.YtceneggampgboaaPx2
import Derived.Test.YtceneggampgboaaPx3
import Derived.Test.YtceneggampgboaaPx4
import Derived.Test.YtceneggampgboaaPx5
import Derived.Test.YtceneggampgboaaPx6
import Derived.Test.YtceneggampgboaaPx8
import Derived.Test.YtceneggampgboaaPx9
import Derived.Test.YtceneggampgboaaPx10
namespace Go.Proofs.Ytceneggampgboaa.P
open Go.RowKit Go.Proofs.YtceneggampgboaaX Go.Proofs.YtceneggampgboaaW.PrintWords Go.Proofs.YtceneggampgboaaW.PrintLast Go.Proofs.YtceneggampgboaaW.PrintMore
attribute [local go_sem] max2_int min2_int max_two min_two max_three min_three max_four min_four   -- for this text's walks alone
set_option linter.unusedVariables false
set_option linter.unusedSimpArgs false

attribute [local go_sem high] eqA25 eqA44
/-! ### steeplelaw03_PackMakes: function 3 -/
def steeplelaw03_PackMakes.j0 : Nat → Bool → Int → Int → Int → Int → Int → List Int → Int → List (S44) → Option (Bool)
 | 0, _, _, _, _, _, _, _, _, _ => none
 | k + 1, x84, x281000, x281001, x281002, x289000, x289001, x289002, x298000, x298001 => if x84 = true then (none) else ((pack_Vec_With.f k x289000 x289001 x289002 x281000 x281001 x281002).bind fun bt305 => ((steepleref03_With.f k x298000 x298001 x281000 x281001 x281002).bind fun bt312 => ((steeplelaw03_awake.f k).bind fun t318 => (if t318 = true then (if bt305.2.2.2 = bt312.2.2 then ((steeplelaw03_same.f k bt305.1 bt305.2.1 bt305.2.2.1 bt312.1 bt312.2.1).bind fun t319 => (if t319 = true then ((steeplelaw03_same.f k x289000 x289001 x289002 x298000 x298001).bind fun t320 => (some t320)) else (none))) else (none)) else (none)))))
def steeplelaw03_PackMakes.f (k : Nat) (a0 : Int) (l1 : List (S25)) (a2_0 : Int) (a2_1 : Int) (a2_2 : Int) : Option (Bool) := if (l1.length : Int) > 200 then ((steeplelaw03_awake.f k).bind fun t281 => (some t281)) else ((pack_Make.f k a0 l1).bind fun bt282 => ((steeplelaw01_Ref.f k l1).bind fun t289 => ((steepleref03_Make.f k a0 t289).bind fun bt292 => (if bt282.2.2.2 = bt292.2.2 then ((steeplelaw03_same.f k bt282.1 bt282.2.1 bt282.2.2.1 bt292.1 bt292.2.1).bind fun t298 => (if t298 = true then ((pack_Vec_Get.f k bt282.1 bt282.2.1 bt282.2.2.1 a2_0).bind fun bt299 => (if a2_0 ≥ 0 then (if (bt299.2.2 != (decide (a2_0 < (bt292.2.1.length : Int)))) = true then (none) else (if bt299.2.2 = true then (if 0 ≤ a2_0 then (if a2_0 < (bt292.2.1.length : Int) then (if (!(bt299.1 == ((rd_T44 bt292.2.1 a2_0).f0)) || (!(bt299.2.1 == ((rd_T44 bt292.2.1 a2_0).f1)))) = true then (none) else (steeplelaw03_PackMakes.j0 k false a2_0 a2_1 a2_2 bt282.1 bt282.2.1 bt282.2.2.1 bt292.1 bt292.2.1)) else (none)) else (none)) else (steeplelaw03_PackMakes.j0 k (!(bt299.1 == 0) || (!(bt299.2.1 == 0))) a2_0 a2_1 a2_2 bt282.1 bt282.2.1 bt282.2.2.1 bt292.1 bt292.2.1))) else (if (bt299.2.2 != false) = true then (none) else (if bt299.2.2 = true then (if 0 ≤ a2_0 then (if a2_0 < (bt292.2.1.length : Int) then (if (!(bt299.1 == ((rd_T44 bt292.2.1 a2_0).f0)) || (!(bt299.2.1 == ((rd_T44 bt292.2.1 a2_0).f1)))) = true then (none) else (steeplelaw03_PackMakes.j0 k false a2_0 a2_1 a2_2 bt282.1 bt282.2.1 bt282.2.2.1 bt292.1 bt292.2.1)) else (none)) else (none)) else (steeplelaw03_PackMakes.j0 k (!(bt299.1 == 0) || (!(bt299.2.1 == 0))) a2_0 a2_1 a2_2 bt282.1 bt282.2.1 bt282.2.2.1 bt292.1 bt292.2.1))))) else (none))) else (none)))))
theorem steeplelaw03_PackMakes.mono_l : ∀ k, (∀ y0 y1 y2 y3 y4 y5 y6 y7 y8, LeO (steeplelaw03_PackMakes.j0 k y0 y1 y2 y3 y4 y5 y6 y7 y8) (steeplelaw03_PackMakes.j0 (k + 1) y0 y1 y2 y3 y4 y5 y6 y7 y8))
 | 0 => fun _ _ _ _ _ _ _ _ _ r h => by simp [steeplelaw03_PackMakes.j0] at h
 | k + 1 => by
  have ih0 := steeplelaw03_PackMakes.mono_l k
  ·intro y0 y1 y2 y3 y4 y5 y6 y7 y8
   unfold steeplelaw03_PackMakes.j0
   repeat' first
   | (with_reducible exact ih0 _ _ _ _ _ _ _ _ _)
   | (with_reducible exact pack_Make.mono _ _ _)
   | (with_reducible exact pack_Vec_Get.mono _ _ _ _ _)
   | (with_reducible exact pack_Vec_With.mono _ _ _ _ _ _ _)
   | (with_reducible exact steeplelaw01_Ref.mono _ _)
   | (with_reducible exact steeplelaw03_awake.mono _)
   | (with_reducible exact steeplelaw03_same.mono _ _ _ _ _ _)
   | (with_reducible exact steepleref03_Make.mono _ _ _)
   | (with_reducible exact steepleref03_With.mono _ _ _ _ _ _)
   | (with_reducible exact LeO.refl _)
   | (with_reducible exact LeO.none _)
   | (with_reducible refine LeO.ite ?_ ?_)
   | (with_reducible refine LeO.bind ?_ (fun _ => ?_))
   | exact ih0 _ _ _ _ _ _ _ _ _
   | exact pack_Make.mono _ _ _
   | exact pack_Vec_Get.mono _ _ _ _ _
   | exact pack_Vec_With.mono _ _ _ _ _ _ _
   | exact steeplelaw01_Ref.mono _ _
   | exact steeplelaw03_awake.mono _
   | exact steeplelaw03_same.mono _ _ _ _ _ _
   | exact steepleref03_Make.mono _ _ _
   | exact steepleref03_With.mono _ _ _ _ _ _
   | exact LeO.none _
   | refine LeO.ite ?_ ?_
   | refine LeO.bind ?_ (fun _ => ?_)
theorem steeplelaw03_PackMakes.mono : ∀ a0 a1 a2 a3 a4 k, LeO (steeplelaw03_PackMakes.f k a0 a1 a2 a3 a4) (steeplelaw03_PackMakes.f (k + 1) a0 a1 a2 a3 a4) := by
 intro a0 a1 a2 a3 a4 k
 have ih0 := steeplelaw03_PackMakes.mono_l k
 unfold steeplelaw03_PackMakes.f
 repeat' first
   | (with_reducible exact ih0 _ _ _ _ _ _ _ _ _)
   | (with_reducible exact pack_Make.mono _ _ _)
   | (with_reducible exact pack_Vec_Get.mono _ _ _ _ _)
   | (with_reducible exact pack_Vec_With.mono _ _ _ _ _ _ _)
   | (with_reducible exact steeplelaw01_Ref.mono _ _)
   | (with_reducible exact steeplelaw03_awake.mono _)
   | (with_reducible exact steeplelaw03_same.mono _ _ _ _ _ _)
   | (with_reducible exact steepleref03_Make.mono _ _ _)
   | (with_reducible exact steepleref03_With.mono _ _ _ _ _ _)
   | (with_reducible exact LeO.refl _)
   | (with_reducible exact LeO.none _)
   | (with_reducible refine LeO.ite ?_ ?_)
   | (with_reducible refine LeO.bind ?_ (fun _ => ?_))
   | exact ih0 _ _ _ _ _ _ _ _ _
   | exact pack_Make.mono _ _ _
   | exact pack_Vec_Get.mono _ _ _ _ _
   | exact pack_Vec_With.mono _ _ _ _ _ _ _
   | exact steeplelaw01_Ref.mono _ _
   | exact steeplelaw03_awake.mono _
   | exact steeplelaw03_same.mono _ _ _ _ _ _
   | exact steepleref03_Make.mono _ _ _
   | exact steepleref03_With.mono _ _ _ _ _ _
   | exact LeO.none _
   | refine LeO.ite ?_ ?_
   | refine LeO.bind ?_ (fun _ => ?_)
set_option maxHeartbeats 8000000 in
set_option maxRecDepth 100000 in
theorem steeplelaw03_PackMakes.calls (k : Nat) (a0 : Int) (A1 : Option Addr) (c1 : Nat) (l1 : List (S25)) (a2_0 : Int) (a2_1 : Int) (a2_2 : Int) (r : Bool) (w : World) (hr1 : Kd.C k25 w A1 l1.length l1) (hc1 : l1.length ≤ c1) (h : steeplelaw03_PackMakes.f k a0 l1 a2_0 a2_1 a2_2 = some r) :
  Calls Try.prog 3 #[.int .i64 a0, .slice A1 l1.length c1, .agg #[.int .i64 a2_0, .int .u64 a2_1, .int .u64 a2_2]] w fun e w' => e = .returned (.bool r) ∧ Below w.heap.size w w' := by
 have hu27 := Try.underlying27
 have hu31 := Try.underlying31
 have hu37 := Try.underlying37
 have hu25 := Try.underlying25
 have hu44 := Try.underlying44
 have HR1 := Aside0.mk hr1
 have HC1 := Aside0.mk hc1
 clear hr1 hc1
 have HB := Aside0.mk (Below.refl w.heap.size w)
 have H : (if (l1.length : Int) > 200 then ((steeplelaw03_awake.f k).bind fun t281 => (some t281)) else ((pack_Make.f k a0 l1).bind fun bt282 => ((steeplelaw01_Ref.f k l1).bind fun t289 => ((steepleref03_Make.f k a0 t289).bind fun bt292 => (if bt282.2.2.2 = bt292.2.2 then ((steeplelaw03_same.f k bt282.1 bt282.2.1 bt282.2.2.1 bt292.1 bt292.2.1).bind fun t298 => (if t298 = true then ((pack_Vec_Get.f k bt282.1 bt282.2.1 bt282.2.2.1 a2_0).bind fun bt299 => (if a2_0 ≥ 0 then (if (bt299.2.2 != (decide (a2_0 < (bt292.2.1.length : Int)))) = true then (none) else (if bt299.2.2 = true then (if 0 ≤ a2_0 then (if a2_0 < (bt292.2.1.length : Int) then (if (!(bt299.1 == ((rd_T44 bt292.2.1 a2_0).f0)) || (!(bt299.2.1 == ((rd_T44 bt292.2.1 a2_0).f1)))) = true then (none) else (steeplelaw03_PackMakes.j0 k false a2_0 a2_1 a2_2 bt282.1 bt282.2.1 bt282.2.2.1 bt292.1 bt292.2.1)) else (none)) else (none)) else (steeplelaw03_PackMakes.j0 k (!(bt299.1 == 0) || (!(bt299.2.1 == 0))) a2_0 a2_1 a2_2 bt282.1 bt282.2.1 bt282.2.2.1 bt292.1 bt292.2.1))) else (if (bt299.2.2 != false) = true then (none) else (if bt299.2.2 = true then (if 0 ≤ a2_0 then (if a2_0 < (bt292.2.1.length : Int) then (if (!(bt299.1 == ((rd_T44 bt292.2.1 a2_0).f0)) || (!(bt299.2.1 == ((rd_T44 bt292.2.1 a2_0).f1)))) = true then (none) else (steeplelaw03_PackMakes.j0 k false a2_0 a2_1 a2_2 bt282.1 bt282.2.1 bt282.2.2.1 bt292.1 bt292.2.1)) else (none)) else (none)) else (steeplelaw03_PackMakes.j0 k (!(bt299.1 == 0) || (!(bt299.2.1 == 0))) a2_0 a2_1 a2_2 bt282.1 bt282.2.1 bt282.2.2.1 bt292.1 bt292.2.1))))) else (none))) else (none)))))) = some r := h
 clear h
 by_cases c4 : (l1.length : Int) > 200
 ·rw [if_pos c4] at H
  have c4b0 : decide (200 < (l1.length : Int)) = true := decide_eq_true c4
  have c4b1 : decide (200 < l1.length) = true := decide_eq_true (by omega)
  clear c4
  replace H := Option.bind_eq_some_iff.mp H
  obtain ⟨t281, A50, H⟩ := H
  replace H : (some t281) = some r := H
  have A5 := Aside0.mk A50
  clear A50
  obtain rfl := Option.some.inj H
  go_enter Try.func3, Try.ntmps3
  go_wp2_with (first | ((with_reducible refine gate_dst (N := 5) rfl ?_); (try (refine gate_guard (by rfl) ?_; dsimp only)); refine box_event ?hg (N := 5) ?hd (cs := #[.int .i64 a2_0, .int .u64 a2_1, .int .u64 a2_2]) (t := 27) ?hr ?_; (case hd => rfl); (case hg => rfl); (case hr => first | (go_simp; done) | (go_simp; rfl)); intro gb280 hg w6 hbox hb; have BK280 := Aside0.mk hbox; have GW280 := ge hg HB; have GE280 := ge hg HB; replace HB := bh HB hb; clear hb hbox hg) | (go_at_call 8; (with_reducible refine (steeplelaw03_awake.calls k  t281 _ A5.out).mono ?_); rintro e w7 ⟨rfl, hb⟩; replace BK280 := bb BK280 hb; replace HB := bh HB hb; (try clear hb); (try clear hb2); (try clear hk); (try clear hi)))
  repeat (go_quiet (first | ((with_reducible refine gate_dst (N := 5) rfl ?_); (try (refine gate_guard (by rfl) ?_; dsimp only)); refine box_event ?hg (N := 5) ?hd (cs := #[.int .i64 a2_0, .int .u64 a2_1, .int .u64 a2_2]) (t := 27) ?hr ?_; (case hd => rfl); (case hg => rfl); (case hr => first | (go_simp; done) | (go_simp; rfl)); intro gb280 hg w6 hbox hb; have BK280 := Aside0.mk hbox; have GW280 := ge hg HB; have GE280 := ge hg HB; replace HB := bh HB hb; clear hb hbox hg) | (go_at_call 8; (with_reducible refine (steeplelaw03_awake.calls k  t281 _ A5.out).mono ?_); rintro e w7 ⟨rfl, hb⟩; replace BK280 := bb BK280 hb; replace HB := bh HB hb; (try clear hb); (try clear hb2); (try clear hk); (try clear hi))); try go_wp2_with (first | ((with_reducible refine gate_dst (N := 5) rfl ?_); (try (refine gate_guard (by rfl) ?_; dsimp only)); refine box_event ?hg (N := 5) ?hd (cs := #[.int .i64 a2_0, .int .u64 a2_1, .int .u64 a2_2]) (t := 27) ?hr ?_; (case hd => rfl); (case hg => rfl); (case hr => first | (go_simp; done) | (go_simp; rfl)); intro gb280 hg w6 hbox hb; have BK280 := Aside0.mk hbox; have GW280 := ge hg HB; have GE280 := ge hg HB; replace HB := bh HB hb; clear hb hbox hg) | (go_at_call 8; (with_reducible refine (steeplelaw03_awake.calls k  t281 _ A5.out).mono ?_); rintro e w7 ⟨rfl, hb⟩; replace BK280 := bb BK280 hb; replace HB := bh HB hb; (try clear hb); (try clear hb2); (try clear hk); (try clear hi))))
  go_ret
  exact ⟨by first | rfl | (simp [errW_none, errW_some] <;> rfl) | (simp [*, errW_none, errW_some] <;> rfl), bq HB.out⟩
 ·rw [if_neg c4] at H
  have c4b0 : decide (200 < (l1.length : Int)) = false := decide_eq_false c4
  have c4b1 : decide (200 < l1.length) = false := decide_eq_false (by omega)
  clear c4
  replace H := Option.bind_eq_some_iff.mp H
  obtain ⟨⟨t282, t283, t284, t287⟩, A80, H⟩ := H
  replace H : ((steeplelaw01_Ref.f k l1).bind fun t289 => ((steepleref03_Make.f k a0 t289).bind fun bt292 => (if t287 = bt292.2.2 then ((steeplelaw03_same.f k t282 t283 t284 bt292.1 bt292.2.1).bind fun t298 => (if t298 = true then ((pack_Vec_Get.f k t282 t283 t284 a2_0).bind fun bt299 => (if a2_0 ≥ 0 then (if (bt299.2.2 != (decide (a2_0 < (bt292.2.1.length : Int)))) = true then (none) else (if bt299.2.2 = true then (if 0 ≤ a2_0 then (if a2_0 < (bt292.2.1.length : Int) then (if (!(bt299.1 == ((rd_T44 bt292.2.1 a2_0).f0)) || (!(bt299.2.1 == ((rd_T44 bt292.2.1 a2_0).f1)))) = true then (none) else (steeplelaw03_PackMakes.j0 k false a2_0 a2_1 a2_2 t282 t283 t284 bt292.1 bt292.2.1)) else (none)) else (none)) else (steeplelaw03_PackMakes.j0 k (!(bt299.1 == 0) || (!(bt299.2.1 == 0))) a2_0 a2_1 a2_2 t282 t283 t284 bt292.1 bt292.2.1))) else (if (bt299.2.2 != false) = true then (none) else (if bt299.2.2 = true then (if 0 ≤ a2_0 then (if a2_0 < (bt292.2.1.length : Int) then (if (!(bt299.1 == ((rd_T44 bt292.2.1 a2_0).f0)) || (!(bt299.2.1 == ((rd_T44 bt292.2.1 a2_0).f1)))) = true then (none) else (steeplelaw03_PackMakes.j0 k false a2_0 a2_1 a2_2 t282 t283 t284 bt292.1 bt292.2.1)) else (none)) else (none)) else (steeplelaw03_PackMakes.j0 k (!(bt299.1 == 0) || (!(bt299.2.1 == 0))) a2_0 a2_1 a2_2 t282 t283 t284 bt292.1 bt292.2.1))))) else (none))) else (none)))) = some r := H
  have A8 := Aside0.mk A80
  clear A80
  replace H := Option.bind_eq_some_iff.mp H
  obtain ⟨t289, A90, H⟩ := H
  replace H : ((steepleref03_Make.f k a0 t289).bind fun bt292 => (if t287 = bt292.2.2 then ((steeplelaw03_same.f k t282 t283 t284 bt292.1 bt292.2.1).bind fun t298 => (if t298 = true then ((pack_Vec_Get.f k t282 t283 t284 a2_0).bind fun bt299 => (if a2_0 ≥ 0 then (if (bt299.2.2 != (decide (a2_0 < (bt292.2.1.length : Int)))) = true then (none) else (if bt299.2.2 = true then (if 0 ≤ a2_0 then (if a2_0 < (bt292.2.1.length : Int) then (if (!(bt299.1 == ((rd_T44 bt292.2.1 a2_0).f0)) || (!(bt299.2.1 == ((rd_T44 bt292.2.1 a2_0).f1)))) = true then (none) else (steeplelaw03_PackMakes.j0 k false a2_0 a2_1 a2_2 t282 t283 t284 bt292.1 bt292.2.1)) else (none)) else (none)) else (steeplelaw03_PackMakes.j0 k (!(bt299.1 == 0) || (!(bt299.2.1 == 0))) a2_0 a2_1 a2_2 t282 t283 t284 bt292.1 bt292.2.1))) else (if (bt299.2.2 != false) = true then (none) else (if bt299.2.2 = true then (if 0 ≤ a2_0 then (if a2_0 < (bt292.2.1.length : Int) then (if (!(bt299.1 == ((rd_T44 bt292.2.1 a2_0).f0)) || (!(bt299.2.1 == ((rd_T44 bt292.2.1 a2_0).f1)))) = true then (none) else (steeplelaw03_PackMakes.j0 k false a2_0 a2_1 a2_2 t282 t283 t284 bt292.1 bt292.2.1)) else (none)) else (none)) else (steeplelaw03_PackMakes.j0 k (!(bt299.1 == 0) || (!(bt299.2.1 == 0))) a2_0 a2_1 a2_2 t282 t283 t284 bt292.1 bt292.2.1))))) else (none))) else (none))) = some r := H
  have A9 := Aside0.mk A90
  clear A90
  replace H := Option.bind_eq_some_iff.mp H
  obtain ⟨⟨t292, t293, t296⟩, A100, H⟩ := H
  replace H : (if t287 = t296 then ((steeplelaw03_same.f k t282 t283 t284 t292 t293).bind fun t298 => (if t298 = true then ((pack_Vec_Get.f k t282 t283 t284 a2_0).bind fun bt299 => (if a2_0 ≥ 0 then (if (bt299.2.2 != (decide (a2_0 < (t293.length : Int)))) = true then (none) else (if bt299.2.2 = true then (if 0 ≤ a2_0 then (if a2_0 < (t293.length : Int) then (if (!(bt299.1 == ((rd_T44 t293 a2_0).f0)) || (!(bt299.2.1 == ((rd_T44 t293 a2_0).f1)))) = true then (none) else (steeplelaw03_PackMakes.j0 k false a2_0 a2_1 a2_2 t282 t283 t284 t292 t293)) else (none)) else (none)) else (steeplelaw03_PackMakes.j0 k (!(bt299.1 == 0) || (!(bt299.2.1 == 0))) a2_0 a2_1 a2_2 t282 t283 t284 t292 t293))) else (if (bt299.2.2 != false) = true then (none) else (if bt299.2.2 = true then (if 0 ≤ a2_0 then (if a2_0 < (t293.length : Int) then (if (!(bt299.1 == ((rd_T44 t293 a2_0).f0)) || (!(bt299.2.1 == ((rd_T44 t293 a2_0).f1)))) = true then (none) else (steeplelaw03_PackMakes.j0 k false a2_0 a2_1 a2_2 t282 t283 t284 t292 t293)) else (none)) else (none)) else (steeplelaw03_PackMakes.j0 k (!(bt299.1 == 0) || (!(bt299.2.1 == 0))) a2_0 a2_1 a2_2 t282 t283 t284 t292 t293))))) else (none))) else (none)) = some r := H
  have A10 := Aside0.mk A100
  clear A100
  by_cases c11 : t287 = t296
  ·rw [if_pos c11] at H
   have c11b0 : (t287 == t296) = true := beq_iff_eq.mpr c11
   have c11b1 : (t287 != t296) = false := bne_eq_false_iff_eq.mpr c11
   clear c11
   replace H := Option.bind_eq_some_iff.mp H
   obtain ⟨t298, A120, H⟩ := H
   replace H : (if t298 = true then ((pack_Vec_Get.f k t282 t283 t284 a2_0).bind fun bt299 => (if a2_0 ≥ 0 then (if (bt299.2.2 != (decide (a2_0 < (t293.length : Int)))) = true then (none) else (if bt299.2.2 = true then (if 0 ≤ a2_0 then (if a2_0 < (t293.length : Int) then (if (!(bt299.1 == ((rd_T44 t293 a2_0).f0)) || (!(bt299.2.1 == ((rd_T44 t293 a2_0).f1)))) = true then (none) else (steeplelaw03_PackMakes.j0 k false a2_0 a2_1 a2_2 t282 t283 t284 t292 t293)) else (none)) else (none)) else (steeplelaw03_PackMakes.j0 k (!(bt299.1 == 0) || (!(bt299.2.1 == 0))) a2_0 a2_1 a2_2 t282 t283 t284 t292 t293))) else (if (bt299.2.2 != false) = true then (none) else (if bt299.2.2 = true then (if 0 ≤ a2_0 then (if a2_0 < (t293.length : Int) then (if (!(bt299.1 == ((rd_T44 t293 a2_0).f0)) || (!(bt299.2.1 == ((rd_T44 t293 a2_0).f1)))) = true then (none) else (steeplelaw03_PackMakes.j0 k false a2_0 a2_1 a2_2 t282 t283 t284 t292 t293)) else (none)) else (none)) else (steeplelaw03_PackMakes.j0 k (!(bt299.1 == 0) || (!(bt299.2.1 == 0))) a2_0 a2_1 a2_2 t282 t283 t284 t292 t293))))) else (none)) = some r := H
   have A12 := Aside0.mk A120
   clear A120
   by_cases c13 : t298 = true
   ·subst c13
    have H1 : ((pack_Vec_Get.f k t282 t283 t284 a2_0).bind fun bt299 => (if a2_0 ≥ 0 then (if (bt299.2.2 != (decide (a2_0 < (t293.length : Int)))) = true then (none) else (if bt299.2.2 = true then (if 0 ≤ a2_0 then (if a2_0 < (t293.length : Int) then (if (!(bt299.1 == ((rd_T44 t293 a2_0).f0)) || (!(bt299.2.1 == ((rd_T44 t293 a2_0).f1)))) = true then (none) else (steeplelaw03_PackMakes.j0 k false a2_0 a2_1 a2_2 t282 t283 t284 t292 t293)) else (none)) else (none)) else (steeplelaw03_PackMakes.j0 k (!(bt299.1 == 0) || (!(bt299.2.1 == 0))) a2_0 a2_1 a2_2 t282 t283 t284 t292 t293))) else (if (bt299.2.2 != false) = true then (none) else (if bt299.2.2 = true then (if 0 ≤ a2_0 then (if a2_0 < (t293.length : Int) then (if (!(bt299.1 == ((rd_T44 t293 a2_0).f0)) || (!(bt299.2.1 == ((rd_T44 t293 a2_0).f1)))) = true then (none) else (steeplelaw03_PackMakes.j0 k false a2_0 a2_1 a2_2 t282 t283 t284 t292 t293)) else (none)) else (none)) else (steeplelaw03_PackMakes.j0 k (!(bt299.1 == 0) || (!(bt299.2.1 == 0))) a2_0 a2_1 a2_2 t282 t283 t284 t292 t293))))) = some r := by rw [if_pos rfl] at H; exact H
    clear H
    have H := H1
    clear H1
    replace H := Option.bind_eq_some_iff.mp H
    obtain ⟨⟨t299, t300, t301⟩, A140, H⟩ := H
    replace H : (if a2_0 ≥ 0 then (if (t301 != (decide (a2_0 < (t293.length : Int)))) = true then (none) else (if t301 = true then (if 0 ≤ a2_0 then (if a2_0 < (t293.length : Int) then (if (!(t299 == ((rd_T44 t293 a2_0).f0)) || (!(t300 == ((rd_T44 t293 a2_0).f1)))) = true then (none) else (steeplelaw03_PackMakes.j0 k false a2_0 a2_1 a2_2 t282 t283 t284 t292 t293)) else (none)) else (none)) else (steeplelaw03_PackMakes.j0 k (!(t299 == 0) || (!(t300 == 0))) a2_0 a2_1 a2_2 t282 t283 t284 t292 t293))) else (if (t301 != false) = true then (none) else (if t301 = true then (if 0 ≤ a2_0 then (if a2_0 < (t293.length : Int) then (if (!(t299 == ((rd_T44 t293 a2_0).f0)) || (!(t300 == ((rd_T44 t293 a2_0).f1)))) = true then (none) else (steeplelaw03_PackMakes.j0 k false a2_0 a2_1 a2_2 t282 t283 t284 t292 t293)) else (none)) else (none)) else (steeplelaw03_PackMakes.j0 k (!(t299 == 0) || (!(t300 == 0))) a2_0 a2_1 a2_2 t282 t283 t284 t292 t293)))) = some r := H
    have A14 := Aside0.mk A140
    clear A140
    have HC15 := Aside0.mk H
    clear H
    go_enter Try.func3, Try.ntmps3
    go_upto_region 8 with (first | ((with_reducible refine gate_dst (N := 5) rfl ?_); (try (refine gate_guard (by rfl) ?_; dsimp only)); refine box_event ?hg (N := 5) ?hd (cs := #[.int .i64 a2_0, .int .u64 a2_1, .int .u64 a2_2]) (t := 27) ?hr ?_; (case hd => rfl); (case hg => rfl); (case hr => first | (go_simp; done) | (go_simp; rfl)); intro gb280 hg w16 hbox hb; have BK280 := Aside0.mk hbox; have GW280 := ge hg HB; have GE280 := ge hg HB; replace HB := bh HB hb; clear hb hbox hg) | (go_at_call 9; (with_reducible refine (pack_Make.calls k a0 _ _ l1 t282 t283 t284 t287 _ ?side1 ?side2 A8.out).mono ?_); (case side1 => repeat (first | exact (Kd.C_below HR1.out HB.out) | (with_reducible refine Kd.C_alloc ?_ _) | (with_reducible refine Kd.C_drewN ?_ _) | (with_reducible refine Kd.C_drew ?_))); (case side2 => exact HC1.out); rintro e w17 ⟨v285, rfl, ho0, hb⟩; have HO286 := kw ho0 HB; replace BK280 := bb BK280 hb; replace HB := bh HB hb; (try clear hb); (try clear hb2); (try clear hk); (try clear hi); (try clear ho0)) | ((with_reducible refine gate_dst (N := 7) rfl ?_); (try (refine gate_guard (by rfl) ?_; dsimp only)); refine box_event ?hg (N := 7) ?hd (cs := #[.int .i64 0, .int .i64 0, .slice none 0 0]) (t := 31) ?hr ?_; (case hd => rfl); (case hg => rfl); (case hr => first | (go_simp; done) | (go_simp; rfl)); intro gb288 hg w18 hbox hb; have BK288 := Aside0.mk hbox; have GW288 := ge hg HB; have GE288 := ge hg HB; have NB280_288 := nl hg BK280; have NB288_280 := ng hg BK280; replace HO286 := kb HO286 hb; replace BK280 := bb BK280 hb; replace HB := bh HB hb; clear hb hbox hg; have hnb19 := NB288_280.out; have hnc19 := NB280_288.out; obtain ⟨hcz20_0, hcz20_1, hcz20_2⟩ := zc3 BK288; obtain ⟨hfz20_0, hfz20_1, hfz20_2⟩ := zf3 BK288; obtain ⟨Ao21, co21, eo21⟩ := Kd.R_slice HO286.out; subst eo21) | (go_at_call 11; (with_reducible refine (steeplelaw01_Ref.calls k _ _ l1 t289 _ ?side1 ?side2 A9.out).mono ?_); (case side1 => exact Kd.C_below HR1.out (bq HB.out)); (case side2 => exact HC1.out); rintro e w22 ⟨v290, rfl, ho0, hb⟩; have HO291 := kw ho0 HB; replace HO286 := Aside0.mk (Kd.R_below (by (with_reducible repeat refine kl ?_); exact (Kd.R_mono (Kd.R_far (p := ⟨gb288, 2, none⟩) (Kd.R_far (p := ⟨gb288, 1, none⟩) (Kd.R_far (p := ⟨gb288, 0, none⟩) (Kd.R_types HO286.out BK288.out (by decide)) (fun _ hk => hk.2) (.int .i64 t282)) (fun _ hk => hk.2) (.int .i64 t283)) (fun _ hk => hk.2) (.slice Ao21 t284.length co21)) (fun _ h_ => h_.1))) hb); replace BK280 := Aside0.mk (blk_below (g := gb280) (o := .cells #[.int .i64 a2_0, .int .u64 a2_1, .int .u64 a2_2] 27 (0, 0)) (by (with_reducible repeat refine bl ?_); refine blk_far ?_ NB280_288.out _; (with_reducible repeat refine bl ?_); refine blk_far ?_ NB280_288.out _; (with_reducible repeat refine bl ?_); refine blk_far ?_ NB280_288.out _; (with_reducible repeat refine bl ?_); exact BK280.out) hb); replace BK288 := Aside0.mk (blk_below (g := gb288) (o := .cells #[.int .i64 t282, .int .i64 t283, .slice Ao21 t284.length co21] 31 (0, 0)) (by (with_reducible repeat refine bl ?_); refine blk_put (cs := #[.int .i64 t282, .int .i64 t283, .slice none 0 0]) ?_ 2 _ rfl; (with_reducible repeat refine bl ?_); refine blk_put (cs := #[.int .i64 t282, .int .i64 0, .slice none 0 0]) ?_ 1 _ rfl; (with_reducible repeat refine bl ?_); refine blk_put (cs := #[.int .i64 0, .int .i64 0, .slice none 0 0]) ?_ 0 _ rfl; (with_reducible repeat refine bl ?_); exact BK288.out) hb); replace HB := bh HB hb; (try clear hb); (try clear hb2); (try clear hk); (try clear hi); (try clear ho0); obtain ⟨Ao23, co23, eo23⟩ := Kd.R_slice HO291.out; subst eo23) | (go_at_call 10; (with_reducible refine (steepleref03_Make.calls k a0 (fun k_ => some k_ = (.slice Ao23 t289.length co23 : Value).ownBlock) (.slice Ao23 t289.length co23) t289 t292 t293 t296 w _ ?side1 ?side2 A10.out).mono ?_); (case side1 => repeat (first | (with_reducible first | exact HB.out | apply below_alloc | apply pw_below_drewN | apply below_drew1 | refine below_set ?_ GE280.out | refine below_set ?_ GE288.out) | exact HB.out)); (case side2 => exact Kd.R_tight rfl HO291.out); rintro e w24 ⟨v294, rfl, ho0, hb, hkp⟩; have HO295 := Aside0.mk (Kd.R_mono (ok' := fun k_ => True) ho0 (fun k_ hk_ => trivial)); replace BK280 := Aside0.mk (blk_kept (bk BK280.out) hkp (fun hs_ => (fun e_ => (Kd.R_ne HO291.out BK280.out (by decide)) e_) hs_)); replace HO286 := Aside0.mk (Kd.R_mono (ok' := fun k_ => True) (Kd.R_keptB ((Kd.R_apart' HO286.out (Kd.R_typed HO291.out) (by decide))) hkp (fun k_ hk_ hs_ => (hk_.2) hs_)) (fun k_ hk_ => trivial)); replace BK288 := Aside0.mk (blk_kept (bk BK288.out) hkp (fun hs_ => (fun e_ => (Kd.R_ne HO291.out BK288.out (by decide)) e_) hs_)); replace HB := Aside0.mk hb; clear HO291; (try clear hb); (try clear hkp); (try clear ho0)) | ((with_reducible refine gate_dst (N := 9) rfl ?_); (try (refine gate_guard (by rfl) ?_; dsimp only)); refine box_event ?hg (N := 9) ?hd (cs := #[.int .i64 0, .slice none 0 0]) (t := 37) ?hr ?_; (case hd => rfl); (case hg => rfl); (case hr => first | (go_simp; done) | (go_simp; rfl)); intro gb297 hg w25 hbox hb; have BK297 := Aside0.mk hbox; have GW297 := ge hg HB; have GE297 := ge hg HB; have NB280_297 := nl hg BK280; have NB297_280 := ng hg BK280; have NB288_297 := nl hg BK288; have NB297_288 := ng hg BK288; replace HO286 := kb HO286 hb; replace HO295 := kb HO295 hb; replace BK280 := bb BK280 hb; replace BK288 := bb BK288 hb; replace HB := bh HB hb; clear hb hbox hg; have hnb26 := NB297_280.out; have hnc26 := NB280_297.out; have hnb27 := NB297_288.out; have hnc27 := NB288_297.out; obtain ⟨hcz28_0, hcz28_1⟩ := zc2 BK297; obtain ⟨hfz28_0, hfz28_1⟩ := zf2 BK297; obtain ⟨Ao29, co29, eo29⟩ := Kd.R_slice HO295.out; subst eo29; obtain ⟨hcz30_0, hcz30_1, hcz30_2⟩ := zc3 BK288; obtain ⟨hfz30_0, hfz30_1, hfz30_2⟩ := zf3 BK288) | (go_at_call 12; (with_reducible refine (steeplelaw03_same.calls k t282 t283 _ _ t284 t292 _ _ t293 true _ ?side1 ?side2 ?side3 ?side4 A12.out).mono ?_); (case side1 => refine (Kd.R_reads' (e := 23) (base := w.heap.size) (ok := fun k_ => True) (n := t284.length) (c := co21) ?_).2.2; exact (by (with_reducible repeat refine kl ?_); exact (Kd.R_mono (Kd.R_far (p := ⟨gb297, 1, none⟩) (Kd.R_far (p := ⟨gb297, 0, none⟩) (Kd.R_types HO286.out BK297.out (by decide)) (fun _ hk => hk.2) (.int .i64 t292)) (fun _ hk => hk.2) (.slice Ao29 t293.length co29)) (fun _ h_ => h_.1)))); (case side2 => exact (Kd.R_reads' HO286.out).2.1); (case side3 => refine (Kd.R_reads' (e := 44) (base := w.heap.size) (ok := fun k_ => True) (n := t293.length) (c := co29) ?_).2.2; exact (by (with_reducible repeat refine kl ?_); exact (Kd.R_mono (Kd.R_far (p := ⟨gb297, 1, none⟩) (Kd.R_far (p := ⟨gb297, 0, none⟩) (Kd.R_types HO295.out BK297.out (by decide)) (fun _ hk => hk.2) (.int .i64 t292)) (fun _ hk => hk.2) (.slice Ao29 t293.length co29)) (fun _ h_ => h_.1)))); (case side4 => exact (Kd.R_reads' HO295.out).2.1); rintro e w31 ⟨rfl, hb⟩; replace HO286 := Aside0.mk (Kd.R_below (by (with_reducible repeat refine kl ?_); exact (Kd.R_mono (Kd.R_far (p := ⟨gb297, 1, none⟩) (Kd.R_far (p := ⟨gb297, 0, none⟩) (Kd.R_types HO286.out BK297.out (by decide)) (fun _ hk => hk.2) (.int .i64 t292)) (fun _ hk => hk.2) (.slice Ao29 t293.length co29)) (fun _ h_ => h_.1))) hb); replace HO295 := Aside0.mk (Kd.R_below (by (with_reducible repeat refine kl ?_); exact (Kd.R_mono (Kd.R_far (p := ⟨gb297, 1, none⟩) (Kd.R_far (p := ⟨gb297, 0, none⟩) (Kd.R_types HO295.out BK297.out (by decide)) (fun _ hk => hk.2) (.int .i64 t292)) (fun _ hk => hk.2) (.slice Ao29 t293.length co29)) (fun _ h_ => h_.1))) hb); replace BK280 := Aside0.mk (blk_below (g := gb280) (o := .cells #[.int .i64 a2_0, .int .u64 a2_1, .int .u64 a2_2] 27 (0, 0)) (by (with_reducible repeat refine bl ?_); refine blk_far ?_ NB280_297.out _; (with_reducible repeat refine bl ?_); refine blk_far ?_ NB280_297.out _; (with_reducible repeat refine bl ?_); exact BK280.out) hb); replace BK288 := Aside0.mk (blk_below (g := gb288) (o := .cells #[.int .i64 t282, .int .i64 t283, .slice Ao21 t284.length co21] 31 (0, 0)) (by (with_reducible repeat refine bl ?_); refine blk_far ?_ NB288_297.out _; (with_reducible repeat refine bl ?_); refine blk_far ?_ NB288_297.out _; (with_reducible repeat refine bl ?_); exact BK288.out) hb); replace BK297 := Aside0.mk (blk_below (g := gb297) (o := .cells #[.int .i64 t292, .slice Ao29 t293.length co29] 37 (0, 0)) (by (with_reducible repeat refine bl ?_); refine blk_put (cs := #[.int .i64 t292, .slice none 0 0]) ?_ 1 _ rfl; (with_reducible repeat refine bl ?_); refine blk_put (cs := #[.int .i64 0, .slice none 0 0]) ?_ 0 _ rfl; (with_reducible repeat refine bl ?_); exact BK297.out) hb); replace HB := bh HB hb; (try clear hb); (try clear hb2); (try clear hk); (try clear hi); obtain ⟨hcz32_0, hcz32_1, hcz32_2⟩ := zc3 BK288; obtain ⟨hfz32_0, hfz32_1, hfz32_2⟩ := zf3 BK288; obtain ⟨hcz33_0, hcz33_1, hcz33_2⟩ := zc3 BK280; obtain ⟨hfz33_0, hfz33_1, hfz33_2⟩ := zf3 BK280) | (go_at_call 13; (with_reducible refine (pack_Vec_Get.calls k t282 t283 _ _ t284 a2_0 t299 t300 t301 _ ?side1 ?side2 A14.out).mono ?_); (case side1 => repeat (first | exact (Kd.R_reads' HO286.out).2.2 | (with_reducible refine Kd.C_alloc ?_ _) | (with_reducible refine Kd.C_drewN ?_ _) | (with_reducible refine Kd.C_drew ?_))); (case side2 => exact (Kd.R_reads' HO286.out).2.1); rintro e w34 ⟨rfl, hb⟩; replace HO286 := kb HO286 hb; replace HO295 := kb HO295 hb; replace BK280 := bb BK280 hb; replace BK288 := bb BK288 hb; replace BK297 := bb BK297 hb; replace HB := bh HB hb; (try clear hb); (try clear hb2); (try clear hk); (try clear hi)) | ((with_reducible refine gate_dst (N := 11) rfl ?_); (try (refine gate_guard (by rfl) ?_; dsimp only)); refine box_event ?hg (N := 11) ?hd (cs := #[.int .u64 0, .int .u64 0]) (t := 25) ?hr ?_; (case hd => rfl); (case hg => rfl); (case hr => first | (go_simp; done) | (go_simp; rfl)); intro gb302 hg w35 hbox hb; have BK302 := Aside0.mk hbox; have GW302 := ge hg HB; have GE302 := ge hg HB; have NB280_302 := nl hg BK280; have NB302_280 := ng hg BK280; have NB288_302 := nl hg BK288; have NB302_288 := ng hg BK288; have NB297_302 := nl hg BK297; have NB302_297 := ng hg BK297; replace HO286 := kb HO286 hb; replace HO295 := kb HO295 hb; replace BK280 := bb BK280 hb; replace BK288 := bb BK288 hb; replace BK297 := bb BK297 hb; replace HB := bh HB hb; clear hb hbox hg; have hnb36 := NB302_280.out; have hnc36 := NB280_302.out; have hnb37 := NB302_288.out; have hnc37 := NB288_302.out; have hnb38 := NB302_297.out; have hnc38 := NB297_302.out; obtain ⟨hcz39_0, hcz39_1⟩ := zc2 BK302; obtain ⟨hfz39_0, hfz39_1⟩ := zf2 BK302))
    repeat (go_quiet (first | ((with_reducible refine gate_dst (N := 5) rfl ?_); (try (refine gate_guard (by rfl) ?_; dsimp only)); refine box_event ?hg (N := 5) ?hd (cs := #[.int .i64 a2_0, .int .u64 a2_1, .int .u64 a2_2]) (t := 27) ?hr ?_; (case hd => rfl); (case hg => rfl); (case hr => first | (go_simp; done) | (go_simp; rfl)); intro gb280 hg w16 hbox hb; have BK280 := Aside0.mk hbox; have GW280 := ge hg HB; have GE280 := ge hg HB; replace HB := bh HB hb; clear hb hbox hg) | (go_at_call 9; (with_reducible refine (pack_Make.calls k a0 _ _ l1 t282 t283 t284 t287 _ ?side1 ?side2 A8.out).mono ?_); (case side1 => repeat (first | exact (Kd.C_below HR1.out HB.out) | (with_reducible refine Kd.C_alloc ?_ _) | (with_reducible refine Kd.C_drewN ?_ _) | (with_reducible refine Kd.C_drew ?_))); (case side2 => exact HC1.out); rintro e w17 ⟨v285, rfl, ho0, hb⟩; have HO286 := kw ho0 HB; replace BK280 := bb BK280 hb; replace HB := bh HB hb; (try clear hb); (try clear hb2); (try clear hk); (try clear hi); (try clear ho0)) | ((with_reducible refine gate_dst (N := 7) rfl ?_); (try (refine gate_guard (by rfl) ?_; dsimp only)); refine box_event ?hg (N := 7) ?hd (cs := #[.int .i64 0, .int .i64 0, .slice none 0 0]) (t := 31) ?hr ?_; (case hd => rfl); (case hg => rfl); (case hr => first | (go_simp; done) | (go_simp; rfl)); intro gb288 hg w18 hbox hb; have BK288 := Aside0.mk hbox; have GW288 := ge hg HB; have GE288 := ge hg HB; have NB280_288 := nl hg BK280; have NB288_280 := ng hg BK280; replace HO286 := kb HO286 hb; replace BK280 := bb BK280 hb; replace HB := bh HB hb; clear hb hbox hg; have hnb19 := NB288_280.out; have hnc19 := NB280_288.out; obtain ⟨hcz20_0, hcz20_1, hcz20_2⟩ := zc3 BK288; obtain ⟨hfz20_0, hfz20_1, hfz20_2⟩ := zf3 BK288; obtain ⟨Ao21, co21, eo21⟩ := Kd.R_slice HO286.out; subst eo21) | (go_at_call 11; (with_reducible refine (steeplelaw01_Ref.calls k _ _ l1 t289 _ ?side1 ?side2 A9.out).mono ?_); (case side1 => exact Kd.C_below HR1.out (bq HB.out)); (case side2 => exact HC1.out); rintro e w22 ⟨v290, rfl, ho0, hb⟩; have HO291 := kw ho0 HB; replace HO286 := Aside0.mk (Kd.R_below (by (with_reducible repeat refine kl ?_); exact (Kd.R_mono (Kd.R_far (p := ⟨gb288, 2, none⟩) (Kd.R_far (p := ⟨gb288, 1, none⟩) (Kd.R_far (p := ⟨gb288, 0, none⟩) (Kd.R_types HO286.out BK288.out (by decide)) (fun _ hk => hk.2) (.int .i64 t282)) (fun _ hk => hk.2) (.int .i64 t283)) (fun _ hk => hk.2) (.slice Ao21 t284.length co21)) (fun _ h_ => h_.1))) hb); replace BK280 := Aside0.mk (blk_below (g := gb280) (o := .cells #[.int .i64 a2_0, .int .u64 a2_1, .int .u64 a2_2] 27 (0, 0)) (by (with_reducible repeat refine bl ?_); refine blk_far ?_ NB280_288.out _; (with_reducible repeat refine bl ?_); refine blk_far ?_ NB280_288.out _; (with_reducible repeat refine bl ?_); refine blk_far ?_ NB280_288.out _; (with_reducible repeat refine bl ?_); exact BK280.out) hb); replace BK288 := Aside0.mk (blk_below (g := gb288) (o := .cells #[.int .i64 t282, .int .i64 t283, .slice Ao21 t284.length co21] 31 (0, 0)) (by (with_reducible repeat refine bl ?_); refine blk_put (cs := #[.int .i64 t282, .int .i64 t283, .slice none 0 0]) ?_ 2 _ rfl; (with_reducible repeat refine bl ?_); refine blk_put (cs := #[.int .i64 t282, .int .i64 0, .slice none 0 0]) ?_ 1 _ rfl; (with_reducible repeat refine bl ?_); refine blk_put (cs := #[.int .i64 0, .int .i64 0, .slice none 0 0]) ?_ 0 _ rfl; (with_reducible repeat refine bl ?_); exact BK288.out) hb); replace HB := bh HB hb; (try clear hb); (try clear hb2); (try clear hk); (try clear hi); (try clear ho0); obtain ⟨Ao23, co23, eo23⟩ := Kd.R_slice HO291.out; subst eo23) | (go_at_call 10; (with_reducible refine (steepleref03_Make.calls k a0 (fun k_ => some k_ = (.slice Ao23 t289.length co23 : Value).ownBlock) (.slice Ao23 t289.length co23) t289 t292 t293 t296 w _ ?side1 ?side2 A10.out).mono ?_); (case side1 => repeat (first | (with_reducible first | exact HB.out | apply below_alloc | apply pw_below_drewN | apply below_drew1 | refine below_set ?_ GE280.out | refine below_set ?_ GE288.out) | exact HB.out)); (case side2 => exact Kd.R_tight rfl HO291.out); rintro e w24 ⟨v294, rfl, ho0, hb, hkp⟩; have HO295 := Aside0.mk (Kd.R_mono (ok' := fun k_ => True) ho0 (fun k_ hk_ => trivial)); replace BK280 := Aside0.mk (blk_kept (bk BK280.out) hkp (fun hs_ => (fun e_ => (Kd.R_ne HO291.out BK280.out (by decide)) e_) hs_)); replace HO286 := Aside0.mk (Kd.R_mono (ok' := fun k_ => True) (Kd.R_keptB ((Kd.R_apart' HO286.out (Kd.R_typed HO291.out) (by decide))) hkp (fun k_ hk_ hs_ => (hk_.2) hs_)) (fun k_ hk_ => trivial)); replace BK288 := Aside0.mk (blk_kept (bk BK288.out) hkp (fun hs_ => (fun e_ => (Kd.R_ne HO291.out BK288.out (by decide)) e_) hs_)); replace HB := Aside0.mk hb; clear HO291; (try clear hb); (try clear hkp); (try clear ho0)) | ((with_reducible refine gate_dst (N := 9) rfl ?_); (try (refine gate_guard (by rfl) ?_; dsimp only)); refine box_event ?hg (N := 9) ?hd (cs := #[.int .i64 0, .slice none 0 0]) (t := 37) ?hr ?_; (case hd => rfl); (case hg => rfl); (case hr => first | (go_simp; done) | (go_simp; rfl)); intro gb297 hg w25 hbox hb; have BK297 := Aside0.mk hbox; have GW297 := ge hg HB; have GE297 := ge hg HB; have NB280_297 := nl hg BK280; have NB297_280 := ng hg BK280; have NB288_297 := nl hg BK288; have NB297_288 := ng hg BK288; replace HO286 := kb HO286 hb; replace HO295 := kb HO295 hb; replace BK280 := bb BK280 hb; replace BK288 := bb BK288 hb; replace HB := bh HB hb; clear hb hbox hg; have hnb26 := NB297_280.out; have hnc26 := NB280_297.out; have hnb27 := NB297_288.out; have hnc27 := NB288_297.out; obtain ⟨hcz28_0, hcz28_1⟩ := zc2 BK297; obtain ⟨hfz28_0, hfz28_1⟩ := zf2 BK297; obtain ⟨Ao29, co29, eo29⟩ := Kd.R_slice HO295.out; subst eo29; obtain ⟨hcz30_0, hcz30_1, hcz30_2⟩ := zc3 BK288; obtain ⟨hfz30_0, hfz30_1, hfz30_2⟩ := zf3 BK288) | (go_at_call 12; (with_reducible refine (steeplelaw03_same.calls k t282 t283 _ _ t284 t292 _ _ t293 true _ ?side1 ?side2 ?side3 ?side4 A12.out).mono ?_); (case side1 => refine (Kd.R_reads' (e := 23) (base := w.heap.size) (ok := fun k_ => True) (n := t284.length) (c := co21) ?_).2.2; exact (by (with_reducible repeat refine kl ?_); exact (Kd.R_mono (Kd.R_far (p := ⟨gb297, 1, none⟩) (Kd.R_far (p := ⟨gb297, 0, none⟩) (Kd.R_types HO286.out BK297.out (by decide)) (fun _ hk => hk.2) (.int .i64 t292)) (fun _ hk => hk.2) (.slice Ao29 t293.length co29)) (fun _ h_ => h_.1)))); (case side2 => exact (Kd.R_reads' HO286.out).2.1); (case side3 => refine (Kd.R_reads' (e := 44) (base := w.heap.size) (ok := fun k_ => True) (n := t293.length) (c := co29) ?_).2.2; exact (by (with_reducible repeat refine kl ?_); exact (Kd.R_mono (Kd.R_far (p := ⟨gb297, 1, none⟩) (Kd.R_far (p := ⟨gb297, 0, none⟩) (Kd.R_types HO295.out BK297.out (by decide)) (fun _ hk => hk.2) (.int .i64 t292)) (fun _ hk => hk.2) (.slice Ao29 t293.length co29)) (fun _ h_ => h_.1)))); (case side4 => exact (Kd.R_reads' HO295.out).2.1); rintro e w31 ⟨rfl, hb⟩; replace HO286 := Aside0.mk (Kd.R_below (by (with_reducible repeat refine kl ?_); exact (Kd.R_mono (Kd.R_far (p := ⟨gb297, 1, none⟩) (Kd.R_far (p := ⟨gb297, 0, none⟩) (Kd.R_types HO286.out BK297.out (by decide)) (fun _ hk => hk.2) (.int .i64 t292)) (fun _ hk => hk.2) (.slice Ao29 t293.length co29)) (fun _ h_ => h_.1))) hb); replace HO295 := Aside0.mk (Kd.R_below (by (with_reducible repeat refine kl ?_); exact (Kd.R_mono (Kd.R_far (p := ⟨gb297, 1, none⟩) (Kd.R_far (p := ⟨gb297, 0, none⟩) (Kd.R_types HO295.out BK297.out (by decide)) (fun _ hk => hk.2) (.int .i64 t292)) (fun _ hk => hk.2) (.slice Ao29 t293.length co29)) (fun _ h_ => h_.1))) hb); replace BK280 := Aside0.mk (blk_below (g := gb280) (o := .cells #[.int .i64 a2_0, .int .u64 a2_1, .int .u64 a2_2] 27 (0, 0)) (by (with_reducible repeat refine bl ?_); refine blk_far ?_ NB280_297.out _; (with_reducible repeat refine bl ?_); refine blk_far ?_ NB280_297.out _; (with_reducible repeat refine bl ?_); exact BK280.out) hb); replace BK288 := Aside0.mk (blk_below (g := gb288) (o := .cells #[.int .i64 t282, .int .i64 t283, .slice Ao21 t284.length co21] 31 (0, 0)) (by (with_reducible repeat refine bl ?_); refine blk_far ?_ NB288_297.out _; (with_reducible repeat refine bl ?_); refine blk_far ?_ NB288_297.out _; (with_reducible repeat refine bl ?_); exact BK288.out) hb); replace BK297 := Aside0.mk (blk_below (g := gb297) (o := .cells #[.int .i64 t292, .slice Ao29 t293.length co29] 37 (0, 0)) (by (with_reducible repeat refine bl ?_); refine blk_put (cs := #[.int .i64 t292, .slice none 0 0]) ?_ 1 _ rfl; (with_reducible repeat refine bl ?_); refine blk_put (cs := #[.int .i64 0, .slice none 0 0]) ?_ 0 _ rfl; (with_reducible repeat refine bl ?_); exact BK297.out) hb); replace HB := bh HB hb; (try clear hb); (try clear hb2); (try clear hk); (try clear hi); obtain ⟨hcz32_0, hcz32_1, hcz32_2⟩ := zc3 BK288; obtain ⟨hfz32_0, hfz32_1, hfz32_2⟩ := zf3 BK288; obtain ⟨hcz33_0, hcz33_1, hcz33_2⟩ := zc3 BK280; obtain ⟨hfz33_0, hfz33_1, hfz33_2⟩ := zf3 BK280) | (go_at_call 13; (with_reducible refine (pack_Vec_Get.calls k t282 t283 _ _ t284 a2_0 t299 t300 t301 _ ?side1 ?side2 A14.out).mono ?_); (case side1 => repeat (first | exact (Kd.R_reads' HO286.out).2.2 | (with_reducible refine Kd.C_alloc ?_ _) | (with_reducible refine Kd.C_drewN ?_ _) | (with_reducible refine Kd.C_drew ?_))); (case side2 => exact (Kd.R_reads' HO286.out).2.1); rintro e w34 ⟨rfl, hb⟩; replace HO286 := kb HO286 hb; replace HO295 := kb HO295 hb; replace BK280 := bb BK280 hb; replace BK288 := bb BK288 hb; replace BK297 := bb BK297 hb; replace HB := bh HB hb; (try clear hb); (try clear hb2); (try clear hk); (try clear hi)) | ((with_reducible refine gate_dst (N := 11) rfl ?_); (try (refine gate_guard (by rfl) ?_; dsimp only)); refine box_event ?hg (N := 11) ?hd (cs := #[.int .u64 0, .int .u64 0]) (t := 25) ?hr ?_; (case hd => rfl); (case hg => rfl); (case hr => first | (go_simp; done) | (go_simp; rfl)); intro gb302 hg w35 hbox hb; have BK302 := Aside0.mk hbox; have GW302 := ge hg HB; have GE302 := ge hg HB; have NB280_302 := nl hg BK280; have NB302_280 := ng hg BK280; have NB288_302 := nl hg BK288; have NB302_288 := ng hg BK288; have NB297_302 := nl hg BK297; have NB302_297 := ng hg BK297; replace HO286 := kb HO286 hb; replace HO295 := kb HO295 hb; replace BK280 := bb BK280 hb; replace BK288 := bb BK288 hb; replace BK297 := bb BK297 hb; replace HB := bh HB hb; clear hb hbox hg; have hnb36 := NB302_280.out; have hnc36 := NB280_302.out; have hnb37 := NB302_288.out; have hnc37 := NB288_302.out; have hnb38 := NB302_297.out; have hnc38 := NB297_302.out; obtain ⟨hcz39_0, hcz39_1⟩ := zc2 BK302; obtain ⟨hfz39_0, hfz39_1⟩ := zf2 BK302)); go_upto_region 8 with (first | ((with_reducible refine gate_dst (N := 5) rfl ?_); (try (refine gate_guard (by rfl) ?_; dsimp only)); refine box_event ?hg (N := 5) ?hd (cs := #[.int .i64 a2_0, .int .u64 a2_1, .int .u64 a2_2]) (t := 27) ?hr ?_; (case hd => rfl); (case hg => rfl); (case hr => first | (go_simp; done) | (go_simp; rfl)); intro gb280 hg w16 hbox hb; have BK280 := Aside0.mk hbox; have GW280 := ge hg HB; have GE280 := ge hg HB; replace HB := bh HB hb; clear hb hbox hg) | (go_at_call 9; (with_reducible refine (pack_Make.calls k a0 _ _ l1 t282 t283 t284 t287 _ ?side1 ?side2 A8.out).mono ?_); (case side1 => repeat (first | exact (Kd.C_below HR1.out HB.out) | (with_reducible refine Kd.C_alloc ?_ _) | (with_reducible refine Kd.C_drewN ?_ _) | (with_reducible refine Kd.C_drew ?_))); (case side2 => exact HC1.out); rintro e w17 ⟨v285, rfl, ho0, hb⟩; have HO286 := kw ho0 HB; replace BK280 := bb BK280 hb; replace HB := bh HB hb; (try clear hb); (try clear hb2); (try clear hk); (try clear hi); (try clear ho0)) | ((with_reducible refine gate_dst (N := 7) rfl ?_); (try (refine gate_guard (by rfl) ?_; dsimp only)); refine box_event ?hg (N := 7) ?hd (cs := #[.int .i64 0, .int .i64 0, .slice none 0 0]) (t := 31) ?hr ?_; (case hd => rfl); (case hg => rfl); (case hr => first | (go_simp; done) | (go_simp; rfl)); intro gb288 hg w18 hbox hb; have BK288 := Aside0.mk hbox; have GW288 := ge hg HB; have GE288 := ge hg HB; have NB280_288 := nl hg BK280; have NB288_280 := ng hg BK280; replace HO286 := kb HO286 hb; replace BK280 := bb BK280 hb; replace HB := bh HB hb; clear hb hbox hg; have hnb19 := NB288_280.out; have hnc19 := NB280_288.out; obtain ⟨hcz20_0, hcz20_1, hcz20_2⟩ := zc3 BK288; obtain ⟨hfz20_0, hfz20_1, hfz20_2⟩ := zf3 BK288; obtain ⟨Ao21, co21, eo21⟩ := Kd.R_slice HO286.out; subst eo21) | (go_at_call 11; (with_reducible refine (steeplelaw01_Ref.calls k _ _ l1 t289 _ ?side1 ?side2 A9.out).mono ?_); (case side1 => exact Kd.C_below HR1.out (bq HB.out)); (case side2 => exact HC1.out); rintro e w22 ⟨v290, rfl, ho0, hb⟩; have HO291 := kw ho0 HB; replace HO286 := Aside0.mk (Kd.R_below (by (with_reducible repeat refine kl ?_); exact (Kd.R_mono (Kd.R_far (p := ⟨gb288, 2, none⟩) (Kd.R_far (p := ⟨gb288, 1, none⟩) (Kd.R_far (p := ⟨gb288, 0, none⟩) (Kd.R_types HO286.out BK288.out (by decide)) (fun _ hk => hk.2) (.int .i64 t282)) (fun _ hk => hk.2) (.int .i64 t283)) (fun _ hk => hk.2) (.slice Ao21 t284.length co21)) (fun _ h_ => h_.1))) hb); replace BK280 := Aside0.mk (blk_below (g := gb280) (o := .cells #[.int .i64 a2_0, .int .u64 a2_1, .int .u64 a2_2] 27 (0, 0)) (by (with_reducible repeat refine bl ?_); refine blk_far ?_ NB280_288.out _; (with_reducible repeat refine bl ?_); refine blk_far ?_ NB280_288.out _; (with_reducible repeat refine bl ?_); refine blk_far ?_ NB280_288.out _; (with_reducible repeat refine bl ?_); exact BK280.out) hb); replace BK288 := Aside0.mk (blk_below (g := gb288) (o := .cells #[.int .i64 t282, .int .i64 t283, .slice Ao21 t284.length co21] 31 (0, 0)) (by (with_reducible repeat refine bl ?_); refine blk_put (cs := #[.int .i64 t282, .int .i64 t283, .slice none 0 0]) ?_ 2 _ rfl; (with_reducible repeat refine bl ?_); refine blk_put (cs := #[.int .i64 t282, .int .i64 0, .slice none 0 0]) ?_ 1 _ rfl; (with_reducible repeat refine bl ?_); refine blk_put (cs := #[.int .i64 0, .int .i64 0, .slice none 0 0]) ?_ 0 _ rfl; (with_reducible repeat refine bl ?_); exact BK288.out) hb); replace HB := bh HB hb; (try clear hb); (try clear hb2); (try clear hk); (try clear hi); (try clear ho0); obtain ⟨Ao23, co23, eo23⟩ := Kd.R_slice HO291.out; subst eo23) | (go_at_call 10; (with_reducible refine (steepleref03_Make.calls k a0 (fun k_ => some k_ = (.slice Ao23 t289.length co23 : Value).ownBlock) (.slice Ao23 t289.length co23) t289 t292 t293 t296 w _ ?side1 ?side2 A10.out).mono ?_); (case side1 => repeat (first | (with_reducible first | exact HB.out | apply below_alloc | apply pw_below_drewN | apply below_drew1 | refine below_set ?_ GE280.out | refine below_set ?_ GE288.out) | exact HB.out)); (case side2 => exact Kd.R_tight rfl HO291.out); rintro e w24 ⟨v294, rfl, ho0, hb, hkp⟩; have HO295 := Aside0.mk (Kd.R_mono (ok' := fun k_ => True) ho0 (fun k_ hk_ => trivial)); replace BK280 := Aside0.mk (blk_kept (bk BK280.out) hkp (fun hs_ => (fun e_ => (Kd.R_ne HO291.out BK280.out (by decide)) e_) hs_)); replace HO286 := Aside0.mk (Kd.R_mono (ok' := fun k_ => True) (Kd.R_keptB ((Kd.R_apart' HO286.out (Kd.R_typed HO291.out) (by decide))) hkp (fun k_ hk_ hs_ => (hk_.2) hs_)) (fun k_ hk_ => trivial)); replace BK288 := Aside0.mk (blk_kept (bk BK288.out) hkp (fun hs_ => (fun e_ => (Kd.R_ne HO291.out BK288.out (by decide)) e_) hs_)); replace HB := Aside0.mk hb; clear HO291; (try clear hb); (try clear hkp); (try clear ho0)) | ((with_reducible refine gate_dst (N := 9) rfl ?_); (try (refine gate_guard (by rfl) ?_; dsimp only)); refine box_event ?hg (N := 9) ?hd (cs := #[.int .i64 0, .slice none 0 0]) (t := 37) ?hr ?_; (case hd => rfl); (case hg => rfl); (case hr => first | (go_simp; done) | (go_simp; rfl)); intro gb297 hg w25 hbox hb; have BK297 := Aside0.mk hbox; have GW297 := ge hg HB; have GE297 := ge hg HB; have NB280_297 := nl hg BK280; have NB297_280 := ng hg BK280; have NB288_297 := nl hg BK288; have NB297_288 := ng hg BK288; replace HO286 := kb HO286 hb; replace HO295 := kb HO295 hb; replace BK280 := bb BK280 hb; replace BK288 := bb BK288 hb; replace HB := bh HB hb; clear hb hbox hg; have hnb26 := NB297_280.out; have hnc26 := NB280_297.out; have hnb27 := NB297_288.out; have hnc27 := NB288_297.out; obtain ⟨hcz28_0, hcz28_1⟩ := zc2 BK297; obtain ⟨hfz28_0, hfz28_1⟩ := zf2 BK297; obtain ⟨Ao29, co29, eo29⟩ := Kd.R_slice HO295.out; subst eo29; obtain ⟨hcz30_0, hcz30_1, hcz30_2⟩ := zc3 BK288; obtain ⟨hfz30_0, hfz30_1, hfz30_2⟩ := zf3 BK288) | (go_at_call 12; (with_reducible refine (steeplelaw03_same.calls k t282 t283 _ _ t284 t292 _ _ t293 true _ ?side1 ?side2 ?side3 ?side4 A12.out).mono ?_); (case side1 => refine (Kd.R_reads' (e := 23) (base := w.heap.size) (ok := fun k_ => True) (n := t284.length) (c := co21) ?_).2.2; exact (by (with_reducible repeat refine kl ?_); exact (Kd.R_mono (Kd.R_far (p := ⟨gb297, 1, none⟩) (Kd.R_far (p := ⟨gb297, 0, none⟩) (Kd.R_types HO286.out BK297.out (by decide)) (fun _ hk => hk.2) (.int .i64 t292)) (fun _ hk => hk.2) (.slice Ao29 t293.length co29)) (fun _ h_ => h_.1)))); (case side2 => exact (Kd.R_reads' HO286.out).2.1); (case side3 => refine (Kd.R_reads' (e := 44) (base := w.heap.size) (ok := fun k_ => True) (n := t293.length) (c := co29) ?_).2.2; exact (by (with_reducible repeat refine kl ?_); exact (Kd.R_mono (Kd.R_far (p := ⟨gb297, 1, none⟩) (Kd.R_far (p := ⟨gb297, 0, none⟩) (Kd.R_types HO295.out BK297.out (by decide)) (fun _ hk => hk.2) (.int .i64 t292)) (fun _ hk => hk.2) (.slice Ao29 t293.length co29)) (fun _ h_ => h_.1)))); (case side4 => exact (Kd.R_reads' HO295.out).2.1); rintro e w31 ⟨rfl, hb⟩; replace HO286 := Aside0.mk (Kd.R_below (by (with_reducible repeat refine kl ?_); exact (Kd.R_mono (Kd.R_far (p := ⟨gb297, 1, none⟩) (Kd.R_far (p := ⟨gb297, 0, none⟩) (Kd.R_types HO286.out BK297.out (by decide)) (fun _ hk => hk.2) (.int .i64 t292)) (fun _ hk => hk.2) (.slice Ao29 t293.length co29)) (fun _ h_ => h_.1))) hb); replace HO295 := Aside0.mk (Kd.R_below (by (with_reducible repeat refine kl ?_); exact (Kd.R_mono (Kd.R_far (p := ⟨gb297, 1, none⟩) (Kd.R_far (p := ⟨gb297, 0, none⟩) (Kd.R_types HO295.out BK297.out (by decide)) (fun _ hk => hk.2) (.int .i64 t292)) (fun _ hk => hk.2) (.slice Ao29 t293.length co29)) (fun _ h_ => h_.1))) hb); replace BK280 := Aside0.mk (blk_below (g := gb280) (o := .cells #[.int .i64 a2_0, .int .u64 a2_1, .int .u64 a2_2] 27 (0, 0)) (by (with_reducible repeat refine bl ?_); refine blk_far ?_ NB280_297.out _; (with_reducible repeat refine bl ?_); refine blk_far ?_ NB280_297.out _; (with_reducible repeat refine bl ?_); exact BK280.out) hb); replace BK288 := Aside0.mk (blk_below (g := gb288) (o := .cells #[.int .i64 t282, .int .i64 t283, .slice Ao21 t284.length co21] 31 (0, 0)) (by (with_reducible repeat refine bl ?_); refine blk_far ?_ NB288_297.out _; (with_reducible repeat refine bl ?_); refine blk_far ?_ NB288_297.out _; (with_reducible repeat refine bl ?_); exact BK288.out) hb); replace BK297 := Aside0.mk (blk_below (g := gb297) (o := .cells #[.int .i64 t292, .slice Ao29 t293.length co29] 37 (0, 0)) (by (with_reducible repeat refine bl ?_); refine blk_put (cs := #[.int .i64 t292, .slice none 0 0]) ?_ 1 _ rfl; (with_reducible repeat refine bl ?_); refine blk_put (cs := #[.int .i64 0, .slice none 0 0]) ?_ 0 _ rfl; (with_reducible repeat refine bl ?_); exact BK297.out) hb); replace HB := bh HB hb; (try clear hb); (try clear hb2); (try clear hk); (try clear hi); obtain ⟨hcz32_0, hcz32_1, hcz32_2⟩ := zc3 BK288; obtain ⟨hfz32_0, hfz32_1, hfz32_2⟩ := zf3 BK288; obtain ⟨hcz33_0, hcz33_1, hcz33_2⟩ := zc3 BK280; obtain ⟨hfz33_0, hfz33_1, hfz33_2⟩ := zf3 BK280) | (go_at_call 13; (with_reducible refine (pack_Vec_Get.calls k t282 t283 _ _ t284 a2_0 t299 t300 t301 _ ?side1 ?side2 A14.out).mono ?_); (case side1 => repeat (first | exact (Kd.R_reads' HO286.out).2.2 | (with_reducible refine Kd.C_alloc ?_ _) | (with_reducible refine Kd.C_drewN ?_ _) | (with_reducible refine Kd.C_drew ?_))); (case side2 => exact (Kd.R_reads' HO286.out).2.1); rintro e w34 ⟨rfl, hb⟩; replace HO286 := kb HO286 hb; replace HO295 := kb HO295 hb; replace BK280 := bb BK280 hb; replace BK288 := bb BK288 hb; replace BK297 := bb BK297 hb; replace HB := bh HB hb; (try clear hb); (try clear hb2); (try clear hk); (try clear hi)) | ((with_reducible refine gate_dst (N := 11) rfl ?_); (try (refine gate_guard (by rfl) ?_; dsimp only)); refine box_event ?hg (N := 11) ?hd (cs := #[.int .u64 0, .int .u64 0]) (t := 25) ?hr ?_; (case hd => rfl); (case hg => rfl); (case hr => first | (go_simp; done) | (go_simp; rfl)); intro gb302 hg w35 hbox hb; have BK302 := Aside0.mk hbox; have GW302 := ge hg HB; have GE302 := ge hg HB; have NB280_302 := nl hg BK280; have NB302_280 := ng hg BK280; have NB288_302 := nl hg BK288; have NB302_288 := ng hg BK288; have NB297_302 := nl hg BK297; have NB302_297 := ng hg BK297; replace HO286 := kb HO286 hb; replace HO295 := kb HO295 hb; replace BK280 := bb BK280 hb; replace BK288 := bb BK288 hb; replace BK297 := bb BK297 hb; replace HB := bh HB hb; clear hb hbox hg; have hnb36 := NB302_280.out; have hnc36 := NB280_302.out; have hnb37 := NB302_288.out; have hnc37 := NB288_302.out; have hnb38 := NB302_297.out; have hnc38 := NB297_302.out; obtain ⟨hcz39_0, hcz39_1⟩ := zc2 BK302; obtain ⟨hfz39_0, hfz39_1⟩ := zf2 BK302)))
    (try simp only [Act.put, List.setIfInBounds_toArray, List.set_cons_zero, List.set_cons_succ])
    go_cut [84] (fun v84 wc => ∃ (kq : Nat) (x84_14 : Bool), v84 = .bool x84_14 ∧ Aside0 (steeplelaw03_PackMakes.j0 kq x84_14 a2_0 a2_1 a2_2 t282 t283 t284 t292 t293 = some r) ∧ Aside0 (kq ≤ k) ∧ Aside0 (Kd.R (Kd.int .u64) 23 wc w.heap.size (fun _ => True) (.slice Ao21 t284.length co21) t284) ∧ Aside0 (Kd.R k44 44 wc w.heap.size (fun _ => True) (.slice Ao29 t293.length co29) t293) ∧ Aside0 (wc.heap[gb280]? = some (.cells #[.int .i64 a2_0, .int .u64 a2_1, .int .u64 a2_2] 27 (0, 0))) ∧ Aside0 (wc.heap[gb288]? = some (.cells #[.int .i64 t282, .int .i64 t283, (.slice Ao21 t284.length co21)] 31 (0, 0))) ∧ Aside0 (wc.heap[gb297]? = some (.cells #[.int .i64 t292, (.slice Ao29 t293.length co29)] 37 (0, 0))) ∧ Aside0 (wc.heap[gb302]? = some (.cells #[.int .u64 t299, .int .u64 t300] 25 (0, 0))) ∧ Aside0 (Below w.heap.size w wc))
    case first =>
     have H := HC15.out
     clear HC15
     by_cases c40 : a2_0 ≥ 0
     ·rw [if_pos c40] at H
      have c40b0 : decide (0 ≤ a2_0) = true := decide_eq_true c40
      clear c40
      (first | rw [c40b0] | (simp only [i64_w, i32_w]; rw [c40b0]) | skip)
      by_cases c41 : (t301 != (decide (a2_0 < (t293.length : Int)))) = true
      ·rw [if_pos c41] at H
       exact absurd H (by simp)
      ·rw [if_neg c41] at H
       have c41b0 : (t301 != (decide (a2_0 < (t293.length : Int)))) = false := by simpa using c41
       (try (have c41b1 : decide (t301 = (decide (a2_0 < (t293.length : Int)))) = true := by simpa using c41))
       (try (have c41b2 : (t301 == (decide (a2_0 < (t293.length : Int)))) = true := by simpa using c41))
       clear c41
       by_cases c42 : t301 = true
       ·subst c42
        have H1 : (if 0 ≤ a2_0 then (if a2_0 < (t293.length : Int) then (if (!(t299 == ((rd_T44 t293 a2_0).f0)) || (!(t300 == ((rd_T44 t293 a2_0).f1)))) = true then (none) else (steeplelaw03_PackMakes.j0 k false a2_0 a2_1 a2_2 t282 t283 t284 t292 t293)) else (none)) else (none)) = some r := by rw [if_pos rfl] at H; exact H
        clear H
        have H := H1
        clear H1
        by_cases c43 : 0 ≤ a2_0
        ·rw [if_pos c43] at H
         have c43b0 : decide (0 ≤ a2_0) = true := decide_eq_true c43
         clear c43
         by_cases c44 : a2_0 < (t293.length : Int)
         ·rw [if_pos c44] at H
          have c44b0 : decide (a2_0 < (t293.length : Int)) = true := decide_eq_true c44
          clear c44
          by_cases c45 : (!(t299 == ((rd_T44 t293 a2_0).f0)) || (!(t300 == ((rd_T44 t293 a2_0).f1)))) = true
          ·rw [if_pos c45] at H
           exact absurd H (by simp)
          ·rw [if_neg c45] at H
           have c45b0 : (!(t299 == ((rd_T44 t293 a2_0).f0)) || (!(t300 == ((rd_T44 t293 a2_0).f1)))) = false := by simpa using c45
           clear c45
           have H' := Aside0.mk H
           clear H
           have hnb46 := NB280_288.out
           have hnc46 := NB288_280.out
           have hnb47 := NB280_297.out
           have hnc47 := NB297_280.out
           have hnb48 := NB280_302.out
           have hnc48 := NB302_280.out
           obtain ⟨hcz49_0, hcz49_1, hcz49_2⟩ := zc3 BK280
           obtain ⟨hfz49_0, hfz49_1, hfz49_2⟩ := zf3 BK280
           have hnb50 := NB297_288.out
           have hnc50 := NB288_297.out
           have hnb51 := NB297_302.out
           have hnc51 := NB302_297.out
           obtain ⟨hcz52_0, hcz52_1⟩ := zc2 BK297
           obtain ⟨hfz52_0, hfz52_1⟩ := zf2 BK297
           have hnb53 := NB302_288.out
           have hnc53 := NB288_302.out
           obtain ⟨hcz54_0, hcz54_1⟩ := zc2 BK302
           obtain ⟨hfz54_0, hfz54_1⟩ := zf2 BK302
           have p303 : 0 ≤ (a2_0 : Int) := of_decide_eq_true (by first | (with_reducible assumption) | assumption)
           have q303 : a2_0 < (t293.length : Int) := of_decide_eq_true (by first | (with_reducible assumption) | assumption)
           (try (obtain ⟨Ap_, cp_, ep_⟩ := Kd.R_slice HO295.out; subst ep_))
           obtain ⟨ad303, e303, hx303_0, hx303_1⟩ := at_T44 (Kd.R_reads' HO295.out).2.2 a2_0 p303 q303
           cases e303
           have hn303_0 : ad303.block ≠ gb302 := Kd.own_blk (Kd.R_ne HO295.out BK302.out (by decide))
           have hn303_1 : ad303.block ≠ gb302 := Kd.own_blk (Kd.R_ne HO295.out BK302.out (by decide))
           replace hx303_0 := (cell_far (p := ⟨gb302, 0, none⟩) (by first | (rw [add_block]; exact hn303_0) | (show (Addr.add _ _).block ≠ _; rw [add_block]; exact hn303_0) | exact hn303_0) (.int .u64 t299)).trans hx303_0
           replace hx303_1 := (cell_far (p := ⟨gb302, 0, none⟩) (by first | (rw [add_block]; exact hn303_0) | (show (Addr.add _ _).block ≠ _; rw [add_block]; exact hn303_0) | exact hn303_0) (.int .u64 t299)).trans hx303_1
           replace hx303_0 := (cell_far (p := ⟨gb302, 1, none⟩) (by first | (rw [add_block]; exact hn303_1) | (show (Addr.add _ _).block ≠ _; rw [add_block]; exact hn303_1) | exact hn303_1) (.int .u64 t300)).trans hx303_0
           replace hx303_1 := (cell_far (p := ⟨gb302, 1, none⟩) (by first | (rw [add_block]; exact hn303_1) | (show (Addr.add _ _).block ≠ _; rw [add_block]; exact hn303_1) | exact hn303_1) (.int .u64 t300)).trans hx303_1
           (try have hy303_0 := fun (n_ : Nat) => (show ((((w35.drewN n_).setCell ⟨gb302, 0, none⟩ (.int .u64 t299)).setCell ⟨gb302, 1, none⟩ (.int .u64 t300))).cell? _ = some _ from hx303_0))
           (try have hy303_1 := fun (n_ : Nat) => (show ((((w35.drewN n_).setCell ⟨gb302, 0, none⟩ (.int .u64 t299)).setCell ⟨gb302, 1, none⟩ (.int .u64 t300))).cell? _ = some _ from hx303_1))
           clear hn303_0
           clear hn303_1
           replace p303 := eq_true p303
           replace q303 := eq_true q303
           go_wp2
           repeat (go_quiet (fail); try go_wp2)
           go_meet
           case rel => exact ⟨_, (false), (by first | rfl | (simp; done) | (simp [*]; done)), H', ⟨by first | omega | exact Nat.le_refl _⟩, ⟨by (with_reducible repeat refine kl ?_); exact Kd.R_mono (Kd.R_far (p := ⟨gb302, 1, none⟩) (Kd.R_far (p := ⟨gb302, 0, none⟩) (Kd.R_types HO286.out BK302.out (by decide)) (fun _ hk => hk.2) (.int .u64 t299)) (fun _ hk => hk.2) (.int .u64 t300)) (fun _ hk => trivial)⟩, ⟨by (with_reducible repeat refine kl ?_); exact Kd.R_mono (Kd.R_far (p := ⟨gb302, 1, none⟩) (Kd.R_far (p := ⟨gb302, 0, none⟩) (Kd.R_types HO295.out BK302.out (by decide)) (fun _ hk => hk.2) (.int .u64 t299)) (fun _ hk => hk.2) (.int .u64 t300)) (fun _ hk => trivial)⟩, ⟨by (with_reducible repeat refine bl ?_); refine blk_far ?_ NB280_302.out _; (with_reducible repeat refine bl ?_); refine blk_far ?_ NB280_302.out _; (with_reducible repeat refine bl ?_); exact BK280.out⟩, ⟨by (with_reducible repeat refine bl ?_); refine blk_far ?_ NB288_302.out _; (with_reducible repeat refine bl ?_); refine blk_far ?_ NB288_302.out _; (with_reducible repeat refine bl ?_); exact BK288.out⟩, ⟨by (with_reducible repeat refine bl ?_); refine blk_far ?_ NB297_302.out _; (with_reducible repeat refine bl ?_); refine blk_far ?_ NB297_302.out _; (with_reducible repeat refine bl ?_); exact BK297.out⟩, ⟨by (with_reducible repeat refine bl ?_); refine blk_put (cs := #[.int .u64 t299, .int .u64 0]) ?_ 1 _ rfl; (with_reducible repeat refine bl ?_); refine blk_put (cs := #[.int .u64 0, .int .u64 0]) ?_ 0 _ rfl; (with_reducible repeat refine bl ?_); exact BK302.out⟩, ⟨bq HB.out⟩⟩
         ·rw [if_neg c44] at H
          exact absurd H (by simp)
        ·rw [if_neg c43] at H
         exact absurd H (by simp)
       ·replace c42 := Bool.eq_false_iff.mpr c42
        subst c42
        have H1 : (steeplelaw03_PackMakes.j0 k (!(t299 == 0) || (!(t300 == 0))) a2_0 a2_1 a2_2 t282 t283 t284 t292 t293) = some r := by rw [if_neg (show ¬ (false = true) by decide)] at H; exact H
        clear H
        have H := H1
        clear H1
        have H' := Aside0.mk H
        clear H
        have hnb55 := NB280_288.out
        have hnc55 := NB288_280.out
        have hnb56 := NB280_297.out
        have hnc56 := NB297_280.out
        have hnb57 := NB280_302.out
        have hnc57 := NB302_280.out
        obtain ⟨hcz58_0, hcz58_1, hcz58_2⟩ := zc3 BK280
        obtain ⟨hfz58_0, hfz58_1, hfz58_2⟩ := zf3 BK280
        have hnb59 := NB297_288.out
        have hnc59 := NB288_297.out
        have hnb60 := NB297_302.out
        have hnc60 := NB302_297.out
        obtain ⟨hcz61_0, hcz61_1⟩ := zc2 BK297
        obtain ⟨hfz61_0, hfz61_1⟩ := zf2 BK297
        have hnb62 := NB302_288.out
        have hnc62 := NB288_302.out
        obtain ⟨hcz63_0, hcz63_1⟩ := zc2 BK302
        obtain ⟨hfz63_0, hfz63_1⟩ := zf2 BK302
        go_wp2
        repeat (go_quiet (fail); try go_wp2)
        go_meet
        case rel => exact ⟨_, ((!(t299 == 0) || (!(t300 == 0)))), (by first | rfl | (simp; done) | (simp [*]; done)), H', ⟨by first | omega | exact Nat.le_refl _⟩, ⟨by (with_reducible repeat refine kl ?_); exact Kd.R_mono (Kd.R_far (p := ⟨gb302, 1, none⟩) (Kd.R_far (p := ⟨gb302, 0, none⟩) (Kd.R_types HO286.out BK302.out (by decide)) (fun _ hk => hk.2) (.int .u64 t299)) (fun _ hk => hk.2) (.int .u64 t300)) (fun _ hk => trivial)⟩, ⟨by (with_reducible repeat refine kl ?_); exact Kd.R_mono (Kd.R_far (p := ⟨gb302, 1, none⟩) (Kd.R_far (p := ⟨gb302, 0, none⟩) (Kd.R_types HO295.out BK302.out (by decide)) (fun _ hk => hk.2) (.int .u64 t299)) (fun _ hk => hk.2) (.int .u64 t300)) (fun _ hk => trivial)⟩, ⟨by (with_reducible repeat refine bl ?_); refine blk_far ?_ NB280_302.out _; (with_reducible repeat refine bl ?_); refine blk_far ?_ NB280_302.out _; (with_reducible repeat refine bl ?_); exact BK280.out⟩, ⟨by (with_reducible repeat refine bl ?_); refine blk_far ?_ NB288_302.out _; (with_reducible repeat refine bl ?_); refine blk_far ?_ NB288_302.out _; (with_reducible repeat refine bl ?_); exact BK288.out⟩, ⟨by (with_reducible repeat refine bl ?_); refine blk_far ?_ NB297_302.out _; (with_reducible repeat refine bl ?_); refine blk_far ?_ NB297_302.out _; (with_reducible repeat refine bl ?_); exact BK297.out⟩, ⟨by (with_reducible repeat refine bl ?_); refine blk_put (cs := #[.int .u64 t299, .int .u64 0]) ?_ 1 _ rfl; (with_reducible repeat refine bl ?_); refine blk_put (cs := #[.int .u64 0, .int .u64 0]) ?_ 0 _ rfl; (with_reducible repeat refine bl ?_); exact BK302.out⟩, ⟨bq HB.out⟩⟩
     ·rw [if_neg c40] at H
      have c40b0 : decide (0 ≤ a2_0) = false := decide_eq_false c40
      clear c40
      (first | rw [c40b0] | (simp only [i64_w, i32_w]; rw [c40b0]) | skip)
      by_cases c64 : (t301 != false) = true
      ·rw [if_pos c64] at H
       exact absurd H (by simp)
      ·rw [if_neg c64] at H
       have c64b0 : (t301 != false) = false := by simpa using c64
       (try (have c64b1 : decide (t301 = false) = true := by simpa using c64))
       (try (have c64b2 : (t301 == false) = true := by simpa using c64))
       clear c64
       by_cases c65 : t301 = true
       ·subst c65
        have H1 : (if 0 ≤ a2_0 then (if a2_0 < (t293.length : Int) then (if (!(t299 == ((rd_T44 t293 a2_0).f0)) || (!(t300 == ((rd_T44 t293 a2_0).f1)))) = true then (none) else (steeplelaw03_PackMakes.j0 k false a2_0 a2_1 a2_2 t282 t283 t284 t292 t293)) else (none)) else (none)) = some r := by rw [if_pos rfl] at H; exact H
        clear H
        have H := H1
        clear H1
        by_cases c66 : 0 ≤ a2_0
        ·rw [if_pos c66] at H
         have c66b0 : decide (0 ≤ a2_0) = true := decide_eq_true c66
         clear c66
         by_cases c67 : a2_0 < (t293.length : Int)
         ·rw [if_pos c67] at H
          have c67b0 : decide (a2_0 < (t293.length : Int)) = true := decide_eq_true c67
          clear c67
          by_cases c68 : (!(t299 == ((rd_T44 t293 a2_0).f0)) || (!(t300 == ((rd_T44 t293 a2_0).f1)))) = true
          ·rw [if_pos c68] at H
           exact absurd H (by simp)
          ·rw [if_neg c68] at H
           have c68b0 : (!(t299 == ((rd_T44 t293 a2_0).f0)) || (!(t300 == ((rd_T44 t293 a2_0).f1)))) = false := by simpa using c68
           clear c68
           have H' := Aside0.mk H
           clear H
           have hnb69 := NB280_288.out
           have hnc69 := NB288_280.out
           have hnb70 := NB280_297.out
           have hnc70 := NB297_280.out
           have hnb71 := NB280_302.out
           have hnc71 := NB302_280.out
           obtain ⟨hcz72_0, hcz72_1, hcz72_2⟩ := zc3 BK280
           obtain ⟨hfz72_0, hfz72_1, hfz72_2⟩ := zf3 BK280
           have hnb73 := NB302_288.out
           have hnc73 := NB288_302.out
           have hnb74 := NB302_297.out
           have hnc74 := NB297_302.out
           obtain ⟨hcz75_0, hcz75_1⟩ := zc2 BK302
           obtain ⟨hfz75_0, hfz75_1⟩ := zf2 BK302
           have hnb76 := NB297_288.out
           have hnc76 := NB288_297.out
           obtain ⟨hcz77_0, hcz77_1⟩ := zc2 BK297
           obtain ⟨hfz77_0, hfz77_1⟩ := zf2 BK297
           have p304 : 0 ≤ (a2_0 : Int) := of_decide_eq_true (by first | (with_reducible assumption) | assumption)
           have q304 : a2_0 < (t293.length : Int) := of_decide_eq_true (by first | (with_reducible assumption) | assumption)
           (try (obtain ⟨Ap_, cp_, ep_⟩ := Kd.R_slice HO295.out; subst ep_))
           obtain ⟨ad304, e304, hx304_0, hx304_1⟩ := at_T44 (Kd.R_reads' HO295.out).2.2 a2_0 p304 q304
           cases e304
           have hn304_0 : ad304.block ≠ gb302 := Kd.own_blk (Kd.R_ne HO295.out BK302.out (by decide))
           have hn304_1 : ad304.block ≠ gb302 := Kd.own_blk (Kd.R_ne HO295.out BK302.out (by decide))
           replace hx304_0 := (cell_far (p := ⟨gb302, 0, none⟩) (by first | (rw [add_block]; exact hn304_0) | (show (Addr.add _ _).block ≠ _; rw [add_block]; exact hn304_0) | exact hn304_0) (.int .u64 t299)).trans hx304_0
           replace hx304_1 := (cell_far (p := ⟨gb302, 0, none⟩) (by first | (rw [add_block]; exact hn304_0) | (show (Addr.add _ _).block ≠ _; rw [add_block]; exact hn304_0) | exact hn304_0) (.int .u64 t299)).trans hx304_1
           replace hx304_0 := (cell_far (p := ⟨gb302, 1, none⟩) (by first | (rw [add_block]; exact hn304_1) | (show (Addr.add _ _).block ≠ _; rw [add_block]; exact hn304_1) | exact hn304_1) (.int .u64 t300)).trans hx304_0
           replace hx304_1 := (cell_far (p := ⟨gb302, 1, none⟩) (by first | (rw [add_block]; exact hn304_1) | (show (Addr.add _ _).block ≠ _; rw [add_block]; exact hn304_1) | exact hn304_1) (.int .u64 t300)).trans hx304_1
           (try have hy304_0 := fun (n_ : Nat) => (show ((((w35.drewN n_).setCell ⟨gb302, 0, none⟩ (.int .u64 t299)).setCell ⟨gb302, 1, none⟩ (.int .u64 t300))).cell? _ = some _ from hx304_0))
           (try have hy304_1 := fun (n_ : Nat) => (show ((((w35.drewN n_).setCell ⟨gb302, 0, none⟩ (.int .u64 t299)).setCell ⟨gb302, 1, none⟩ (.int .u64 t300))).cell? _ = some _ from hx304_1))
           clear hn304_0
           clear hn304_1
           replace p304 := eq_true p304
           replace q304 := eq_true q304
           go_wp2
           repeat (go_quiet (fail); try go_wp2)
           go_meet
           case rel => exact ⟨_, (false), (by first | rfl | (simp; done) | (simp [*]; done)), H', ⟨by first | omega | exact Nat.le_refl _⟩, ⟨by (with_reducible repeat refine kl ?_); exact Kd.R_mono (Kd.R_far (p := ⟨gb302, 1, none⟩) (Kd.R_far (p := ⟨gb302, 0, none⟩) (Kd.R_types HO286.out BK302.out (by decide)) (fun _ hk => hk.2) (.int .u64 t299)) (fun _ hk => hk.2) (.int .u64 t300)) (fun _ hk => trivial)⟩, ⟨by (with_reducible repeat refine kl ?_); exact Kd.R_mono (Kd.R_far (p := ⟨gb302, 1, none⟩) (Kd.R_far (p := ⟨gb302, 0, none⟩) (Kd.R_types HO295.out BK302.out (by decide)) (fun _ hk => hk.2) (.int .u64 t299)) (fun _ hk => hk.2) (.int .u64 t300)) (fun _ hk => trivial)⟩, ⟨by (with_reducible repeat refine bl ?_); refine blk_far ?_ NB280_302.out _; (with_reducible repeat refine bl ?_); refine blk_far ?_ NB280_302.out _; (with_reducible repeat refine bl ?_); exact BK280.out⟩, ⟨by (with_reducible repeat refine bl ?_); refine blk_far ?_ NB288_302.out _; (with_reducible repeat refine bl ?_); refine blk_far ?_ NB288_302.out _; (with_reducible repeat refine bl ?_); exact BK288.out⟩, ⟨by (with_reducible repeat refine bl ?_); refine blk_far ?_ NB297_302.out _; (with_reducible repeat refine bl ?_); refine blk_far ?_ NB297_302.out _; (with_reducible repeat refine bl ?_); exact BK297.out⟩, ⟨by (with_reducible repeat refine bl ?_); refine blk_put (cs := #[.int .u64 t299, .int .u64 0]) ?_ 1 _ rfl; (with_reducible repeat refine bl ?_); refine blk_put (cs := #[.int .u64 0, .int .u64 0]) ?_ 0 _ rfl; (with_reducible repeat refine bl ?_); exact BK302.out⟩, ⟨bq HB.out⟩⟩
         ·rw [if_neg c67] at H
          exact absurd H (by simp)
        ·rw [if_neg c66] at H
         exact absurd H (by simp)
       ·replace c65 := Bool.eq_false_iff.mpr c65
        subst c65
        have H1 : (steeplelaw03_PackMakes.j0 k (!(t299 == 0) || (!(t300 == 0))) a2_0 a2_1 a2_2 t282 t283 t284 t292 t293) = some r := by rw [if_neg (show ¬ (false = true) by decide)] at H; exact H
        clear H
        have H := H1
        clear H1
        have H' := Aside0.mk H
        clear H
        have hnb78 := NB280_288.out
        have hnc78 := NB288_280.out
        have hnb79 := NB280_297.out
        have hnc79 := NB297_280.out
        have hnb80 := NB280_302.out
        have hnc80 := NB302_280.out
        obtain ⟨hcz81_0, hcz81_1, hcz81_2⟩ := zc3 BK280
        obtain ⟨hfz81_0, hfz81_1, hfz81_2⟩ := zf3 BK280
        have hnb82 := NB302_288.out
        have hnc82 := NB288_302.out
        have hnb83 := NB302_297.out
        have hnc83 := NB297_302.out
        obtain ⟨hcz84_0, hcz84_1⟩ := zc2 BK302
        obtain ⟨hfz84_0, hfz84_1⟩ := zf2 BK302
        go_wp2
        repeat (go_quiet (fail); try go_wp2)
        go_meet
        case rel => exact ⟨_, ((!(t299 == 0) || (!(t300 == 0)))), (by first | rfl | (simp; done) | (simp [*]; done)), H', ⟨by first | omega | exact Nat.le_refl _⟩, ⟨by (with_reducible repeat refine kl ?_); exact Kd.R_mono (Kd.R_far (p := ⟨gb302, 1, none⟩) (Kd.R_far (p := ⟨gb302, 0, none⟩) (Kd.R_types HO286.out BK302.out (by decide)) (fun _ hk => hk.2) (.int .u64 t299)) (fun _ hk => hk.2) (.int .u64 t300)) (fun _ hk => trivial)⟩, ⟨by (with_reducible repeat refine kl ?_); exact Kd.R_mono (Kd.R_far (p := ⟨gb302, 1, none⟩) (Kd.R_far (p := ⟨gb302, 0, none⟩) (Kd.R_types HO295.out BK302.out (by decide)) (fun _ hk => hk.2) (.int .u64 t299)) (fun _ hk => hk.2) (.int .u64 t300)) (fun _ hk => trivial)⟩, ⟨by (with_reducible repeat refine bl ?_); refine blk_far ?_ NB280_302.out _; (with_reducible repeat refine bl ?_); refine blk_far ?_ NB280_302.out _; (with_reducible repeat refine bl ?_); exact BK280.out⟩, ⟨by (with_reducible repeat refine bl ?_); refine blk_far ?_ NB288_302.out _; (with_reducible repeat refine bl ?_); refine blk_far ?_ NB288_302.out _; (with_reducible repeat refine bl ?_); exact BK288.out⟩, ⟨by (with_reducible repeat refine bl ?_); refine blk_far ?_ NB297_302.out _; (with_reducible repeat refine bl ?_); refine blk_far ?_ NB297_302.out _; (with_reducible repeat refine bl ?_); exact BK297.out⟩, ⟨by (with_reducible repeat refine bl ?_); refine blk_put (cs := #[.int .u64 t299, .int .u64 0]) ?_ 1 _ rfl; (with_reducible repeat refine bl ?_); refine blk_put (cs := #[.int .u64 0, .int .u64 0]) ?_ 0 _ rfl; (with_reducible repeat refine bl ?_); exact BK302.out⟩, ⟨bq HB.out⟩⟩
    case rest =>
     clear HC15
     try clear c1
     try clear c2
     try clear p2
     try clear c3
     try clear p3
     try clear q3
     try clear hx3
     try clear c4
     try clear c4b0
     try clear c4b1
     try clear c5
     try clear c6
     try clear c7
     try clear c8
     try clear c11
     try clear c11b0
     try clear c11b1
     try clear c13
     try clear c19
     try clear c26
     try clear c27
     try clear p30
     try clear q30
     try clear hx30
     try clear c36
     try clear c37
     try clear c38
     try clear c40
     try clear c40b0
     try clear c41
     try clear c41b0
     try clear c41b1
     try clear c41b2
     try clear c42
     try clear c43
     try clear c43b0
     try clear c44
     try clear c44b0
     try clear c45
     try clear c45b0
     try clear c46
     try clear c47
     try clear c48
     try clear c50
     try clear c51
     try clear c53
     try clear c55
     try clear c56
     try clear c57
     try clear c59
     try clear c60
     try clear c62
     try clear c64
     try clear c64b0
     try clear c64b1
     try clear c64b2
     try clear c65
     try clear c66
     try clear c66b0
     try clear c67
     try clear c67b0
     try clear c68
     try clear c68b0
     try clear c69
     try clear c70
     try clear c71
     try clear c73
     try clear c74
     try clear c76
     try clear c78
     try clear c79
     try clear c80
     try clear c82
     try clear c83
     try clear hcz20_0
     try clear hcz20_1
     try clear hcz20_2
     try clear hcz28_0
     try clear hcz28_1
     try clear hcz30_0
     try clear hcz30_1
     try clear hcz30_2
     try clear hcz32_0
     try clear hcz32_1
     try clear hcz32_2
     try clear hcz33_0
     try clear hcz33_1
     try clear hcz33_2
     try clear hcz39_0
     try clear hcz39_1
     try clear hcz49_0
     try clear hcz49_1
     try clear hcz49_2
     try clear hcz52_0
     try clear hcz52_1
     try clear hcz54_0
     try clear hcz54_1
     try clear hcz58_0
     try clear hcz58_1
     try clear hcz58_2
     try clear hcz61_0
     try clear hcz61_1
     try clear hcz63_0
     try clear hcz63_1
     try clear hcz72_0
     try clear hcz72_1
     try clear hcz72_2
     try clear hcz75_0
     try clear hcz75_1
     try clear hcz77_0
     try clear hcz77_1
     try clear hcz81_0
     try clear hcz81_1
     try clear hcz81_2
     try clear hcz84_0
     try clear hcz84_1
     try clear hfz20_0
     try clear hfz20_1
     try clear hfz20_2
     try clear hfz28_0
     try clear hfz28_1
     try clear hfz30_0
     try clear hfz30_1
     try clear hfz30_2
     try clear hfz32_0
     try clear hfz32_1
     try clear hfz32_2
     try clear hfz33_0
     try clear hfz33_1
     try clear hfz33_2
     try clear hfz39_0
     try clear hfz39_1
     try clear hfz49_0
     try clear hfz49_1
     try clear hfz49_2
     try clear hfz52_0
     try clear hfz52_1
     try clear hfz54_0
     try clear hfz54_1
     try clear hfz58_0
     try clear hfz58_1
     try clear hfz58_2
     try clear hfz61_0
     try clear hfz61_1
     try clear hfz63_0
     try clear hfz63_1
     try clear hfz72_0
     try clear hfz72_1
     try clear hfz72_2
     try clear hfz75_0
     try clear hfz75_1
     try clear hfz77_0
     try clear hfz77_1
     try clear hfz81_0
     try clear hfz81_1
     try clear hfz81_2
     try clear hfz84_0
     try clear hfz84_1
     try clear hx303_0
     try clear hx303_1
     try clear hx304_0
     try clear hx304_1
     try clear p303
     try clear p304
     try clear q303
     try clear q304
     obtain ⟨kq, x84_14, rfl, HA, HJ14, HO_289002, HO_298001, BK280, BK288, BK297, BK302, HB⟩ := hcut
     cases kq with
     | zero => exact absurd HA.out (by simp [steeplelaw03_PackMakes.j0])
     | succ kj14 =>
      have H := HA.out
      clear HA
      simp only [steeplelaw03_PackMakes.j0] at H
      by_cases c85 : x84_14 = true
      ·subst c85
       have H1 : (none) = some r := by rw [if_pos rfl] at H; exact H
       clear H
       have H := H1
       clear H1
       exact absurd H (by simp)
      ·replace c85 := Bool.eq_false_iff.mpr c85
       subst c85
       have H1 : ((pack_Vec_With.f kj14 t282 t283 t284 a2_0 a2_1 a2_2).bind fun bt305 => ((steepleref03_With.f kj14 t292 t293 a2_0 a2_1 a2_2).bind fun bt312 => ((steeplelaw03_awake.f kj14).bind fun t318 => (if t318 = true then (if bt305.2.2.2 = bt312.2.2 then ((steeplelaw03_same.f kj14 bt305.1 bt305.2.1 bt305.2.2.1 bt312.1 bt312.2.1).bind fun t319 => (if t319 = true then ((steeplelaw03_same.f kj14 t282 t283 t284 t292 t293).bind fun t320 => (some t320)) else (none))) else (none)) else (none))))) = some r := by rw [if_neg (show ¬ (false = true) by decide)] at H; exact H
       clear H
       have H := H1
       clear H1
       replace H := Option.bind_eq_some_iff.mp H
       obtain ⟨⟨t305, t306, t307, t310⟩, A860, H⟩ := H
       replace H : ((steepleref03_With.f kj14 t292 t293 a2_0 a2_1 a2_2).bind fun bt312 => ((steeplelaw03_awake.f kj14).bind fun t318 => (if t318 = true then (if t310 = bt312.2.2 then ((steeplelaw03_same.f kj14 t305 t306 t307 bt312.1 bt312.2.1).bind fun t319 => (if t319 = true then ((steeplelaw03_same.f kj14 t282 t283 t284 t292 t293).bind fun t320 => (some t320)) else (none))) else (none)) else (none)))) = some r := H
       have A86 := Aside0.mk A860
       clear A860
       replace H := Option.bind_eq_some_iff.mp H
       obtain ⟨⟨t312, t313, t316⟩, A870, H⟩ := H
       replace H : ((steeplelaw03_awake.f kj14).bind fun t318 => (if t318 = true then (if t310 = t316 then ((steeplelaw03_same.f kj14 t305 t306 t307 t312 t313).bind fun t319 => (if t319 = true then ((steeplelaw03_same.f kj14 t282 t283 t284 t292 t293).bind fun t320 => (some t320)) else (none))) else (none)) else (none))) = some r := H
       have A87 := Aside0.mk A870
       clear A870
       replace H := Option.bind_eq_some_iff.mp H
       obtain ⟨t318, A880, H⟩ := H
       replace H : (if t318 = true then (if t310 = t316 then ((steeplelaw03_same.f kj14 t305 t306 t307 t312 t313).bind fun t319 => (if t319 = true then ((steeplelaw03_same.f kj14 t282 t283 t284 t292 t293).bind fun t320 => (some t320)) else (none))) else (none)) else (none)) = some r := H
       have A88 := Aside0.mk A880
       clear A880
       by_cases c89 : t318 = true
       ·subst c89
        have H1 : (if t310 = t316 then ((steeplelaw03_same.f kj14 t305 t306 t307 t312 t313).bind fun t319 => (if t319 = true then ((steeplelaw03_same.f kj14 t282 t283 t284 t292 t293).bind fun t320 => (some t320)) else (none))) else (none)) = some r := by rw [if_pos rfl] at H; exact H
        clear H
        have H := H1
        clear H1
        by_cases c90 : t310 = t316
        ·rw [if_pos c90] at H
         have c90b0 : (t310 == t316) = true := beq_iff_eq.mpr c90
         have c90b1 : (t310 != t316) = false := bne_eq_false_iff_eq.mpr c90
         clear c90
         replace H := Option.bind_eq_some_iff.mp H
         obtain ⟨t319, A910, H⟩ := H
         replace H : (if t319 = true then ((steeplelaw03_same.f kj14 t282 t283 t284 t292 t293).bind fun t320 => (some t320)) else (none)) = some r := H
         have A91 := Aside0.mk A910
         clear A910
         by_cases c92 : t319 = true
         ·subst c92
          have H1 : ((steeplelaw03_same.f kj14 t282 t283 t284 t292 t293).bind fun t320 => (some t320)) = some r := by rw [if_pos rfl] at H; exact H
          clear H
          have H := H1
          clear H1
          replace H := Option.bind_eq_some_iff.mp H
          obtain ⟨t320, A930, H⟩ := H
          replace H : (some t320) = some r := H
          have A93 := Aside0.mk A930
          clear A930
          obtain rfl := Option.some.inj H
          have hnb94 := NB288_280.out
          have hnc94 := NB280_288.out
          have hnb95 := NB288_297.out
          have hnc95 := NB297_288.out
          have hnb96 := NB288_302.out
          have hnc96 := NB302_288.out
          obtain ⟨hcz97_0, hcz97_1, hcz97_2⟩ := zc3 BK288
          obtain ⟨hfz97_0, hfz97_1, hfz97_2⟩ := zf3 BK288
          have hnb98 := NB280_297.out
          have hnc98 := NB297_280.out
          have hnb99 := NB280_302.out
          have hnc99 := NB302_280.out
          obtain ⟨hcz100_0, hcz100_1, hcz100_2⟩ := zc3 BK280
          obtain ⟨hfz100_0, hfz100_1, hfz100_2⟩ := zf3 BK280
          go_wp2_with (first | (go_at_call 14; (with_reducible refine (pack_Vec_With.calls kj14 t282 t283 _ _ t284 a2_0 a2_1 a2_2 t305 t306 t307 t310 _ ?side1 ?side2 A86.out).mono ?_); (case side1 => repeat (first | exact (Kd.R_reads' HO_289002.out).2.2 | (with_reducible refine Kd.C_alloc ?_ _) | (with_reducible refine Kd.C_drewN ?_ _) | (with_reducible refine Kd.C_drew ?_))); (case side2 => exact (Kd.R_reads' HO_289002.out).2.1); rintro e w101 ⟨v308, rfl, ho0, hb⟩; have HO309 := Aside0.mk (Kd.R_lower (Kd.R_new' ho0 (Kd.R_lt (kr HO_289002.out))) (below_size (bq HB.out))); replace HO_289002 := Aside0.mk (Kd.R_elder' (kr HO_289002.out) (Kd.R_base ho0) hb); replace HO_298001 := kb HO_298001 hb; replace BK280 := bb BK280 hb; replace BK288 := bb BK288 hb; replace BK297 := bb BK297 hb; replace BK302 := bb BK302 hb; replace HB := bh HB hb; (try clear hb); (try clear hb2); (try clear hk); (try clear hi); (try clear ho0)) | ((with_reducible refine gate_dst (N := 13) rfl ?_); (try (refine gate_guard (by rfl) ?_; dsimp only)); refine box_event ?hg (N := 13) ?hd (cs := #[.int .i64 0, .int .i64 0, .slice none 0 0]) (t := 31) ?hr ?_; (case hd => rfl); (case hg => rfl); (case hr => first | (go_simp; done) | (go_simp; rfl)); intro gb311 hg w102 hbox hb; have BK311 := Aside0.mk hbox; have GW311 := ge hg HB; have GE311 := ge hg HB; have NB280_311 := nl hg BK280; have NB311_280 := ng hg BK280; have NB288_311 := nl hg BK288; have NB311_288 := ng hg BK288; have NB297_311 := nl hg BK297; have NB311_297 := ng hg BK297; have NB302_311 := nl hg BK302; have NB311_302 := ng hg BK302; replace HO_289002 := kb HO_289002 hb; replace HO_298001 := kb HO_298001 hb; replace HO309 := kb HO309 hb; replace BK280 := bb BK280 hb; replace BK288 := bb BK288 hb; replace BK297 := bb BK297 hb; replace BK302 := bb BK302 hb; replace HB := bh HB hb; clear hb hbox hg; have hnb103 := NB311_280.out; have hnc103 := NB280_311.out; have hnb104 := NB311_288.out; have hnc104 := NB288_311.out; have hnb105 := NB311_297.out; have hnc105 := NB297_311.out; have hnb106 := NB311_302.out; have hnc106 := NB302_311.out; obtain ⟨hcz107_0, hcz107_1, hcz107_2⟩ := zc3 BK311; obtain ⟨hfz107_0, hfz107_1, hfz107_2⟩ := zf3 BK311; obtain ⟨Ao108, co108, eo108⟩ := Kd.R_slice HO309.out; subst eo108; have hnb109 := NB297_302.out; have hnc109 := NB302_297.out; obtain ⟨hcz110_0, hcz110_1⟩ := zc2 BK297; obtain ⟨hfz110_0, hfz110_1⟩ := zf2 BK297; obtain ⟨hcz111_0, hcz111_1, hcz111_2⟩ := zc3 BK280; obtain ⟨hfz111_0, hfz111_1, hfz111_2⟩ := zf3 BK280) | (go_at_call 15; (with_reducible refine (steepleref03_With.calls kj14 t292 _ _ t293 a2_0 a2_1 a2_2 t312 t313 t316 _ ?side1 ?side2 A87.out).mono ?_); (case side1 => refine (Kd.R_reads' (e := 44) (base := w.heap.size) (ok := fun k_ => True) (n := t293.length) (c := co29) ?_).2.2; exact (by (with_reducible repeat refine kl ?_); exact (Kd.R_mono (Kd.R_far (p := ⟨gb311, 2, none⟩) (Kd.R_far (p := ⟨gb311, 1, none⟩) (Kd.R_far (p := ⟨gb311, 0, none⟩) (Kd.R_types HO_298001.out BK311.out (by decide)) (fun _ hk => hk.2) (.int .i64 t305)) (fun _ hk => hk.2) (.int .i64 t306)) (fun _ hk => hk.2) (.slice Ao108 t307.length co108)) (fun _ h_ => h_.1)))); (case side2 => exact (Kd.R_reads' HO_298001.out).2.1); rintro e w112 ⟨v314, rfl, ho0, hb⟩; have HO315 := Aside0.mk (Kd.R_lower (Kd.R_new' ho0 (Kd.R_lt (by (with_reducible repeat refine kl ?_); exact (Kd.R_mono (Kd.R_far (p := ⟨gb311, 2, none⟩) (Kd.R_far (p := ⟨gb311, 1, none⟩) (Kd.R_far (p := ⟨gb311, 0, none⟩) (Kd.R_types HO_298001.out BK311.out (by decide)) (fun _ hk => hk.2) (.int .i64 t305)) (fun _ hk => hk.2) (.int .i64 t306)) (fun _ hk => hk.2) (.slice Ao108 t307.length co108)) (fun _ h_ => h_.1))))) (below_size (bq HB.out))); replace HO_289002 := Aside0.mk (Kd.R_below (by (with_reducible repeat refine kl ?_); exact (Kd.R_mono (Kd.R_far (p := ⟨gb311, 2, none⟩) (Kd.R_far (p := ⟨gb311, 1, none⟩) (Kd.R_far (p := ⟨gb311, 0, none⟩) (Kd.R_types HO_289002.out BK311.out (by decide)) (fun _ hk => hk.2) (.int .i64 t305)) (fun _ hk => hk.2) (.int .i64 t306)) (fun _ hk => hk.2) (.slice Ao108 t307.length co108)) (fun _ h_ => h_.1))) hb); replace HO_298001 := Aside0.mk (Kd.R_elder' (by (with_reducible repeat refine kl ?_); exact (Kd.R_mono (Kd.R_far (p := ⟨gb311, 2, none⟩) (Kd.R_far (p := ⟨gb311, 1, none⟩) (Kd.R_far (p := ⟨gb311, 0, none⟩) (Kd.R_types HO_298001.out BK311.out (by decide)) (fun _ hk => hk.2) (.int .i64 t305)) (fun _ hk => hk.2) (.int .i64 t306)) (fun _ hk => hk.2) (.slice Ao108 t307.length co108)) (fun _ h_ => h_.1))) (Kd.R_base ho0) hb); replace HO309 := Aside0.mk (Kd.R_below (by (with_reducible repeat refine kl ?_); exact (Kd.R_mono (Kd.R_far (p := ⟨gb311, 2, none⟩) (Kd.R_far (p := ⟨gb311, 1, none⟩) (Kd.R_far (p := ⟨gb311, 0, none⟩) (Kd.R_types HO309.out BK311.out (by decide)) (fun _ hk => hk.2) (.int .i64 t305)) (fun _ hk => hk.2) (.int .i64 t306)) (fun _ hk => hk.2) (.slice Ao108 t307.length co108)) (fun _ h_ => h_.1))) hb); replace BK280 := Aside0.mk (blk_below (g := gb280) (o := .cells #[.int .i64 a2_0, .int .u64 a2_1, .int .u64 a2_2] 27 (0, 0)) (by (with_reducible repeat refine bl ?_); refine blk_far ?_ NB280_311.out _; (with_reducible repeat refine bl ?_); refine blk_far ?_ NB280_311.out _; (with_reducible repeat refine bl ?_); refine blk_far ?_ NB280_311.out _; (with_reducible repeat refine bl ?_); exact BK280.out) hb); replace BK288 := Aside0.mk (blk_below (g := gb288) (o := .cells #[.int .i64 t282, .int .i64 t283, .slice Ao21 t284.length co21] 31 (0, 0)) (by (with_reducible repeat refine bl ?_); refine blk_far ?_ NB288_311.out _; (with_reducible repeat refine bl ?_); refine blk_far ?_ NB288_311.out _; (with_reducible repeat refine bl ?_); refine blk_far ?_ NB288_311.out _; (with_reducible repeat refine bl ?_); exact BK288.out) hb); replace BK297 := Aside0.mk (blk_below (g := gb297) (o := .cells #[.int .i64 t292, .slice Ao29 t293.length co29] 37 (0, 0)) (by (with_reducible repeat refine bl ?_); refine blk_far ?_ NB297_311.out _; (with_reducible repeat refine bl ?_); refine blk_far ?_ NB297_311.out _; (with_reducible repeat refine bl ?_); refine blk_far ?_ NB297_311.out _; (with_reducible repeat refine bl ?_); exact BK297.out) hb); replace BK302 := Aside0.mk (blk_below (g := gb302) (o := .cells #[.int .u64 t299, .int .u64 t300] 25 (0, 0)) (by (with_reducible repeat refine bl ?_); refine blk_far ?_ NB302_311.out _; (with_reducible repeat refine bl ?_); refine blk_far ?_ NB302_311.out _; (with_reducible repeat refine bl ?_); refine blk_far ?_ NB302_311.out _; (with_reducible repeat refine bl ?_); exact BK302.out) hb); replace BK311 := Aside0.mk (blk_below (g := gb311) (o := .cells #[.int .i64 t305, .int .i64 t306, .slice Ao108 t307.length co108] 31 (0, 0)) (by (with_reducible repeat refine bl ?_); refine blk_put (cs := #[.int .i64 t305, .int .i64 t306, .slice none 0 0]) ?_ 2 _ rfl; (with_reducible repeat refine bl ?_); refine blk_put (cs := #[.int .i64 t305, .int .i64 0, .slice none 0 0]) ?_ 1 _ rfl; (with_reducible repeat refine bl ?_); refine blk_put (cs := #[.int .i64 0, .int .i64 0, .slice none 0 0]) ?_ 0 _ rfl; (with_reducible repeat refine bl ?_); exact BK311.out) hb); replace HB := bh HB hb; (try clear hb); (try clear hb2); (try clear hk); (try clear hi); (try clear ho0)) | ((with_reducible refine gate_dst (N := 15) rfl ?_); (try (refine gate_guard (by rfl) ?_; dsimp only)); refine box_event ?hg (N := 15) ?hd (cs := #[.int .i64 0, .slice none 0 0]) (t := 37) ?hr ?_; (case hd => rfl); (case hg => rfl); (case hr => first | (go_simp; done) | (go_simp; rfl)); intro gb317 hg w113 hbox hb; have BK317 := Aside0.mk hbox; have GW317 := ge hg HB; have GE317 := ge hg HB; have NB280_317 := nl hg BK280; have NB317_280 := ng hg BK280; have NB288_317 := nl hg BK288; have NB317_288 := ng hg BK288; have NB297_317 := nl hg BK297; have NB317_297 := ng hg BK297; have NB302_317 := nl hg BK302; have NB317_302 := ng hg BK302; have NB311_317 := nl hg BK311; have NB317_311 := ng hg BK311; replace HO_289002 := kb HO_289002 hb; replace HO_298001 := kb HO_298001 hb; replace HO309 := kb HO309 hb; replace HO315 := kb HO315 hb; replace BK280 := bb BK280 hb; replace BK288 := bb BK288 hb; replace BK297 := bb BK297 hb; replace BK302 := bb BK302 hb; replace BK311 := bb BK311 hb; replace HB := bh HB hb; clear hb hbox hg; have hnb114 := NB317_280.out; have hnc114 := NB280_317.out; have hnb115 := NB317_288.out; have hnc115 := NB288_317.out; have hnb116 := NB317_297.out; have hnc116 := NB297_317.out; have hnb117 := NB317_302.out; have hnc117 := NB302_317.out; have hnb118 := NB317_311.out; have hnc118 := NB311_317.out; obtain ⟨hcz119_0, hcz119_1⟩ := zc2 BK317; obtain ⟨hfz119_0, hfz119_1⟩ := zf2 BK317; obtain ⟨Ao120, co120, eo120⟩ := Kd.R_slice HO315.out; subst eo120) | (go_at_call 8; (with_reducible refine (steeplelaw03_awake.calls kj14  true _ A88.out).mono ?_); rintro e w121 ⟨rfl, hb⟩; replace HO_289002 := Aside0.mk (Kd.R_below (by (with_reducible repeat refine kl ?_); exact (Kd.R_mono (Kd.R_far (p := ⟨gb317, 1, none⟩) (Kd.R_far (p := ⟨gb317, 0, none⟩) (Kd.R_types HO_289002.out BK317.out (by decide)) (fun _ hk => hk.2) (.int .i64 t312)) (fun _ hk => hk.2) (.slice Ao120 t313.length co120)) (fun _ h_ => h_.1))) hb); replace HO_298001 := Aside0.mk (Kd.R_below (by (with_reducible repeat refine kl ?_); exact (Kd.R_mono (Kd.R_far (p := ⟨gb317, 1, none⟩) (Kd.R_far (p := ⟨gb317, 0, none⟩) (Kd.R_types HO_298001.out BK317.out (by decide)) (fun _ hk => hk.2) (.int .i64 t312)) (fun _ hk => hk.2) (.slice Ao120 t313.length co120)) (fun _ h_ => h_.1))) hb); replace HO309 := Aside0.mk (Kd.R_below (by (with_reducible repeat refine kl ?_); exact (Kd.R_mono (Kd.R_far (p := ⟨gb317, 1, none⟩) (Kd.R_far (p := ⟨gb317, 0, none⟩) (Kd.R_types HO309.out BK317.out (by decide)) (fun _ hk => hk.2) (.int .i64 t312)) (fun _ hk => hk.2) (.slice Ao120 t313.length co120)) (fun _ h_ => h_.1))) hb); replace HO315 := Aside0.mk (Kd.R_below (by (with_reducible repeat refine kl ?_); exact (Kd.R_mono (Kd.R_far (p := ⟨gb317, 1, none⟩) (Kd.R_far (p := ⟨gb317, 0, none⟩) (Kd.R_types HO315.out BK317.out (by decide)) (fun _ hk => hk.2) (.int .i64 t312)) (fun _ hk => hk.2) (.slice Ao120 t313.length co120)) (fun _ h_ => h_.1))) hb); replace BK280 := Aside0.mk (blk_below (g := gb280) (o := .cells #[.int .i64 a2_0, .int .u64 a2_1, .int .u64 a2_2] 27 (0, 0)) (by (with_reducible repeat refine bl ?_); refine blk_far ?_ NB280_317.out _; (with_reducible repeat refine bl ?_); refine blk_far ?_ NB280_317.out _; (with_reducible repeat refine bl ?_); exact BK280.out) hb); replace BK288 := Aside0.mk (blk_below (g := gb288) (o := .cells #[.int .i64 t282, .int .i64 t283, .slice Ao21 t284.length co21] 31 (0, 0)) (by (with_reducible repeat refine bl ?_); refine blk_far ?_ NB288_317.out _; (with_reducible repeat refine bl ?_); refine blk_far ?_ NB288_317.out _; (with_reducible repeat refine bl ?_); exact BK288.out) hb); replace BK297 := Aside0.mk (blk_below (g := gb297) (o := .cells #[.int .i64 t292, .slice Ao29 t293.length co29] 37 (0, 0)) (by (with_reducible repeat refine bl ?_); refine blk_far ?_ NB297_317.out _; (with_reducible repeat refine bl ?_); refine blk_far ?_ NB297_317.out _; (with_reducible repeat refine bl ?_); exact BK297.out) hb); replace BK302 := Aside0.mk (blk_below (g := gb302) (o := .cells #[.int .u64 t299, .int .u64 t300] 25 (0, 0)) (by (with_reducible repeat refine bl ?_); refine blk_far ?_ NB302_317.out _; (with_reducible repeat refine bl ?_); refine blk_far ?_ NB302_317.out _; (with_reducible repeat refine bl ?_); exact BK302.out) hb); replace BK311 := Aside0.mk (blk_below (g := gb311) (o := .cells #[.int .i64 t305, .int .i64 t306, .slice Ao108 t307.length co108] 31 (0, 0)) (by (with_reducible repeat refine bl ?_); refine blk_far ?_ NB311_317.out _; (with_reducible repeat refine bl ?_); refine blk_far ?_ NB311_317.out _; (with_reducible repeat refine bl ?_); exact BK311.out) hb); replace BK317 := Aside0.mk (blk_below (g := gb317) (o := .cells #[.int .i64 t312, .slice Ao120 t313.length co120] 37 (0, 0)) (by (with_reducible repeat refine bl ?_); refine blk_put (cs := #[.int .i64 t312, .slice none 0 0]) ?_ 1 _ rfl; (with_reducible repeat refine bl ?_); refine blk_put (cs := #[.int .i64 0, .slice none 0 0]) ?_ 0 _ rfl; (with_reducible repeat refine bl ?_); exact BK317.out) hb); replace HB := bh HB hb; (try clear hb); (try clear hb2); (try clear hk); (try clear hi); obtain ⟨hcz122_0, hcz122_1, hcz122_2⟩ := zc3 BK311; obtain ⟨hfz122_0, hfz122_1, hfz122_2⟩ := zf3 BK311; obtain ⟨hcz123_0, hcz123_1⟩ := zc2 BK317; obtain ⟨hfz123_0, hfz123_1⟩ := zf2 BK317) | (go_at_call 12; (with_reducible refine (steeplelaw03_same.calls kj14 t305 t306 _ _ t307 t312 _ _ t313 true _ ?side1 ?side2 ?side3 ?side4 A91.out).mono ?_); (case side1 => repeat (first | exact (Kd.R_reads' HO309.out).2.2 | (with_reducible refine Kd.C_alloc ?_ _) | (with_reducible refine Kd.C_drewN ?_ _) | (with_reducible refine Kd.C_drew ?_))); (case side2 => exact (Kd.R_reads' HO309.out).2.1); (case side3 => repeat (first | exact (Kd.R_reads' HO315.out).2.2 | (with_reducible refine Kd.C_alloc ?_ _) | (with_reducible refine Kd.C_drewN ?_ _) | (with_reducible refine Kd.C_drew ?_))); (case side4 => exact (Kd.R_reads' HO315.out).2.1); rintro e w124 ⟨rfl, hb⟩; replace HO_289002 := kb HO_289002 hb; replace HO_298001 := kb HO_298001 hb; replace HO309 := kb HO309 hb; replace HO315 := kb HO315 hb; replace BK280 := bb BK280 hb; replace BK288 := bb BK288 hb; replace BK297 := bb BK297 hb; replace BK302 := bb BK302 hb; replace BK311 := bb BK311 hb; replace BK317 := bb BK317 hb; replace HB := bh HB hb; (try clear hb); (try clear hb2); (try clear hk); (try clear hi); obtain ⟨hcz125_0, hcz125_1, hcz125_2⟩ := zc3 BK288; obtain ⟨hfz125_0, hfz125_1, hfz125_2⟩ := zf3 BK288; obtain ⟨hcz126_0, hcz126_1⟩ := zc2 BK297; obtain ⟨hfz126_0, hfz126_1⟩ := zf2 BK297) | (go_at_call 12; (with_reducible refine (steeplelaw03_same.calls kj14 t282 t283 _ _ t284 t292 _ _ t293 t320 _ ?side1 ?side2 ?side3 ?side4 A93.out).mono ?_); (case side1 => repeat (first | exact (Kd.R_reads' HO_289002.out).2.2 | (with_reducible refine Kd.C_alloc ?_ _) | (with_reducible refine Kd.C_drewN ?_ _) | (with_reducible refine Kd.C_drew ?_))); (case side2 => exact (Kd.R_reads' HO_289002.out).2.1); (case side3 => repeat (first | exact (Kd.R_reads' HO_298001.out).2.2 | (with_reducible refine Kd.C_alloc ?_ _) | (with_reducible refine Kd.C_drewN ?_ _) | (with_reducible refine Kd.C_drew ?_))); (case side4 => exact (Kd.R_reads' HO_298001.out).2.1); rintro e w127 ⟨rfl, hb⟩; replace HO_289002 := kb HO_289002 hb; replace HO_298001 := kb HO_298001 hb; replace HO309 := kb HO309 hb; replace HO315 := kb HO315 hb; replace BK280 := bb BK280 hb; replace BK288 := bb BK288 hb; replace BK297 := bb BK297 hb; replace BK302 := bb BK302 hb; replace BK311 := bb BK311 hb; replace BK317 := bb BK317 hb; replace HB := bh HB hb; (try clear hb); (try clear hb2); (try clear hk); (try clear hi)))
          repeat (go_quiet (first | (go_at_call 14; (with_reducible refine (pack_Vec_With.calls kj14 t282 t283 _ _ t284 a2_0 a2_1 a2_2 t305 t306 t307 t310 _ ?side1 ?side2 A86.out).mono ?_); (case side1 => repeat (first | exact (Kd.R_reads' HO_289002.out).2.2 | (with_reducible refine Kd.C_alloc ?_ _) | (with_reducible refine Kd.C_drewN ?_ _) | (with_reducible refine Kd.C_drew ?_))); (case side2 => exact (Kd.R_reads' HO_289002.out).2.1); rintro e w101 ⟨v308, rfl, ho0, hb⟩; have HO309 := Aside0.mk (Kd.R_lower (Kd.R_new' ho0 (Kd.R_lt (kr HO_289002.out))) (below_size (bq HB.out))); replace HO_289002 := Aside0.mk (Kd.R_elder' (kr HO_289002.out) (Kd.R_base ho0) hb); replace HO_298001 := kb HO_298001 hb; replace BK280 := bb BK280 hb; replace BK288 := bb BK288 hb; replace BK297 := bb BK297 hb; replace BK302 := bb BK302 hb; replace HB := bh HB hb; (try clear hb); (try clear hb2); (try clear hk); (try clear hi); (try clear ho0)) | ((with_reducible refine gate_dst (N := 13) rfl ?_); (try (refine gate_guard (by rfl) ?_; dsimp only)); refine box_event ?hg (N := 13) ?hd (cs := #[.int .i64 0, .int .i64 0, .slice none 0 0]) (t := 31) ?hr ?_; (case hd => rfl); (case hg => rfl); (case hr => first | (go_simp; done) | (go_simp; rfl)); intro gb311 hg w102 hbox hb; have BK311 := Aside0.mk hbox; have GW311 := ge hg HB; have GE311 := ge hg HB; have NB280_311 := nl hg BK280; have NB311_280 := ng hg BK280; have NB288_311 := nl hg BK288; have NB311_288 := ng hg BK288; have NB297_311 := nl hg BK297; have NB311_297 := ng hg BK297; have NB302_311 := nl hg BK302; have NB311_302 := ng hg BK302; replace HO_289002 := kb HO_289002 hb; replace HO_298001 := kb HO_298001 hb; replace HO309 := kb HO309 hb; replace BK280 := bb BK280 hb; replace BK288 := bb BK288 hb; replace BK297 := bb BK297 hb; replace BK302 := bb BK302 hb; replace HB := bh HB hb; clear hb hbox hg; have hnb103 := NB311_280.out; have hnc103 := NB280_311.out; have hnb104 := NB311_288.out; have hnc104 := NB288_311.out; have hnb105 := NB311_297.out; have hnc105 := NB297_311.out; have hnb106 := NB311_302.out; have hnc106 := NB302_311.out; obtain ⟨hcz107_0, hcz107_1, hcz107_2⟩ := zc3 BK311; obtain ⟨hfz107_0, hfz107_1, hfz107_2⟩ := zf3 BK311; obtain ⟨Ao108, co108, eo108⟩ := Kd.R_slice HO309.out; subst eo108; have hnb109 := NB297_302.out; have hnc109 := NB302_297.out; obtain ⟨hcz110_0, hcz110_1⟩ := zc2 BK297; obtain ⟨hfz110_0, hfz110_1⟩ := zf2 BK297; obtain ⟨hcz111_0, hcz111_1, hcz111_2⟩ := zc3 BK280; obtain ⟨hfz111_0, hfz111_1, hfz111_2⟩ := zf3 BK280) | (go_at_call 15; (with_reducible refine (steepleref03_With.calls kj14 t292 _ _ t293 a2_0 a2_1 a2_2 t312 t313 t316 _ ?side1 ?side2 A87.out).mono ?_); (case side1 => refine (Kd.R_reads' (e := 44) (base := w.heap.size) (ok := fun k_ => True) (n := t293.length) (c := co29) ?_).2.2; exact (by (with_reducible repeat refine kl ?_); exact (Kd.R_mono (Kd.R_far (p := ⟨gb311, 2, none⟩) (Kd.R_far (p := ⟨gb311, 1, none⟩) (Kd.R_far (p := ⟨gb311, 0, none⟩) (Kd.R_types HO_298001.out BK311.out (by decide)) (fun _ hk => hk.2) (.int .i64 t305)) (fun _ hk => hk.2) (.int .i64 t306)) (fun _ hk => hk.2) (.slice Ao108 t307.length co108)) (fun _ h_ => h_.1)))); (case side2 => exact (Kd.R_reads' HO_298001.out).2.1); rintro e w112 ⟨v314, rfl, ho0, hb⟩; have HO315 := Aside0.mk (Kd.R_lower (Kd.R_new' ho0 (Kd.R_lt (by (with_reducible repeat refine kl ?_); exact (Kd.R_mono (Kd.R_far (p := ⟨gb311, 2, none⟩) (Kd.R_far (p := ⟨gb311, 1, none⟩) (Kd.R_far (p := ⟨gb311, 0, none⟩) (Kd.R_types HO_298001.out BK311.out (by decide)) (fun _ hk => hk.2) (.int .i64 t305)) (fun _ hk => hk.2) (.int .i64 t306)) (fun _ hk => hk.2) (.slice Ao108 t307.length co108)) (fun _ h_ => h_.1))))) (below_size (bq HB.out))); replace HO_289002 := Aside0.mk (Kd.R_below (by (with_reducible repeat refine kl ?_); exact (Kd.R_mono (Kd.R_far (p := ⟨gb311, 2, none⟩) (Kd.R_far (p := ⟨gb311, 1, none⟩) (Kd.R_far (p := ⟨gb311, 0, none⟩) (Kd.R_types HO_289002.out BK311.out (by decide)) (fun _ hk => hk.2) (.int .i64 t305)) (fun _ hk => hk.2) (.int .i64 t306)) (fun _ hk => hk.2) (.slice Ao108 t307.length co108)) (fun _ h_ => h_.1))) hb); replace HO_298001 := Aside0.mk (Kd.R_elder' (by (with_reducible repeat refine kl ?_); exact (Kd.R_mono (Kd.R_far (p := ⟨gb311, 2, none⟩) (Kd.R_far (p := ⟨gb311, 1, none⟩) (Kd.R_far (p := ⟨gb311, 0, none⟩) (Kd.R_types HO_298001.out BK311.out (by decide)) (fun _ hk => hk.2) (.int .i64 t305)) (fun _ hk => hk.2) (.int .i64 t306)) (fun _ hk => hk.2) (.slice Ao108 t307.length co108)) (fun _ h_ => h_.1))) (Kd.R_base ho0) hb); replace HO309 := Aside0.mk (Kd.R_below (by (with_reducible repeat refine kl ?_); exact (Kd.R_mono (Kd.R_far (p := ⟨gb311, 2, none⟩) (Kd.R_far (p := ⟨gb311, 1, none⟩) (Kd.R_far (p := ⟨gb311, 0, none⟩) (Kd.R_types HO309.out BK311.out (by decide)) (fun _ hk => hk.2) (.int .i64 t305)) (fun _ hk => hk.2) (.int .i64 t306)) (fun _ hk => hk.2) (.slice Ao108 t307.length co108)) (fun _ h_ => h_.1))) hb); replace BK280 := Aside0.mk (blk_below (g := gb280) (o := .cells #[.int .i64 a2_0, .int .u64 a2_1, .int .u64 a2_2] 27 (0, 0)) (by (with_reducible repeat refine bl ?_); refine blk_far ?_ NB280_311.out _; (with_reducible repeat refine bl ?_); refine blk_far ?_ NB280_311.out _; (with_reducible repeat refine bl ?_); refine blk_far ?_ NB280_311.out _; (with_reducible repeat refine bl ?_); exact BK280.out) hb); replace BK288 := Aside0.mk (blk_below (g := gb288) (o := .cells #[.int .i64 t282, .int .i64 t283, .slice Ao21 t284.length co21] 31 (0, 0)) (by (with_reducible repeat refine bl ?_); refine blk_far ?_ NB288_311.out _; (with_reducible repeat refine bl ?_); refine blk_far ?_ NB288_311.out _; (with_reducible repeat refine bl ?_); refine blk_far ?_ NB288_311.out _; (with_reducible repeat refine bl ?_); exact BK288.out) hb); replace BK297 := Aside0.mk (blk_below (g := gb297) (o := .cells #[.int .i64 t292, .slice Ao29 t293.length co29] 37 (0, 0)) (by (with_reducible repeat refine bl ?_); refine blk_far ?_ NB297_311.out _; (with_reducible repeat refine bl ?_); refine blk_far ?_ NB297_311.out _; (with_reducible repeat refine bl ?_); refine blk_far ?_ NB297_311.out _; (with_reducible repeat refine bl ?_); exact BK297.out) hb); replace BK302 := Aside0.mk (blk_below (g := gb302) (o := .cells #[.int .u64 t299, .int .u64 t300] 25 (0, 0)) (by (with_reducible repeat refine bl ?_); refine blk_far ?_ NB302_311.out _; (with_reducible repeat refine bl ?_); refine blk_far ?_ NB302_311.out _; (with_reducible repeat refine bl ?_); refine blk_far ?_ NB302_311.out _; (with_reducible repeat refine bl ?_); exact BK302.out) hb); replace BK311 := Aside0.mk (blk_below (g := gb311) (o := .cells #[.int .i64 t305, .int .i64 t306, .slice Ao108 t307.length co108] 31 (0, 0)) (by (with_reducible repeat refine bl ?_); refine blk_put (cs := #[.int .i64 t305, .int .i64 t306, .slice none 0 0]) ?_ 2 _ rfl; (with_reducible repeat refine bl ?_); refine blk_put (cs := #[.int .i64 t305, .int .i64 0, .slice none 0 0]) ?_ 1 _ rfl; (with_reducible repeat refine bl ?_); refine blk_put (cs := #[.int .i64 0, .int .i64 0, .slice none 0 0]) ?_ 0 _ rfl; (with_reducible repeat refine bl ?_); exact BK311.out) hb); replace HB := bh HB hb; (try clear hb); (try clear hb2); (try clear hk); (try clear hi); (try clear ho0)) | ((with_reducible refine gate_dst (N := 15) rfl ?_); (try (refine gate_guard (by rfl) ?_; dsimp only)); refine box_event ?hg (N := 15) ?hd (cs := #[.int .i64 0, .slice none 0 0]) (t := 37) ?hr ?_; (case hd => rfl); (case hg => rfl); (case hr => first | (go_simp; done) | (go_simp; rfl)); intro gb317 hg w113 hbox hb; have BK317 := Aside0.mk hbox; have GW317 := ge hg HB; have GE317 := ge hg HB; have NB280_317 := nl hg BK280; have NB317_280 := ng hg BK280; have NB288_317 := nl hg BK288; have NB317_288 := ng hg BK288; have NB297_317 := nl hg BK297; have NB317_297 := ng hg BK297; have NB302_317 := nl hg BK302; have NB317_302 := ng hg BK302; have NB311_317 := nl hg BK311; have NB317_311 := ng hg BK311; replace HO_289002 := kb HO_289002 hb; replace HO_298001 := kb HO_298001 hb; replace HO309 := kb HO309 hb; replace HO315 := kb HO315 hb; replace BK280 := bb BK280 hb; replace BK288 := bb BK288 hb; replace BK297 := bb BK297 hb; replace BK302 := bb BK302 hb; replace BK311 := bb BK311 hb; replace HB := bh HB hb; clear hb hbox hg; have hnb114 := NB317_280.out; have hnc114 := NB280_317.out; have hnb115 := NB317_288.out; have hnc115 := NB288_317.out; have hnb116 := NB317_297.out; have hnc116 := NB297_317.out; have hnb117 := NB317_302.out; have hnc117 := NB302_317.out; have hnb118 := NB317_311.out; have hnc118 := NB311_317.out; obtain ⟨hcz119_0, hcz119_1⟩ := zc2 BK317; obtain ⟨hfz119_0, hfz119_1⟩ := zf2 BK317; obtain ⟨Ao120, co120, eo120⟩ := Kd.R_slice HO315.out; subst eo120) | (go_at_call 8; (with_reducible refine (steeplelaw03_awake.calls kj14  true _ A88.out).mono ?_); rintro e w121 ⟨rfl, hb⟩; replace HO_289002 := Aside0.mk (Kd.R_below (by (with_reducible repeat refine kl ?_); exact (Kd.R_mono (Kd.R_far (p := ⟨gb317, 1, none⟩) (Kd.R_far (p := ⟨gb317, 0, none⟩) (Kd.R_types HO_289002.out BK317.out (by decide)) (fun _ hk => hk.2) (.int .i64 t312)) (fun _ hk => hk.2) (.slice Ao120 t313.length co120)) (fun _ h_ => h_.1))) hb); replace HO_298001 := Aside0.mk (Kd.R_below (by (with_reducible repeat refine kl ?_); exact (Kd.R_mono (Kd.R_far (p := ⟨gb317, 1, none⟩) (Kd.R_far (p := ⟨gb317, 0, none⟩) (Kd.R_types HO_298001.out BK317.out (by decide)) (fun _ hk => hk.2) (.int .i64 t312)) (fun _ hk => hk.2) (.slice Ao120 t313.length co120)) (fun _ h_ => h_.1))) hb); replace HO309 := Aside0.mk (Kd.R_below (by (with_reducible repeat refine kl ?_); exact (Kd.R_mono (Kd.R_far (p := ⟨gb317, 1, none⟩) (Kd.R_far (p := ⟨gb317, 0, none⟩) (Kd.R_types HO309.out BK317.out (by decide)) (fun _ hk => hk.2) (.int .i64 t312)) (fun _ hk => hk.2) (.slice Ao120 t313.length co120)) (fun _ h_ => h_.1))) hb); replace HO315 := Aside0.mk (Kd.R_below (by (with_reducible repeat refine kl ?_); exact (Kd.R_mono (Kd.R_far (p := ⟨gb317, 1, none⟩) (Kd.R_far (p := ⟨gb317, 0, none⟩) (Kd.R_types HO315.out BK317.out (by decide)) (fun _ hk => hk.2) (.int .i64 t312)) (fun _ hk => hk.2) (.slice Ao120 t313.length co120)) (fun _ h_ => h_.1))) hb); replace BK280 := Aside0.mk (blk_below (g := gb280) (o := .cells #[.int .i64 a2_0, .int .u64 a2_1, .int .u64 a2_2] 27 (0, 0)) (by (with_reducible repeat refine bl ?_); refine blk_far ?_ NB280_317.out _; (with_reducible repeat refine bl ?_); refine blk_far ?_ NB280_317.out _; (with_reducible repeat refine bl ?_); exact BK280.out) hb); replace BK288 := Aside0.mk (blk_below (g := gb288) (o := .cells #[.int .i64 t282, .int .i64 t283, .slice Ao21 t284.length co21] 31 (0, 0)) (by (with_reducible repeat refine bl ?_); refine blk_far ?_ NB288_317.out _; (with_reducible repeat refine bl ?_); refine blk_far ?_ NB288_317.out _; (with_reducible repeat refine bl ?_); exact BK288.out) hb); replace BK297 := Aside0.mk (blk_below (g := gb297) (o := .cells #[.int .i64 t292, .slice Ao29 t293.length co29] 37 (0, 0)) (by (with_reducible repeat refine bl ?_); refine blk_far ?_ NB297_317.out _; (with_reducible repeat refine bl ?_); refine blk_far ?_ NB297_317.out _; (with_reducible repeat refine bl ?_); exact BK297.out) hb); replace BK302 := Aside0.mk (blk_below (g := gb302) (o := .cells #[.int .u64 t299, .int .u64 t300] 25 (0, 0)) (by (with_reducible repeat refine bl ?_); refine blk_far ?_ NB302_317.out _; (with_reducible repeat refine bl ?_); refine blk_far ?_ NB302_317.out _; (with_reducible repeat refine bl ?_); exact BK302.out) hb); replace BK311 := Aside0.mk (blk_below (g := gb311) (o := .cells #[.int .i64 t305, .int .i64 t306, .slice Ao108 t307.length co108] 31 (0, 0)) (by (with_reducible repeat refine bl ?_); refine blk_far ?_ NB311_317.out _; (with_reducible repeat refine bl ?_); refine blk_far ?_ NB311_317.out _; (with_reducible repeat refine bl ?_); exact BK311.out) hb); replace BK317 := Aside0.mk (blk_below (g := gb317) (o := .cells #[.int .i64 t312, .slice Ao120 t313.length co120] 37 (0, 0)) (by (with_reducible repeat refine bl ?_); refine blk_put (cs := #[.int .i64 t312, .slice none 0 0]) ?_ 1 _ rfl; (with_reducible repeat refine bl ?_); refine blk_put (cs := #[.int .i64 0, .slice none 0 0]) ?_ 0 _ rfl; (with_reducible repeat refine bl ?_); exact BK317.out) hb); replace HB := bh HB hb; (try clear hb); (try clear hb2); (try clear hk); (try clear hi); obtain ⟨hcz122_0, hcz122_1, hcz122_2⟩ := zc3 BK311; obtain ⟨hfz122_0, hfz122_1, hfz122_2⟩ := zf3 BK311; obtain ⟨hcz123_0, hcz123_1⟩ := zc2 BK317; obtain ⟨hfz123_0, hfz123_1⟩ := zf2 BK317) | (go_at_call 12; (with_reducible refine (steeplelaw03_same.calls kj14 t305 t306 _ _ t307 t312 _ _ t313 true _ ?side1 ?side2 ?side3 ?side4 A91.out).mono ?_); (case side1 => repeat (first | exact (Kd.R_reads' HO309.out).2.2 | (with_reducible refine Kd.C_alloc ?_ _) | (with_reducible refine Kd.C_drewN ?_ _) | (with_reducible refine Kd.C_drew ?_))); (case side2 => exact (Kd.R_reads' HO309.out).2.1); (case side3 => repeat (first | exact (Kd.R_reads' HO315.out).2.2 | (with_reducible refine Kd.C_alloc ?_ _) | (with_reducible refine Kd.C_drewN ?_ _) | (with_reducible refine Kd.C_drew ?_))); (case side4 => exact (Kd.R_reads' HO315.out).2.1); rintro e w124 ⟨rfl, hb⟩; replace HO_289002 := kb HO_289002 hb; replace HO_298001 := kb HO_298001 hb; replace HO309 := kb HO309 hb; replace HO315 := kb HO315 hb; replace BK280 := bb BK280 hb; replace BK288 := bb BK288 hb; replace BK297 := bb BK297 hb; replace BK302 := bb BK302 hb; replace BK311 := bb BK311 hb; replace BK317 := bb BK317 hb; replace HB := bh HB hb; (try clear hb); (try clear hb2); (try clear hk); (try clear hi); obtain ⟨hcz125_0, hcz125_1, hcz125_2⟩ := zc3 BK288; obtain ⟨hfz125_0, hfz125_1, hfz125_2⟩ := zf3 BK288; obtain ⟨hcz126_0, hcz126_1⟩ := zc2 BK297; obtain ⟨hfz126_0, hfz126_1⟩ := zf2 BK297) | (go_at_call 12; (with_reducible refine (steeplelaw03_same.calls kj14 t282 t283 _ _ t284 t292 _ _ t293 t320 _ ?side1 ?side2 ?side3 ?side4 A93.out).mono ?_); (case side1 => repeat (first | exact (Kd.R_reads' HO_289002.out).2.2 | (with_reducible refine Kd.C_alloc ?_ _) | (with_reducible refine Kd.C_drewN ?_ _) | (with_reducible refine Kd.C_drew ?_))); (case side2 => exact (Kd.R_reads' HO_289002.out).2.1); (case side3 => repeat (first | exact (Kd.R_reads' HO_298001.out).2.2 | (with_reducible refine Kd.C_alloc ?_ _) | (with_reducible refine Kd.C_drewN ?_ _) | (with_reducible refine Kd.C_drew ?_))); (case side4 => exact (Kd.R_reads' HO_298001.out).2.1); rintro e w127 ⟨rfl, hb⟩; replace HO_289002 := kb HO_289002 hb; replace HO_298001 := kb HO_298001 hb; replace HO309 := kb HO309 hb; replace HO315 := kb HO315 hb; replace BK280 := bb BK280 hb; replace BK288 := bb BK288 hb; replace BK297 := bb BK297 hb; replace BK302 := bb BK302 hb; replace BK311 := bb BK311 hb; replace BK317 := bb BK317 hb; replace HB := bh HB hb; (try clear hb); (try clear hb2); (try clear hk); (try clear hi))); try go_wp2_with (first | (go_at_call 14; (with_reducible refine (pack_Vec_With.calls kj14 t282 t283 _ _ t284 a2_0 a2_1 a2_2 t305 t306 t307 t310 _ ?side1 ?side2 A86.out).mono ?_); (case side1 => repeat (first | exact (Kd.R_reads' HO_289002.out).2.2 | (with_reducible refine Kd.C_alloc ?_ _) | (with_reducible refine Kd.C_drewN ?_ _) | (with_reducible refine Kd.C_drew ?_))); (case side2 => exact (Kd.R_reads' HO_289002.out).2.1); rintro e w101 ⟨v308, rfl, ho0, hb⟩; have HO309 := Aside0.mk (Kd.R_lower (Kd.R_new' ho0 (Kd.R_lt (kr HO_289002.out))) (below_size (bq HB.out))); replace HO_289002 := Aside0.mk (Kd.R_elder' (kr HO_289002.out) (Kd.R_base ho0) hb); replace HO_298001 := kb HO_298001 hb; replace BK280 := bb BK280 hb; replace BK288 := bb BK288 hb; replace BK297 := bb BK297 hb; replace BK302 := bb BK302 hb; replace HB := bh HB hb; (try clear hb); (try clear hb2); (try clear hk); (try clear hi); (try clear ho0)) | ((with_reducible refine gate_dst (N := 13) rfl ?_); (try (refine gate_guard (by rfl) ?_; dsimp only)); refine box_event ?hg (N := 13) ?hd (cs := #[.int .i64 0, .int .i64 0, .slice none 0 0]) (t := 31) ?hr ?_; (case hd => rfl); (case hg => rfl); (case hr => first | (go_simp; done) | (go_simp; rfl)); intro gb311 hg w102 hbox hb; have BK311 := Aside0.mk hbox; have GW311 := ge hg HB; have GE311 := ge hg HB; have NB280_311 := nl hg BK280; have NB311_280 := ng hg BK280; have NB288_311 := nl hg BK288; have NB311_288 := ng hg BK288; have NB297_311 := nl hg BK297; have NB311_297 := ng hg BK297; have NB302_311 := nl hg BK302; have NB311_302 := ng hg BK302; replace HO_289002 := kb HO_289002 hb; replace HO_298001 := kb HO_298001 hb; replace HO309 := kb HO309 hb; replace BK280 := bb BK280 hb; replace BK288 := bb BK288 hb; replace BK297 := bb BK297 hb; replace BK302 := bb BK302 hb; replace HB := bh HB hb; clear hb hbox hg; have hnb103 := NB311_280.out; have hnc103 := NB280_311.out; have hnb104 := NB311_288.out; have hnc104 := NB288_311.out; have hnb105 := NB311_297.out; have hnc105 := NB297_311.out; have hnb106 := NB311_302.out; have hnc106 := NB302_311.out; obtain ⟨hcz107_0, hcz107_1, hcz107_2⟩ := zc3 BK311; obtain ⟨hfz107_0, hfz107_1, hfz107_2⟩ := zf3 BK311; obtain ⟨Ao108, co108, eo108⟩ := Kd.R_slice HO309.out; subst eo108; have hnb109 := NB297_302.out; have hnc109 := NB302_297.out; obtain ⟨hcz110_0, hcz110_1⟩ := zc2 BK297; obtain ⟨hfz110_0, hfz110_1⟩ := zf2 BK297; obtain ⟨hcz111_0, hcz111_1, hcz111_2⟩ := zc3 BK280; obtain ⟨hfz111_0, hfz111_1, hfz111_2⟩ := zf3 BK280) | (go_at_call 15; (with_reducible refine (steepleref03_With.calls kj14 t292 _ _ t293 a2_0 a2_1 a2_2 t312 t313 t316 _ ?side1 ?side2 A87.out).mono ?_); (case side1 => refine (Kd.R_reads' (e := 44) (base := w.heap.size) (ok := fun k_ => True) (n := t293.length) (c := co29) ?_).2.2; exact (by (with_reducible repeat refine kl ?_); exact (Kd.R_mono (Kd.R_far (p := ⟨gb311, 2, none⟩) (Kd.R_far (p := ⟨gb311, 1, none⟩) (Kd.R_far (p := ⟨gb311, 0, none⟩) (Kd.R_types HO_298001.out BK311.out (by decide)) (fun _ hk => hk.2) (.int .i64 t305)) (fun _ hk => hk.2) (.int .i64 t306)) (fun _ hk => hk.2) (.slice Ao108 t307.length co108)) (fun _ h_ => h_.1)))); (case side2 => exact (Kd.R_reads' HO_298001.out).2.1); rintro e w112 ⟨v314, rfl, ho0, hb⟩; have HO315 := Aside0.mk (Kd.R_lower (Kd.R_new' ho0 (Kd.R_lt (by (with_reducible repeat refine kl ?_); exact (Kd.R_mono (Kd.R_far (p := ⟨gb311, 2, none⟩) (Kd.R_far (p := ⟨gb311, 1, none⟩) (Kd.R_far (p := ⟨gb311, 0, none⟩) (Kd.R_types HO_298001.out BK311.out (by decide)) (fun _ hk => hk.2) (.int .i64 t305)) (fun _ hk => hk.2) (.int .i64 t306)) (fun _ hk => hk.2) (.slice Ao108 t307.length co108)) (fun _ h_ => h_.1))))) (below_size (bq HB.out))); replace HO_289002 := Aside0.mk (Kd.R_below (by (with_reducible repeat refine kl ?_); exact (Kd.R_mono (Kd.R_far (p := ⟨gb311, 2, none⟩) (Kd.R_far (p := ⟨gb311, 1, none⟩) (Kd.R_far (p := ⟨gb311, 0, none⟩) (Kd.R_types HO_289002.out BK311.out (by decide)) (fun _ hk => hk.2) (.int .i64 t305)) (fun _ hk => hk.2) (.int .i64 t306)) (fun _ hk => hk.2) (.slice Ao108 t307.length co108)) (fun _ h_ => h_.1))) hb); replace HO_298001 := Aside0.mk (Kd.R_elder' (by (with_reducible repeat refine kl ?_); exact (Kd.R_mono (Kd.R_far (p := ⟨gb311, 2, none⟩) (Kd.R_far (p := ⟨gb311, 1, none⟩) (Kd.R_far (p := ⟨gb311, 0, none⟩) (Kd.R_types HO_298001.out BK311.out (by decide)) (fun _ hk => hk.2) (.int .i64 t305)) (fun _ hk => hk.2) (.int .i64 t306)) (fun _ hk => hk.2) (.slice Ao108 t307.length co108)) (fun _ h_ => h_.1))) (Kd.R_base ho0) hb); replace HO309 := Aside0.mk (Kd.R_below (by (with_reducible repeat refine kl ?_); exact (Kd.R_mono (Kd.R_far (p := ⟨gb311, 2, none⟩) (Kd.R_far (p := ⟨gb311, 1, none⟩) (Kd.R_far (p := ⟨gb311, 0, none⟩) (Kd.R_types HO309.out BK311.out (by decide)) (fun _ hk => hk.2) (.int .i64 t305)) (fun _ hk => hk.2) (.int .i64 t306)) (fun _ hk => hk.2) (.slice Ao108 t307.length co108)) (fun _ h_ => h_.1))) hb); replace BK280 := Aside0.mk (blk_below (g := gb280) (o := .cells #[.int .i64 a2_0, .int .u64 a2_1, .int .u64 a2_2] 27 (0, 0)) (by (with_reducible repeat refine bl ?_); refine blk_far ?_ NB280_311.out _; (with_reducible repeat refine bl ?_); refine blk_far ?_ NB280_311.out _; (with_reducible repeat refine bl ?_); refine blk_far ?_ NB280_311.out _; (with_reducible repeat refine bl ?_); exact BK280.out) hb); replace BK288 := Aside0.mk (blk_below (g := gb288) (o := .cells #[.int .i64 t282, .int .i64 t283, .slice Ao21 t284.length co21] 31 (0, 0)) (by (with_reducible repeat refine bl ?_); refine blk_far ?_ NB288_311.out _; (with_reducible repeat refine bl ?_); refine blk_far ?_ NB288_311.out _; (with_reducible repeat refine bl ?_); refine blk_far ?_ NB288_311.out _; (with_reducible repeat refine bl ?_); exact BK288.out) hb); replace BK297 := Aside0.mk (blk_below (g := gb297) (o := .cells #[.int .i64 t292, .slice Ao29 t293.length co29] 37 (0, 0)) (by (with_reducible repeat refine bl ?_); refine blk_far ?_ NB297_311.out _; (with_reducible repeat refine bl ?_); refine blk_far ?_ NB297_311.out _; (with_reducible repeat refine bl ?_); refine blk_far ?_ NB297_311.out _; (with_reducible repeat refine bl ?_); exact BK297.out) hb); replace BK302 := Aside0.mk (blk_below (g := gb302) (o := .cells #[.int .u64 t299, .int .u64 t300] 25 (0, 0)) (by (with_reducible repeat refine bl ?_); refine blk_far ?_ NB302_311.out _; (with_reducible repeat refine bl ?_); refine blk_far ?_ NB302_311.out _; (with_reducible repeat refine bl ?_); refine blk_far ?_ NB302_311.out _; (with_reducible repeat refine bl ?_); exact BK302.out) hb); replace BK311 := Aside0.mk (blk_below (g := gb311) (o := .cells #[.int .i64 t305, .int .i64 t306, .slice Ao108 t307.length co108] 31 (0, 0)) (by (with_reducible repeat refine bl ?_); refine blk_put (cs := #[.int .i64 t305, .int .i64 t306, .slice none 0 0]) ?_ 2 _ rfl; (with_reducible repeat refine bl ?_); refine blk_put (cs := #[.int .i64 t305, .int .i64 0, .slice none 0 0]) ?_ 1 _ rfl; (with_reducible repeat refine bl ?_); refine blk_put (cs := #[.int .i64 0, .int .i64 0, .slice none 0 0]) ?_ 0 _ rfl; (with_reducible repeat refine bl ?_); exact BK311.out) hb); replace HB := bh HB hb; (try clear hb); (try clear hb2); (try clear hk); (try clear hi); (try clear ho0)) | ((with_reducible refine gate_dst (N := 15) rfl ?_); (try (refine gate_guard (by rfl) ?_; dsimp only)); refine box_event ?hg (N := 15) ?hd (cs := #[.int .i64 0, .slice none 0 0]) (t := 37) ?hr ?_; (case hd => rfl); (case hg => rfl); (case hr => first | (go_simp; done) | (go_simp; rfl)); intro gb317 hg w113 hbox hb; have BK317 := Aside0.mk hbox; have GW317 := ge hg HB; have GE317 := ge hg HB; have NB280_317 := nl hg BK280; have NB317_280 := ng hg BK280; have NB288_317 := nl hg BK288; have NB317_288 := ng hg BK288; have NB297_317 := nl hg BK297; have NB317_297 := ng hg BK297; have NB302_317 := nl hg BK302; have NB317_302 := ng hg BK302; have NB311_317 := nl hg BK311; have NB317_311 := ng hg BK311; replace HO_289002 := kb HO_289002 hb; replace HO_298001 := kb HO_298001 hb; replace HO309 := kb HO309 hb; replace HO315 := kb HO315 hb; replace BK280 := bb BK280 hb; replace BK288 := bb BK288 hb; replace BK297 := bb BK297 hb; replace BK302 := bb BK302 hb; replace BK311 := bb BK311 hb; replace HB := bh HB hb; clear hb hbox hg; have hnb114 := NB317_280.out; have hnc114 := NB280_317.out; have hnb115 := NB317_288.out; have hnc115 := NB288_317.out; have hnb116 := NB317_297.out; have hnc116 := NB297_317.out; have hnb117 := NB317_302.out; have hnc117 := NB302_317.out; have hnb118 := NB317_311.out; have hnc118 := NB311_317.out; obtain ⟨hcz119_0, hcz119_1⟩ := zc2 BK317; obtain ⟨hfz119_0, hfz119_1⟩ := zf2 BK317; obtain ⟨Ao120, co120, eo120⟩ := Kd.R_slice HO315.out; subst eo120) | (go_at_call 8; (with_reducible refine (steeplelaw03_awake.calls kj14  true _ A88.out).mono ?_); rintro e w121 ⟨rfl, hb⟩; replace HO_289002 := Aside0.mk (Kd.R_below (by (with_reducible repeat refine kl ?_); exact (Kd.R_mono (Kd.R_far (p := ⟨gb317, 1, none⟩) (Kd.R_far (p := ⟨gb317, 0, none⟩) (Kd.R_types HO_289002.out BK317.out (by decide)) (fun _ hk => hk.2) (.int .i64 t312)) (fun _ hk => hk.2) (.slice Ao120 t313.length co120)) (fun _ h_ => h_.1))) hb); replace HO_298001 := Aside0.mk (Kd.R_below (by (with_reducible repeat refine kl ?_); exact (Kd.R_mono (Kd.R_far (p := ⟨gb317, 1, none⟩) (Kd.R_far (p := ⟨gb317, 0, none⟩) (Kd.R_types HO_298001.out BK317.out (by decide)) (fun _ hk => hk.2) (.int .i64 t312)) (fun _ hk => hk.2) (.slice Ao120 t313.length co120)) (fun _ h_ => h_.1))) hb); replace HO309 := Aside0.mk (Kd.R_below (by (with_reducible repeat refine kl ?_); exact (Kd.R_mono (Kd.R_far (p := ⟨gb317, 1, none⟩) (Kd.R_far (p := ⟨gb317, 0, none⟩) (Kd.R_types HO309.out BK317.out (by decide)) (fun _ hk => hk.2) (.int .i64 t312)) (fun _ hk => hk.2) (.slice Ao120 t313.length co120)) (fun _ h_ => h_.1))) hb); replace HO315 := Aside0.mk (Kd.R_below (by (with_reducible repeat refine kl ?_); exact (Kd.R_mono (Kd.R_far (p := ⟨gb317, 1, none⟩) (Kd.R_far (p := ⟨gb317, 0, none⟩) (Kd.R_types HO315.out BK317.out (by decide)) (fun _ hk => hk.2) (.int .i64 t312)) (fun _ hk => hk.2) (.slice Ao120 t313.length co120)) (fun _ h_ => h_.1))) hb); replace BK280 := Aside0.mk (blk_below (g := gb280) (o := .cells #[.int .i64 a2_0, .int .u64 a2_1, .int .u64 a2_2] 27 (0, 0)) (by (with_reducible repeat refine bl ?_); refine blk_far ?_ NB280_317.out _; (with_reducible repeat refine bl ?_); refine blk_far ?_ NB280_317.out _; (with_reducible repeat refine bl ?_); exact BK280.out) hb); replace BK288 := Aside0.mk (blk_below (g := gb288) (o := .cells #[.int .i64 t282, .int .i64 t283, .slice Ao21 t284.length co21] 31 (0, 0)) (by (with_reducible repeat refine bl ?_); refine blk_far ?_ NB288_317.out _; (with_reducible repeat refine bl ?_); refine blk_far ?_ NB288_317.out _; (with_reducible repeat refine bl ?_); exact BK288.out) hb); replace BK297 := Aside0.mk (blk_below (g := gb297) (o := .cells #[.int .i64 t292, .slice Ao29 t293.length co29] 37 (0, 0)) (by (with_reducible repeat refine bl ?_); refine blk_far ?_ NB297_317.out _; (with_reducible repeat refine bl ?_); refine blk_far ?_ NB297_317.out _; (with_reducible repeat refine bl ?_); exact BK297.out) hb); replace BK302 := Aside0.mk (blk_below (g := gb302) (o := .cells #[.int .u64 t299, .int .u64 t300] 25 (0, 0)) (by (with_reducible repeat refine bl ?_); refine blk_far ?_ NB302_317.out _; (with_reducible repeat refine bl ?_); refine blk_far ?_ NB302_317.out _; (with_reducible repeat refine bl ?_); exact BK302.out) hb); replace BK311 := Aside0.mk (blk_below (g := gb311) (o := .cells #[.int .i64 t305, .int .i64 t306, .slice Ao108 t307.length co108] 31 (0, 0)) (by (with_reducible repeat refine bl ?_); refine blk_far ?_ NB311_317.out _; (with_reducible repeat refine bl ?_); refine blk_far ?_ NB311_317.out _; (with_reducible repeat refine bl ?_); exact BK311.out) hb); replace BK317 := Aside0.mk (blk_below (g := gb317) (o := .cells #[.int .i64 t312, .slice Ao120 t313.length co120] 37 (0, 0)) (by (with_reducible repeat refine bl ?_); refine blk_put (cs := #[.int .i64 t312, .slice none 0 0]) ?_ 1 _ rfl; (with_reducible repeat refine bl ?_); refine blk_put (cs := #[.int .i64 0, .slice none 0 0]) ?_ 0 _ rfl; (with_reducible repeat refine bl ?_); exact BK317.out) hb); replace HB := bh HB hb; (try clear hb); (try clear hb2); (try clear hk); (try clear hi); obtain ⟨hcz122_0, hcz122_1, hcz122_2⟩ := zc3 BK311; obtain ⟨hfz122_0, hfz122_1, hfz122_2⟩ := zf3 BK311; obtain ⟨hcz123_0, hcz123_1⟩ := zc2 BK317; obtain ⟨hfz123_0, hfz123_1⟩ := zf2 BK317) | (go_at_call 12; (with_reducible refine (steeplelaw03_same.calls kj14 t305 t306 _ _ t307 t312 _ _ t313 true _ ?side1 ?side2 ?side3 ?side4 A91.out).mono ?_); (case side1 => repeat (first | exact (Kd.R_reads' HO309.out).2.2 | (with_reducible refine Kd.C_alloc ?_ _) | (with_reducible refine Kd.C_drewN ?_ _) | (with_reducible refine Kd.C_drew ?_))); (case side2 => exact (Kd.R_reads' HO309.out).2.1); (case side3 => repeat (first | exact (Kd.R_reads' HO315.out).2.2 | (with_reducible refine Kd.C_alloc ?_ _) | (with_reducible refine Kd.C_drewN ?_ _) | (with_reducible refine Kd.C_drew ?_))); (case side4 => exact (Kd.R_reads' HO315.out).2.1); rintro e w124 ⟨rfl, hb⟩; replace HO_289002 := kb HO_289002 hb; replace HO_298001 := kb HO_298001 hb; replace HO309 := kb HO309 hb; replace HO315 := kb HO315 hb; replace BK280 := bb BK280 hb; replace BK288 := bb BK288 hb; replace BK297 := bb BK297 hb; replace BK302 := bb BK302 hb; replace BK311 := bb BK311 hb; replace BK317 := bb BK317 hb; replace HB := bh HB hb; (try clear hb); (try clear hb2); (try clear hk); (try clear hi); obtain ⟨hcz125_0, hcz125_1, hcz125_2⟩ := zc3 BK288; obtain ⟨hfz125_0, hfz125_1, hfz125_2⟩ := zf3 BK288; obtain ⟨hcz126_0, hcz126_1⟩ := zc2 BK297; obtain ⟨hfz126_0, hfz126_1⟩ := zf2 BK297) | (go_at_call 12; (with_reducible refine (steeplelaw03_same.calls kj14 t282 t283 _ _ t284 t292 _ _ t293 t320 _ ?side1 ?side2 ?side3 ?side4 A93.out).mono ?_); (case side1 => repeat (first | exact (Kd.R_reads' HO_289002.out).2.2 | (with_reducible refine Kd.C_alloc ?_ _) | (with_reducible refine Kd.C_drewN ?_ _) | (with_reducible refine Kd.C_drew ?_))); (case side2 => exact (Kd.R_reads' HO_289002.out).2.1); (case side3 => repeat (first | exact (Kd.R_reads' HO_298001.out).2.2 | (with_reducible refine Kd.C_alloc ?_ _) | (with_reducible refine Kd.C_drewN ?_ _) | (with_reducible refine Kd.C_drew ?_))); (case side4 => exact (Kd.R_reads' HO_298001.out).2.1); rintro e w127 ⟨rfl, hb⟩; replace HO_289002 := kb HO_289002 hb; replace HO_298001 := kb HO_298001 hb; replace HO309 := kb HO309 hb; replace HO315 := kb HO315 hb; replace BK280 := bb BK280 hb; replace BK288 := bb BK288 hb; replace BK297 := bb BK297 hb; replace BK302 := bb BK302 hb; replace BK311 := bb BK311 hb; replace BK317 := bb BK317 hb; replace HB := bh HB hb; (try clear hb); (try clear hb2); (try clear hk); (try clear hi))))
          go_ret
          exact ⟨by first | rfl | (simp [errW_none, errW_some] <;> rfl) | (simp [*, errW_none, errW_some] <;> rfl), bq HB.out⟩
         ·replace c92 := Bool.eq_false_iff.mpr c92
          subst c92
          have H1 : (none) = some r := by rw [if_neg (show ¬ (false = true) by decide)] at H; exact H
          clear H
          have H := H1
          clear H1
          exact absurd H (by simp)
        ·rw [if_neg c90] at H
         exact absurd H (by simp)
       ·replace c89 := Bool.eq_false_iff.mpr c89
        subst c89
        have H1 : (none) = some r := by rw [if_neg (show ¬ (false = true) by decide)] at H; exact H
        clear H
        have H := H1
        clear H1
        exact absurd H (by simp)
   ·replace c13 := Bool.eq_false_iff.mpr c13
    subst c13
    have H1 : (none) = some r := by rw [if_neg (show ¬ (false = true) by decide)] at H; exact H
    clear H
    have H := H1
    clear H1
    exact absurd H (by simp)
  ·rw [if_neg c11] at H
   exact absurd H (by simp)

/-- THE ONE PURE STATEMENT of steeplelaw03_PackMakes. -/
def steeplelaw03_PackMakes.Pure : Prop := ∀ (x0 : Int) (x1 : List (S25)) (x2 : S27), (Lit.int .i64 x0).wf = true → (x1.length ≤ maxLen ∧ x1.length * 16 ≤ 140737488351232 ∧ ∀ y0 ∈ x1, ((Lit.int .u64 y0.f0).wf = true ∧ (Lit.int .u64 y0.f1).wf = true)) → ((Lit.int .i64 x2.f0).wf = true ∧ ((Lit.int .u64 x2.f1.f0).wf = true ∧ (Lit.int .u64 x2.f1.f1).wf = true)) → ∃ k, steeplelaw03_PackMakes.f k x0 x1 x2.f0 x2.f1.f0 x2.f1.f1 = some true

end Go.Proofs.Ytceneggampgboaa.P
