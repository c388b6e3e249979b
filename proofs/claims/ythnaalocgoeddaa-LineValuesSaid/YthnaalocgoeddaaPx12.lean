/- Written by a program of this session: functions that the law reaches, as Lean functions, and that the code comes to their answers. Conditions: those that each theorem names. -/
import Derived.Test.YthnaalocgoeddaaPx0
import Derived.Test.YthnaalocgoeddaaPx1
import Derived.Test.YthnaalocgoeddaaPx2
import Derived.Test.YthnaalocgoeddaaPx3
import Derived.Test.YthnaalocgoeddaaPx4
import Derived.Test.YthnaalocgoeddaaPx7
import Derived.Test.YthnaalocgoeddaaPx9
import Derived.Test.YthnaalocgoeddaaPx11
import Derived.Test.YthnaalocgoeddaaHLat
namespace Go.Proofs.Ythnaalocgoeddaa.P
open Go.RowKit Go.Proofs.YthnaalocgoeddaaX Go.Proofs.YthnaalocgoeddaaW.PrintWords Go.Proofs.YthnaalocgoeddaaW.PrintLast Go.Proofs.YthnaalocgoeddaaW.PrintMore
attribute [local go_sem] max2_int min2_int max_two min_two max_three min_three max_four min_four   -- for this text's walks alone
set_option linter.unusedVariables false
set_option linter.unusedSimpArgs false

attribute [local go_sem high] eqA28 eqA37
/-! ### steeplelaw17_LineValues: function 6 -/
mutual
def steeplelaw17_LineValues.j0 : Nat → Int → List (S28) → Int → Int → Bool → Int → Int → Int → Int → Option (Bool)
 | 0, _, _, _, _, _, _, _, _, _ => none
 | k + 1, x0, x1, x8, x9, x33, x336000, x336001, x341000, x341001 => if x33 = true then (steeplelaw17_LineValues.j1 k x0 x1 x8 5 x336000 x336001 x341000 x341001) else (steeplelaw17_LineValues.j1 k x0 x1 x8 x9 x336000 x336001 x341000 x341001)
def steeplelaw17_LineValues.j1 : Nat → Int → List (S28) → Int → Int → Int → Int → Int → Int → Option (Bool)
 | 0, _, _, _, _, _, _, _, _ => none
 | k + 1, x0, x1, x8, x9, x336000, x336001, x341000, x341001 => steeplelaw17_LineValues.l0 k x0 x1 x8 x9 0 x336000 x336001 x341000 x341001 0 0
def steeplelaw17_LineValues.j3 : Nat → Int → List (S28) → Int → Int → Int → Int → Int → Int → Int → Int → Option (Bool)
 | 0, _, _, _, _, _, _, _, _, _, _ => none
 | k + 1, x0, x1, x8, x9, x336000, x336001, x341000, x341001, x344000, x344001 => if x8 = x9 then ((line_Ends.f k x1).bind fun bt347 => (if (!(bt347.1 == x344000) || (!(bt347.2 == x344001))) = true then (none) else ((line_Fits.f k x0 (wrap64 ((x1.length : Int) - 1))).bind fun t349 => ((steepleref17_Fits.f x0 (wrap64 ((x1.length : Int) - 1))).bind fun t350 => (if (t349 != t350) = true then (none) else (if x8 = 0 then ((steeplelaw17_awake.f k).bind fun t351 => (if t351 = true then ((steeplelaw01_Ref.f k x1).bind fun t352 => ((steepleref17_At.f k x0 t352 x336000 x336001).bind fun bt355 => (some (x341000 == bt355.1 && (x341001 == bt355.2))))) else (none))) else ((steeplelaw17_awake.f k).bind fun t357 => (if t357 = true then (some (x341000 == 0 && (x341001 == 0))) else (none))))))))) else (none)
def steeplelaw17_LineValues.l0 : Nat → Int → List (S28) → Int → Int → Int → Int → Int → Int → Int → Int → Int → Option (Bool)
 | 0, _, _, _, _, _, _, _, _, _, _, _ => none
 | k + 1, x0, x1, x8, x9, x11, x336000, x336001, x341000, x341001, x344000, x344001 => if x11 < (x1.length : Int) then (if x11 < 2 then (if 0 ≤ x11 then ((steepleref02_Add.f x344000 x344001 ((rd_T28 x1 x11).f0) ((rd_T28 x1 x11).f1)).bind fun bt345 => (steeplelaw17_LineValues.l0 k x0 x1 x8 x9 (wrap64 (x11 + 1)) x336000 x336001 x341000 x341001 bt345.1 bt345.2)) else (none)) else (steeplelaw17_LineValues.j3 k x0 x1 x8 x9 x336000 x336001 x341000 x341001 x344000 x344001)) else (steeplelaw17_LineValues.j3 k x0 x1 x8 x9 x336000 x336001 x341000 x341001 x344000 x344001)
end
def steeplelaw17_LineValues.f (k : Nat) (a0 : Int) (l1 : List (S28)) (a2_0 : Int) (a2_1 : Int) : Option (Bool) := if (l1.length : Int) > 12 then ((steeplelaw17_awake.f k).bind fun t336 => (some t336)) else ((line_At.f k a0 l1 a2_0 a2_1).bind fun bt337 => ((steeplelaw17_may.f k a0 l1).bind fun t341 => (if t341 = 0 then ((steepleref01_Of.f k a0 a2_0 a2_1).bind fun t342 => (steeplelaw17_LineValues.j0 k a0 l1 bt337.2.2 t341 (!t342) a2_0 a2_1 bt337.1 bt337.2.1)) else (steeplelaw17_LineValues.j0 k a0 l1 bt337.2.2 t341 false a2_0 a2_1 bt337.1 bt337.2.1))))
theorem steeplelaw17_LineValues.mono_l : ∀ k, (∀ y0 y1 y2 y3 y4 y5 y6 y7 y8, LeO (steeplelaw17_LineValues.j0 k y0 y1 y2 y3 y4 y5 y6 y7 y8) (steeplelaw17_LineValues.j0 (k + 1) y0 y1 y2 y3 y4 y5 y6 y7 y8)) ∧ (∀ y0 y1 y2 y3 y4 y5 y6 y7, LeO (steeplelaw17_LineValues.j1 k y0 y1 y2 y3 y4 y5 y6 y7) (steeplelaw17_LineValues.j1 (k + 1) y0 y1 y2 y3 y4 y5 y6 y7)) ∧ (∀ y0 y1 y2 y3 y4 y5 y6 y7 y8 y9, LeO (steeplelaw17_LineValues.j3 k y0 y1 y2 y3 y4 y5 y6 y7 y8 y9) (steeplelaw17_LineValues.j3 (k + 1) y0 y1 y2 y3 y4 y5 y6 y7 y8 y9)) ∧ (∀ y0 y1 y2 y3 y4 y5 y6 y7 y8 y9 y10, LeO (steeplelaw17_LineValues.l0 k y0 y1 y2 y3 y4 y5 y6 y7 y8 y9 y10) (steeplelaw17_LineValues.l0 (k + 1) y0 y1 y2 y3 y4 y5 y6 y7 y8 y9 y10))
 | 0 => ⟨fun _ _ _ _ _ _ _ _ _ r h => by simp [steeplelaw17_LineValues.j0] at h, fun _ _ _ _ _ _ _ _ r h => by simp [steeplelaw17_LineValues.j1] at h, fun _ _ _ _ _ _ _ _ _ _ r h => by simp [steeplelaw17_LineValues.j3] at h, fun _ _ _ _ _ _ _ _ _ _ _ r h => by simp [steeplelaw17_LineValues.l0] at h⟩
 | k + 1 => by
  obtain ⟨ih0, ih1, ih2, ih3⟩ := steeplelaw17_LineValues.mono_l k
  refine ⟨?_, ?_, ?_, ?_⟩
  ·intro y0 y1 y2 y3 y4 y5 y6 y7 y8
   unfold steeplelaw17_LineValues.j0
   repeat' first
   | (with_reducible exact ih0 _ _ _ _ _ _ _ _ _)
   | (with_reducible exact ih1 _ _ _ _ _ _ _ _)
   | (with_reducible exact ih2 _ _ _ _ _ _ _ _ _ _)
   | (with_reducible exact ih3 _ _ _ _ _ _ _ _ _ _ _)
   | (with_reducible exact line_At.mono _ _ _ _ _)
   | (with_reducible exact line_Ends.mono _ _)
   | (with_reducible exact line_Fits.mono _ _ _)
   | (with_reducible exact steeplelaw01_Ref.mono _ _)
   | (with_reducible exact steeplelaw17_awake.mono _)
   | (with_reducible exact steeplelaw17_may.mono _ _ _)
   | (with_reducible exact steepleref01_Of.mono _ _ _ _)
   | (with_reducible exact steepleref17_At.mono _ _ _ _ _)
   | (with_reducible exact LeO.refl _)
   | (with_reducible exact LeO.none _)
   | (with_reducible refine LeO.ite ?_ ?_)
   | (with_reducible refine LeO.bind ?_ (fun _ => ?_))
   | exact ih0 _ _ _ _ _ _ _ _ _
   | exact ih1 _ _ _ _ _ _ _ _
   | exact ih2 _ _ _ _ _ _ _ _ _ _
   | exact ih3 _ _ _ _ _ _ _ _ _ _ _
   | exact line_At.mono _ _ _ _ _
   | exact line_Ends.mono _ _
   | exact line_Fits.mono _ _ _
   | exact steeplelaw01_Ref.mono _ _
   | exact steeplelaw17_awake.mono _
   | exact steeplelaw17_may.mono _ _ _
   | exact steepleref01_Of.mono _ _ _ _
   | exact steepleref17_At.mono _ _ _ _ _
   | exact LeO.none _
   | refine LeO.ite ?_ ?_
   | refine LeO.bind ?_ (fun _ => ?_)
  ·intro y0 y1 y2 y3 y4 y5 y6 y7
   unfold steeplelaw17_LineValues.j1
   repeat' first
   | (with_reducible exact ih0 _ _ _ _ _ _ _ _ _)
   | (with_reducible exact ih1 _ _ _ _ _ _ _ _)
   | (with_reducible exact ih2 _ _ _ _ _ _ _ _ _ _)
   | (with_reducible exact ih3 _ _ _ _ _ _ _ _ _ _ _)
   | (with_reducible exact line_At.mono _ _ _ _ _)
   | (with_reducible exact line_Ends.mono _ _)
   | (with_reducible exact line_Fits.mono _ _ _)
   | (with_reducible exact steeplelaw01_Ref.mono _ _)
   | (with_reducible exact steeplelaw17_awake.mono _)
   | (with_reducible exact steeplelaw17_may.mono _ _ _)
   | (with_reducible exact steepleref01_Of.mono _ _ _ _)
   | (with_reducible exact steepleref17_At.mono _ _ _ _ _)
   | (with_reducible exact LeO.refl _)
   | (with_reducible exact LeO.none _)
   | (with_reducible refine LeO.ite ?_ ?_)
   | (with_reducible refine LeO.bind ?_ (fun _ => ?_))
   | exact ih0 _ _ _ _ _ _ _ _ _
   | exact ih1 _ _ _ _ _ _ _ _
   | exact ih2 _ _ _ _ _ _ _ _ _ _
   | exact ih3 _ _ _ _ _ _ _ _ _ _ _
   | exact line_At.mono _ _ _ _ _
   | exact line_Ends.mono _ _
   | exact line_Fits.mono _ _ _
   | exact steeplelaw01_Ref.mono _ _
   | exact steeplelaw17_awake.mono _
   | exact steeplelaw17_may.mono _ _ _
   | exact steepleref01_Of.mono _ _ _ _
   | exact steepleref17_At.mono _ _ _ _ _
   | exact LeO.none _
   | refine LeO.ite ?_ ?_
   | refine LeO.bind ?_ (fun _ => ?_)
  ·intro y0 y1 y2 y3 y4 y5 y6 y7 y8 y9
   unfold steeplelaw17_LineValues.j3
   repeat' first
   | (with_reducible exact ih0 _ _ _ _ _ _ _ _ _)
   | (with_reducible exact ih1 _ _ _ _ _ _ _ _)
   | (with_reducible exact ih2 _ _ _ _ _ _ _ _ _ _)
   | (with_reducible exact ih3 _ _ _ _ _ _ _ _ _ _ _)
   | (with_reducible exact line_At.mono _ _ _ _ _)
   | (with_reducible exact line_Ends.mono _ _)
   | (with_reducible exact line_Fits.mono _ _ _)
   | (with_reducible exact steeplelaw01_Ref.mono _ _)
   | (with_reducible exact steeplelaw17_awake.mono _)
   | (with_reducible exact steeplelaw17_may.mono _ _ _)
   | (with_reducible exact steepleref01_Of.mono _ _ _ _)
   | (with_reducible exact steepleref17_At.mono _ _ _ _ _)
   | (with_reducible exact LeO.refl _)
   | (with_reducible exact LeO.none _)
   | (with_reducible refine LeO.ite ?_ ?_)
   | (with_reducible refine LeO.bind ?_ (fun _ => ?_))
   | exact ih0 _ _ _ _ _ _ _ _ _
   | exact ih1 _ _ _ _ _ _ _ _
   | exact ih2 _ _ _ _ _ _ _ _ _ _
   | exact ih3 _ _ _ _ _ _ _ _ _ _ _
   | exact line_At.mono _ _ _ _ _
   | exact line_Ends.mono _ _
   | exact line_Fits.mono _ _ _
   | exact steeplelaw01_Ref.mono _ _
   | exact steeplelaw17_awake.mono _
   | exact steeplelaw17_may.mono _ _ _
   | exact steepleref01_Of.mono _ _ _ _
   | exact steepleref17_At.mono _ _ _ _ _
   | exact LeO.none _
   | refine LeO.ite ?_ ?_
   | refine LeO.bind ?_ (fun _ => ?_)
  ·intro y0 y1 y2 y3 y4 y5 y6 y7 y8 y9 y10
   unfold steeplelaw17_LineValues.l0
   repeat' first
   | (with_reducible exact ih0 _ _ _ _ _ _ _ _ _)
   | (with_reducible exact ih1 _ _ _ _ _ _ _ _)
   | (with_reducible exact ih2 _ _ _ _ _ _ _ _ _ _)
   | (with_reducible exact ih3 _ _ _ _ _ _ _ _ _ _ _)
   | (with_reducible exact line_At.mono _ _ _ _ _)
   | (with_reducible exact line_Ends.mono _ _)
   | (with_reducible exact line_Fits.mono _ _ _)
   | (with_reducible exact steeplelaw01_Ref.mono _ _)
   | (with_reducible exact steeplelaw17_awake.mono _)
   | (with_reducible exact steeplelaw17_may.mono _ _ _)
   | (with_reducible exact steepleref01_Of.mono _ _ _ _)
   | (with_reducible exact steepleref17_At.mono _ _ _ _ _)
   | (with_reducible exact LeO.refl _)
   | (with_reducible exact LeO.none _)
   | (with_reducible refine LeO.ite ?_ ?_)
   | (with_reducible refine LeO.bind ?_ (fun _ => ?_))
   | exact ih0 _ _ _ _ _ _ _ _ _
   | exact ih1 _ _ _ _ _ _ _ _
   | exact ih2 _ _ _ _ _ _ _ _ _ _
   | exact ih3 _ _ _ _ _ _ _ _ _ _ _
   | exact line_At.mono _ _ _ _ _
   | exact line_Ends.mono _ _
   | exact line_Fits.mono _ _ _
   | exact steeplelaw01_Ref.mono _ _
   | exact steeplelaw17_awake.mono _
   | exact steeplelaw17_may.mono _ _ _
   | exact steepleref01_Of.mono _ _ _ _
   | exact steepleref17_At.mono _ _ _ _ _
   | exact LeO.none _
   | refine LeO.ite ?_ ?_
   | refine LeO.bind ?_ (fun _ => ?_)
theorem steeplelaw17_LineValues.mono : ∀ a0 a1 a2 a3 k, LeO (steeplelaw17_LineValues.f k a0 a1 a2 a3) (steeplelaw17_LineValues.f (k + 1) a0 a1 a2 a3) := by
 intro a0 a1 a2 a3 k
 obtain ⟨ih0, ih1, ih2, ih3⟩ := steeplelaw17_LineValues.mono_l k
 unfold steeplelaw17_LineValues.f
 repeat' first
   | (with_reducible exact ih0 _ _ _ _ _ _ _ _ _)
   | (with_reducible exact ih1 _ _ _ _ _ _ _ _)
   | (with_reducible exact ih2 _ _ _ _ _ _ _ _ _ _)
   | (with_reducible exact ih3 _ _ _ _ _ _ _ _ _ _ _)
   | (with_reducible exact line_At.mono _ _ _ _ _)
   | (with_reducible exact line_Ends.mono _ _)
   | (with_reducible exact line_Fits.mono _ _ _)
   | (with_reducible exact steeplelaw01_Ref.mono _ _)
   | (with_reducible exact steeplelaw17_awake.mono _)
   | (with_reducible exact steeplelaw17_may.mono _ _ _)
   | (with_reducible exact steepleref01_Of.mono _ _ _ _)
   | (with_reducible exact steepleref17_At.mono _ _ _ _ _)
   | (with_reducible exact LeO.refl _)
   | (with_reducible exact LeO.none _)
   | (with_reducible refine LeO.ite ?_ ?_)
   | (with_reducible refine LeO.bind ?_ (fun _ => ?_))
   | exact ih0 _ _ _ _ _ _ _ _ _
   | exact ih1 _ _ _ _ _ _ _ _
   | exact ih2 _ _ _ _ _ _ _ _ _ _
   | exact ih3 _ _ _ _ _ _ _ _ _ _ _
   | exact line_At.mono _ _ _ _ _
   | exact line_Ends.mono _ _
   | exact line_Fits.mono _ _ _
   | exact steeplelaw01_Ref.mono _ _
   | exact steeplelaw17_awake.mono _
   | exact steeplelaw17_may.mono _ _ _
   | exact steepleref01_Of.mono _ _ _ _
   | exact steepleref17_At.mono _ _ _ _ _
   | exact LeO.none _
   | refine LeO.ite ?_ ?_
   | refine LeO.bind ?_ (fun _ => ?_)
def steeplelaw17_LineValues.T12 : Bool × List (List Nat × List Nat) := (true, [([], []), ([], []), ([0, 1], [0, 1]), ([2], [2]), ([3], [3]), ([4, 3, 3], [3, 4]), ([3], [3]), ([5, 6, 3], [3, 5, 6]), ([3, 7], [3, 7]), ([8, 5], [8]), ([9], [9]), ([9], [9]), ([11, 9], [9, 11]), ([12, 9], [9, 12]), ([10, 13, 9, 9], [9, 10, 13]), ([9], [9]), ([9], [9]), ([16, 9], [9, 16]), ([17, 9], [9, 17]), ([15, 18, 14, 9], [9, 15, 18]), ([14, 19, 9], [9, 14, 19]), ([9, 20], [9, 20])])
def steeplelaw17_LineValues.B12 : List Nat := [0, 0, 3, 7, 15, 31, 15, 127, 255, 511, 1023, 1023, 3071, 7167, 16383, 1023, 1023, 66559, 197631, 524287, 1048575, 2097151]
theorem steeplelaw17_LineValues.tab12 : rtab .any (opsOf Try.f6 12) = steeplelaw17_LineValues.T12 := by kernel_rfl
theorem steeplelaw17_LineValues.bits12 : waitsOk steeplelaw17_LineValues.T12.2 steeplelaw17_LineValues.B12 = true := by kernel_rfl
def steeplelaw17_LineValues.T16 : Bool × List (List Nat × List Nat) := (true, [([], []), ([0, 0], [0]), ([1], [1]), ([1], [1]), ([1], [1]), ([4, 1, 1], [1, 4]), ([1], [1]), ([3, 5, 6, 5, 1], [1, 3, 5, 6]), ([2, 7, 1], [1, 2, 7]), ([1, 8], [1, 8]), ([9, 7, 0, 1, 2, 3, 4, 5, 6, 7, 8, 9], [9])])
def steeplelaw17_LineValues.B16 : List Nat := [0, 1, 3, 3, 3, 19, 3, 123, 255, 511, 1023]
theorem steeplelaw17_LineValues.tab16 : rtab .any (opsOf Try.f6 16) = steeplelaw17_LineValues.T16 := by kernel_rfl
theorem steeplelaw17_LineValues.bits16 : waitsOk steeplelaw17_LineValues.T16.2 steeplelaw17_LineValues.B16 = true := by kernel_rfl
set_option maxHeartbeats 8000000 in
set_option maxRecDepth 100000 in
theorem steeplelaw17_LineValues.calls (k : Nat) (a0 : Int) (A1 : Option Addr) (c1 : Nat) (l1 : List (S28)) (a2_0 : Int) (a2_1 : Int) (r : Bool) (w : World) (hr1 : Kd.C k28 w A1 l1.length l1) (hc1 : l1.length ≤ c1) (h : steeplelaw17_LineValues.f k a0 l1 a2_0 a2_1 = some r) :
  Calls Try.prog 6 #[.int .i64 a0, .slice A1 l1.length c1, .agg #[.int .u64 a2_0, .int .u64 a2_1]] w fun e w' => e = .returned (.bool r) ∧ Below w.heap.size w w' := by
 have hu28 := Try.underlying28
 have hu37 := Try.underlying37
 have HR1 := Aside0.mk hr1
 have HC1 := Aside0.mk hc1
 clear hr1 hc1
 have HB := Aside0.mk (Below.refl w.heap.size w)
 have H : (if (l1.length : Int) > 12 then ((steeplelaw17_awake.f k).bind fun t336 => (some t336)) else ((line_At.f k a0 l1 a2_0 a2_1).bind fun bt337 => ((steeplelaw17_may.f k a0 l1).bind fun t341 => (if t341 = 0 then ((steepleref01_Of.f k a0 a2_0 a2_1).bind fun t342 => (steeplelaw17_LineValues.j0 k a0 l1 bt337.2.2 t341 (!t342) a2_0 a2_1 bt337.1 bt337.2.1)) else (steeplelaw17_LineValues.j0 k a0 l1 bt337.2.2 t341 false a2_0 a2_1 bt337.1 bt337.2.1))))) = some r := h
 clear h
 by_cases c4 : (l1.length : Int) > 12
 ·rw [if_pos c4] at H
  have c4b0 : decide (12 < (l1.length : Int)) = true := decide_eq_true c4
  have c4b1 : decide (12 < l1.length) = true := decide_eq_true (by omega)
  clear c4
  replace H := Option.bind_eq_some_iff.mp H
  obtain ⟨t336, A50, H⟩ := H
  replace H : (some t336) = some r := H
  have A5 := Aside0.mk A50
  clear A50
  obtain rfl := Option.some.inj H
  go_enter Try.func6, Try.ntmps6
  go_wp2_with (first | ((with_reducible refine gate_dst (N := 5) rfl ?_); (try (refine gate_guard (by rfl) ?_; dsimp only)); refine box_event ?hg (N := 5) ?hd (cs := #[.int .u64 a2_0, .int .u64 a2_1]) (t := 28) ?hr ?_; (case hd => rfl); (case hg => rfl); (case hr => first | (go_simp; done) | (go_simp; rfl)); intro gb335 hg w6 hbox hb; have BK335 := Aside0.mk hbox; have GW335 := ge hg HB; have GE335 := ge hg HB; replace HB := bh HB hb; clear hb hbox hg) | ((with_reducible refine gate_callee (f := 9) rfl ?_); refine goesL_ (some 15) rfl rfl Try.func9 (by kernel_rfl) rfl #[] rfl (by (try simp only [List.map_toArray, List.map_cons, List.map_nil]); first | done | rfl | (simp only [List.length_drop, List.length_take]; rfl)) ?_; (with_reducible refine (steeplelaw17_awake.calls k  t336 _ A5.out).mono ?_); rintro e w7 ⟨rfl, hb⟩; refine ⟨_, rfl, ?_⟩; replace BK335 := bb BK335 hb; replace HB := bh HB hb; (try clear hb); (try clear hb2); (try clear hk); (try clear hi)))
  go_ret
  exact ⟨by first | rfl | (simp [errW_none, errW_some] <;> rfl) | (simp [*, errW_none, errW_some] <;> rfl), bq HB.out⟩
 ·rw [if_neg c4] at H
  have c4b0 : decide (12 < (l1.length : Int)) = false := decide_eq_false c4
  have c4b1 : decide (12 < l1.length) = false := decide_eq_false (by omega)
  clear c4
  replace H := Option.bind_eq_some_iff.mp H
  obtain ⟨⟨t337, t338, t339⟩, A80, H⟩ := H
  replace H : ((steeplelaw17_may.f k a0 l1).bind fun t341 => (if t341 = 0 then ((steepleref01_Of.f k a0 a2_0 a2_1).bind fun t342 => (steeplelaw17_LineValues.j0 k a0 l1 t339 t341 (!t342) a2_0 a2_1 t337 t338)) else (steeplelaw17_LineValues.j0 k a0 l1 t339 t341 false a2_0 a2_1 t337 t338))) = some r := H
  have A8 := Aside0.mk A80
  clear A80
  replace H := Option.bind_eq_some_iff.mp H
  obtain ⟨t341, A90, H⟩ := H
  replace H : (if t341 = 0 then ((steepleref01_Of.f k a0 a2_0 a2_1).bind fun t342 => (steeplelaw17_LineValues.j0 k a0 l1 t339 t341 (!t342) a2_0 a2_1 t337 t338)) else (steeplelaw17_LineValues.j0 k a0 l1 t339 t341 false a2_0 a2_1 t337 t338)) = some r := H
  have A9 := Aside0.mk A90
  clear A90
  have HC10 := Aside0.mk H
  clear H
  go_enter Try.func6, Try.ntmps6
  go_upto_region 5 with (first | ((with_reducible refine gate_dst (N := 5) rfl ?_); (try (refine gate_guard (by rfl) ?_; dsimp only)); refine box_event ?hg (N := 5) ?hd (cs := #[.int .u64 a2_0, .int .u64 a2_1]) (t := 28) ?hr ?_; (case hd => rfl); (case hg => rfl); (case hr => first | (go_simp; done) | (go_simp; rfl)); intro gb335 hg w11 hbox hb; have BK335 := Aside0.mk hbox; have GW335 := ge hg HB; have GE335 := ge hg HB; replace HB := bh HB hb; clear hb hbox hg; obtain ⟨hcz12_0, hcz12_1⟩ := zc2 BK335; obtain ⟨hfz12_0, hfz12_1⟩ := zf2 BK335) | ((with_reducible refine gate_callee (f := 10) rfl ?_); refine goesL_ (some 20) rfl rfl Try.func10 (by kernel_rfl) rfl #[.int .i64 a0, .slice A1 l1.length c1, .agg #[.int .u64 a2_0, .int .u64 a2_1]] rfl (by (try simp only [List.map_toArray, List.map_cons, List.map_nil]); first | done | rfl | (simp only [List.length_drop, List.length_take]; rfl)) ?_; (with_reducible refine (line_At.calls k a0 _ _ l1 a2_0 a2_1 t337 t338 t339 _ ?side1 ?side2 A8.out).mono ?_); (case side1 => repeat (first | exact (Kd.C_below HR1.out HB.out) | (with_reducible refine Kd.C_alloc ?_ _) | (with_reducible refine Kd.C_drewN ?_ _) | (with_reducible refine Kd.C_drew ?_))); (case side2 => exact HC1.out); rintro e w13 ⟨rfl, hb⟩; refine ⟨_, rfl, ?_⟩; replace BK335 := bb BK335 hb; replace HB := bh HB hb; (try clear hb); (try clear hb2); (try clear hk); (try clear hi)) | ((with_reducible refine gate_dst (N := 7) rfl ?_); (try (refine gate_guard (by rfl) ?_; dsimp only)); refine box_event ?hg (N := 7) ?hd (cs := #[.int .u64 0, .int .u64 0]) (t := 28) ?hr ?_; (case hd => rfl); (case hg => rfl); (case hr => first | (go_simp; done) | (go_simp; rfl)); intro gb340 hg w14 hbox hb; have BK340 := Aside0.mk hbox; have GW340 := ge hg HB; have GE340 := ge hg HB; have NB335_340 := nl hg BK335; have NB340_335 := ng hg BK335; replace BK335 := bb BK335 hb; replace HB := bh HB hb; clear hb hbox hg; have hnb15 := NB340_335.out; have hnc15 := NB335_340.out; obtain ⟨hcz16_0, hcz16_1⟩ := zc2 BK340; obtain ⟨hfz16_0, hfz16_1⟩ := zf2 BK340) | ((with_reducible refine gate_callee (f := 8) rfl ?_); refine goesL_ (some 25) rfl rfl Try.func8 (by kernel_rfl) rfl #[.int .i64 a0, .slice A1 l1.length c1] rfl (by (try simp only [List.map_toArray, List.map_cons, List.map_nil]); first | done | rfl | (simp only [List.length_drop, List.length_take]; rfl)) ?_; (with_reducible refine (steeplelaw17_may.calls k a0 _ _ l1 t341 _ ?side1 ?side2 A9.out).mono ?_); (case side1 => exact Kd.C_below HR1.out (bq HB.out)); (case side2 => exact HC1.out); rintro e w17 ⟨rfl, hb⟩; refine ⟨_, rfl, ?_⟩; replace BK335 := Aside0.mk (blk_below (g := gb335) (o := .cells #[.int .u64 a2_0, .int .u64 a2_1] 28 (0, 0)) (by (with_reducible repeat refine bl ?_); refine blk_far ?_ NB335_340.out _; (with_reducible repeat refine bl ?_); refine blk_far ?_ NB335_340.out _; (with_reducible repeat refine bl ?_); exact BK335.out) hb); replace BK340 := Aside0.mk (blk_below (g := gb340) (o := .cells #[.int .u64 t337, .int .u64 t338] 28 (0, 0)) (by (with_reducible repeat refine bl ?_); refine blk_put (cs := #[.int .u64 t337, .int .u64 0]) ?_ 1 _ rfl; (with_reducible repeat refine bl ?_); refine blk_put (cs := #[.int .u64 0, .int .u64 0]) ?_ 0 _ rfl; (with_reducible repeat refine bl ?_); exact BK340.out) hb); replace HB := bh HB hb; (try clear hb); (try clear hb2); (try clear hk); (try clear hi)))
  (try simp only [Act.put, List.setIfInBounds_toArray, List.set_cons_zero, List.set_cons_succ])
  go_cut [33] (fun v33 wc => ∃ (kq : Nat) (x33_9 : Bool), v33 = .bool x33_9 ∧ Aside0 (steeplelaw17_LineValues.j0 kq a0 l1 t339 t341 x33_9 a2_0 a2_1 t337 t338 = some r) ∧ Aside0 (kq ≤ k) ∧ Aside0 (wc.heap[gb335]? = some (.cells #[.int .u64 a2_0, .int .u64 a2_1] 28 (0, 0))) ∧ Aside0 (wc.heap[gb340]? = some (.cells #[.int .u64 t337, .int .u64 t338] 28 (0, 0))) ∧ Aside0 (Below w.heap.size w wc))
  case first =>
   have H := HC10.out
   clear HC10
   by_cases c18 : t341 = 0
   ·rw [if_pos c18] at H
    have c18b0 : (t341 == 0) = true := beq_iff_eq.mpr c18
    have c18b1 : (t341 != 0) = false := bne_eq_false_iff_eq.mpr c18
    clear c18
    (first | rw [c18b0] | (simp only [i64_w, i32_w]; rw [c18b0]) | skip)
    replace H := Option.bind_eq_some_iff.mp H
    obtain ⟨t342, A190, H⟩ := H
    replace H : (steeplelaw17_LineValues.j0 k a0 l1 t339 t341 (!t342) a2_0 a2_1 t337 t338) = some r := H
    have A19 := Aside0.mk A190
    clear A190
    have H' := Aside0.mk H
    clear H
    have hnb20 := NB335_340.out
    have hnc20 := NB340_335.out
    obtain ⟨hcz21_0, hcz21_1⟩ := zc2 BK335
    obtain ⟨hfz21_0, hfz21_1⟩ := zf2 BK335
    go_wp2_with (first | (go_at_call 11; (with_reducible refine (steepleref01_Of.calls k a0 a2_0 a2_1 t342 _ A19.out).mono ?_); rintro e w22 ⟨rfl, hb⟩; replace BK335 := bb BK335 hb; replace BK340 := bb BK340 hb; replace HB := bh HB hb; (try clear hb); (try clear hb2); (try clear hk); (try clear hi)))
    go_meet
    case rel => exact ⟨_, (!t342), (by first | rfl | (simp; done) | (simp [*]; done)), H', ⟨by first | omega | exact Nat.le_refl _⟩, ⟨bk BK335.out⟩, ⟨bk BK340.out⟩, ⟨bq HB.out⟩⟩
   ·rw [if_neg c18] at H
    have c18b0 : (t341 == 0) = false := beq_eq_false_iff_ne.mpr c18
    have c18b1 : (t341 != 0) = true := bne_iff_ne.mpr c18
    (first | rw [c18b0] | (simp only [i64_w, i32_w]; rw [c18b0]) | skip)
    have H' := Aside0.mk H
    clear H
    go_wp2
    go_meet
    case rel => exact ⟨_, (false), (by first | rfl | (simp; done) | (simp [*]; done)), H', ⟨by first | omega | exact Nat.le_refl _⟩, ⟨bk BK335.out⟩, ⟨bk BK340.out⟩, ⟨bq HB.out⟩⟩
  case rest =>
   clear HC10
   try clear c1
   try clear c2
   try clear p2
   try clear c4
   try clear c4b0
   try clear c4b1
   try clear c6
   try clear c8
   try clear c9
   try clear c10
   try clear c15
   try clear c18
   try clear c18b0
   try clear c18b1
   try clear c20
   try clear hcz12_0
   try clear hcz12_1
   try clear hcz16_0
   try clear hcz16_1
   try clear hcz21_0
   try clear hcz21_1
   try clear hfz12_0
   try clear hfz12_1
   try clear hfz16_0
   try clear hfz16_1
   try clear hfz21_0
   try clear hfz21_1
   obtain ⟨kq, x33_9, rfl, HA, HJ9, BK335, BK340, HB⟩ := hcut
   cases kq with
   | zero => exact absurd HA.out (by simp [steeplelaw17_LineValues.j0])
   | succ kj9 =>
    have H := HA.out
    clear HA
    simp only [steeplelaw17_LineValues.j0] at H
    have HC23 := Aside0.mk H
    clear H
    go_upto_if 33 with (fail)
    go_cut [9] (fun v9 wc => ∃ (kq : Nat) (x9_22 : Int), v9 = .int .i64 x9_22 ∧ Aside0 (steeplelaw17_LineValues.j1 kq a0 l1 t339 x9_22 a2_0 a2_1 t337 t338 = some r) ∧ Aside0 (kq ≤ kj9) ∧ Aside0 (wc.heap[gb335]? = some (.cells #[.int .u64 a2_0, .int .u64 a2_1] 28 (0, 0))) ∧ Aside0 (wc.heap[gb340]? = some (.cells #[.int .u64 t337, .int .u64 t338] 28 (0, 0))) ∧ Aside0 (Below w.heap.size w wc))
    case first =>
     have H := HC23.out
     clear HC23
     by_cases c24 : x33_9 = true
     ·subst c24
      have H1 : (steeplelaw17_LineValues.j1 kj9 a0 l1 t339 5 a2_0 a2_1 t337 t338) = some r := by rw [if_pos rfl] at H; exact H
      clear H
      have H := H1
      clear H1
      have H' := Aside0.mk H
      clear H
      go_wp2
      go_meet
      case rel => exact ⟨_, (5), (by first | rfl | (simp; done) | (simp [*]; done)), H', ⟨by have := HJ9.out; first | omega | exact Nat.le_refl _⟩, ⟨bk BK335.out⟩, ⟨bk BK340.out⟩, ⟨bq HB.out⟩⟩
     ·replace c24 := Bool.eq_false_iff.mpr c24
      subst c24
      have H1 : (steeplelaw17_LineValues.j1 kj9 a0 l1 t339 t341 a2_0 a2_1 t337 t338) = some r := by rw [if_neg (show ¬ (false = true) by decide)] at H; exact H
      clear H
      have H := H1
      clear H1
      have H' := Aside0.mk H
      clear H
      go_wp2
      go_meet
      case rel => exact ⟨_, (t341), (by first | rfl | (simp; done) | (simp [*]; done)), H', ⟨by have := HJ9.out; first | omega | exact Nat.le_refl _⟩, ⟨bk BK335.out⟩, ⟨bk BK340.out⟩, ⟨bq HB.out⟩⟩
    case rest =>
     clear HC23
     try clear c1
     try clear c2
     try clear p2
     try clear c4
     try clear c4b0
     try clear c4b1
     try clear c6
     try clear c8
     try clear c9
     try clear c10
     try clear c15
     try clear c18
     try clear c18b0
     try clear c18b1
     try clear c20
     try clear c24
     try clear hcz12_0
     try clear hcz12_1
     try clear hcz16_0
     try clear hcz16_1
     try clear hcz21_0
     try clear hcz21_1
     try clear hfz12_0
     try clear hfz12_1
     try clear hfz16_0
     try clear hfz16_1
     try clear hfz21_0
     try clear hfz21_1
     try clear p2
     obtain ⟨kq, x9_22, rfl, HA, HJ22, BK335, BK340, HB⟩ := hcut
     cases kq with
     | zero => exact absurd HA.out (by simp [steeplelaw17_LineValues.j1])
     | succ kj22 =>
      have H := HA.out
      clear HA
      simp only [steeplelaw17_LineValues.j1] at H
      have HC25 := Aside0.mk H
      clear H
      go_upto_block 0 with (first | ((with_reducible refine gate_dst (N := 10) rfl ?_); (try (refine gate_guard (by rfl) ?_; dsimp only)); refine box_event ?hg (N := 10) ?hd (cs := #[.int .u64 0, .int .u64 0]) (t := 37) ?hr ?_; (case hd => rfl); (case hg => rfl); (case hr => first | (go_simp; done) | (go_simp; rfl)); intro gb343 hg w26 hbox hb; have BK343 := Aside0.mk hbox; have GW343 := ge hg HB; have GE343 := ge hg HB; have NB335_343 := nl hg BK335; have NB343_335 := ng hg BK335; have NB340_343 := nl hg BK340; have NB343_340 := ng hg BK340; replace BK335 := bb BK335 hb; replace BK340 := bb BK340 hb; replace HB := bh HB hb; clear hb hbox hg))
      (try simp only [Act.put, List.setIfInBounds_toArray, List.set_cons_zero, List.set_cons_succ])
      go_cut [] (fun wc => ∃ (kq : Nat) (x344000_24 : Int) (x344001_24 : Int), Aside0 (steeplelaw17_LineValues.j3 kq a0 l1 t339 x9_22 a2_0 a2_1 t337 t338 x344000_24 x344001_24 = some r) ∧ Aside0 (kq ≤ kj22) ∧ Aside0 (wc.heap[gb335]? = some (.cells #[.int .u64 a2_0, .int .u64 a2_1] 28 (0, 0))) ∧ Aside0 (wc.heap[gb340]? = some (.cells #[.int .u64 t337, .int .u64 t338] 28 (0, 0))) ∧ Aside0 (wc.heap[gb343]? = some (.cells #[.int .u64 x344000_24, .int .u64 x344001_24] 37 (0, 0))) ∧ Aside0 (Below w.heap.size w wc))
      case first =>
       have H := HC25.out
       clear HC25
       have H' := Aside0.mk H
       clear H
       go_wp2
       go_loopg [11] kj22 (fun kq v11 w' => ∃ (x11_3 : Int) (x344000_3 : Int) (x344001_3 : Int), v11 = .int .i64 x11_3 ∧ Aside0 (steeplelaw17_LineValues.l0 kq a0 l1 t339 x9_22 x11_3 a2_0 a2_1 t337 t338 x344000_3 x344001_3 = some r) ∧ Aside0 (kq ≤ kj22) ∧ Aside0 (w'.heap[gb335]? = some (.cells #[.int .u64 a2_0, .int .u64 a2_1] 28 (0, 0))) ∧ Aside0 (w'.heap[gb340]? = some (.cells #[.int .u64 t337, .int .u64 t338] 28 (0, 0))) ∧ Aside0 (w'.heap[gb343]? = some (.cells #[.int .u64 x344000_3, .int .u64 x344001_3] 37 (0, 0))) ∧ Aside0 (Below w.heap.size w w'))
       case atStart => exact ⟨(0), (0), (0), (by first | rfl | (simp; done) | (simp [*]; done)), H', ⟨Nat.le_refl _⟩, ⟨bk BK335.out⟩, ⟨bk BK340.out⟩, ⟨bk BK343.out⟩, ⟨bq HB.out⟩⟩
       case round =>
        clear H'
        try clear c1
        try clear c2
        try clear p2
        try clear c4
        try clear c4b0
        try clear c4b1
        try clear c6
        try clear c8
        try clear c9
        try clear c10
        try clear c15
        try clear c18
        try clear c18b0
        try clear c18b1
        try clear c20
        try clear c24
        try clear hcz12_0
        try clear hcz12_1
        try clear hcz16_0
        try clear hcz16_1
        try clear hcz21_0
        try clear hcz21_1
        try clear hfz12_0
        try clear hfz12_1
        try clear hfz16_0
        try clear hfz16_1
        try clear hfz21_0
        try clear hfz21_1
        try clear p2
        obtain ⟨x11_3, x344000_3, x344001_3, rfl, HA, HK3, BK335, BK340, BK343, HB⟩ := hrel
        cases gk with
        | zero => exact absurd HA.out (by simp [steeplelaw17_LineValues.l0])
        | succ k3 =>
         have H := HA.out
         clear HA
         simp only [steeplelaw17_LineValues.l0] at H
         by_cases c27 : x11_3 < (l1.length : Int)
         ·rw [if_pos c27] at H
          have c27b0 : decide (x11_3 < (l1.length : Int)) = true := decide_eq_true c27
          clear c27
          (first | rw [c27b0] | (simp only [i64_w, i32_w]; rw [c27b0]) | skip)
          by_cases c28 : x11_3 < 2
          ·rw [if_pos c28] at H
           have c28b0 : decide (x11_3 < 2) = true := decide_eq_true c28
           clear c28
           by_cases c29 : 0 ≤ x11_3
           ·rw [if_pos c29] at H
            have c29b0 : decide (0 ≤ x11_3) = true := decide_eq_true c29
            clear c29
            replace H := Option.bind_eq_some_iff.mp H
            obtain ⟨⟨t345, t346⟩, A300, H⟩ := H
            replace H : (steeplelaw17_LineValues.l0 k3 a0 l1 t339 x9_22 (wrap64 (x11_3 + 1)) a2_0 a2_1 t337 t338 t345 t346) = some r := H
            have A30 := Aside0.mk A300
            clear A300
            have H' := Aside0.mk H
            clear H
            try go_wp2
            replace BK335 := Aside0.mk (blk_drew BK335.out)
            replace BK340 := Aside0.mk (blk_drew BK340.out)
            replace BK343 := Aside0.mk (blk_drew BK343.out)
            replace HB := Aside0.mk (below_drew1 HB.out)
            have p344 : 0 ≤ (x11_3 : Int) := of_decide_eq_true (by first | (with_reducible assumption) | assumption)
            have q344 : x11_3 < (l1.length : Int) := of_decide_eq_true (by first | (with_reducible assumption) | assumption)
            obtain ⟨ad344, e344, hx344_0, hx344_1⟩ := at_T28 HR1.out x11_3 p344 q344
            have hw344_1 := hx344_1
            have hw344_0 := hx344_0
            cases e344
            replace hx344_0 := (HB.out.cell (World.block_lt_of_cell? w _ hx344_0)).trans hx344_0
            replace hx344_1 := (HB.out.cell (World.block_lt_of_cell? w _ hx344_1)).trans hx344_1
            replace p344 := eq_true p344
            replace q344 := eq_true q344
            refine start_ (n := 7) (S := fun w' => w'.cell? ⟨gb343, 0, none⟩ = some (.int .u64 x344000_3) ∧ w'.cell? ⟨gb343, 1, none⟩ = some (.int .u64 x344001_3) ∧ w'.cell? (ad344.add ((x11_3).toNat * 2)) = some (.int .u64 ((rd_T28 l1 x11_3).f0)) ∧ w'.cell? ⟨(ad344.add ((x11_3).toNat * 2)).block, (ad344.add ((x11_3).toNat * 2)).off + 1, none⟩ = some (.int .u64 ((rd_T28 l1 x11_3).f1))) (ds := [6]) #[false, false, false, false, false, false, false] (by kernel_rfl) rfl rfl ⟨(blk_cell BK343.out 0).trans rfl, (blk_cell BK343.out 1).trans rfl, ((HB.out.cell (World.block_lt_of_cell? w _ hw344_0)).trans hw344_0), ((HB.out.cell (World.block_lt_of_cell? w _ hw344_1)).trans hw344_1)⟩ (fun hHeld => ?_)
            generalize wr.drew = w31 at BK335 BK340 BK343 HB hx344_0 hx344_1 hHeld ⊢
            refine pure_ (i := 1) (N := some 45) (v := ?_) (a' := ?_) #[false, true, false, false, false, false, false] rfl rfl (by kernel_rfl) (fun _ _ _ h => h) (Or.inl ⟨by rfl, ?_⟩) ?_ ?_
            rotate_left
            ·intro w'
             go_simp
             with_reducible rfl
            rotate_left
            ·simp only [Act.put, List.setIfInBounds_toArray, List.set_cons_zero, List.set_cons_succ, i64_w, i32_w]
             rfl
            refine pure_ (i := 2) (N := some 46) (v := ?_) (a' := ?_) #[false, true, true, false, false, false, false] rfl rfl (by kernel_rfl) (fun _ _ _ h => h) (Or.inl ⟨by rfl, ?_⟩) ?_ ?_
            rotate_left
            ·intro w'
             go_simp
             with_reducible rfl
            rotate_left
            ·simp only [Act.put, List.setIfInBounds_toArray, List.set_cons_zero, List.set_cons_succ, i64_w, i32_w]
             rfl
            refine pure_ (i := 3) (N := some 47) (v := ?_) (a' := ?_) #[false, true, true, true, false, false, false] rfl rfl (by kernel_rfl) (fun _ _ _ h => h) (Or.inl ⟨by rfl, ?_⟩) ?_ ?_
            rotate_left
            ·intro w'
             go_simp
             with_reducible rfl
            rotate_left
            ·simp only [Act.put, List.setIfInBounds_toArray, List.set_cons_zero, List.set_cons_succ, i64_w, i32_w]
             rfl
            refine take_ (i := 0) (N := some 44) (v := ?_) (a' := ?_) #[true, true, true, true, false, false, false] rfl rfl (by kernel_rfl) (fun _ _ _ h => h) (Or.inl ⟨by rfl, ?_⟩) hHeld ?_ ?_
            rotate_left
            ·rintro w' ⟨s0, s1, s2, s3⟩
             go_simp
             with_reducible rfl
            rotate_left
            ·simp only [Act.put, List.setIfInBounds_toArray, List.set_cons_zero, List.set_cons_succ, i64_w, i32_w]
             rfl
            refine take_ (i := 4) (N := some 48) (v := ?_) (a' := ?_) #[true, true, true, true, true, false, false] rfl rfl (by kernel_rfl) (fun _ _ _ h => h) (Or.inl ⟨by rfl, ?_⟩) hHeld ?_ ?_
            rotate_left
            ·rintro w' ⟨s0, s1, s2, s3⟩
             go_simp
             with_reducible rfl
            rotate_left
            ·simp only [Act.put, List.setIfInBounds_toArray, List.set_cons_zero, List.set_cons_succ, i64_w, i32_w]
             rfl
            refine one_ (i := 5) (N := some 49) #[true, true, true, true, true, true, false] rfl rfl (by kernel_rfl) (by decide) (fun K hK => ?_)
            refine goes_ Try.func14 (by kernel_rfl) rfl #[.agg #[.int .u64 x344000_3, .int .u64 x344001_3], .agg #[.int .u64 ((rd_T28 l1 x11_3).f0), .int .u64 ((rd_T28 l1 x11_3).f1)]] (by rfl) rfl rfl (by (try simp only [List.map_toArray, List.map_cons, List.map_nil]); first | done | rfl | (simp only [List.length_drop, List.length_take]; rfl)) ?_
            with_reducible refine (steepleref02_Add.calls x344000_3 x344001_3 ((rd_T28 l1 x11_3).f0) ((rd_T28 l1 x11_3).f1) t345 t346 _ A30.out).mono ?_
            rintro e w32 ⟨rfl, hb⟩
            refine ⟨_, rfl, ?_⟩
            replace BK335 := bb BK335 hb
            replace BK340 := bb BK340 hb
            replace BK343 := bb BK343 hb
            replace HB := bh HB hb
            (try clear hb)
            (try clear hb2)
            (try clear hk)
            (try clear hi)
            refine hK.out _ _ ⟨(blk_cell BK343.out 0).trans rfl, (blk_cell BK343.out 1).trans rfl, ((HB.out.cell (World.block_lt_of_cell? w _ hw344_0)).trans hw344_0), ((HB.out.cell (World.block_lt_of_cell? w _ hw344_1)).trans hw344_1)⟩ (fun hHeld => ?_)
            clear hK K
            refine norm_ (a' := ?_) ?_ ?_
            rotate_left
            ·show Act.put _ (some 49) _ = _
             simp only [Act.put, List.setIfInBounds_toArray, List.set_cons_zero, List.set_cons_succ, i64_w, i32_w]
             rfl
            refine last_ (i := 6) (N := none) #[true, true, true, true, true, true, true] rfl rfl (by kernel_rfl) (by decide) (fun K hK => ?_)
            have hs33 : w32.cell? ⟨gb343, 0, none⟩ = some (.int .u64 x344000_3) := (blk_cell BK343.out 0).trans rfl
            have hfs33 := blk_frozen BK343.out 0
            have hns33_0 := NB335_343.out
            have hns33_1 := NB340_343.out
            have hms33_0 := NB343_335.out
            have hms33_1 := NB343_340.out
            have hs34 : w32.cell? ⟨gb343, 1, none⟩ = some (.int .u64 x344001_3) := (blk_cell BK343.out 1).trans rfl
            have hfs34 := blk_frozen BK343.out 1
            have hns34_0 := NB335_343.out
            have hns34_1 := NB340_343.out
            have hms34_0 := NB343_335.out
            have hms34_1 := NB343_340.out
            refine skip_ (w1 := ?_) (by rfl) rfl ?_ ?_
            rotate_left
            ·go_simp
             rfl
            refine hK.out _ _ ?_
            clear hK K
            refine done_ (by kernel_rfl) ?_
            try go_wp2
            go_roundg k3
            case measure => have := HJ9.out; have := HJ22.out; have := HK3.out; omega
            case rel => exact ⟨(wrap64 (x11_3 + 1)), (t345), (t346), (by first | rfl | (simp; done) | (simp [*]; done)), H', ⟨by have := HJ9.out; have := HJ22.out; have := HK3.out; omega⟩, ⟨by (with_reducible repeat refine bl ?_); refine blk_far ?_ NB335_343.out _; (with_reducible repeat refine bl ?_); refine blk_far ?_ NB335_343.out _; (with_reducible repeat refine bl ?_); exact BK335.out⟩, ⟨by (with_reducible repeat refine bl ?_); refine blk_far ?_ NB340_343.out _; (with_reducible repeat refine bl ?_); refine blk_far ?_ NB340_343.out _; (with_reducible repeat refine bl ?_); exact BK340.out⟩, ⟨by (with_reducible repeat refine bl ?_); refine blk_put (cs := #[.int .u64 t345, .int .u64 x344001_3]) ?_ 1 _ rfl; (with_reducible repeat refine bl ?_); refine blk_put (cs := #[.int .u64 x344000_3, .int .u64 x344001_3]) ?_ 0 _ rfl; (with_reducible repeat refine bl ?_); exact BK343.out⟩, ⟨bq HB.out⟩⟩
           ·rw [if_neg c29] at H
            exact absurd H (by simp)
          ·rw [if_neg c28] at H
           have c28b0 : decide (x11_3 < 2) = false := decide_eq_false c28
           clear c28
           have H' := Aside0.mk H
           clear H
           go_wp2
           go_meet
           case rel => exact ⟨_, (x344000_3), (x344001_3), H', ⟨by have := HJ9.out; have := HJ22.out; have := HK3.out; first | omega | exact Nat.le_refl _⟩, ⟨bk BK335.out⟩, ⟨bk BK340.out⟩, ⟨bk BK343.out⟩, ⟨bq HB.out⟩⟩
         ·rw [if_neg c27] at H
          have c27b0 : decide (x11_3 < (l1.length : Int)) = false := decide_eq_false c27
          clear c27
          (first | rw [c27b0] | (simp only [i64_w, i32_w]; rw [c27b0]) | skip)
          have H' := Aside0.mk H
          clear H
          go_wp2
          go_meet
          case rel => exact ⟨_, (x344000_3), (x344001_3), H', ⟨by have := HJ9.out; have := HJ22.out; have := HK3.out; first | omega | exact Nat.le_refl _⟩, ⟨bk BK335.out⟩, ⟨bk BK340.out⟩, ⟨bk BK343.out⟩, ⟨bq HB.out⟩⟩
      case rest =>
       clear HC25
       try clear c1
       try clear c2
       try clear p2
       try clear p3
       try clear q3
       try clear hx3
       try clear c4
       try clear c4b0
       try clear c4b1
       try clear c6
       try clear p6
       try clear c8
       try clear c9
       try clear c10
       try clear c14
       try clear c15
       try clear c18
       try clear c18b0
       try clear c18b1
       try clear c20
       try clear c24
       try clear c27
       try clear c27b0
       try clear c28
       try clear c28b0
       try clear c29
       try clear c29b0
       try clear p34
       try clear q34
       try clear hx34
       try clear hcz12_0
       try clear hcz12_1
       try clear hcz16_0
       try clear hcz16_1
       try clear hcz21_0
       try clear hcz21_1
       try clear hfz12_0
       try clear hfz12_1
       try clear hfz16_0
       try clear hfz16_1
       try clear hfz21_0
       try clear hfz21_1
       try clear hx344_0
       try clear hx344_1
       try clear p2
       try clear p344
       try clear q344
       obtain ⟨kq, x344000_24, x344001_24, HA, HJ24, BK335, BK340, BK343, HB⟩ := hcut
       cases kq with
       | zero => exact absurd HA.out (by simp [steeplelaw17_LineValues.j3])
       | succ kj24 =>
        have H := HA.out
        clear HA
        simp only [steeplelaw17_LineValues.j3] at H
        by_cases c35 : t339 = x9_22
        ·rw [if_pos c35] at H
         have c35b0 : (t339 == x9_22) = true := beq_iff_eq.mpr c35
         have c35b1 : (t339 != x9_22) = false := bne_eq_false_iff_eq.mpr c35
         clear c35
         replace H := Option.bind_eq_some_iff.mp H
         obtain ⟨⟨t347, t348⟩, A360, H⟩ := H
         replace H : (if (!(t347 == x344000_24) || (!(t348 == x344001_24))) = true then (none) else ((line_Fits.f kj24 a0 (wrap64 ((l1.length : Int) - 1))).bind fun t349 => ((steepleref17_Fits.f a0 (wrap64 ((l1.length : Int) - 1))).bind fun t350 => (if (t349 != t350) = true then (none) else (if t339 = 0 then ((steeplelaw17_awake.f kj24).bind fun t351 => (if t351 = true then ((steeplelaw01_Ref.f kj24 l1).bind fun t352 => ((steepleref17_At.f kj24 a0 t352 a2_0 a2_1).bind fun bt355 => (some (t337 == bt355.1 && (t338 == bt355.2))))) else (none))) else ((steeplelaw17_awake.f kj24).bind fun t357 => (if t357 = true then (some (t337 == 0 && (t338 == 0))) else (none)))))))) = some r := H
         have A36 := Aside0.mk A360
         clear A360
         by_cases c37 : (!(t347 == x344000_24) || (!(t348 == x344001_24))) = true
         ·rw [if_pos c37] at H
          have c37b0 : (!(t347 == x344000_24) || (!(t348 == x344001_24))) = true := c37
          clear c37
          exact absurd H (by simp)
         ·rw [if_neg c37] at H
          have c37b0 : (!(t347 == x344000_24) || (!(t348 == x344001_24))) = false := by simpa using c37
          clear c37
          replace H := Option.bind_eq_some_iff.mp H
          obtain ⟨t349, A380, H⟩ := H
          replace H : ((steepleref17_Fits.f a0 (wrap64 ((l1.length : Int) - 1))).bind fun t350 => (if (t349 != t350) = true then (none) else (if t339 = 0 then ((steeplelaw17_awake.f kj24).bind fun t351 => (if t351 = true then ((steeplelaw01_Ref.f kj24 l1).bind fun t352 => ((steepleref17_At.f kj24 a0 t352 a2_0 a2_1).bind fun bt355 => (some (t337 == bt355.1 && (t338 == bt355.2))))) else (none))) else ((steeplelaw17_awake.f kj24).bind fun t357 => (if t357 = true then (some (t337 == 0 && (t338 == 0))) else (none)))))) = some r := H
          have A38 := Aside0.mk A380
          clear A380
          replace H := Option.bind_eq_some_iff.mp H
          obtain ⟨t350, A390, H⟩ := H
          replace H : (if (t349 != t350) = true then (none) else (if t339 = 0 then ((steeplelaw17_awake.f kj24).bind fun t351 => (if t351 = true then ((steeplelaw01_Ref.f kj24 l1).bind fun t352 => ((steepleref17_At.f kj24 a0 t352 a2_0 a2_1).bind fun bt355 => (some (t337 == bt355.1 && (t338 == bt355.2))))) else (none))) else ((steeplelaw17_awake.f kj24).bind fun t357 => (if t357 = true then (some (t337 == 0 && (t338 == 0))) else (none))))) = some r := H
          have A39 := Aside0.mk A390
          clear A390
          by_cases c40 : (t349 != t350) = true
          ·rw [if_pos c40] at H
           exact absurd H (by simp)
          ·rw [if_neg c40] at H
           have c40b0 : (t349 != t350) = false := by simpa using c40
           (try (have c40b1 : decide (t349 = t350) = true := by simpa using c40))
           (try (have c40b2 : (t349 == t350) = true := by simpa using c40))
           clear c40
           by_cases c41 : t339 = 0
           ·rw [if_pos c41] at H
            have c41b0 : (t339 == 0) = true := beq_iff_eq.mpr c41
            have c41b1 : (t339 != 0) = false := bne_eq_false_iff_eq.mpr c41
            clear c41
            replace H := Option.bind_eq_some_iff.mp H
            obtain ⟨t351, A420, H⟩ := H
            replace H : (if t351 = true then ((steeplelaw01_Ref.f kj24 l1).bind fun t352 => ((steepleref17_At.f kj24 a0 t352 a2_0 a2_1).bind fun bt355 => (some (t337 == bt355.1 && (t338 == bt355.2))))) else (none)) = some r := H
            have A42 := Aside0.mk A420
            clear A420
            by_cases c43 : t351 = true
            ·subst c43
             have H1 : ((steeplelaw01_Ref.f kj24 l1).bind fun t352 => ((steepleref17_At.f kj24 a0 t352 a2_0 a2_1).bind fun bt355 => (some (t337 == bt355.1 && (t338 == bt355.2))))) = some r := by rw [if_pos rfl] at H; exact H
             clear H
             have H := H1
             clear H1
             replace H := Option.bind_eq_some_iff.mp H
             obtain ⟨t352, A440, H⟩ := H
             replace H : ((steepleref17_At.f kj24 a0 t352 a2_0 a2_1).bind fun bt355 => (some (t337 == bt355.1 && (t338 == bt355.2)))) = some r := H
             have A44 := Aside0.mk A440
             clear A440
             replace H := Option.bind_eq_some_iff.mp H
             obtain ⟨⟨t355, t356⟩, A450, H⟩ := H
             replace H : (some (t337 == t355 && (t338 == t356))) = some r := H
             have A45 := Aside0.mk A450
             clear A450
             obtain rfl := Option.some.inj H
             try go_wp2
             replace BK335 := Aside0.mk (blk_drew BK335.out)
             replace BK340 := Aside0.mk (blk_drew BK340.out)
             replace BK343 := Aside0.mk (blk_drew BK343.out)
             replace HB := Aside0.mk (below_drew1 HB.out)
             refine start_ (n := 22) (S := fun w' => w'.cell? ⟨gb343, 0, none⟩ = some (.int .u64 x344000_24) ∧ w'.cell? ⟨gb343, 1, none⟩ = some (.int .u64 x344001_24)) (ds := []) #[false, false, false, false, false, false, false, false, false, false, false, false, false, false, false, false, false, false, false, false, false, false] (by kernel_rfl) rfl rfl ⟨(blk_cell BK343.out 0).trans rfl, (blk_cell BK343.out 1).trans rfl⟩ (fun hHeld => ?_); refine with_tabW steeplelaw17_LineValues.tab12 steeplelaw17_LineValues.bits12 (fun HT_ HW_ => ?_)
             generalize wc.drew = w46 at BK335 BK340 BK343 HB hHeld ⊢
             refine pure_ (i := 0) (N := some 50) (v := ?_) (a' := ?_) #[true, false, false, false, false, false, false, false, false, false, false, false, false, false, false, false, false, false, false, false, false, false] rfl rfl (any_of HT_.out (by kernel_rfl)) (fun _ _ _ h => h) (Or.inl ⟨by rfl, ?_⟩) ?_ ?_
             rotate_left
             ·intro w'
              go_simp
              with_reducible rfl
             rotate_left
             ·simp only [Act.put, List.setIfInBounds_toArray, List.set_cons_zero, List.set_cons_succ, i64_w, i32_w]
              rfl
             refine pure_ (i := 1) (N := some 51) (v := ?_) (a' := ?_) #[true, true, false, false, false, false, false, false, false, false, false, false, false, false, false, false, false, false, false, false, false, false] rfl rfl (any_of HT_.out (by kernel_rfl)) (fun _ _ _ h => h) (Or.inl ⟨by rfl, ?_⟩) ?_ ?_
             rotate_left
             ·intro w'
              go_simp
              with_reducible rfl
             rotate_left
             ·simp only [Act.put, List.setIfInBounds_toArray, List.set_cons_zero, List.set_cons_succ, i64_w, i32_w]
              rfl
             refine pure_ (i := 2) (N := some 52) (v := ?_) (a' := ?_) #[true, true, true, false, false, false, false, false, false, false, false, false, false, false, false, false, false, false, false, false, false, false] rfl rfl (any_of HT_.out (by kernel_rfl)) (fun _ _ _ h => h) (Or.inl ⟨by rfl, ?_⟩) ?_ ?_
             rotate_left
             ·intro w'
              go_simp
              with_reducible rfl
             rotate_left
             ·simp only [Act.put, List.setIfInBounds_toArray, List.set_cons_zero, List.set_cons_succ, i64_w, i32_w]
              rfl
             refine pure_ (i := 3) (N := some 53) (v := ?_) (a' := ?_) #[true, true, true, true, false, false, false, false, false, false, false, false, false, false, false, false, false, false, false, false, false, false] rfl rfl (any_of HT_.out (by kernel_rfl)) (fun _ _ _ h => h) (Or.inl ⟨by rfl, ?_⟩) ?_ ?_
             rotate_left
             ·intro w'
              go_simp
              with_reducible rfl
             rotate_left
             ·simp only [Act.put, List.setIfInBounds_toArray, List.set_cons_zero, List.set_cons_succ, i64_w, i32_w]
              rfl
             refine pure_ (i := 4) (N := some 54) (v := ?_) (a' := ?_) #[true, true, true, true, true, false, false, false, false, false, false, false, false, false, false, false, false, false, false, false, false, false] rfl rfl (any_of HT_.out (by kernel_rfl)) (fun _ _ _ h => h) (Or.inl ⟨by rfl, ?_⟩) ?_ ?_
             rotate_left
             ·intro w'
              go_simp
              with_reducible rfl
             rotate_left
             ·simp only [Act.put, List.setIfInBounds_toArray, List.set_cons_zero, List.set_cons_succ, i64_w, i32_w]
              rfl
             refine take_ (i := 6) (N := some 56) (v := ?_) (a' := ?_) #[true, true, true, true, true, false, true, false, false, false, false, false, false, false, false, false, false, false, false, false, false, false] rfl rfl (take_ofW HT_.out HW_.out (by kernel_rfl)) (fun _ _ _ h => h) (Or.inl ⟨by rfl, ?_⟩) hHeld ?_ ?_
             rotate_left
             ·rintro w' ⟨s0, s1⟩
              go_simp
              with_reducible rfl
             rotate_left
             ·simp only [Act.put, List.setIfInBounds_toArray, List.set_cons_zero, List.set_cons_succ, i64_w, i32_w]
              rfl
             refine one_ (i := 5) (N := some 55) #[true, true, true, true, true, true, true, false, false, false, false, false, false, false, false, false, false, false, false, false, false, false] rfl rfl (one_of HT_.out (by kernel_rfl)) (by decide) (fun K hK => ?_)
             refine goes_ Try.func15 (by kernel_rfl) rfl #[.slice A1 l1.length c1] (by rfl) rfl rfl (by (try simp only [List.map_toArray, List.map_cons, List.map_nil]); first | done | rfl | (simp only [List.length_drop, List.length_take]; rfl)) ?_
             with_reducible refine (line_Ends.calls kj24 _ _ l1 t347 t348 _ ?side1 ?side2 A36.out).mono ?_
             (case side1 => repeat (first | exact (Kd.C_below HR1.out HB.out) | (with_reducible refine Kd.C_alloc ?_ _) | (with_reducible refine Kd.C_drewN ?_ _) | (with_reducible refine Kd.C_drew ?_)))
             (case side2 => exact HC1.out)
             rintro e w47 ⟨rfl, hb⟩
             refine ⟨_, rfl, ?_⟩
             replace BK335 := bb BK335 hb
             replace BK340 := bb BK340 hb
             replace BK343 := bb BK343 hb
             replace HB := bh HB hb
             (try clear hb)
             (try clear hb2)
             (try clear hk)
             (try clear hi)
             refine hK.out _ _ ⟨(blk_cell BK343.out 0).trans rfl, (blk_cell BK343.out 1).trans rfl⟩ (fun hHeld => ?_)
             clear hK K
             refine norm_ (a' := ?_) ?_ ?_
             rotate_left
             ·show Act.put _ (some 55) _ = _
              simp only [Act.put, List.setIfInBounds_toArray, List.set_cons_zero, List.set_cons_succ, i64_w, i32_w]
              rfl
             refine pure_ (i := 7) (N := some 57) (v := ?_) (a' := ?_) #[true, true, true, true, true, true, true, true, false, false, false, false, false, false, false, false, false, false, false, false, false, false] rfl rfl (any_of HT_.out (by kernel_rfl)) (fun _ _ _ h => h) (Or.inl ⟨by rfl, ?_⟩) ?_ ?_
             rotate_left
             ·intro w'
              go_simp
              with_reducible rfl
             rotate_left
             ·simp only [Act.put, List.setIfInBounds_toArray, List.set_cons_zero, List.set_cons_succ, i64_w, i32_w]
              rfl
             refine pure_ (i := 8) (N := some 58) (v := ?_) (a' := ?_) #[true, true, true, true, true, true, true, true, true, false, false, false, false, false, false, false, false, false, false, false, false, false] rfl rfl (any_of HT_.out (by kernel_rfl)) (fun _ _ _ h => h) (Or.inl ⟨by rfl, ?_⟩) ?_ ?_
             rotate_left
             ·intro w'
              go_simp
              with_reducible rfl
             rotate_left
             ·simp only [Act.put, List.setIfInBounds_toArray, List.set_cons_zero, List.set_cons_succ, i64_w, i32_w]
              rfl
             refine pure_ (i := 9) (N := some 59) (v := ?_) (a' := ?_) #[true, true, true, true, true, true, true, true, true, true, false, false, false, false, false, false, false, false, false, false, false, false] rfl rfl (any_of HT_.out (by kernel_rfl)) (fun _ _ _ h => h) (Or.inl ⟨by rfl, ?_⟩) ?_ ?_
             rotate_left
             ·intro w'
              go_simp
              with_reducible rfl
             rotate_left
             ·simp only [Act.put, List.setIfInBounds_toArray, List.set_cons_zero, List.set_cons_succ, i64_w, i32_w]
              rfl
             refine pure_ (i := 10) (N := some 60) (v := ?_) (a' := ?_) #[true, true, true, true, true, true, true, true, true, true, true, false, false, false, false, false, false, false, false, false, false, false] rfl rfl (any_of HT_.out (by kernel_rfl)) (fun _ _ _ h => h) (Or.inl ⟨by rfl, ?_⟩) ?_ ?_
             rotate_left
             ·intro w'
              go_simp
              with_reducible rfl
             rotate_left
             ·simp only [Act.put, List.setIfInBounds_toArray, List.set_cons_zero, List.set_cons_succ, i64_w, i32_w]
              rfl
             refine pure_ (i := 11) (N := some 61) (v := ?_) (a' := ?_) #[true, true, true, true, true, true, true, true, true, true, true, true, false, false, false, false, false, false, false, false, false, false] rfl rfl (any_of HT_.out (by kernel_rfl)) (fun _ _ _ h => h) (Or.inl ⟨by rfl, ?_⟩) ?_ ?_
             rotate_left
             ·intro w'
              go_simp
              with_reducible rfl
             rotate_left
             ·simp only [Act.put, List.setIfInBounds_toArray, List.set_cons_zero, List.set_cons_succ, i64_w, i32_w]
              rfl
             refine pure_ (i := 12) (N := some 62) (v := ?_) (a' := ?_) #[true, true, true, true, true, true, true, true, true, true, true, true, true, false, false, false, false, false, false, false, false, false] rfl rfl (any_of HT_.out (by kernel_rfl)) (fun _ _ _ h => h) (Or.inl ⟨by rfl, ?_⟩) ?_ ?_
             rotate_left
             ·intro w'
              go_simp
              with_reducible rfl
             rotate_left
             ·simp only [Act.put, List.setIfInBounds_toArray, List.set_cons_zero, List.set_cons_succ, i64_w, i32_w]
              rfl
             refine pure_ (i := 13) (N := some 63) (v := ?_) (a' := ?_) #[true, true, true, true, true, true, true, true, true, true, true, true, true, true, false, false, false, false, false, false, false, false] rfl rfl (any_of HT_.out (by kernel_rfl)) (fun _ _ _ h => h) (Or.inl ⟨by rfl, ?_⟩) ?_ ?_
             rotate_left
             ·intro w'
              go_simp
              with_reducible rfl
             rotate_left
             ·simp only [Act.put, List.setIfInBounds_toArray, List.set_cons_zero, List.set_cons_succ, i64_w, i32_w]
              rfl
             refine pure_ (i := 15) (N := some 65) (v := ?_) (a' := ?_) #[true, true, true, true, true, true, true, true, true, true, true, true, true, true, false, true, false, false, false, false, false, false] rfl rfl (any_of HT_.out (by kernel_rfl)) (fun _ _ _ h => h) (Or.inl ⟨by rfl, ?_⟩) ?_ ?_
             rotate_left
             ·intro w'
              go_simp
              with_reducible rfl
             rotate_left
             ·simp only [Act.put, List.setIfInBounds_toArray, List.set_cons_zero, List.set_cons_succ, i64_w, i32_w]
              rfl
             refine pure_ (i := 16) (N := some 66) (v := ?_) (a' := ?_) #[true, true, true, true, true, true, true, true, true, true, true, true, true, true, false, true, true, false, false, false, false, false] rfl rfl (any_of HT_.out (by kernel_rfl)) (fun _ _ _ h => h) (Or.inl ⟨by rfl, ?_⟩) ?_ ?_
             rotate_left
             ·intro w'
              go_simp
              with_reducible rfl
             rotate_left
             ·simp only [Act.put, List.setIfInBounds_toArray, List.set_cons_zero, List.set_cons_succ, i64_w, i32_w]
              rfl
             refine pure_ (i := 17) (N := some 67) (v := ?_) (a' := ?_) #[true, true, true, true, true, true, true, true, true, true, true, true, true, true, false, true, true, true, false, false, false, false] rfl rfl (any_of HT_.out (by kernel_rfl)) (fun _ _ _ h => h) (Or.inl ⟨by rfl, ?_⟩) ?_ ?_
             rotate_left
             ·intro w'
              go_simp
              with_reducible rfl
             rotate_left
             ·simp only [Act.put, List.setIfInBounds_toArray, List.set_cons_zero, List.set_cons_succ, i64_w, i32_w]
              rfl
             refine pure_ (i := 18) (N := some 68) (v := ?_) (a' := ?_) #[true, true, true, true, true, true, true, true, true, true, true, true, true, true, false, true, true, true, true, false, false, false] rfl rfl (any_of HT_.out (by kernel_rfl)) (fun _ _ _ h => h) (Or.inl ⟨by rfl, ?_⟩) ?_ ?_
             rotate_left
             ·intro w'
              go_simp
              with_reducible rfl
             rotate_left
             ·simp only [Act.put, List.setIfInBounds_toArray, List.set_cons_zero, List.set_cons_succ, i64_w, i32_w]
              rfl
             refine one_ (i := 14) (N := some 64) #[true, true, true, true, true, true, true, true, true, true, true, true, true, true, true, true, true, true, true, false, false, false] rfl rfl (one_of HT_.out (by kernel_rfl)) (by decide) (fun K hK => ?_)
             refine goes_ Try.func16 (by kernel_rfl) rfl #[.int .i64 a0, .int .i64 (wrap64 ((l1.length : Int) - 1))] (by rfl) rfl rfl (by (try simp only [List.map_toArray, List.map_cons, List.map_nil]); first | done | rfl | (simp only [List.length_drop, List.length_take]; rfl)) ?_
             with_reducible refine (line_Fits.calls kj24 a0 (wrap64 ((l1.length : Int) - 1)) t349 _ A38.out).mono ?_
             rintro e w48 ⟨rfl, hb⟩
             refine ⟨_, rfl, ?_⟩
             replace BK335 := bb BK335 hb
             replace BK340 := bb BK340 hb
             replace BK343 := bb BK343 hb
             replace HB := bh HB hb
             (try clear hb)
             (try clear hb2)
             (try clear hk)
             (try clear hi)
             refine hK.out _ _ ⟨(blk_cell BK343.out 0).trans rfl, (blk_cell BK343.out 1).trans rfl⟩ (fun hHeld => ?_)
             clear hK K
             refine norm_ (a' := ?_) ?_ ?_
             rotate_left
             ·show Act.put _ (some 64) _ = _
              simp only [Act.put, List.setIfInBounds_toArray, List.set_cons_zero, List.set_cons_succ, i64_w, i32_w]
              rfl
             refine one_ (i := 19) (N := some 69) #[true, true, true, true, true, true, true, true, true, true, true, true, true, true, true, true, true, true, true, true, false, false] rfl rfl (one_of HT_.out (by kernel_rfl)) (by decide) (fun K hK => ?_)
             refine goes_ Try.func17 (by kernel_rfl) rfl #[.int .i64 a0, .int .i64 (wrap64 ((l1.length : Int) - 1))] (by rfl) rfl rfl (by (try simp only [List.map_toArray, List.map_cons, List.map_nil]); first | done | rfl | (simp only [List.length_drop, List.length_take]; rfl)) ?_
             with_reducible refine (steepleref17_Fits.calls a0 (wrap64 ((l1.length : Int) - 1)) t350 _ A39.out).mono ?_
             rintro e w49 ⟨rfl, hb⟩
             refine ⟨_, rfl, ?_⟩
             replace BK335 := bb BK335 hb
             replace BK340 := bb BK340 hb
             replace BK343 := bb BK343 hb
             replace HB := bh HB hb
             (try clear hb)
             (try clear hb2)
             (try clear hk)
             (try clear hi)
             refine hK.out _ _ ⟨(blk_cell BK343.out 0).trans rfl, (blk_cell BK343.out 1).trans rfl⟩ (fun hHeld => ?_)
             clear hK K
             refine norm_ (a' := ?_) ?_ ?_
             rotate_left
             ·show Act.put _ (some 69) _ = _
              simp only [Act.put, List.setIfInBounds_toArray, List.set_cons_zero, List.set_cons_succ, i64_w, i32_w]
              rfl
             refine pure_ (i := 20) (N := some 70) (v := ?_) (a' := ?_) #[true, true, true, true, true, true, true, true, true, true, true, true, true, true, true, true, true, true, true, true, true, false] rfl rfl (any_of HT_.out (by kernel_rfl)) (fun _ _ _ h => h) (Or.inl ⟨by rfl, ?_⟩) ?_ ?_
             rotate_left
             ·intro w'
              go_simp
              with_reducible rfl
             rotate_left
             ·simp only [Act.put, List.setIfInBounds_toArray, List.set_cons_zero, List.set_cons_succ, i64_w, i32_w]
              rfl
             refine pure_ (i := 21) (N := some 71) (v := ?_) (a' := ?_) #[true, true, true, true, true, true, true, true, true, true, true, true, true, true, true, true, true, true, true, true, true, true] rfl rfl (any_of HT_.out (by kernel_rfl)) (fun _ _ _ h => h) (Or.inl ⟨by rfl, ?_⟩) ?_ ?_
             rotate_left
             ·intro w'
              go_simp
              with_reducible rfl
             rotate_left
             ·simp only [Act.put, List.setIfInBounds_toArray, List.set_cons_zero, List.set_cons_succ, i64_w, i32_w]
              rfl
             refine done_ (done_of HT_.out (by kernel_rfl)) ?_
             try go_wp2
             replace BK335 := Aside0.mk (blk_drew BK335.out)
             replace BK340 := Aside0.mk (blk_drew BK340.out)
             replace BK343 := Aside0.mk (blk_drew BK343.out)
             replace HB := Aside0.mk (below_drew1 HB.out)
             refine start_ (n := 11) (S := fun w' => w'.cell? ⟨gb340, 0, none⟩ = some (.int .u64 t337) ∧ w'.cell? ⟨gb340, 1, none⟩ = some (.int .u64 t338) ∧ w'.cell? ⟨gb335, 0, none⟩ = some (.int .u64 a2_0) ∧ w'.cell? ⟨gb335, 1, none⟩ = some (.int .u64 a2_1)) (ds := []) #[false, false, false, false, false, false, false, false, false, false, false] (by kernel_rfl) rfl rfl ⟨(blk_cell BK340.out 0).trans rfl, (blk_cell BK340.out 1).trans rfl, (blk_cell BK335.out 0).trans rfl, (blk_cell BK335.out 1).trans rfl⟩ (fun hHeld => ?_); refine with_tabW steeplelaw17_LineValues.tab16 steeplelaw17_LineValues.bits16 (fun HT_ HW_ => ?_)
             generalize w49.drew = w50 at BK335 BK340 BK343 HB hHeld ⊢
             refine one_ (i := 0) (N := some 80) #[true, false, false, false, false, false, false, false, false, false, false] rfl rfl (one_of HT_.out (by kernel_rfl)) (by decide) (fun K hK => ?_)
             refine goes_ Try.func9 (by kernel_rfl) rfl #[] (by rfl) rfl rfl (by (try simp only [List.map_toArray, List.map_cons, List.map_nil]); first | done | rfl | (simp only [List.length_drop, List.length_take]; rfl)) ?_
             with_reducible refine (steeplelaw17_awake.calls kj24  true _ A42.out).mono ?_
             rintro e w51 ⟨rfl, hb⟩
             refine ⟨_, rfl, ?_⟩
             replace BK335 := bb BK335 hb
             replace BK340 := bb BK340 hb
             replace BK343 := bb BK343 hb
             replace HB := bh HB hb
             (try clear hb)
             (try clear hb2)
             (try clear hk)
             (try clear hi)
             refine hK.out _ _ ⟨(blk_cell BK340.out 0).trans rfl, (blk_cell BK340.out 1).trans rfl, (blk_cell BK335.out 0).trans rfl, (blk_cell BK335.out 1).trans rfl⟩ (fun hHeld => ?_)
             clear hK K
             refine norm_ (a' := ?_) ?_ ?_
             rotate_left
             ·show Act.put _ (some 80) _ = _
              simp only [Act.put, List.setIfInBounds_toArray, List.set_cons_zero, List.set_cons_succ, i64_w, i32_w]
              rfl
             refine pure_ (i := 1) (N := some 81) (v := ?_) (a' := ?_) #[true, true, false, false, false, false, false, false, false, false, false] rfl rfl (any_of HT_.out (by kernel_rfl)) (fun _ _ _ h => h) (Or.inl ⟨by rfl, ?_⟩) ?_ ?_
             rotate_left
             ·intro w'
              go_simp
              with_reducible rfl
             rotate_left
             ·simp only [Act.put, List.setIfInBounds_toArray, List.set_cons_zero, List.set_cons_succ, i64_w, i32_w]
              rfl
             refine pure_ (i := 3) (N := some 83) (v := ?_) (a' := ?_) #[true, true, false, true, false, false, false, false, false, false, false] rfl rfl (any_of HT_.out (by kernel_rfl)) (fun _ _ _ h => h) (Or.inl ⟨by rfl, ?_⟩) ?_ ?_
             rotate_left
             ·intro w'
              go_simp
              with_reducible rfl
             rotate_left
             ·simp only [Act.put, List.setIfInBounds_toArray, List.set_cons_zero, List.set_cons_succ, i64_w, i32_w]
              rfl
             refine pure_ (i := 4) (N := some 84) (v := ?_) (a' := ?_) #[true, true, false, true, true, false, false, false, false, false, false] rfl rfl (any_of HT_.out (by kernel_rfl)) (fun _ _ _ h => h) (Or.inl ⟨by rfl, ?_⟩) ?_ ?_
             rotate_left
             ·intro w'
              go_simp
              with_reducible rfl
             rotate_left
             ·simp only [Act.put, List.setIfInBounds_toArray, List.set_cons_zero, List.set_cons_succ, i64_w, i32_w]
              rfl
             refine take_ (i := 2) (N := some 82) (v := ?_) (a' := ?_) #[true, true, true, true, true, false, false, false, false, false, false] rfl rfl (take_ofW HT_.out HW_.out (by kernel_rfl)) (fun _ _ _ h => h) (Or.inl ⟨by rfl, ?_⟩) hHeld ?_ ?_
             rotate_left
             ·rintro w' ⟨s0, s1, s2, s3⟩
              go_simp
              with_reducible rfl
             rotate_left
             ·simp only [Act.put, List.setIfInBounds_toArray, List.set_cons_zero, List.set_cons_succ, i64_w, i32_w]
              rfl
             refine take_ (i := 6) (N := some 86) (v := ?_) (a' := ?_) #[true, true, true, true, true, false, true, false, false, false, false] rfl rfl (take_ofW HT_.out HW_.out (by kernel_rfl)) (fun _ _ _ h => h) (Or.inl ⟨by rfl, ?_⟩) hHeld ?_ ?_
             rotate_left
             ·rintro w' ⟨s0, s1, s2, s3⟩
              go_simp
              with_reducible rfl
             rotate_left
             ·simp only [Act.put, List.setIfInBounds_toArray, List.set_cons_zero, List.set_cons_succ, i64_w, i32_w]
              rfl
             refine one_ (i := 5) (N := some 85) #[true, true, true, true, true, true, true, false, false, false, false] rfl rfl (one_of HT_.out (by kernel_rfl)) (by decide) (fun K hK => ?_)
             refine goes_ Try.func19 (by kernel_rfl) rfl #[.slice A1 l1.length c1] (by rfl) rfl rfl (by (try simp only [List.map_toArray, List.map_cons, List.map_nil]); first | done | rfl | (simp only [List.length_drop, List.length_take]; rfl)) ?_
             with_reducible refine (steeplelaw01_Ref.calls kj24 _ _ l1 t352 _ ?side1 ?side2 A44.out).mono ?_
             (case side1 => repeat (first | exact (Kd.C_below HR1.out HB.out) | (with_reducible refine Kd.C_alloc ?_ _) | (with_reducible refine Kd.C_drewN ?_ _) | (with_reducible refine Kd.C_drew ?_)))
             (case side2 => exact HC1.out)
             rintro e w52 ⟨v353, rfl, ho0, hb⟩
             refine ⟨_, rfl, ?_⟩
             have HO354 := Aside0.mk (Kd.R_lower (Kd.R_newB ho0 (g := gb343) (o := .cells #[.int .u64 x344000_24, .int .u64 x344001_24] 37 (0, 0)) (bk BK343.out)) (below_size (bq HB.out)))
             replace BK335 := bb BK335 hb
             replace BK340 := bb BK340 hb
             replace BK343 := bb BK343 hb
             replace HB := bh HB hb
             (try clear hb)
             (try clear hb2)
             (try clear hk)
             (try clear hi)
             (try clear ho0)
             obtain ⟨Ao53, co53, eo53⟩ := Kd.R_slice HO354.out
             (first | subst eo53 | (injection eo53 with f1_ f2_ f3_; have f4_ := f1_.symm; have f5_ := f3_.symm; clear f1_ f2_ f3_; subst f4_; subst f5_))
             refine hK.out _ _ ⟨(blk_cell BK340.out 0).trans rfl, (blk_cell BK340.out 1).trans rfl, (blk_cell BK335.out 0).trans rfl, (blk_cell BK335.out 1).trans rfl⟩ (fun hHeld => ?_)
             clear hK K
             refine norm_ (a' := ?_) ?_ ?_
             rotate_left
             ·show Act.put _ (some 85) _ = _
              simp only [Act.put, List.setIfInBounds_toArray, List.set_cons_zero, List.set_cons_succ, i64_w, i32_w]
              rfl
             refine one_ (i := 7) (N := some 87) #[true, true, true, true, true, true, true, true, false, false, false] rfl rfl (one_of HT_.out (by kernel_rfl)) (by decide) (fun K hK => ?_)
             refine goes_ Try.func18 (by kernel_rfl) rfl #[.int .i64 a0, .slice Ao53 t352.length co53, .agg #[.int .u64 a2_0, .int .u64 a2_1]] (by rfl) rfl rfl (by (try simp only [List.map_toArray, List.map_cons, List.map_nil]); first | done | rfl | (simp only [List.length_drop, List.length_take]; rfl)) ?_
             with_reducible refine (steepleref17_At.calls kj24 a0 (fun k_ => some k_ = (.slice Ao53 t352.length co53 : Value).ownBlock) _ _ t352 a2_0 a2_1 t355 t356 _ ?side1 A45.out).mono ?_
             (case side1 => exact Kd.R_V (Kd.R_tight rfl (Kd.R_types (Kd.R_types (HO354.out) BK335.out (by decide)) BK340.out (by decide))))
             rintro e w54 ⟨rfl, hb⟩
             refine ⟨_, rfl, ?_⟩
             replace HO354 := kb HO354 hb
             replace BK335 := bb BK335 hb
             replace BK340 := bb BK340 hb
             replace BK343 := bb BK343 hb
             replace HB := bh HB hb
             (try clear hb)
             (try clear hb2)
             (try clear hk)
             (try clear hi)
             refine hK.out _ _ ⟨(blk_cell BK340.out 0).trans rfl, (blk_cell BK340.out 1).trans rfl, (blk_cell BK335.out 0).trans rfl, (blk_cell BK335.out 1).trans rfl⟩ (fun hHeld => ?_)
             clear hK K
             refine norm_ (a' := ?_) ?_ ?_
             rotate_left
             ·show Act.put _ (some 87) _ = _
              simp only [Act.put, List.setIfInBounds_toArray, List.set_cons_zero, List.set_cons_succ, i64_w, i32_w]
              rfl
             refine pure_ (i := 8) (N := some 88) (v := ?_) (a' := ?_) #[true, true, true, true, true, true, true, true, true, false, false] rfl rfl (any_of HT_.out (by kernel_rfl)) (fun _ _ _ h => h) (Or.inl ⟨by rfl, ?_⟩) ?_ ?_
             rotate_left
             ·intro w'
              go_simp
              with_reducible rfl
             rotate_left
             ·simp only [Act.put, List.setIfInBounds_toArray, List.set_cons_zero, List.set_cons_succ, i64_w, i32_w]
              rfl
             refine pure_ (i := 9) (N := some 89) (v := ?_) (a' := ?_) #[true, true, true, true, true, true, true, true, true, true, false] rfl rfl (any_of HT_.out (by kernel_rfl)) (fun _ _ _ h => h) (Or.inl ⟨by rfl, ?_⟩) ?_ ?_
             rotate_left
             ·intro w'
              go_simp
              with_reducible rfl
             rotate_left
             ·simp only [Act.put, List.setIfInBounds_toArray, List.set_cons_zero, List.set_cons_succ, i64_w, i32_w]
              rfl
             refine pure_ (i := 10) (N := some 6) (v := ?_) (a' := ?_) #[true, true, true, true, true, true, true, true, true, true, true] rfl rfl (any_of HT_.out (by kernel_rfl)) (fun _ _ _ h => h) (Or.inl ⟨by rfl, ?_⟩) ?_ ?_
             rotate_left
             ·intro w'
              go_simp
              with_reducible rfl
             rotate_left
             ·simp only [Act.put, List.setIfInBounds_toArray, List.set_cons_zero, List.set_cons_succ, i64_w, i32_w]
              rfl
             refine done_ (done_of HT_.out (by kernel_rfl)) ?_
             try go_wp2
             go_ret
             exact ⟨by first | rfl | (simp [errW_none, errW_some] <;> rfl) | (simp [*, errW_none, errW_some] <;> rfl), bq HB.out⟩
            ·replace c43 := Bool.eq_false_iff.mpr c43
             subst c43
             have H1 : (none) = some r := by rw [if_neg (show ¬ (false = true) by decide)] at H; exact H
             clear H
             have H := H1
             clear H1
             exact absurd H (by simp)
           ·rw [if_neg c41] at H
            have c41b0 : (t339 == 0) = false := beq_eq_false_iff_ne.mpr c41
            have c41b1 : (t339 != 0) = true := bne_iff_ne.mpr c41
            replace H := Option.bind_eq_some_iff.mp H
            obtain ⟨t357, A550, H⟩ := H
            replace H : (if t357 = true then (some (t337 == 0 && (t338 == 0))) else (none)) = some r := H
            have A55 := Aside0.mk A550
            clear A550
            by_cases c56 : t357 = true
            ·subst c56
             have H1 : (some (t337 == 0 && (t338 == 0))) = some r := by rw [if_pos rfl] at H; exact H
             clear H
             have H := H1
             clear H1
             obtain rfl := Option.some.inj H
             try go_wp2
             replace BK335 := Aside0.mk (blk_drew BK335.out)
             replace BK340 := Aside0.mk (blk_drew BK340.out)
             replace BK343 := Aside0.mk (blk_drew BK343.out)
             replace HB := Aside0.mk (below_drew1 HB.out)
             refine start_ (n := 22) (S := fun w' => w'.cell? ⟨gb343, 0, none⟩ = some (.int .u64 x344000_24) ∧ w'.cell? ⟨gb343, 1, none⟩ = some (.int .u64 x344001_24)) (ds := []) #[false, false, false, false, false, false, false, false, false, false, false, false, false, false, false, false, false, false, false, false, false, false] (by kernel_rfl) rfl rfl ⟨(blk_cell BK343.out 0).trans rfl, (blk_cell BK343.out 1).trans rfl⟩ (fun hHeld => ?_); refine with_tabW steeplelaw17_LineValues.tab12 steeplelaw17_LineValues.bits12 (fun HT_ HW_ => ?_)
             generalize wc.drew = w57 at BK335 BK340 BK343 HB hHeld ⊢
             refine pure_ (i := 0) (N := some 50) (v := ?_) (a' := ?_) #[true, false, false, false, false, false, false, false, false, false, false, false, false, false, false, false, false, false, false, false, false, false] rfl rfl (any_of HT_.out (by kernel_rfl)) (fun _ _ _ h => h) (Or.inl ⟨by rfl, ?_⟩) ?_ ?_
             rotate_left
             ·intro w'
              go_simp
              with_reducible rfl
             rotate_left
             ·simp only [Act.put, List.setIfInBounds_toArray, List.set_cons_zero, List.set_cons_succ, i64_w, i32_w]
              rfl
             refine pure_ (i := 1) (N := some 51) (v := ?_) (a' := ?_) #[true, true, false, false, false, false, false, false, false, false, false, false, false, false, false, false, false, false, false, false, false, false] rfl rfl (any_of HT_.out (by kernel_rfl)) (fun _ _ _ h => h) (Or.inl ⟨by rfl, ?_⟩) ?_ ?_
             rotate_left
             ·intro w'
              go_simp
              with_reducible rfl
             rotate_left
             ·simp only [Act.put, List.setIfInBounds_toArray, List.set_cons_zero, List.set_cons_succ, i64_w, i32_w]
              rfl
             refine pure_ (i := 2) (N := some 52) (v := ?_) (a' := ?_) #[true, true, true, false, false, false, false, false, false, false, false, false, false, false, false, false, false, false, false, false, false, false] rfl rfl (any_of HT_.out (by kernel_rfl)) (fun _ _ _ h => h) (Or.inl ⟨by rfl, ?_⟩) ?_ ?_
             rotate_left
             ·intro w'
              go_simp
              with_reducible rfl
             rotate_left
             ·simp only [Act.put, List.setIfInBounds_toArray, List.set_cons_zero, List.set_cons_succ, i64_w, i32_w]
              rfl
             refine pure_ (i := 3) (N := some 53) (v := ?_) (a' := ?_) #[true, true, true, true, false, false, false, false, false, false, false, false, false, false, false, false, false, false, false, false, false, false] rfl rfl (any_of HT_.out (by kernel_rfl)) (fun _ _ _ h => h) (Or.inl ⟨by rfl, ?_⟩) ?_ ?_
             rotate_left
             ·intro w'
              go_simp
              with_reducible rfl
             rotate_left
             ·simp only [Act.put, List.setIfInBounds_toArray, List.set_cons_zero, List.set_cons_succ, i64_w, i32_w]
              rfl
             refine pure_ (i := 4) (N := some 54) (v := ?_) (a' := ?_) #[true, true, true, true, true, false, false, false, false, false, false, false, false, false, false, false, false, false, false, false, false, false] rfl rfl (any_of HT_.out (by kernel_rfl)) (fun _ _ _ h => h) (Or.inl ⟨by rfl, ?_⟩) ?_ ?_
             rotate_left
             ·intro w'
              go_simp
              with_reducible rfl
             rotate_left
             ·simp only [Act.put, List.setIfInBounds_toArray, List.set_cons_zero, List.set_cons_succ, i64_w, i32_w]
              rfl
             refine take_ (i := 6) (N := some 56) (v := ?_) (a' := ?_) #[true, true, true, true, true, false, true, false, false, false, false, false, false, false, false, false, false, false, false, false, false, false] rfl rfl (take_ofW HT_.out HW_.out (by kernel_rfl)) (fun _ _ _ h => h) (Or.inl ⟨by rfl, ?_⟩) hHeld ?_ ?_
             rotate_left
             ·rintro w' ⟨s0, s1⟩
              go_simp
              with_reducible rfl
             rotate_left
             ·simp only [Act.put, List.setIfInBounds_toArray, List.set_cons_zero, List.set_cons_succ, i64_w, i32_w]
              rfl
             refine one_ (i := 5) (N := some 55) #[true, true, true, true, true, true, true, false, false, false, false, false, false, false, false, false, false, false, false, false, false, false] rfl rfl (one_of HT_.out (by kernel_rfl)) (by decide) (fun K hK => ?_)
             refine goes_ Try.func15 (by kernel_rfl) rfl #[.slice A1 l1.length c1] (by rfl) rfl rfl (by (try simp only [List.map_toArray, List.map_cons, List.map_nil]); first | done | rfl | (simp only [List.length_drop, List.length_take]; rfl)) ?_
             with_reducible refine (line_Ends.calls kj24 _ _ l1 t347 t348 _ ?side1 ?side2 A36.out).mono ?_
             (case side1 => repeat (first | exact (Kd.C_below HR1.out HB.out) | (with_reducible refine Kd.C_alloc ?_ _) | (with_reducible refine Kd.C_drewN ?_ _) | (with_reducible refine Kd.C_drew ?_)))
             (case side2 => exact HC1.out)
             rintro e w58 ⟨rfl, hb⟩
             refine ⟨_, rfl, ?_⟩
             replace BK335 := bb BK335 hb
             replace BK340 := bb BK340 hb
             replace BK343 := bb BK343 hb
             replace HB := bh HB hb
             (try clear hb)
             (try clear hb2)
             (try clear hk)
             (try clear hi)
             refine hK.out _ _ ⟨(blk_cell BK343.out 0).trans rfl, (blk_cell BK343.out 1).trans rfl⟩ (fun hHeld => ?_)
             clear hK K
             refine norm_ (a' := ?_) ?_ ?_
             rotate_left
             ·show Act.put _ (some 55) _ = _
              simp only [Act.put, List.setIfInBounds_toArray, List.set_cons_zero, List.set_cons_succ, i64_w, i32_w]
              rfl
             refine pure_ (i := 7) (N := some 57) (v := ?_) (a' := ?_) #[true, true, true, true, true, true, true, true, false, false, false, false, false, false, false, false, false, false, false, false, false, false] rfl rfl (any_of HT_.out (by kernel_rfl)) (fun _ _ _ h => h) (Or.inl ⟨by rfl, ?_⟩) ?_ ?_
             rotate_left
             ·intro w'
              go_simp
              with_reducible rfl
             rotate_left
             ·simp only [Act.put, List.setIfInBounds_toArray, List.set_cons_zero, List.set_cons_succ, i64_w, i32_w]
              rfl
             refine pure_ (i := 8) (N := some 58) (v := ?_) (a' := ?_) #[true, true, true, true, true, true, true, true, true, false, false, false, false, false, false, false, false, false, false, false, false, false] rfl rfl (any_of HT_.out (by kernel_rfl)) (fun _ _ _ h => h) (Or.inl ⟨by rfl, ?_⟩) ?_ ?_
             rotate_left
             ·intro w'
              go_simp
              with_reducible rfl
             rotate_left
             ·simp only [Act.put, List.setIfInBounds_toArray, List.set_cons_zero, List.set_cons_succ, i64_w, i32_w]
              rfl
             refine pure_ (i := 9) (N := some 59) (v := ?_) (a' := ?_) #[true, true, true, true, true, true, true, true, true, true, false, false, false, false, false, false, false, false, false, false, false, false] rfl rfl (any_of HT_.out (by kernel_rfl)) (fun _ _ _ h => h) (Or.inl ⟨by rfl, ?_⟩) ?_ ?_
             rotate_left
             ·intro w'
              go_simp
              with_reducible rfl
             rotate_left
             ·simp only [Act.put, List.setIfInBounds_toArray, List.set_cons_zero, List.set_cons_succ, i64_w, i32_w]
              rfl
             refine pure_ (i := 10) (N := some 60) (v := ?_) (a' := ?_) #[true, true, true, true, true, true, true, true, true, true, true, false, false, false, false, false, false, false, false, false, false, false] rfl rfl (any_of HT_.out (by kernel_rfl)) (fun _ _ _ h => h) (Or.inl ⟨by rfl, ?_⟩) ?_ ?_
             rotate_left
             ·intro w'
              go_simp
              with_reducible rfl
             rotate_left
             ·simp only [Act.put, List.setIfInBounds_toArray, List.set_cons_zero, List.set_cons_succ, i64_w, i32_w]
              rfl
             refine pure_ (i := 11) (N := some 61) (v := ?_) (a' := ?_) #[true, true, true, true, true, true, true, true, true, true, true, true, false, false, false, false, false, false, false, false, false, false] rfl rfl (any_of HT_.out (by kernel_rfl)) (fun _ _ _ h => h) (Or.inl ⟨by rfl, ?_⟩) ?_ ?_
             rotate_left
             ·intro w'
              go_simp
              with_reducible rfl
             rotate_left
             ·simp only [Act.put, List.setIfInBounds_toArray, List.set_cons_zero, List.set_cons_succ, i64_w, i32_w]
              rfl
             refine pure_ (i := 12) (N := some 62) (v := ?_) (a' := ?_) #[true, true, true, true, true, true, true, true, true, true, true, true, true, false, false, false, false, false, false, false, false, false] rfl rfl (any_of HT_.out (by kernel_rfl)) (fun _ _ _ h => h) (Or.inl ⟨by rfl, ?_⟩) ?_ ?_
             rotate_left
             ·intro w'
              go_simp
              with_reducible rfl
             rotate_left
             ·simp only [Act.put, List.setIfInBounds_toArray, List.set_cons_zero, List.set_cons_succ, i64_w, i32_w]
              rfl
             refine pure_ (i := 13) (N := some 63) (v := ?_) (a' := ?_) #[true, true, true, true, true, true, true, true, true, true, true, true, true, true, false, false, false, false, false, false, false, false] rfl rfl (any_of HT_.out (by kernel_rfl)) (fun _ _ _ h => h) (Or.inl ⟨by rfl, ?_⟩) ?_ ?_
             rotate_left
             ·intro w'
              go_simp
              with_reducible rfl
             rotate_left
             ·simp only [Act.put, List.setIfInBounds_toArray, List.set_cons_zero, List.set_cons_succ, i64_w, i32_w]
              rfl
             refine pure_ (i := 15) (N := some 65) (v := ?_) (a' := ?_) #[true, true, true, true, true, true, true, true, true, true, true, true, true, true, false, true, false, false, false, false, false, false] rfl rfl (any_of HT_.out (by kernel_rfl)) (fun _ _ _ h => h) (Or.inl ⟨by rfl, ?_⟩) ?_ ?_
             rotate_left
             ·intro w'
              go_simp
              with_reducible rfl
             rotate_left
             ·simp only [Act.put, List.setIfInBounds_toArray, List.set_cons_zero, List.set_cons_succ, i64_w, i32_w]
              rfl
             refine pure_ (i := 16) (N := some 66) (v := ?_) (a' := ?_) #[true, true, true, true, true, true, true, true, true, true, true, true, true, true, false, true, true, false, false, false, false, false] rfl rfl (any_of HT_.out (by kernel_rfl)) (fun _ _ _ h => h) (Or.inl ⟨by rfl, ?_⟩) ?_ ?_
             rotate_left
             ·intro w'
              go_simp
              with_reducible rfl
             rotate_left
             ·simp only [Act.put, List.setIfInBounds_toArray, List.set_cons_zero, List.set_cons_succ, i64_w, i32_w]
              rfl
             refine pure_ (i := 17) (N := some 67) (v := ?_) (a' := ?_) #[true, true, true, true, true, true, true, true, true, true, true, true, true, true, false, true, true, true, false, false, false, false] rfl rfl (any_of HT_.out (by kernel_rfl)) (fun _ _ _ h => h) (Or.inl ⟨by rfl, ?_⟩) ?_ ?_
             rotate_left
             ·intro w'
              go_simp
              with_reducible rfl
             rotate_left
             ·simp only [Act.put, List.setIfInBounds_toArray, List.set_cons_zero, List.set_cons_succ, i64_w, i32_w]
              rfl
             refine pure_ (i := 18) (N := some 68) (v := ?_) (a' := ?_) #[true, true, true, true, true, true, true, true, true, true, true, true, true, true, false, true, true, true, true, false, false, false] rfl rfl (any_of HT_.out (by kernel_rfl)) (fun _ _ _ h => h) (Or.inl ⟨by rfl, ?_⟩) ?_ ?_
             rotate_left
             ·intro w'
              go_simp
              with_reducible rfl
             rotate_left
             ·simp only [Act.put, List.setIfInBounds_toArray, List.set_cons_zero, List.set_cons_succ, i64_w, i32_w]
              rfl
             refine one_ (i := 14) (N := some 64) #[true, true, true, true, true, true, true, true, true, true, true, true, true, true, true, true, true, true, true, false, false, false] rfl rfl (one_of HT_.out (by kernel_rfl)) (by decide) (fun K hK => ?_)
             refine goes_ Try.func16 (by kernel_rfl) rfl #[.int .i64 a0, .int .i64 (wrap64 ((l1.length : Int) - 1))] (by rfl) rfl rfl (by (try simp only [List.map_toArray, List.map_cons, List.map_nil]); first | done | rfl | (simp only [List.length_drop, List.length_take]; rfl)) ?_
             with_reducible refine (line_Fits.calls kj24 a0 (wrap64 ((l1.length : Int) - 1)) t349 _ A38.out).mono ?_
             rintro e w59 ⟨rfl, hb⟩
             refine ⟨_, rfl, ?_⟩
             replace BK335 := bb BK335 hb
             replace BK340 := bb BK340 hb
             replace BK343 := bb BK343 hb
             replace HB := bh HB hb
             (try clear hb)
             (try clear hb2)
             (try clear hk)
             (try clear hi)
             refine hK.out _ _ ⟨(blk_cell BK343.out 0).trans rfl, (blk_cell BK343.out 1).trans rfl⟩ (fun hHeld => ?_)
             clear hK K
             refine norm_ (a' := ?_) ?_ ?_
             rotate_left
             ·show Act.put _ (some 64) _ = _
              simp only [Act.put, List.setIfInBounds_toArray, List.set_cons_zero, List.set_cons_succ, i64_w, i32_w]
              rfl
             refine one_ (i := 19) (N := some 69) #[true, true, true, true, true, true, true, true, true, true, true, true, true, true, true, true, true, true, true, true, false, false] rfl rfl (one_of HT_.out (by kernel_rfl)) (by decide) (fun K hK => ?_)
             refine goes_ Try.func17 (by kernel_rfl) rfl #[.int .i64 a0, .int .i64 (wrap64 ((l1.length : Int) - 1))] (by rfl) rfl rfl (by (try simp only [List.map_toArray, List.map_cons, List.map_nil]); first | done | rfl | (simp only [List.length_drop, List.length_take]; rfl)) ?_
             with_reducible refine (steepleref17_Fits.calls a0 (wrap64 ((l1.length : Int) - 1)) t350 _ A39.out).mono ?_
             rintro e w60 ⟨rfl, hb⟩
             refine ⟨_, rfl, ?_⟩
             replace BK335 := bb BK335 hb
             replace BK340 := bb BK340 hb
             replace BK343 := bb BK343 hb
             replace HB := bh HB hb
             (try clear hb)
             (try clear hb2)
             (try clear hk)
             (try clear hi)
             refine hK.out _ _ ⟨(blk_cell BK343.out 0).trans rfl, (blk_cell BK343.out 1).trans rfl⟩ (fun hHeld => ?_)
             clear hK K
             refine norm_ (a' := ?_) ?_ ?_
             rotate_left
             ·show Act.put _ (some 69) _ = _
              simp only [Act.put, List.setIfInBounds_toArray, List.set_cons_zero, List.set_cons_succ, i64_w, i32_w]
              rfl
             refine pure_ (i := 20) (N := some 70) (v := ?_) (a' := ?_) #[true, true, true, true, true, true, true, true, true, true, true, true, true, true, true, true, true, true, true, true, true, false] rfl rfl (any_of HT_.out (by kernel_rfl)) (fun _ _ _ h => h) (Or.inl ⟨by rfl, ?_⟩) ?_ ?_
             rotate_left
             ·intro w'
              go_simp
              with_reducible rfl
             rotate_left
             ·simp only [Act.put, List.setIfInBounds_toArray, List.set_cons_zero, List.set_cons_succ, i64_w, i32_w]
              rfl
             refine pure_ (i := 21) (N := some 71) (v := ?_) (a' := ?_) #[true, true, true, true, true, true, true, true, true, true, true, true, true, true, true, true, true, true, true, true, true, true] rfl rfl (any_of HT_.out (by kernel_rfl)) (fun _ _ _ h => h) (Or.inl ⟨by rfl, ?_⟩) ?_ ?_
             rotate_left
             ·intro w'
              go_simp
              with_reducible rfl
             rotate_left
             ·simp only [Act.put, List.setIfInBounds_toArray, List.set_cons_zero, List.set_cons_succ, i64_w, i32_w]
              rfl
             refine done_ (done_of HT_.out (by kernel_rfl)) ?_
             try go_wp2_with (first | ((with_reducible refine gate_callee (f := 9) rfl ?_); refine goesL_ (some 74) rfl rfl Try.func9 (by kernel_rfl) rfl #[] rfl (by (try simp only [List.map_toArray, List.map_cons, List.map_nil]); first | done | rfl | (simp only [List.length_drop, List.length_take]; rfl)) ?_; (with_reducible refine (steeplelaw17_awake.calls kj24  true _ A55.out).mono ?_); rintro e w61 ⟨rfl, hb⟩; refine ⟨_, rfl, ?_⟩; replace BK335 := bb BK335 hb; replace BK340 := bb BK340 hb; replace BK343 := bb BK343 hb; replace HB := bh HB hb; (try clear hb); (try clear hb2); (try clear hk); (try clear hi); obtain ⟨hcz64_0, hcz64_1⟩ := zc2 BK340; obtain ⟨hfz64_0, hfz64_1⟩ := zf2 BK340))
             go_ret
             exact ⟨by first | rfl | (simp [errW_none, errW_some] <;> rfl) | (simp [*, errW_none, errW_some] <;> rfl), bq HB.out⟩
            ·replace c56 := Bool.eq_false_iff.mpr c56
             subst c56
             have H1 : (none) = some r := by rw [if_neg (show ¬ (false = true) by decide)] at H; exact H
             clear H
             have H := H1
             clear H1
             exact absurd H (by simp)
        ·rw [if_neg c35] at H
         have c35b0 : (t339 == x9_22) = false := beq_eq_false_iff_ne.mpr c35
         have c35b1 : (t339 != x9_22) = true := bne_iff_ne.mpr c35
         exact absurd H (by simp)

/-- THE ONE PURE STATEMENT of steeplelaw17_LineValues. -/
def steeplelaw17_LineValues.Pure : Prop := ∀ (x0 : Int) (x1 : List (S28)) (x2 : S28), (Lit.int .i64 x0).wf = true → (x1.length ≤ maxLen ∧ x1.length * 16 ≤ 140737488351232 ∧ ∀ y0 ∈ x1, ((Lit.int .u64 y0.f0).wf = true ∧ (Lit.int .u64 y0.f1).wf = true)) → ((Lit.int .u64 x2.f0).wf = true ∧ (Lit.int .u64 x2.f1).wf = true) → ∃ k, steeplelaw17_LineValues.f k x0 x1 x2.f0 x2.f1 = some true

end Go.Proofs.Ythnaalocgoeddaa.P
