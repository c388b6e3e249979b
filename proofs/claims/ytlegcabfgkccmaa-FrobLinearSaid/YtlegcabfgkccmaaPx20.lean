/- Written by a program of this session: functions that the law reaches, as Lean functions, and that the code comes to their answers. Conditions: those that each theorem names. -/
import Derived.Test.YtlegcabfgkccmaaPx0
import Derived.Test.YtlegcabfgkccmaaX2
import Derived.Test.YtlegcabfgkccmaaPx1
import Derived.Test.YtlegcabfgkccmaaPx3
import Derived.Test.YtlegcabfgkccmaaPx4
import Derived.Test.YtlegcabfgkccmaaPx6a
import Derived.Test.YtlegcabfgkccmaaHNorm
import Derived.Test.YtlegcabfgkccmaaHTrace
namespace Go.Proofs.Ytlegcabfgkccmaa.P
open Go.RowKit Go.Proofs.YtlegcabfgkccmaaX Go.Proofs.YtlegcabfgkccmaaW.PrintWords Go.Proofs.YtlegcabfgkccmaaW.PrintLast Go.Proofs.YtlegcabfgkccmaaW.PrintMore
attribute [local go_sem] max2_int min2_int max_two min_two max_three min_three max_four min_four   -- for this text's walks alone
set_option linter.unusedVariables false
set_option linter.unusedSimpArgs false

attribute [local go_sem high] eqA24
/-! ### steeplelaw33_FrobLinear: function 3 -/
def steeplelaw33_FrobLinear.f (k : Nat) (a0 : Int) (a1 : Int) (a2_0 : Int) (a2_1 : Int) (a2_2 : Int) (a2_3 : Int) (a2_4 : Int) (a2_5 : Int) : Option (Bool) := if (wrap64 ((Int.tmod (wrap64 ((Int.tmod a0 8) + 8)) 8) + 1)) = 0 then (none) else ((steeplelaw33_of.f (Int.tmod (wrap64 ((Int.tmod a0 8) + 8)) 8) a2_0 a2_1).bind fun bt150 => ((steeplelaw33_of.f (Int.tmod (wrap64 ((Int.tmod a0 8) + 8)) 8) a2_2 a2_3).bind fun bt152 => ((steeplelaw33_of.f (Int.tmod (wrap64 ((wrap64 ((Int.tmod a1 (wrap64 ((Int.tmod (wrap64 ((Int.tmod a0 8) + 8)) 8) + 1))) + (Int.tmod (wrap64 ((Int.tmod a0 8) + 8)) 8))) + 1)) (wrap64 ((Int.tmod (wrap64 ((Int.tmod a0 8) + 8)) 8) + 1))) a2_4 a2_5).bind fun bt154 => ((tower_Mul.f k (Int.tmod (wrap64 ((Int.tmod a0 8) + 8)) 8) bt154.1 bt154.2 bt150.1 bt150.2).bind fun bt159 => ((tower_Add.f bt159.1 bt159.2 bt152.1 bt152.2).bind fun bt161 => ((frob_Trace.f k (Int.tmod (wrap64 ((Int.tmod a0 8) + 8)) 8) (Int.tmod (wrap64 ((wrap64 ((Int.tmod a1 (wrap64 ((Int.tmod (wrap64 ((Int.tmod a0 8) + 8)) 8) + 1))) + (Int.tmod (wrap64 ((Int.tmod a0 8) + 8)) 8))) + 1)) (wrap64 ((Int.tmod (wrap64 ((Int.tmod a0 8) + 8)) 8) + 1))) bt161.1 bt161.2).bind fun bt163 => ((steeplelaw33_awake.f k).bind fun t166 => (if t166 = true then ((frob_Trace.f k (Int.tmod (wrap64 ((Int.tmod a0 8) + 8)) 8) (Int.tmod (wrap64 ((wrap64 ((Int.tmod a1 (wrap64 ((Int.tmod (wrap64 ((Int.tmod a0 8) + 8)) 8) + 1))) + (Int.tmod (wrap64 ((Int.tmod a0 8) + 8)) 8))) + 1)) (wrap64 ((Int.tmod (wrap64 ((Int.tmod a0 8) + 8)) 8) + 1))) bt150.1 bt150.2).bind fun bt167 => ((tower_Mul.f k (Int.tmod (wrap64 ((wrap64 ((Int.tmod a1 (wrap64 ((Int.tmod (wrap64 ((Int.tmod a0 8) + 8)) 8) + 1))) + (Int.tmod (wrap64 ((Int.tmod a0 8) + 8)) 8))) + 1)) (wrap64 ((Int.tmod (wrap64 ((Int.tmod a0 8) + 8)) 8) + 1))) bt154.1 bt154.2 bt167.1 bt167.2).bind fun bt169 => ((frob_Trace.f k (Int.tmod (wrap64 ((Int.tmod a0 8) + 8)) 8) (Int.tmod (wrap64 ((wrap64 ((Int.tmod a1 (wrap64 ((Int.tmod (wrap64 ((Int.tmod a0 8) + 8)) 8) + 1))) + (Int.tmod (wrap64 ((Int.tmod a0 8) + 8)) 8))) + 1)) (wrap64 ((Int.tmod (wrap64 ((Int.tmod a0 8) + 8)) 8) + 1))) bt152.1 bt152.2).bind fun bt171 => ((tower_Add.f bt169.1 bt169.2 bt171.1 bt171.2).bind fun bt173 => (if (bt163.1 == bt173.1 && (bt163.2 == bt173.2)) = true then ((tower_Mul.f k (Int.tmod (wrap64 ((Int.tmod a0 8) + 8)) 8) bt150.1 bt150.2 bt152.1 bt152.2).bind fun bt175 => ((frob_Norm.f k (Int.tmod (wrap64 ((Int.tmod a0 8) + 8)) 8) (Int.tmod (wrap64 ((wrap64 ((Int.tmod a1 (wrap64 ((Int.tmod (wrap64 ((Int.tmod a0 8) + 8)) 8) + 1))) + (Int.tmod (wrap64 ((Int.tmod a0 8) + 8)) 8))) + 1)) (wrap64 ((Int.tmod (wrap64 ((Int.tmod a0 8) + 8)) 8) + 1))) bt175.1 bt175.2).bind fun bt177 => ((frob_Norm.f k (Int.tmod (wrap64 ((Int.tmod a0 8) + 8)) 8) (Int.tmod (wrap64 ((wrap64 ((Int.tmod a1 (wrap64 ((Int.tmod (wrap64 ((Int.tmod a0 8) + 8)) 8) + 1))) + (Int.tmod (wrap64 ((Int.tmod a0 8) + 8)) 8))) + 1)) (wrap64 ((Int.tmod (wrap64 ((Int.tmod a0 8) + 8)) 8) + 1))) bt150.1 bt150.2).bind fun bt179 => ((frob_Norm.f k (Int.tmod (wrap64 ((Int.tmod a0 8) + 8)) 8) (Int.tmod (wrap64 ((wrap64 ((Int.tmod a1 (wrap64 ((Int.tmod (wrap64 ((Int.tmod a0 8) + 8)) 8) + 1))) + (Int.tmod (wrap64 ((Int.tmod a0 8) + 8)) 8))) + 1)) (wrap64 ((Int.tmod (wrap64 ((Int.tmod a0 8) + 8)) 8) + 1))) bt152.1 bt152.2).bind fun bt181 => ((tower_Mul.f k (Int.tmod (wrap64 ((wrap64 ((Int.tmod a1 (wrap64 ((Int.tmod (wrap64 ((Int.tmod a0 8) + 8)) 8) + 1))) + (Int.tmod (wrap64 ((Int.tmod a0 8) + 8)) 8))) + 1)) (wrap64 ((Int.tmod (wrap64 ((Int.tmod a0 8) + 8)) 8) + 1))) bt179.1 bt179.2 bt181.1 bt181.2).bind fun bt183 => (some (bt177.1 == bt183.1 && (bt177.2 == bt183.2)))))))) else (none)))))) else (none)))))))))
theorem steeplelaw33_FrobLinear.mono : ∀ a0 a1 a2 a3 a4 a5 a6 a7 k, LeO (steeplelaw33_FrobLinear.f k a0 a1 a2 a3 a4 a5 a6 a7) (steeplelaw33_FrobLinear.f (k + 1) a0 a1 a2 a3 a4 a5 a6 a7) := by
 intro a0 a1 a2 a3 a4 a5 a6 a7 k
 unfold steeplelaw33_FrobLinear.f
 repeat' first
   | (with_reducible exact frob_Norm.mono _ _ _ _ _)
   | (with_reducible exact frob_Trace.mono _ _ _ _ _)
   | (with_reducible exact steeplelaw33_awake.mono _)
   | (with_reducible exact tower_Mul.mono _ _ _ _ _ _)
   | (with_reducible exact LeO.refl _)
   | (with_reducible exact LeO.none _)
   | (with_reducible refine LeO.ite ?_ ?_)
   | (with_reducible refine LeO.bind ?_ (fun _ => ?_))
   | exact frob_Norm.mono _ _ _ _ _
   | exact frob_Trace.mono _ _ _ _ _
   | exact steeplelaw33_awake.mono _
   | exact tower_Mul.mono _ _ _ _ _ _
   | exact LeO.none _
   | refine LeO.ite ?_ ?_
   | refine LeO.bind ?_ (fun _ => ?_)
def steeplelaw33_FrobLinear.T3 : Bool × List (List Nat × List Nat) := (true, [([], []), ([], []), ([1], [1]), ([0, 2], [0, 2]), ([], []), ([], []), ([5], [5]), ([4, 6, 3], [4, 6]), ([], []), ([], []), ([9], [9]), ([8, 10, 7], [8, 10]), ([], []), ([], []), ([], []), ([12, 3, 11, 0, 1, 2, 3, 12, 13, 14], [3, 12]), ([13, 7, 15, 0, 1, 2, 3, 4, 5, 6, 7, 12, 13, 14, 15], [7, 13]), ([14, 11, 16, 0, 1, 2, 3, 4, 5, 6, 7, 8, 9, 10, 11, 12, 13, 14, 15, 16], [11, 14])])
def steeplelaw33_FrobLinear.B3 : List Nat := [0, 0, 2, 7, 0, 0, 32, 127, 0, 0, 512, 2047, 0, 0, 0, 32767, 65535, 131071]
theorem steeplelaw33_FrobLinear.tab3 : rtab .any (opsOf Try.f3 3) = steeplelaw33_FrobLinear.T3 := by kernel_rfl
theorem steeplelaw33_FrobLinear.bits3 : waitsOk steeplelaw33_FrobLinear.T3.2 steeplelaw33_FrobLinear.B3 = true := by kernel_rfl
def steeplelaw33_FrobLinear.T4 : Bool × List (List Nat × List Nat) := (true, [([], []), ([], []), ([], []), ([], []), ([], []), ([2, 3, 4], [2, 3, 4]), ([], []), ([5, 6, 5], [5, 6]), ([0, 1, 7, 7], [0, 1, 7]), ([], []), ([9, 8, 8, 0, 1, 2, 3, 4, 5, 6, 7, 8, 9], [8, 9])])
def steeplelaw33_FrobLinear.B4 : List Nat := [0, 0, 0, 0, 0, 28, 0, 124, 255, 0, 1023]
theorem steeplelaw33_FrobLinear.tab4 : rtab .any (opsOf Try.f3 4) = steeplelaw33_FrobLinear.T4 := by kernel_rfl
theorem steeplelaw33_FrobLinear.bits4 : waitsOk steeplelaw33_FrobLinear.T4.2 steeplelaw33_FrobLinear.B4 = true := by kernel_rfl
def steeplelaw33_FrobLinear.T5 : Bool × List (List Nat × List Nat) := (true, [([], []), ([0, 0], [0]), ([1], [1]), ([1], [1]), ([1], [1]), ([1], [1]), ([1], [1]), ([1], [1]), ([5, 6, 7, 1, 1], [1, 5, 6, 7]), ([3, 4, 8, 8, 1], [1, 3, 4, 8]), ([1], [1]), ([1], [1]), ([1], [1]), ([10, 11, 12, 9, 1], [1, 10, 11, 12]), ([9, 13, 13, 1], [1, 9, 13]), ([2, 14, 1], [1, 2, 14]), ([1, 15], [1, 15]), ([16, 14], [16]), ([17], [17]), ([17], [17]), ([17], [17]), ([17], [17]), ([17], [17]), ([20, 21, 22, 17, 17], [17, 20, 21, 22]), ([18, 19, 23, 23, 17], [17, 18, 19, 23]), ([17], [17]), ([17], [17]), ([17], [17]), ([17], [17]), ([26, 27, 28, 24, 17], [17, 26, 27, 28]), ([17], [17]), ([17], [17]), ([17], [17]), ([30, 31, 32, 29, 17], [17, 30, 31, 32]), ([25, 29, 33, 33, 17], [17, 25, 29, 33]), ([24, 34, 17], [17, 24, 34]), ([17, 35], [17, 35]), ([36, 34, 0, 1, 2, 3, 4, 5, 6, 7, 8, 9, 10, 11, 12, 13, 14, 15, 16, 17, 18, 19, 20, 21, 22, 23, 24, 25, 26, 27, 28, 29, 30, 31, 32, 33, 34, 35, 36], [36])])
def steeplelaw33_FrobLinear.B5 : List Nat := [0, 1, 3, 3, 3, 3, 3, 3, 227, 507, 3, 3, 3, 8187, 16379, 32767, 65535, 131071, 262143, 262143, 262143, 262143, 262143, 7602175, 16777215, 262143, 262143, 262143, 262143, 503316479, 262143, 262143, 262143, 8556380159, 17179869183, 34359738367, 68719476735, 137438953471]
theorem steeplelaw33_FrobLinear.tab5 : rtab .any (opsOf Try.f3 5) = steeplelaw33_FrobLinear.T5 := by kernel_rfl
theorem steeplelaw33_FrobLinear.bits5 : waitsOk steeplelaw33_FrobLinear.T5.2 steeplelaw33_FrobLinear.B5 = true := by kernel_rfl
set_option maxHeartbeats 8000000 in
set_option maxRecDepth 100000 in
theorem steeplelaw33_FrobLinear.calls (k : Nat) (a0 : Int) (a1 : Int) (a2_0 : Int) (a2_1 : Int) (a2_2 : Int) (a2_3 : Int) (a2_4 : Int) (a2_5 : Int) (r : Bool) (w : World) (h : steeplelaw33_FrobLinear.f k a0 a1 a2_0 a2_1 a2_2 a2_3 a2_4 a2_5 = some r) :
  Calls Try.prog 3 #[.int .i64 a0, .int .i64 a1, .agg #[.int .u64 a2_0, .int .u64 a2_1, .int .u64 a2_2, .int .u64 a2_3, .int .u64 a2_4, .int .u64 a2_5]] w fun e w' => e = .returned (.bool r) ∧ Below w.heap.size w w' := by
 have hu26 := Try.underlying26
 have hu24 := Try.underlying24
 have HB := Aside0.mk (Below.refl w.heap.size w)
 have H : (if (wrap64 ((lv8 a0) + 1)) = 0 then (none) else ((steeplelaw33_of.f (lv8 a0) a2_0 a2_1).bind fun bt150 => ((steeplelaw33_of.f (lv8 a0) a2_2 a2_3).bind fun bt152 => ((steeplelaw33_of.f (lj8 a0 a1) a2_4 a2_5).bind fun bt154 => ((tower_Mul.f k (lv8 a0) bt154.1 bt154.2 bt150.1 bt150.2).bind fun bt159 => ((tower_Add.f bt159.1 bt159.2 bt152.1 bt152.2).bind fun bt161 => ((frob_Trace.f k (lv8 a0) (lj8 a0 a1) bt161.1 bt161.2).bind fun bt163 => ((steeplelaw33_awake.f k).bind fun t166 => (if t166 = true then ((frob_Trace.f k (lv8 a0) (lj8 a0 a1) bt150.1 bt150.2).bind fun bt167 => ((tower_Mul.f k (lj8 a0 a1) bt154.1 bt154.2 bt167.1 bt167.2).bind fun bt169 => ((frob_Trace.f k (lv8 a0) (lj8 a0 a1) bt152.1 bt152.2).bind fun bt171 => ((tower_Add.f bt169.1 bt169.2 bt171.1 bt171.2).bind fun bt173 => (if (bt163.1 == bt173.1 && (bt163.2 == bt173.2)) = true then ((tower_Mul.f k (lv8 a0) bt150.1 bt150.2 bt152.1 bt152.2).bind fun bt175 => ((frob_Norm.f k (lv8 a0) (lj8 a0 a1) bt175.1 bt175.2).bind fun bt177 => ((frob_Norm.f k (lv8 a0) (lj8 a0 a1) bt150.1 bt150.2).bind fun bt179 => ((frob_Norm.f k (lv8 a0) (lj8 a0 a1) bt152.1 bt152.2).bind fun bt181 => ((tower_Mul.f k (lj8 a0 a1) bt179.1 bt179.2 bt181.1 bt181.2).bind fun bt183 => (some (bt177.1 == bt183.1 && (bt177.2 == bt183.2)))))))) else (none)))))) else (none)))))))))) = some r := h
 clear h
 by_cases c4 : (wrap64 ((lv8 a0) + 1)) = 0
 ·rw [if_pos c4] at H
  exact absurd H (by simp)
 rw [if_neg c4] at H
 have c4b0 : ((wrap64 ((lv8 a0) + 1)) == 0) = false := beq_eq_false_iff_ne.mpr c4
 have c4b1 : ((wrap64 ((lv8 a0) + 1)) != 0) = true := bne_iff_ne.mpr c4
 replace H := Option.bind_eq_some_iff.mp H
 obtain ⟨⟨t150, t151⟩, A50, H⟩ := H
 try dsimp only at H
 have A5 := Aside0.mk A50
 clear A50
 replace H := Option.bind_eq_some_iff.mp H
 obtain ⟨⟨t152, t153⟩, A60, H⟩ := H
 try dsimp only at H
 have A6 := Aside0.mk A60
 clear A60
 replace H := Option.bind_eq_some_iff.mp H
 obtain ⟨⟨t154, t155⟩, A70, H⟩ := H
 try dsimp only at H
 have A7 := Aside0.mk A70
 clear A70
 replace H := Option.bind_eq_some_iff.mp H
 obtain ⟨⟨t159, t160⟩, A80, H⟩ := H
 try dsimp only at H
 have A8 := Aside0.mk A80
 clear A80
 replace H := Option.bind_eq_some_iff.mp H
 obtain ⟨⟨t161, t162⟩, A90, H⟩ := H
 try dsimp only at H
 have A9 := Aside0.mk A90
 clear A90
 replace H := Option.bind_eq_some_iff.mp H
 obtain ⟨⟨t163, t164⟩, A100, H⟩ := H
 try dsimp only at H
 have A10 := Aside0.mk A100
 clear A100
 replace H := Option.bind_eq_some_iff.mp H
 obtain ⟨t166, A110, H⟩ := H
 try dsimp only at H
 have A11 := Aside0.mk A110
 clear A110
 by_cases c12 : t166 = true
 rotate_left
 ·replace c12 := Bool.eq_false_iff.mpr c12
  subst c12
  have H1 : (none) = some r := by rw [if_neg (show ¬ (false = true) by decide)] at H; exact H
  clear H
  have H := H1
  clear H1
  exact absurd H (by simp)

 subst c12
 have H1 : ((frob_Trace.f k (lv8 a0) (lj8 a0 a1) t150 t151).bind fun bt167 => ((tower_Mul.f k (lj8 a0 a1) t154 t155 bt167.1 bt167.2).bind fun bt169 => ((frob_Trace.f k (lv8 a0) (lj8 a0 a1) t152 t153).bind fun bt171 => ((tower_Add.f bt169.1 bt169.2 bt171.1 bt171.2).bind fun bt173 => (if (t163 == bt173.1 && (t164 == bt173.2)) = true then ((tower_Mul.f k (lv8 a0) t150 t151 t152 t153).bind fun bt175 => ((frob_Norm.f k (lv8 a0) (lj8 a0 a1) bt175.1 bt175.2).bind fun bt177 => ((frob_Norm.f k (lv8 a0) (lj8 a0 a1) t150 t151).bind fun bt179 => ((frob_Norm.f k (lv8 a0) (lj8 a0 a1) t152 t153).bind fun bt181 => ((tower_Mul.f k (lj8 a0 a1) bt179.1 bt179.2 bt181.1 bt181.2).bind fun bt183 => (some (bt177.1 == bt183.1 && (bt177.2 == bt183.2)))))))) else (none)))))) = some r := by rw [if_pos rfl] at H; exact H
 clear H
 have H := H1
 clear H1
 replace H := Option.bind_eq_some_iff.mp H
 obtain ⟨⟨t167, t168⟩, A130, H⟩ := H
 try dsimp only at H
 have A13 := Aside0.mk A130
 clear A130
 replace H := Option.bind_eq_some_iff.mp H
 obtain ⟨⟨t169, t170⟩, A140, H⟩ := H
 try dsimp only at H
 have A14 := Aside0.mk A140
 clear A140
 replace H := Option.bind_eq_some_iff.mp H
 obtain ⟨⟨t171, t172⟩, A150, H⟩ := H
 try dsimp only at H
 have A15 := Aside0.mk A150
 clear A150
 replace H := Option.bind_eq_some_iff.mp H
 obtain ⟨⟨t173, t174⟩, A160, H⟩ := H
 try dsimp only at H
 have A16 := Aside0.mk A160
 clear A160
 by_cases c17 : (t163 == t173 && (t164 == t174)) = true
 rotate_left
 ·rw [if_neg c17] at H
  have c17b0 : (t163 == t173 && (t164 == t174)) = false := by simpa using c17
  (try (have c17b1 : decide (t163 = t173 && (t164 == t174)) = false := by simpa using c17))
  (try (have c17b2 : (t163 == t173 && (t164 == t174)) = false := by simpa using c17))
  (try (have c17b3 : ¬ (t163 = t173 && (t164 == t174)) := by simpa using c17))
  clear c17
  exact absurd H (by simp)
 rw [if_pos c17] at H
 have c17b0 : (t163 == t173 && (t164 == t174)) = true := c17
 (try (have c17b1 : decide (t163 = t173 && (t164 == t174)) = true := by simpa using c17))
 (try (have c17b2 : (t163 == t173 && (t164 == t174)) = true := by simpa using c17))
 clear c17
 replace H := Option.bind_eq_some_iff.mp H
 obtain ⟨⟨t175, t176⟩, A180, H⟩ := H
 try dsimp only at H
 have A18 := Aside0.mk A180
 clear A180
 replace H := Option.bind_eq_some_iff.mp H
 obtain ⟨⟨t177, t178⟩, A190, H⟩ := H
 try dsimp only at H
 have A19 := Aside0.mk A190
 clear A190
 replace H := Option.bind_eq_some_iff.mp H
 obtain ⟨⟨t179, t180⟩, A200, H⟩ := H
 try dsimp only at H
 have A20 := Aside0.mk A200
 clear A200
 replace H := Option.bind_eq_some_iff.mp H
 obtain ⟨⟨t181, t182⟩, A210, H⟩ := H
 try dsimp only at H
 have A21 := Aside0.mk A210
 clear A210
 replace H := Option.bind_eq_some_iff.mp H
 obtain ⟨⟨t183, t184⟩, A220, H⟩ := H
 try dsimp only at H
 have A22 := Aside0.mk A220
 clear A220
 obtain rfl := Option.some.inj H
 go_enter Try.func3, Try.ntmps3
 try go_wp2_with (first | ((with_reducible refine gate_dst (N := 5) rfl ?_); refine box_event ?hg (N := 5) ?hd (cs := #[.int .u64 a2_0, .int .u64 a2_1, .int .u64 a2_2, .int .u64 a2_3, .int .u64 a2_4, .int .u64 a2_5]) (t := 26) ?hr ?_; (case hd => rfl); (case hg => rfl); (case hr => go_simp <;> rfl); intro gb149 hg w23 hbox hb; have BK149 := Aside0.mk hbox; have GW149 := ge hg HB; have GE149 := ge hg HB; replace HB := bh HB hb; clear hb hbox hg))
 replace BK149 := Aside0.mk (blk_drew BK149.out)
 replace HB := Aside0.mk (below_drew1 HB.out)
 refine start_ (n := 18) (S := fun w' => w'.cell? ⟨gb149, 0, none⟩ = some (.int .u64 a2_0) ∧ w'.cell? ⟨gb149, 1, none⟩ = some (.int .u64 a2_1) ∧ w'.cell? ⟨gb149, 2, none⟩ = some (.int .u64 a2_2) ∧ w'.cell? ⟨gb149, 3, none⟩ = some (.int .u64 a2_3) ∧ w'.cell? ⟨gb149, 4, none⟩ = some (.int .u64 a2_4) ∧ w'.cell? ⟨gb149, 5, none⟩ = some (.int .u64 a2_5)) (ds := []) #[nn, nn, nn, nn, nn, nn, nn, nn, nn, nn, nn, nn, nn, nn, nn, nn, nn, nn] (by kernel_rfl) rfl rfl (zc6 BK149) (fun hHeld => ?_); refine with_tabW steeplelaw33_FrobLinear.tab3 steeplelaw33_FrobLinear.bits3 (fun HT_ HW_ => ?_)
 generalize w23.drew = w24 at BK149 HB hHeld ⊢
 refine pure_ (i := 0) (N := some 27) (v := ?_) (a' := ?_) #[yy, nn, nn, nn, nn, nn, nn, nn, nn, nn, nn, nn, nn, nn, nn, nn, nn, nn] rfl rfl (any_of HT_.out (by kernel_rfl)) (fun _ _ _ h => h) (Or.inl ⟨by rfl, ?_⟩) ?_ ?_
 rotate_left
 ·intro w'
  go_simp
  with_reducible rfl
 rotate_left
 ·simp only [Act.put, sA, s0, sS, i64_w, i32_w]
  rfl
 refine pure_ (i := 1) (N := some 28) (v := ?_) (a' := ?_) #[yy, yy, nn, nn, nn, nn, nn, nn, nn, nn, nn, nn, nn, nn, nn, nn, nn, nn] rfl rfl (any_of HT_.out (by kernel_rfl)) (fun _ _ _ h => h) (Or.inl ⟨by rfl, ?_⟩) ?_ ?_
 rotate_left
 ·intro w'
  go_simp
  with_reducible rfl
 rotate_left
 ·simp only [Act.put, sA, s0, sS, i64_w, i32_w]
  rfl
 refine pure_ (i := 4) (N := some 31) (v := ?_) (a' := ?_) #[yy, yy, nn, nn, yy, nn, nn, nn, nn, nn, nn, nn, nn, nn, nn, nn, nn, nn] rfl rfl (any_of HT_.out (by kernel_rfl)) (fun _ _ _ h => h) (Or.inl ⟨by rfl, ?_⟩) ?_ ?_
 rotate_left
 ·intro w'
  go_simp
  with_reducible rfl
 rotate_left
 ·simp only [Act.put, sA, s0, sS, i64_w, i32_w]
  rfl
 refine pure_ (i := 5) (N := some 32) (v := ?_) (a' := ?_) #[yy, yy, nn, nn, yy, yy, nn, nn, nn, nn, nn, nn, nn, nn, nn, nn, nn, nn] rfl rfl (any_of HT_.out (by kernel_rfl)) (fun _ _ _ h => h) (Or.inl ⟨by rfl, ?_⟩) ?_ ?_
 rotate_left
 ·intro w'
  go_simp
  with_reducible rfl
 rotate_left
 ·simp only [Act.put, sA, s0, sS, i64_w, i32_w]
  rfl
 refine pure_ (i := 8) (N := some 35) (v := ?_) (a' := ?_) #[yy, yy, nn, nn, yy, yy, nn, nn, yy, nn, nn, nn, nn, nn, nn, nn, nn, nn] rfl rfl (any_of HT_.out (by kernel_rfl)) (fun _ _ _ h => h) (Or.inl ⟨by rfl, ?_⟩) ?_ ?_
 rotate_left
 ·intro w'
  go_simp
  with_reducible rfl
 rotate_left
 ·simp only [Act.put, sA, s0, sS, i64_w, i32_w]
  rfl
 refine pure_ (i := 9) (N := some 36) (v := ?_) (a' := ?_) #[yy, yy, nn, nn, yy, yy, nn, nn, yy, yy, nn, nn, nn, nn, nn, nn, nn, nn] rfl rfl (any_of HT_.out (by kernel_rfl)) (fun _ _ _ h => h) (Or.inl ⟨by rfl, ?_⟩) ?_ ?_
 rotate_left
 ·intro w'
  go_simp
  with_reducible rfl
 rotate_left
 ·simp only [Act.put, sA, s0, sS, i64_w, i32_w]
  rfl
 refine take_ (i := 2) (N := some 29) (v := ?_) (a' := ?_) #[yy, yy, yy, nn, yy, yy, nn, nn, yy, yy, nn, nn, nn, nn, nn, nn, nn, nn] rfl rfl (take_ofW HT_.out HW_.out (by kernel_rfl)) (fun _ _ _ h => h) (Or.inl ⟨by rfl, ?_⟩) hHeld ?_ ?_
 rotate_left
 ·rintro w' ⟨s0, s1, s2, s3, s4, s5⟩
  go_simp
  with_reducible rfl
 rotate_left
 ·simp only [Act.put, sA, s0, sS, i64_w, i32_w]
  rfl
 refine take_ (i := 6) (N := some 33) (v := ?_) (a' := ?_) #[yy, yy, yy, nn, yy, yy, yy, nn, yy, yy, nn, nn, nn, nn, nn, nn, nn, nn] rfl rfl (take_ofW HT_.out HW_.out (by kernel_rfl)) (fun _ _ _ h => h) (Or.inl ⟨by rfl, ?_⟩) hHeld ?_ ?_
 rotate_left
 ·rintro w' ⟨s0, s1, s2, s3, s4, s5⟩
  go_simp
  with_reducible rfl
 rotate_left
 ·simp only [Act.put, sA, s0, sS, i64_w, i32_w]
  rfl
 refine take_ (i := 10) (N := some 37) (v := ?_) (a' := ?_) #[yy, yy, yy, nn, yy, yy, yy, nn, yy, yy, yy, nn, nn, nn, nn, nn, nn, nn] rfl rfl (take_ofW HT_.out HW_.out (by kernel_rfl)) (fun _ _ _ h => h) (Or.inl ⟨by rfl, ?_⟩) hHeld ?_ ?_
 rotate_left
 ·rintro w' ⟨s0, s1, s2, s3, s4, s5⟩
  go_simp
  with_reducible rfl
 rotate_left
 ·simp only [Act.put, sA, s0, sS, i64_w, i32_w]
  rfl
 refine join_ (σ := Nat × Nat × Nat) 3 #[yy, yy, yy, yy, yy, yy, yy, yy, yy, yy, yy, yy, yy, yy, yy, nn, nn, nn] (fun s_ => [(30, .agg #[.int .u64 t150, .int .u64 t151]), (34, .agg #[.int .u64 t152, .int .u64 t153]), (38, .agg #[.int .u64 t154, .int .u64 t155]), (9, .pointer (some ⟨s_.1, 0, none⟩)), (10, .pointer (some ⟨s_.2.1, 0, none⟩)), (11, .pointer (some ⟨s_.2.2, 0, none⟩))]) (fun s_ w' => (w'.cell? ⟨gb149, 0, none⟩ = some (.int .u64 a2_0) ∧ w'.cell? ⟨gb149, 1, none⟩ = some (.int .u64 a2_1) ∧ w'.cell? ⟨gb149, 2, none⟩ = some (.int .u64 a2_2) ∧ w'.cell? ⟨gb149, 3, none⟩ = some (.int .u64 a2_3) ∧ w'.cell? ⟨gb149, 4, none⟩ = some (.int .u64 a2_4) ∧ w'.cell? ⟨gb149, 5, none⟩ = some (.int .u64 a2_5)) ∧ (w'.heap[gb149]? = some (.cells #[.int .u64 a2_0, .int .u64 a2_1, .int .u64 a2_2, .int .u64 a2_3, .int .u64 a2_4, .int .u64 a2_5] 26 (0, 0))) ∧ (w'.heap[s_.1]? = some (.cells #[.int .u64 0, .int .u64 0] 24 (0, 0))) ∧ (w'.heap[s_.2.1]? = some (.cells #[.int .u64 0, .int .u64 0] 24 (0, 0))) ∧ (w'.heap[s_.2.2]? = some (.cells #[.int .u64 0, .int .u64 0] 24 (0, 0))) ∧ (w.heap.size ≤ s_.1) ∧ (w.heap.size ≤ s_.1) ∧ (gb149 ≠ s_.1) ∧ (s_.1 ≠ gb149) ∧ (s_.2.1 ≠ s_.1) ∧ (s_.1 ≠ s_.2.1) ∧ (s_.2.2 ≠ s_.1) ∧ (s_.1 ≠ s_.2.2) ∧ (w.heap.size ≤ s_.2.1) ∧ (w.heap.size ≤ s_.2.1) ∧ (gb149 ≠ s_.2.1) ∧ (s_.2.1 ≠ gb149) ∧ (s_.2.2 ≠ s_.2.1) ∧ (s_.2.1 ≠ s_.2.2) ∧ (w.heap.size ≤ s_.2.2) ∧ (w.heap.size ≤ s_.2.2) ∧ (gb149 ≠ s_.2.2) ∧ (s_.2.2 ≠ gb149) ∧ (Below w.heap.size w w')) ?_ ?_
 rotate_left
 ·intro hJ3_7_11_12_13_14
  refine join_ (σ := Nat × Nat) 4 #[yy, yy, yy, yy, yy, yy, yy, yy, yy, yy, yy, yy, yy, yy, nn, nn, nn, nn] (fun s_ => [(30, .agg #[.int .u64 t150, .int .u64 t151]), (34, .agg #[.int .u64 t152, .int .u64 t153]), (38, .agg #[.int .u64 t154, .int .u64 t155]), (9, .pointer (some ⟨s_.1, 0, none⟩)), (10, .pointer (some ⟨s_.2, 0, none⟩))]) (fun s_ w' => (w'.cell? ⟨gb149, 0, none⟩ = some (.int .u64 a2_0) ∧ w'.cell? ⟨gb149, 1, none⟩ = some (.int .u64 a2_1) ∧ w'.cell? ⟨gb149, 2, none⟩ = some (.int .u64 a2_2) ∧ w'.cell? ⟨gb149, 3, none⟩ = some (.int .u64 a2_3) ∧ w'.cell? ⟨gb149, 4, none⟩ = some (.int .u64 a2_4) ∧ w'.cell? ⟨gb149, 5, none⟩ = some (.int .u64 a2_5)) ∧ (w'.heap[gb149]? = some (.cells #[.int .u64 a2_0, .int .u64 a2_1, .int .u64 a2_2, .int .u64 a2_3, .int .u64 a2_4, .int .u64 a2_5] 26 (0, 0))) ∧ (w'.heap[s_.1]? = some (.cells #[.int .u64 0, .int .u64 0] 24 (0, 0))) ∧ (w'.heap[s_.2]? = some (.cells #[.int .u64 0, .int .u64 0] 24 (0, 0))) ∧ (w.heap.size ≤ s_.1) ∧ (w.heap.size ≤ s_.1) ∧ (gb149 ≠ s_.1) ∧ (s_.1 ≠ gb149) ∧ (s_.2 ≠ s_.1) ∧ (s_.1 ≠ s_.2) ∧ (w.heap.size ≤ s_.2) ∧ (w.heap.size ≤ s_.2) ∧ (gb149 ≠ s_.2) ∧ (s_.2 ≠ gb149) ∧ (Below w.heap.size w w')) ?_ ?_
  rotate_left
  ·intro hJ3_7_11_12_13
   refine join_ (σ := Nat × Nat) 4 #[yy, yy, yy, yy, yy, yy, yy, yy, yy, yy, yy, yy, yy, nn, yy, nn, nn, nn] (fun s_ => [(30, .agg #[.int .u64 t150, .int .u64 t151]), (34, .agg #[.int .u64 t152, .int .u64 t153]), (38, .agg #[.int .u64 t154, .int .u64 t155]), (9, .pointer (some ⟨s_.1, 0, none⟩)), (11, .pointer (some ⟨s_.2, 0, none⟩))]) (fun s_ w' => (w'.cell? ⟨gb149, 0, none⟩ = some (.int .u64 a2_0) ∧ w'.cell? ⟨gb149, 1, none⟩ = some (.int .u64 a2_1) ∧ w'.cell? ⟨gb149, 2, none⟩ = some (.int .u64 a2_2) ∧ w'.cell? ⟨gb149, 3, none⟩ = some (.int .u64 a2_3) ∧ w'.cell? ⟨gb149, 4, none⟩ = some (.int .u64 a2_4) ∧ w'.cell? ⟨gb149, 5, none⟩ = some (.int .u64 a2_5)) ∧ (w'.heap[gb149]? = some (.cells #[.int .u64 a2_0, .int .u64 a2_1, .int .u64 a2_2, .int .u64 a2_3, .int .u64 a2_4, .int .u64 a2_5] 26 (0, 0))) ∧ (w'.heap[s_.1]? = some (.cells #[.int .u64 0, .int .u64 0] 24 (0, 0))) ∧ (w'.heap[s_.2]? = some (.cells #[.int .u64 0, .int .u64 0] 24 (0, 0))) ∧ (w.heap.size ≤ s_.1) ∧ (w.heap.size ≤ s_.1) ∧ (gb149 ≠ s_.1) ∧ (s_.1 ≠ gb149) ∧ (s_.2 ≠ s_.1) ∧ (s_.1 ≠ s_.2) ∧ (w.heap.size ≤ s_.2) ∧ (w.heap.size ≤ s_.2) ∧ (gb149 ≠ s_.2) ∧ (s_.2 ≠ gb149) ∧ (Below w.heap.size w w')) ?_ ?_
   rotate_left
   ·intro hJ3_7_11_12_14
    refine join_ (σ := Nat × Nat) 4 #[yy, yy, yy, yy, yy, yy, yy, yy, yy, yy, yy, yy, nn, yy, yy, nn, nn, nn] (fun s_ => [(30, .agg #[.int .u64 t150, .int .u64 t151]), (34, .agg #[.int .u64 t152, .int .u64 t153]), (38, .agg #[.int .u64 t154, .int .u64 t155]), (10, .pointer (some ⟨s_.1, 0, none⟩)), (11, .pointer (some ⟨s_.2, 0, none⟩))]) (fun s_ w' => (w'.cell? ⟨gb149, 0, none⟩ = some (.int .u64 a2_0) ∧ w'.cell? ⟨gb149, 1, none⟩ = some (.int .u64 a2_1) ∧ w'.cell? ⟨gb149, 2, none⟩ = some (.int .u64 a2_2) ∧ w'.cell? ⟨gb149, 3, none⟩ = some (.int .u64 a2_3) ∧ w'.cell? ⟨gb149, 4, none⟩ = some (.int .u64 a2_4) ∧ w'.cell? ⟨gb149, 5, none⟩ = some (.int .u64 a2_5)) ∧ (w'.heap[gb149]? = some (.cells #[.int .u64 a2_0, .int .u64 a2_1, .int .u64 a2_2, .int .u64 a2_3, .int .u64 a2_4, .int .u64 a2_5] 26 (0, 0))) ∧ (w'.heap[s_.1]? = some (.cells #[.int .u64 0, .int .u64 0] 24 (0, 0))) ∧ (w'.heap[s_.2]? = some (.cells #[.int .u64 0, .int .u64 0] 24 (0, 0))) ∧ (w.heap.size ≤ s_.1) ∧ (w.heap.size ≤ s_.1) ∧ (gb149 ≠ s_.1) ∧ (s_.1 ≠ gb149) ∧ (s_.2 ≠ s_.1) ∧ (s_.1 ≠ s_.2) ∧ (w.heap.size ≤ s_.2) ∧ (w.heap.size ≤ s_.2) ∧ (gb149 ≠ s_.2) ∧ (s_.2 ≠ gb149) ∧ (Below w.heap.size w w')) ?_ ?_
    rotate_left
    ·intro hJ3_7_11_13_14
     refine join_ (σ := Nat × Nat × Nat) 4 #[yy, yy, yy, yy, yy, yy, yy, yy, yy, yy, yy, nn, yy, yy, yy, nn, nn, nn] (fun s_ => [(30, .agg #[.int .u64 t150, .int .u64 t151]), (34, .agg #[.int .u64 t152, .int .u64 t153]), (9, .pointer (some ⟨s_.1, 0, none⟩)), (10, .pointer (some ⟨s_.2.1, 0, none⟩)), (11, .pointer (some ⟨s_.2.2, 0, none⟩))]) (fun s_ w' => (w'.cell? ⟨gb149, 0, none⟩ = some (.int .u64 a2_0) ∧ w'.cell? ⟨gb149, 1, none⟩ = some (.int .u64 a2_1) ∧ w'.cell? ⟨gb149, 2, none⟩ = some (.int .u64 a2_2) ∧ w'.cell? ⟨gb149, 3, none⟩ = some (.int .u64 a2_3) ∧ w'.cell? ⟨gb149, 4, none⟩ = some (.int .u64 a2_4) ∧ w'.cell? ⟨gb149, 5, none⟩ = some (.int .u64 a2_5)) ∧ (w'.heap[gb149]? = some (.cells #[.int .u64 a2_0, .int .u64 a2_1, .int .u64 a2_2, .int .u64 a2_3, .int .u64 a2_4, .int .u64 a2_5] 26 (0, 0))) ∧ (w'.heap[s_.1]? = some (.cells #[.int .u64 0, .int .u64 0] 24 (0, 0))) ∧ (w'.heap[s_.2.1]? = some (.cells #[.int .u64 0, .int .u64 0] 24 (0, 0))) ∧ (w'.heap[s_.2.2]? = some (.cells #[.int .u64 0, .int .u64 0] 24 (0, 0))) ∧ (w.heap.size ≤ s_.1) ∧ (w.heap.size ≤ s_.1) ∧ (gb149 ≠ s_.1) ∧ (s_.1 ≠ gb149) ∧ (s_.2.1 ≠ s_.1) ∧ (s_.1 ≠ s_.2.1) ∧ (s_.2.2 ≠ s_.1) ∧ (s_.1 ≠ s_.2.2) ∧ (w.heap.size ≤ s_.2.1) ∧ (w.heap.size ≤ s_.2.1) ∧ (gb149 ≠ s_.2.1) ∧ (s_.2.1 ≠ gb149) ∧ (s_.2.2 ≠ s_.2.1) ∧ (s_.2.1 ≠ s_.2.2) ∧ (w.heap.size ≤ s_.2.2) ∧ (w.heap.size ≤ s_.2.2) ∧ (gb149 ≠ s_.2.2) ∧ (s_.2.2 ≠ gb149) ∧ (Below w.heap.size w w')) ?_ ?_
     rotate_left
     ·intro hJ3_7_12_13_14
      refine join_ (σ := Nat) 5 #[yy, yy, yy, yy, yy, yy, yy, yy, yy, yy, yy, yy, yy, nn, nn, nn, nn, nn] (fun s_ => [(30, .agg #[.int .u64 t150, .int .u64 t151]), (34, .agg #[.int .u64 t152, .int .u64 t153]), (38, .agg #[.int .u64 t154, .int .u64 t155]), (9, .pointer (some ⟨s_, 0, none⟩))]) (fun s_ w' => (w'.cell? ⟨gb149, 0, none⟩ = some (.int .u64 a2_0) ∧ w'.cell? ⟨gb149, 1, none⟩ = some (.int .u64 a2_1) ∧ w'.cell? ⟨gb149, 2, none⟩ = some (.int .u64 a2_2) ∧ w'.cell? ⟨gb149, 3, none⟩ = some (.int .u64 a2_3) ∧ w'.cell? ⟨gb149, 4, none⟩ = some (.int .u64 a2_4) ∧ w'.cell? ⟨gb149, 5, none⟩ = some (.int .u64 a2_5)) ∧ (w'.heap[gb149]? = some (.cells #[.int .u64 a2_0, .int .u64 a2_1, .int .u64 a2_2, .int .u64 a2_3, .int .u64 a2_4, .int .u64 a2_5] 26 (0, 0))) ∧ (w'.heap[s_]? = some (.cells #[.int .u64 0, .int .u64 0] 24 (0, 0))) ∧ (w.heap.size ≤ s_) ∧ (w.heap.size ≤ s_) ∧ (gb149 ≠ s_) ∧ (s_ ≠ gb149) ∧ (Below w.heap.size w w')) ?_ ?_
      rotate_left
      ·intro hJ3_7_11_12
       refine join_ (σ := Nat) 5 #[yy, yy, yy, yy, yy, yy, yy, yy, yy, yy, yy, yy, nn, yy, nn, nn, nn, nn] (fun s_ => [(30, .agg #[.int .u64 t150, .int .u64 t151]), (34, .agg #[.int .u64 t152, .int .u64 t153]), (38, .agg #[.int .u64 t154, .int .u64 t155]), (10, .pointer (some ⟨s_, 0, none⟩))]) (fun s_ w' => (w'.cell? ⟨gb149, 0, none⟩ = some (.int .u64 a2_0) ∧ w'.cell? ⟨gb149, 1, none⟩ = some (.int .u64 a2_1) ∧ w'.cell? ⟨gb149, 2, none⟩ = some (.int .u64 a2_2) ∧ w'.cell? ⟨gb149, 3, none⟩ = some (.int .u64 a2_3) ∧ w'.cell? ⟨gb149, 4, none⟩ = some (.int .u64 a2_4) ∧ w'.cell? ⟨gb149, 5, none⟩ = some (.int .u64 a2_5)) ∧ (w'.heap[gb149]? = some (.cells #[.int .u64 a2_0, .int .u64 a2_1, .int .u64 a2_2, .int .u64 a2_3, .int .u64 a2_4, .int .u64 a2_5] 26 (0, 0))) ∧ (w'.heap[s_]? = some (.cells #[.int .u64 0, .int .u64 0] 24 (0, 0))) ∧ (w.heap.size ≤ s_) ∧ (w.heap.size ≤ s_) ∧ (gb149 ≠ s_) ∧ (s_ ≠ gb149) ∧ (Below w.heap.size w w')) ?_ ?_
       rotate_left
       ·intro hJ3_7_11_13
        refine join_ (σ := Nat) 5 #[yy, yy, yy, yy, yy, yy, yy, yy, yy, yy, yy, yy, nn, nn, yy, nn, nn, nn] (fun s_ => [(30, .agg #[.int .u64 t150, .int .u64 t151]), (34, .agg #[.int .u64 t152, .int .u64 t153]), (38, .agg #[.int .u64 t154, .int .u64 t155]), (11, .pointer (some ⟨s_, 0, none⟩))]) (fun s_ w' => (w'.cell? ⟨gb149, 0, none⟩ = some (.int .u64 a2_0) ∧ w'.cell? ⟨gb149, 1, none⟩ = some (.int .u64 a2_1) ∧ w'.cell? ⟨gb149, 2, none⟩ = some (.int .u64 a2_2) ∧ w'.cell? ⟨gb149, 3, none⟩ = some (.int .u64 a2_3) ∧ w'.cell? ⟨gb149, 4, none⟩ = some (.int .u64 a2_4) ∧ w'.cell? ⟨gb149, 5, none⟩ = some (.int .u64 a2_5)) ∧ (w'.heap[gb149]? = some (.cells #[.int .u64 a2_0, .int .u64 a2_1, .int .u64 a2_2, .int .u64 a2_3, .int .u64 a2_4, .int .u64 a2_5] 26 (0, 0))) ∧ (w'.heap[s_]? = some (.cells #[.int .u64 0, .int .u64 0] 24 (0, 0))) ∧ (w.heap.size ≤ s_) ∧ (w.heap.size ≤ s_) ∧ (gb149 ≠ s_) ∧ (s_ ≠ gb149) ∧ (Below w.heap.size w w')) ?_ ?_
        rotate_left
        ·intro hJ3_7_11_14
         refine join_ (σ := Nat × Nat) 5 #[yy, yy, yy, yy, yy, yy, yy, yy, yy, yy, yy, nn, yy, yy, nn, nn, nn, nn] (fun s_ => [(30, .agg #[.int .u64 t150, .int .u64 t151]), (34, .agg #[.int .u64 t152, .int .u64 t153]), (9, .pointer (some ⟨s_.1, 0, none⟩)), (10, .pointer (some ⟨s_.2, 0, none⟩))]) (fun s_ w' => (w'.cell? ⟨gb149, 0, none⟩ = some (.int .u64 a2_0) ∧ w'.cell? ⟨gb149, 1, none⟩ = some (.int .u64 a2_1) ∧ w'.cell? ⟨gb149, 2, none⟩ = some (.int .u64 a2_2) ∧ w'.cell? ⟨gb149, 3, none⟩ = some (.int .u64 a2_3) ∧ w'.cell? ⟨gb149, 4, none⟩ = some (.int .u64 a2_4) ∧ w'.cell? ⟨gb149, 5, none⟩ = some (.int .u64 a2_5)) ∧ (w'.heap[gb149]? = some (.cells #[.int .u64 a2_0, .int .u64 a2_1, .int .u64 a2_2, .int .u64 a2_3, .int .u64 a2_4, .int .u64 a2_5] 26 (0, 0))) ∧ (w'.heap[s_.1]? = some (.cells #[.int .u64 0, .int .u64 0] 24 (0, 0))) ∧ (w'.heap[s_.2]? = some (.cells #[.int .u64 0, .int .u64 0] 24 (0, 0))) ∧ (w.heap.size ≤ s_.1) ∧ (w.heap.size ≤ s_.1) ∧ (gb149 ≠ s_.1) ∧ (s_.1 ≠ gb149) ∧ (s_.2 ≠ s_.1) ∧ (s_.1 ≠ s_.2) ∧ (w.heap.size ≤ s_.2) ∧ (w.heap.size ≤ s_.2) ∧ (gb149 ≠ s_.2) ∧ (s_.2 ≠ gb149) ∧ (Below w.heap.size w w')) ?_ ?_
         rotate_left
         ·intro hJ3_7_12_13
          refine join_ (σ := Nat × Nat) 5 #[yy, yy, yy, yy, yy, yy, yy, yy, yy, yy, yy, nn, yy, nn, yy, nn, nn, nn] (fun s_ => [(30, .agg #[.int .u64 t150, .int .u64 t151]), (34, .agg #[.int .u64 t152, .int .u64 t153]), (9, .pointer (some ⟨s_.1, 0, none⟩)), (11, .pointer (some ⟨s_.2, 0, none⟩))]) (fun s_ w' => (w'.cell? ⟨gb149, 0, none⟩ = some (.int .u64 a2_0) ∧ w'.cell? ⟨gb149, 1, none⟩ = some (.int .u64 a2_1) ∧ w'.cell? ⟨gb149, 2, none⟩ = some (.int .u64 a2_2) ∧ w'.cell? ⟨gb149, 3, none⟩ = some (.int .u64 a2_3) ∧ w'.cell? ⟨gb149, 4, none⟩ = some (.int .u64 a2_4) ∧ w'.cell? ⟨gb149, 5, none⟩ = some (.int .u64 a2_5)) ∧ (w'.heap[gb149]? = some (.cells #[.int .u64 a2_0, .int .u64 a2_1, .int .u64 a2_2, .int .u64 a2_3, .int .u64 a2_4, .int .u64 a2_5] 26 (0, 0))) ∧ (w'.heap[s_.1]? = some (.cells #[.int .u64 0, .int .u64 0] 24 (0, 0))) ∧ (w'.heap[s_.2]? = some (.cells #[.int .u64 0, .int .u64 0] 24 (0, 0))) ∧ (w.heap.size ≤ s_.1) ∧ (w.heap.size ≤ s_.1) ∧ (gb149 ≠ s_.1) ∧ (s_.1 ≠ gb149) ∧ (s_.2 ≠ s_.1) ∧ (s_.1 ≠ s_.2) ∧ (w.heap.size ≤ s_.2) ∧ (w.heap.size ≤ s_.2) ∧ (gb149 ≠ s_.2) ∧ (s_.2 ≠ gb149) ∧ (Below w.heap.size w w')) ?_ ?_
          rotate_left
          ·intro hJ3_7_12_14
           refine join_ (σ := Nat × Nat) 5 #[yy, yy, yy, yy, yy, yy, yy, yy, yy, yy, yy, nn, nn, yy, yy, nn, nn, nn] (fun s_ => [(30, .agg #[.int .u64 t150, .int .u64 t151]), (34, .agg #[.int .u64 t152, .int .u64 t153]), (10, .pointer (some ⟨s_.1, 0, none⟩)), (11, .pointer (some ⟨s_.2, 0, none⟩))]) (fun s_ w' => (w'.cell? ⟨gb149, 0, none⟩ = some (.int .u64 a2_0) ∧ w'.cell? ⟨gb149, 1, none⟩ = some (.int .u64 a2_1) ∧ w'.cell? ⟨gb149, 2, none⟩ = some (.int .u64 a2_2) ∧ w'.cell? ⟨gb149, 3, none⟩ = some (.int .u64 a2_3) ∧ w'.cell? ⟨gb149, 4, none⟩ = some (.int .u64 a2_4) ∧ w'.cell? ⟨gb149, 5, none⟩ = some (.int .u64 a2_5)) ∧ (w'.heap[gb149]? = some (.cells #[.int .u64 a2_0, .int .u64 a2_1, .int .u64 a2_2, .int .u64 a2_3, .int .u64 a2_4, .int .u64 a2_5] 26 (0, 0))) ∧ (w'.heap[s_.1]? = some (.cells #[.int .u64 0, .int .u64 0] 24 (0, 0))) ∧ (w'.heap[s_.2]? = some (.cells #[.int .u64 0, .int .u64 0] 24 (0, 0))) ∧ (w.heap.size ≤ s_.1) ∧ (w.heap.size ≤ s_.1) ∧ (gb149 ≠ s_.1) ∧ (s_.1 ≠ gb149) ∧ (s_.2 ≠ s_.1) ∧ (s_.1 ≠ s_.2) ∧ (w.heap.size ≤ s_.2) ∧ (w.heap.size ≤ s_.2) ∧ (gb149 ≠ s_.2) ∧ (s_.2 ≠ gb149) ∧ (Below w.heap.size w w')) ?_ ?_
           rotate_left
           ·intro hJ3_7_13_14
            refine join_ (σ := Nat × Nat × Nat) 5 #[yy, yy, yy, yy, yy, yy, yy, nn, yy, yy, yy, nn, yy, yy, yy, nn, nn, nn] (fun s_ => [(30, .agg #[.int .u64 t150, .int .u64 t151]), (9, .pointer (some ⟨s_.1, 0, none⟩)), (10, .pointer (some ⟨s_.2.1, 0, none⟩)), (11, .pointer (some ⟨s_.2.2, 0, none⟩))]) (fun s_ w' => (w'.cell? ⟨gb149, 0, none⟩ = some (.int .u64 a2_0) ∧ w'.cell? ⟨gb149, 1, none⟩ = some (.int .u64 a2_1) ∧ w'.cell? ⟨gb149, 2, none⟩ = some (.int .u64 a2_2) ∧ w'.cell? ⟨gb149, 3, none⟩ = some (.int .u64 a2_3) ∧ w'.cell? ⟨gb149, 4, none⟩ = some (.int .u64 a2_4) ∧ w'.cell? ⟨gb149, 5, none⟩ = some (.int .u64 a2_5)) ∧ (w'.heap[gb149]? = some (.cells #[.int .u64 a2_0, .int .u64 a2_1, .int .u64 a2_2, .int .u64 a2_3, .int .u64 a2_4, .int .u64 a2_5] 26 (0, 0))) ∧ (w'.heap[s_.1]? = some (.cells #[.int .u64 0, .int .u64 0] 24 (0, 0))) ∧ (w'.heap[s_.2.1]? = some (.cells #[.int .u64 0, .int .u64 0] 24 (0, 0))) ∧ (w'.heap[s_.2.2]? = some (.cells #[.int .u64 0, .int .u64 0] 24 (0, 0))) ∧ (w.heap.size ≤ s_.1) ∧ (w.heap.size ≤ s_.1) ∧ (gb149 ≠ s_.1) ∧ (s_.1 ≠ gb149) ∧ (s_.2.1 ≠ s_.1) ∧ (s_.1 ≠ s_.2.1) ∧ (s_.2.2 ≠ s_.1) ∧ (s_.1 ≠ s_.2.2) ∧ (w.heap.size ≤ s_.2.1) ∧ (w.heap.size ≤ s_.2.1) ∧ (gb149 ≠ s_.2.1) ∧ (s_.2.1 ≠ gb149) ∧ (s_.2.2 ≠ s_.2.1) ∧ (s_.2.1 ≠ s_.2.2) ∧ (w.heap.size ≤ s_.2.2) ∧ (w.heap.size ≤ s_.2.2) ∧ (gb149 ≠ s_.2.2) ∧ (s_.2.2 ≠ gb149) ∧ (Below w.heap.size w w')) ?_ ?_
            rotate_left
            ·intro hJ3_12_13_14
             refine join_ (σ := Unit) 6 #[yy, yy, yy, yy, yy, yy, yy, yy, yy, yy, yy, yy, nn, nn, nn, nn, nn, nn] (fun s_ => [(30, .agg #[.int .u64 t150, .int .u64 t151]), (34, .agg #[.int .u64 t152, .int .u64 t153]), (38, .agg #[.int .u64 t154, .int .u64 t155])]) (fun s_ w' => (w'.cell? ⟨gb149, 0, none⟩ = some (.int .u64 a2_0) ∧ w'.cell? ⟨gb149, 1, none⟩ = some (.int .u64 a2_1) ∧ w'.cell? ⟨gb149, 2, none⟩ = some (.int .u64 a2_2) ∧ w'.cell? ⟨gb149, 3, none⟩ = some (.int .u64 a2_3) ∧ w'.cell? ⟨gb149, 4, none⟩ = some (.int .u64 a2_4) ∧ w'.cell? ⟨gb149, 5, none⟩ = some (.int .u64 a2_5)) ∧ (w'.heap[gb149]? = some (.cells #[.int .u64 a2_0, .int .u64 a2_1, .int .u64 a2_2, .int .u64 a2_3, .int .u64 a2_4, .int .u64 a2_5] 26 (0, 0))) ∧ (Below w.heap.size w w')) ?_ ?_
             rotate_left
             ·intro hJ3_7_11
              refine join_ (σ := Nat) 6 #[yy, yy, yy, yy, yy, yy, yy, yy, yy, yy, yy, nn, yy, nn, nn, nn, nn, nn] (fun s_ => [(30, .agg #[.int .u64 t150, .int .u64 t151]), (34, .agg #[.int .u64 t152, .int .u64 t153]), (9, .pointer (some ⟨s_, 0, none⟩))]) (fun s_ w' => (w'.cell? ⟨gb149, 0, none⟩ = some (.int .u64 a2_0) ∧ w'.cell? ⟨gb149, 1, none⟩ = some (.int .u64 a2_1) ∧ w'.cell? ⟨gb149, 2, none⟩ = some (.int .u64 a2_2) ∧ w'.cell? ⟨gb149, 3, none⟩ = some (.int .u64 a2_3) ∧ w'.cell? ⟨gb149, 4, none⟩ = some (.int .u64 a2_4) ∧ w'.cell? ⟨gb149, 5, none⟩ = some (.int .u64 a2_5)) ∧ (w'.heap[gb149]? = some (.cells #[.int .u64 a2_0, .int .u64 a2_1, .int .u64 a2_2, .int .u64 a2_3, .int .u64 a2_4, .int .u64 a2_5] 26 (0, 0))) ∧ (w'.heap[s_]? = some (.cells #[.int .u64 0, .int .u64 0] 24 (0, 0))) ∧ (w.heap.size ≤ s_) ∧ (w.heap.size ≤ s_) ∧ (gb149 ≠ s_) ∧ (s_ ≠ gb149) ∧ (Below w.heap.size w w')) ?_ ?_
              rotate_left
              ·intro hJ3_7_12
               refine join_ (σ := Nat) 6 #[yy, yy, yy, yy, yy, yy, yy, yy, yy, yy, yy, nn, nn, yy, nn, nn, nn, nn] (fun s_ => [(30, .agg #[.int .u64 t150, .int .u64 t151]), (34, .agg #[.int .u64 t152, .int .u64 t153]), (10, .pointer (some ⟨s_, 0, none⟩))]) (fun s_ w' => (w'.cell? ⟨gb149, 0, none⟩ = some (.int .u64 a2_0) ∧ w'.cell? ⟨gb149, 1, none⟩ = some (.int .u64 a2_1) ∧ w'.cell? ⟨gb149, 2, none⟩ = some (.int .u64 a2_2) ∧ w'.cell? ⟨gb149, 3, none⟩ = some (.int .u64 a2_3) ∧ w'.cell? ⟨gb149, 4, none⟩ = some (.int .u64 a2_4) ∧ w'.cell? ⟨gb149, 5, none⟩ = some (.int .u64 a2_5)) ∧ (w'.heap[gb149]? = some (.cells #[.int .u64 a2_0, .int .u64 a2_1, .int .u64 a2_2, .int .u64 a2_3, .int .u64 a2_4, .int .u64 a2_5] 26 (0, 0))) ∧ (w'.heap[s_]? = some (.cells #[.int .u64 0, .int .u64 0] 24 (0, 0))) ∧ (w.heap.size ≤ s_) ∧ (w.heap.size ≤ s_) ∧ (gb149 ≠ s_) ∧ (s_ ≠ gb149) ∧ (Below w.heap.size w w')) ?_ ?_
               rotate_left
               ·intro hJ3_7_13
                refine join_ (σ := Nat) 6 #[yy, yy, yy, yy, yy, yy, yy, yy, yy, yy, yy, nn, nn, nn, yy, nn, nn, nn] (fun s_ => [(30, .agg #[.int .u64 t150, .int .u64 t151]), (34, .agg #[.int .u64 t152, .int .u64 t153]), (11, .pointer (some ⟨s_, 0, none⟩))]) (fun s_ w' => (w'.cell? ⟨gb149, 0, none⟩ = some (.int .u64 a2_0) ∧ w'.cell? ⟨gb149, 1, none⟩ = some (.int .u64 a2_1) ∧ w'.cell? ⟨gb149, 2, none⟩ = some (.int .u64 a2_2) ∧ w'.cell? ⟨gb149, 3, none⟩ = some (.int .u64 a2_3) ∧ w'.cell? ⟨gb149, 4, none⟩ = some (.int .u64 a2_4) ∧ w'.cell? ⟨gb149, 5, none⟩ = some (.int .u64 a2_5)) ∧ (w'.heap[gb149]? = some (.cells #[.int .u64 a2_0, .int .u64 a2_1, .int .u64 a2_2, .int .u64 a2_3, .int .u64 a2_4, .int .u64 a2_5] 26 (0, 0))) ∧ (w'.heap[s_]? = some (.cells #[.int .u64 0, .int .u64 0] 24 (0, 0))) ∧ (w.heap.size ≤ s_) ∧ (w.heap.size ≤ s_) ∧ (gb149 ≠ s_) ∧ (s_ ≠ gb149) ∧ (Below w.heap.size w w')) ?_ ?_
                rotate_left
                ·intro hJ3_7_14
                 refine join_ (σ := Nat × Nat) 6 #[yy, yy, yy, yy, yy, yy, yy, nn, yy, yy, yy, nn, yy, yy, nn, nn, nn, nn] (fun s_ => [(30, .agg #[.int .u64 t150, .int .u64 t151]), (9, .pointer (some ⟨s_.1, 0, none⟩)), (10, .pointer (some ⟨s_.2, 0, none⟩))]) (fun s_ w' => (w'.cell? ⟨gb149, 0, none⟩ = some (.int .u64 a2_0) ∧ w'.cell? ⟨gb149, 1, none⟩ = some (.int .u64 a2_1) ∧ w'.cell? ⟨gb149, 2, none⟩ = some (.int .u64 a2_2) ∧ w'.cell? ⟨gb149, 3, none⟩ = some (.int .u64 a2_3) ∧ w'.cell? ⟨gb149, 4, none⟩ = some (.int .u64 a2_4) ∧ w'.cell? ⟨gb149, 5, none⟩ = some (.int .u64 a2_5)) ∧ (w'.heap[gb149]? = some (.cells #[.int .u64 a2_0, .int .u64 a2_1, .int .u64 a2_2, .int .u64 a2_3, .int .u64 a2_4, .int .u64 a2_5] 26 (0, 0))) ∧ (w'.heap[s_.1]? = some (.cells #[.int .u64 0, .int .u64 0] 24 (0, 0))) ∧ (w'.heap[s_.2]? = some (.cells #[.int .u64 0, .int .u64 0] 24 (0, 0))) ∧ (w.heap.size ≤ s_.1) ∧ (w.heap.size ≤ s_.1) ∧ (gb149 ≠ s_.1) ∧ (s_.1 ≠ gb149) ∧ (s_.2 ≠ s_.1) ∧ (s_.1 ≠ s_.2) ∧ (w.heap.size ≤ s_.2) ∧ (w.heap.size ≤ s_.2) ∧ (gb149 ≠ s_.2) ∧ (s_.2 ≠ gb149) ∧ (Below w.heap.size w w')) ?_ ?_
                 rotate_left
                 ·intro hJ3_12_13
                  refine join_ (σ := Nat × Nat) 6 #[yy, yy, yy, yy, yy, yy, yy, nn, yy, yy, yy, nn, yy, nn, yy, nn, nn, nn] (fun s_ => [(30, .agg #[.int .u64 t150, .int .u64 t151]), (9, .pointer (some ⟨s_.1, 0, none⟩)), (11, .pointer (some ⟨s_.2, 0, none⟩))]) (fun s_ w' => (w'.cell? ⟨gb149, 0, none⟩ = some (.int .u64 a2_0) ∧ w'.cell? ⟨gb149, 1, none⟩ = some (.int .u64 a2_1) ∧ w'.cell? ⟨gb149, 2, none⟩ = some (.int .u64 a2_2) ∧ w'.cell? ⟨gb149, 3, none⟩ = some (.int .u64 a2_3) ∧ w'.cell? ⟨gb149, 4, none⟩ = some (.int .u64 a2_4) ∧ w'.cell? ⟨gb149, 5, none⟩ = some (.int .u64 a2_5)) ∧ (w'.heap[gb149]? = some (.cells #[.int .u64 a2_0, .int .u64 a2_1, .int .u64 a2_2, .int .u64 a2_3, .int .u64 a2_4, .int .u64 a2_5] 26 (0, 0))) ∧ (w'.heap[s_.1]? = some (.cells #[.int .u64 0, .int .u64 0] 24 (0, 0))) ∧ (w'.heap[s_.2]? = some (.cells #[.int .u64 0, .int .u64 0] 24 (0, 0))) ∧ (w.heap.size ≤ s_.1) ∧ (w.heap.size ≤ s_.1) ∧ (gb149 ≠ s_.1) ∧ (s_.1 ≠ gb149) ∧ (s_.2 ≠ s_.1) ∧ (s_.1 ≠ s_.2) ∧ (w.heap.size ≤ s_.2) ∧ (w.heap.size ≤ s_.2) ∧ (gb149 ≠ s_.2) ∧ (s_.2 ≠ gb149) ∧ (Below w.heap.size w w')) ?_ ?_
                  rotate_left
                  ·intro hJ3_12_14
                   refine join_ (σ := Nat × Nat) 6 #[yy, yy, yy, yy, yy, yy, yy, nn, yy, yy, yy, nn, nn, yy, yy, nn, nn, nn] (fun s_ => [(30, .agg #[.int .u64 t150, .int .u64 t151]), (10, .pointer (some ⟨s_.1, 0, none⟩)), (11, .pointer (some ⟨s_.2, 0, none⟩))]) (fun s_ w' => (w'.cell? ⟨gb149, 0, none⟩ = some (.int .u64 a2_0) ∧ w'.cell? ⟨gb149, 1, none⟩ = some (.int .u64 a2_1) ∧ w'.cell? ⟨gb149, 2, none⟩ = some (.int .u64 a2_2) ∧ w'.cell? ⟨gb149, 3, none⟩ = some (.int .u64 a2_3) ∧ w'.cell? ⟨gb149, 4, none⟩ = some (.int .u64 a2_4) ∧ w'.cell? ⟨gb149, 5, none⟩ = some (.int .u64 a2_5)) ∧ (w'.heap[gb149]? = some (.cells #[.int .u64 a2_0, .int .u64 a2_1, .int .u64 a2_2, .int .u64 a2_3, .int .u64 a2_4, .int .u64 a2_5] 26 (0, 0))) ∧ (w'.heap[s_.1]? = some (.cells #[.int .u64 0, .int .u64 0] 24 (0, 0))) ∧ (w'.heap[s_.2]? = some (.cells #[.int .u64 0, .int .u64 0] 24 (0, 0))) ∧ (w.heap.size ≤ s_.1) ∧ (w.heap.size ≤ s_.1) ∧ (gb149 ≠ s_.1) ∧ (s_.1 ≠ gb149) ∧ (s_.2 ≠ s_.1) ∧ (s_.1 ≠ s_.2) ∧ (w.heap.size ≤ s_.2) ∧ (w.heap.size ≤ s_.2) ∧ (gb149 ≠ s_.2) ∧ (s_.2 ≠ gb149) ∧ (Below w.heap.size w w')) ?_ ?_
                   rotate_left
                   ·intro hJ3_13_14
                    refine join_ (σ := Nat × Nat × Nat) 6 #[yy, yy, yy, nn, yy, yy, yy, nn, yy, yy, yy, nn, yy, yy, yy, nn, nn, nn] (fun s_ => [(9, .pointer (some ⟨s_.1, 0, none⟩)), (10, .pointer (some ⟨s_.2.1, 0, none⟩)), (11, .pointer (some ⟨s_.2.2, 0, none⟩))]) (fun s_ w' => (w'.cell? ⟨gb149, 0, none⟩ = some (.int .u64 a2_0) ∧ w'.cell? ⟨gb149, 1, none⟩ = some (.int .u64 a2_1) ∧ w'.cell? ⟨gb149, 2, none⟩ = some (.int .u64 a2_2) ∧ w'.cell? ⟨gb149, 3, none⟩ = some (.int .u64 a2_3) ∧ w'.cell? ⟨gb149, 4, none⟩ = some (.int .u64 a2_4) ∧ w'.cell? ⟨gb149, 5, none⟩ = some (.int .u64 a2_5)) ∧ (w'.heap[gb149]? = some (.cells #[.int .u64 a2_0, .int .u64 a2_1, .int .u64 a2_2, .int .u64 a2_3, .int .u64 a2_4, .int .u64 a2_5] 26 (0, 0))) ∧ (w'.heap[s_.1]? = some (.cells #[.int .u64 0, .int .u64 0] 24 (0, 0))) ∧ (w'.heap[s_.2.1]? = some (.cells #[.int .u64 0, .int .u64 0] 24 (0, 0))) ∧ (w'.heap[s_.2.2]? = some (.cells #[.int .u64 0, .int .u64 0] 24 (0, 0))) ∧ (w.heap.size ≤ s_.1) ∧ (w.heap.size ≤ s_.1) ∧ (gb149 ≠ s_.1) ∧ (s_.1 ≠ gb149) ∧ (s_.2.1 ≠ s_.1) ∧ (s_.1 ≠ s_.2.1) ∧ (s_.2.2 ≠ s_.1) ∧ (s_.1 ≠ s_.2.2) ∧ (w.heap.size ≤ s_.2.1) ∧ (w.heap.size ≤ s_.2.1) ∧ (gb149 ≠ s_.2.1) ∧ (s_.2.1 ≠ gb149) ∧ (s_.2.2 ≠ s_.2.1) ∧ (s_.2.1 ≠ s_.2.2) ∧ (w.heap.size ≤ s_.2.2) ∧ (w.heap.size ≤ s_.2.2) ∧ (gb149 ≠ s_.2.2) ∧ (s_.2.2 ≠ gb149) ∧ (Below w.heap.size w w')) ?_ ?_
                    rotate_left
                    ·intro hJ12_13_14
                     refine join_ (σ := Unit) 7 #[yy, yy, yy, yy, yy, yy, yy, yy, yy, yy, yy, nn, nn, nn, nn, nn, nn, nn] (fun s_ => [(30, .agg #[.int .u64 t150, .int .u64 t151]), (34, .agg #[.int .u64 t152, .int .u64 t153])]) (fun s_ w' => (w'.cell? ⟨gb149, 0, none⟩ = some (.int .u64 a2_0) ∧ w'.cell? ⟨gb149, 1, none⟩ = some (.int .u64 a2_1) ∧ w'.cell? ⟨gb149, 2, none⟩ = some (.int .u64 a2_2) ∧ w'.cell? ⟨gb149, 3, none⟩ = some (.int .u64 a2_3) ∧ w'.cell? ⟨gb149, 4, none⟩ = some (.int .u64 a2_4) ∧ w'.cell? ⟨gb149, 5, none⟩ = some (.int .u64 a2_5)) ∧ (w'.heap[gb149]? = some (.cells #[.int .u64 a2_0, .int .u64 a2_1, .int .u64 a2_2, .int .u64 a2_3, .int .u64 a2_4, .int .u64 a2_5] 26 (0, 0))) ∧ (Below w.heap.size w w')) ?_ ?_
                     rotate_left
                     ·intro hJ3_7
                      refine join_ (σ := Nat) 7 #[yy, yy, yy, yy, yy, yy, yy, nn, yy, yy, yy, nn, yy, nn, nn, nn, nn, nn] (fun s_ => [(30, .agg #[.int .u64 t150, .int .u64 t151]), (9, .pointer (some ⟨s_, 0, none⟩))]) (fun s_ w' => (w'.cell? ⟨gb149, 0, none⟩ = some (.int .u64 a2_0) ∧ w'.cell? ⟨gb149, 1, none⟩ = some (.int .u64 a2_1) ∧ w'.cell? ⟨gb149, 2, none⟩ = some (.int .u64 a2_2) ∧ w'.cell? ⟨gb149, 3, none⟩ = some (.int .u64 a2_3) ∧ w'.cell? ⟨gb149, 4, none⟩ = some (.int .u64 a2_4) ∧ w'.cell? ⟨gb149, 5, none⟩ = some (.int .u64 a2_5)) ∧ (w'.heap[gb149]? = some (.cells #[.int .u64 a2_0, .int .u64 a2_1, .int .u64 a2_2, .int .u64 a2_3, .int .u64 a2_4, .int .u64 a2_5] 26 (0, 0))) ∧ (w'.heap[s_]? = some (.cells #[.int .u64 0, .int .u64 0] 24 (0, 0))) ∧ (w.heap.size ≤ s_) ∧ (w.heap.size ≤ s_) ∧ (gb149 ≠ s_) ∧ (s_ ≠ gb149) ∧ (Below w.heap.size w w')) ?_ ?_
                      rotate_left
                      ·intro hJ3_12
                       refine join_ (σ := Nat) 7 #[yy, yy, yy, yy, yy, yy, yy, nn, yy, yy, yy, nn, nn, yy, nn, nn, nn, nn] (fun s_ => [(30, .agg #[.int .u64 t150, .int .u64 t151]), (10, .pointer (some ⟨s_, 0, none⟩))]) (fun s_ w' => (w'.cell? ⟨gb149, 0, none⟩ = some (.int .u64 a2_0) ∧ w'.cell? ⟨gb149, 1, none⟩ = some (.int .u64 a2_1) ∧ w'.cell? ⟨gb149, 2, none⟩ = some (.int .u64 a2_2) ∧ w'.cell? ⟨gb149, 3, none⟩ = some (.int .u64 a2_3) ∧ w'.cell? ⟨gb149, 4, none⟩ = some (.int .u64 a2_4) ∧ w'.cell? ⟨gb149, 5, none⟩ = some (.int .u64 a2_5)) ∧ (w'.heap[gb149]? = some (.cells #[.int .u64 a2_0, .int .u64 a2_1, .int .u64 a2_2, .int .u64 a2_3, .int .u64 a2_4, .int .u64 a2_5] 26 (0, 0))) ∧ (w'.heap[s_]? = some (.cells #[.int .u64 0, .int .u64 0] 24 (0, 0))) ∧ (w.heap.size ≤ s_) ∧ (w.heap.size ≤ s_) ∧ (gb149 ≠ s_) ∧ (s_ ≠ gb149) ∧ (Below w.heap.size w w')) ?_ ?_
                       rotate_left
                       ·intro hJ3_13
                        refine join_ (σ := Nat) 7 #[yy, yy, yy, yy, yy, yy, yy, nn, yy, yy, yy, nn, nn, nn, yy, nn, nn, nn] (fun s_ => [(30, .agg #[.int .u64 t150, .int .u64 t151]), (11, .pointer (some ⟨s_, 0, none⟩))]) (fun s_ w' => (w'.cell? ⟨gb149, 0, none⟩ = some (.int .u64 a2_0) ∧ w'.cell? ⟨gb149, 1, none⟩ = some (.int .u64 a2_1) ∧ w'.cell? ⟨gb149, 2, none⟩ = some (.int .u64 a2_2) ∧ w'.cell? ⟨gb149, 3, none⟩ = some (.int .u64 a2_3) ∧ w'.cell? ⟨gb149, 4, none⟩ = some (.int .u64 a2_4) ∧ w'.cell? ⟨gb149, 5, none⟩ = some (.int .u64 a2_5)) ∧ (w'.heap[gb149]? = some (.cells #[.int .u64 a2_0, .int .u64 a2_1, .int .u64 a2_2, .int .u64 a2_3, .int .u64 a2_4, .int .u64 a2_5] 26 (0, 0))) ∧ (w'.heap[s_]? = some (.cells #[.int .u64 0, .int .u64 0] 24 (0, 0))) ∧ (w.heap.size ≤ s_) ∧ (w.heap.size ≤ s_) ∧ (gb149 ≠ s_) ∧ (s_ ≠ gb149) ∧ (Below w.heap.size w w')) ?_ ?_
                        rotate_left
                        ·intro hJ3_14
                         refine join_ (σ := Nat × Nat) 7 #[yy, yy, yy, nn, yy, yy, yy, nn, yy, yy, yy, nn, yy, yy, nn, nn, nn, nn] (fun s_ => [(9, .pointer (some ⟨s_.1, 0, none⟩)), (10, .pointer (some ⟨s_.2, 0, none⟩))]) (fun s_ w' => (w'.cell? ⟨gb149, 0, none⟩ = some (.int .u64 a2_0) ∧ w'.cell? ⟨gb149, 1, none⟩ = some (.int .u64 a2_1) ∧ w'.cell? ⟨gb149, 2, none⟩ = some (.int .u64 a2_2) ∧ w'.cell? ⟨gb149, 3, none⟩ = some (.int .u64 a2_3) ∧ w'.cell? ⟨gb149, 4, none⟩ = some (.int .u64 a2_4) ∧ w'.cell? ⟨gb149, 5, none⟩ = some (.int .u64 a2_5)) ∧ (w'.heap[gb149]? = some (.cells #[.int .u64 a2_0, .int .u64 a2_1, .int .u64 a2_2, .int .u64 a2_3, .int .u64 a2_4, .int .u64 a2_5] 26 (0, 0))) ∧ (w'.heap[s_.1]? = some (.cells #[.int .u64 0, .int .u64 0] 24 (0, 0))) ∧ (w'.heap[s_.2]? = some (.cells #[.int .u64 0, .int .u64 0] 24 (0, 0))) ∧ (w.heap.size ≤ s_.1) ∧ (w.heap.size ≤ s_.1) ∧ (gb149 ≠ s_.1) ∧ (s_.1 ≠ gb149) ∧ (s_.2 ≠ s_.1) ∧ (s_.1 ≠ s_.2) ∧ (w.heap.size ≤ s_.2) ∧ (w.heap.size ≤ s_.2) ∧ (gb149 ≠ s_.2) ∧ (s_.2 ≠ gb149) ∧ (Below w.heap.size w w')) ?_ ?_
                         rotate_left
                         ·intro hJ12_13
                          refine join_ (σ := Nat × Nat) 7 #[yy, yy, yy, nn, yy, yy, yy, nn, yy, yy, yy, nn, yy, nn, yy, nn, nn, nn] (fun s_ => [(9, .pointer (some ⟨s_.1, 0, none⟩)), (11, .pointer (some ⟨s_.2, 0, none⟩))]) (fun s_ w' => (w'.cell? ⟨gb149, 0, none⟩ = some (.int .u64 a2_0) ∧ w'.cell? ⟨gb149, 1, none⟩ = some (.int .u64 a2_1) ∧ w'.cell? ⟨gb149, 2, none⟩ = some (.int .u64 a2_2) ∧ w'.cell? ⟨gb149, 3, none⟩ = some (.int .u64 a2_3) ∧ w'.cell? ⟨gb149, 4, none⟩ = some (.int .u64 a2_4) ∧ w'.cell? ⟨gb149, 5, none⟩ = some (.int .u64 a2_5)) ∧ (w'.heap[gb149]? = some (.cells #[.int .u64 a2_0, .int .u64 a2_1, .int .u64 a2_2, .int .u64 a2_3, .int .u64 a2_4, .int .u64 a2_5] 26 (0, 0))) ∧ (w'.heap[s_.1]? = some (.cells #[.int .u64 0, .int .u64 0] 24 (0, 0))) ∧ (w'.heap[s_.2]? = some (.cells #[.int .u64 0, .int .u64 0] 24 (0, 0))) ∧ (w.heap.size ≤ s_.1) ∧ (w.heap.size ≤ s_.1) ∧ (gb149 ≠ s_.1) ∧ (s_.1 ≠ gb149) ∧ (s_.2 ≠ s_.1) ∧ (s_.1 ≠ s_.2) ∧ (w.heap.size ≤ s_.2) ∧ (w.heap.size ≤ s_.2) ∧ (gb149 ≠ s_.2) ∧ (s_.2 ≠ gb149) ∧ (Below w.heap.size w w')) ?_ ?_
                          rotate_left
                          ·intro hJ12_14
                           refine join_ (σ := Nat × Nat) 7 #[yy, yy, yy, nn, yy, yy, yy, nn, yy, yy, yy, nn, nn, yy, yy, nn, nn, nn] (fun s_ => [(10, .pointer (some ⟨s_.1, 0, none⟩)), (11, .pointer (some ⟨s_.2, 0, none⟩))]) (fun s_ w' => (w'.cell? ⟨gb149, 0, none⟩ = some (.int .u64 a2_0) ∧ w'.cell? ⟨gb149, 1, none⟩ = some (.int .u64 a2_1) ∧ w'.cell? ⟨gb149, 2, none⟩ = some (.int .u64 a2_2) ∧ w'.cell? ⟨gb149, 3, none⟩ = some (.int .u64 a2_3) ∧ w'.cell? ⟨gb149, 4, none⟩ = some (.int .u64 a2_4) ∧ w'.cell? ⟨gb149, 5, none⟩ = some (.int .u64 a2_5)) ∧ (w'.heap[gb149]? = some (.cells #[.int .u64 a2_0, .int .u64 a2_1, .int .u64 a2_2, .int .u64 a2_3, .int .u64 a2_4, .int .u64 a2_5] 26 (0, 0))) ∧ (w'.heap[s_.1]? = some (.cells #[.int .u64 0, .int .u64 0] 24 (0, 0))) ∧ (w'.heap[s_.2]? = some (.cells #[.int .u64 0, .int .u64 0] 24 (0, 0))) ∧ (w.heap.size ≤ s_.1) ∧ (w.heap.size ≤ s_.1) ∧ (gb149 ≠ s_.1) ∧ (s_.1 ≠ gb149) ∧ (s_.2 ≠ s_.1) ∧ (s_.1 ≠ s_.2) ∧ (w.heap.size ≤ s_.2) ∧ (w.heap.size ≤ s_.2) ∧ (gb149 ≠ s_.2) ∧ (s_.2 ≠ gb149) ∧ (Below w.heap.size w w')) ?_ ?_
                           rotate_left
                           ·intro hJ13_14
                            refine join_ (σ := Unit) 8 #[yy, yy, yy, yy, yy, yy, yy, nn, yy, yy, yy, nn, nn, nn, nn, nn, nn, nn] (fun s_ => [(30, .agg #[.int .u64 t150, .int .u64 t151])]) (fun s_ w' => (w'.cell? ⟨gb149, 0, none⟩ = some (.int .u64 a2_0) ∧ w'.cell? ⟨gb149, 1, none⟩ = some (.int .u64 a2_1) ∧ w'.cell? ⟨gb149, 2, none⟩ = some (.int .u64 a2_2) ∧ w'.cell? ⟨gb149, 3, none⟩ = some (.int .u64 a2_3) ∧ w'.cell? ⟨gb149, 4, none⟩ = some (.int .u64 a2_4) ∧ w'.cell? ⟨gb149, 5, none⟩ = some (.int .u64 a2_5)) ∧ (w'.heap[gb149]? = some (.cells #[.int .u64 a2_0, .int .u64 a2_1, .int .u64 a2_2, .int .u64 a2_3, .int .u64 a2_4, .int .u64 a2_5] 26 (0, 0))) ∧ (Below w.heap.size w w')) ?_ ?_
                            rotate_left
                            ·intro hJ3
                             refine join_ (σ := Nat) 8 #[yy, yy, yy, nn, yy, yy, yy, nn, yy, yy, yy, nn, yy, nn, nn, nn, nn, nn] (fun s_ => [(9, .pointer (some ⟨s_, 0, none⟩))]) (fun s_ w' => (w'.cell? ⟨gb149, 0, none⟩ = some (.int .u64 a2_0) ∧ w'.cell? ⟨gb149, 1, none⟩ = some (.int .u64 a2_1) ∧ w'.cell? ⟨gb149, 2, none⟩ = some (.int .u64 a2_2) ∧ w'.cell? ⟨gb149, 3, none⟩ = some (.int .u64 a2_3) ∧ w'.cell? ⟨gb149, 4, none⟩ = some (.int .u64 a2_4) ∧ w'.cell? ⟨gb149, 5, none⟩ = some (.int .u64 a2_5)) ∧ (w'.heap[gb149]? = some (.cells #[.int .u64 a2_0, .int .u64 a2_1, .int .u64 a2_2, .int .u64 a2_3, .int .u64 a2_4, .int .u64 a2_5] 26 (0, 0))) ∧ (w'.heap[s_]? = some (.cells #[.int .u64 0, .int .u64 0] 24 (0, 0))) ∧ (w.heap.size ≤ s_) ∧ (w.heap.size ≤ s_) ∧ (gb149 ≠ s_) ∧ (s_ ≠ gb149) ∧ (Below w.heap.size w w')) ?_ ?_
                             rotate_left
                             ·intro hJ12
                              refine join_ (σ := Nat) 8 #[yy, yy, yy, nn, yy, yy, yy, nn, yy, yy, yy, nn, nn, yy, nn, nn, nn, nn] (fun s_ => [(10, .pointer (some ⟨s_, 0, none⟩))]) (fun s_ w' => (w'.cell? ⟨gb149, 0, none⟩ = some (.int .u64 a2_0) ∧ w'.cell? ⟨gb149, 1, none⟩ = some (.int .u64 a2_1) ∧ w'.cell? ⟨gb149, 2, none⟩ = some (.int .u64 a2_2) ∧ w'.cell? ⟨gb149, 3, none⟩ = some (.int .u64 a2_3) ∧ w'.cell? ⟨gb149, 4, none⟩ = some (.int .u64 a2_4) ∧ w'.cell? ⟨gb149, 5, none⟩ = some (.int .u64 a2_5)) ∧ (w'.heap[gb149]? = some (.cells #[.int .u64 a2_0, .int .u64 a2_1, .int .u64 a2_2, .int .u64 a2_3, .int .u64 a2_4, .int .u64 a2_5] 26 (0, 0))) ∧ (w'.heap[s_]? = some (.cells #[.int .u64 0, .int .u64 0] 24 (0, 0))) ∧ (w.heap.size ≤ s_) ∧ (w.heap.size ≤ s_) ∧ (gb149 ≠ s_) ∧ (s_ ≠ gb149) ∧ (Below w.heap.size w w')) ?_ ?_
                              rotate_left
                              ·intro hJ13
                               refine join_ (σ := Nat) 8 #[yy, yy, yy, nn, yy, yy, yy, nn, yy, yy, yy, nn, nn, nn, yy, nn, nn, nn] (fun s_ => [(11, .pointer (some ⟨s_, 0, none⟩))]) (fun s_ w' => (w'.cell? ⟨gb149, 0, none⟩ = some (.int .u64 a2_0) ∧ w'.cell? ⟨gb149, 1, none⟩ = some (.int .u64 a2_1) ∧ w'.cell? ⟨gb149, 2, none⟩ = some (.int .u64 a2_2) ∧ w'.cell? ⟨gb149, 3, none⟩ = some (.int .u64 a2_3) ∧ w'.cell? ⟨gb149, 4, none⟩ = some (.int .u64 a2_4) ∧ w'.cell? ⟨gb149, 5, none⟩ = some (.int .u64 a2_5)) ∧ (w'.heap[gb149]? = some (.cells #[.int .u64 a2_0, .int .u64 a2_1, .int .u64 a2_2, .int .u64 a2_3, .int .u64 a2_4, .int .u64 a2_5] 26 (0, 0))) ∧ (w'.heap[s_]? = some (.cells #[.int .u64 0, .int .u64 0] 24 (0, 0))) ∧ (w.heap.size ≤ s_) ∧ (w.heap.size ≤ s_) ∧ (gb149 ≠ s_) ∧ (s_ ≠ gb149) ∧ (Below w.heap.size w w')) ?_ ?_
                               rotate_left
                               ·intro hJ14
                                refine four_ (i := 3) (j := 12) (k := 13) (m := 14) (Ni := some 30) (Nj := some 9) (Nk := some 10) (Nm := some 11) #[yy, yy, yy, yy, yy, yy, yy, nn, yy, yy, yy, nn, nn, nn, nn, nn, nn, nn] #[yy, yy, yy, nn, yy, yy, yy, nn, yy, yy, yy, nn, yy, nn, nn, nn, nn, nn] #[yy, yy, yy, nn, yy, yy, yy, nn, yy, yy, yy, nn, nn, yy, nn, nn, nn, nn] #[yy, yy, yy, nn, yy, yy, yy, nn, yy, yy, yy, nn, nn, nn, yy, nn, nn, nn] rfl rfl rfl rfl rfl rfl rfl rfl (four_of HT_.out (by kernel_rfl)) (by decide) (by decide) (by decide) (by decide) (fun K hK => ?_) (fun K hK => ?_) (fun K hK => ?_) (fun K hK => ?_)
                                ·skip
                                 refine goes_ Try.func10 (by kernel_rfl) rfl #[.int .i64 (lv8 a0), .agg #[.int .u64 a2_0, .int .u64 a2_1]] (by rfl) rfl rfl (by (try simp only [mA, mC, mN]); first | done | rfl | (simp only [List.length_drop, List.length_take]; rfl)) ?_
                                 with_reducible refine (steeplelaw33_of.calls (lv8 a0) a2_0 a2_1 t150 t151 _ A5.out).mono ?_
                                 rintro e w25 ⟨rfl, hb⟩
                                 refine ⟨_, rfl, ?_⟩
                                 replace BK149 := bb BK149 hb
                                 replace HB := bh HB hb
                                 (try clear hb)
                                 refine hK.out _ _ (zc6 BK149) (fun hHeld => ?_)
                                 clear hK K
                                 refine norm_ (a' := ?_) ?_ ?_
                                 rotate_left
                                 ·show Act.put _ (some 30) _ = _
                                  simp only [Act.put, sA, s0, sS, i64_w, i32_w]
                                  rfl
                                 exact norm_ (by simp only [putAll, Act.put, sA, s0, sS] <;> rfl) (hJ3 () _ ⟨hHeld, (bk BK149.out), (bq HB.out)⟩)
                                ·skip
                                 refine box_step ?hg (N := 9) ?hd (cs := #[.int .u64 0, .int .u64 0]) (t := 24) ?hr ?_; (case hd => rfl); (case hg => rfl); (case hr => go_simp <;> rfl)
                                 intro gb156 hg w25 hbox hb
                                 have BK156 := Aside0.mk hbox
                                 have GW156 := ge hg HB
                                 have GE156 := ge hg HB
                                 have NB149_156 := nl hg BK149
                                 have NB156_149 := ng hg BK149
                                 replace BK149 := bb BK149 hb
                                 replace HB := bh HB hb
                                 clear hb hbox hg
                                 refine hK.out _ _ (zc6 BK149) (fun hHeld => ?_)
                                 clear hK K
                                 refine norm_ (a' := ?_) ?_ ?_
                                 rotate_left
                                 ·show Act.put _ (some 9) _ = _
                                  simp only [Act.put, sA, s0, sS, i64_w, i32_w]
                                  rfl
                                 exact norm_ (by simp only [putAll, Act.put, sA, s0, sS] <;> rfl) (hJ12 (gb156) _ ⟨hHeld, (bk BK149.out), (bk BK156.out), GW156.out, GE156.out, NB149_156.out, NB156_149.out, (bq HB.out)⟩)
                                ·skip
                                 refine box_step ?hg (N := 10) ?hd (cs := #[.int .u64 0, .int .u64 0]) (t := 24) ?hr ?_; (case hd => rfl); (case hg => rfl); (case hr => go_simp <;> rfl)
                                 intro gb157 hg w25 hbox hb
                                 have BK157 := Aside0.mk hbox
                                 have GW157 := ge hg HB
                                 have GE157 := ge hg HB
                                 have NB149_157 := nl hg BK149
                                 have NB157_149 := ng hg BK149
                                 replace BK149 := bb BK149 hb
                                 replace HB := bh HB hb
                                 clear hb hbox hg
                                 refine hK.out _ _ (zc6 BK149) (fun hHeld => ?_)
                                 clear hK K
                                 refine norm_ (a' := ?_) ?_ ?_
                                 rotate_left
                                 ·show Act.put _ (some 10) _ = _
                                  simp only [Act.put, sA, s0, sS, i64_w, i32_w]
                                  rfl
                                 exact norm_ (by simp only [putAll, Act.put, sA, s0, sS] <;> rfl) (hJ13 (gb157) _ ⟨hHeld, (bk BK149.out), (bk BK157.out), GW157.out, GE157.out, NB149_157.out, NB157_149.out, (bq HB.out)⟩)
                                skip
                                refine box_step ?hg (N := 11) ?hd (cs := #[.int .u64 0, .int .u64 0]) (t := 24) ?hr ?_; (case hd => rfl); (case hg => rfl); (case hr => go_simp <;> rfl)
                                intro gb158 hg w25 hbox hb
                                have BK158 := Aside0.mk hbox
                                have GW158 := ge hg HB
                                have GE158 := ge hg HB
                                have NB149_158 := nl hg BK149
                                have NB158_149 := ng hg BK149
                                replace BK149 := bb BK149 hb
                                replace HB := bh HB hb
                                clear hb hbox hg
                                refine hK.out _ _ (zc6 BK149) (fun hHeld => ?_)
                                clear hK K
                                refine norm_ (a' := ?_) ?_ ?_
                                rotate_left
                                ·show Act.put _ (some 11) _ = _
                                 simp only [Act.put, sA, s0, sS, i64_w, i32_w]
                                 rfl
                                exact norm_ (by simp only [putAll, Act.put, sA, s0, sS] <;> rfl) (hJ14 (gb158) _ ⟨hHeld, (bk BK149.out), (bk BK158.out), GW158.out, GE158.out, NB149_158.out, NB158_149.out, (bq HB.out)⟩)
                               skip
                               rintro gb158 w26 ⟨hS_, h0_, h1_, h2_, h3_, h4_, h5_, h6_⟩
                               have n0_ : Aside0 (w26.heap[gb149]? = some (.cells #[.int .u64 a2_0, .int .u64 a2_1, .int .u64 a2_2, .int .u64 a2_3, .int .u64 a2_4, .int .u64 a2_5] 26 (0, 0))) := ⟨h0_⟩
                               have n1_ : Aside0 (w26.heap[gb158]? = some (.cells #[.int .u64 0, .int .u64 0] 24 (0, 0))) := ⟨h1_⟩
                               have n2_ : Aside0 (w.heap.size ≤ gb158) := ⟨h2_⟩
                               have n3_ : Aside0 (w.heap.size ≤ gb158) := ⟨h3_⟩
                               have n4_ : Aside0 (gb149 ≠ gb158) := ⟨h4_⟩
                               have n5_ : Aside0 (gb158 ≠ gb149) := ⟨h5_⟩
                               have n6_ : Aside0 (Below w.heap.size w w26) := ⟨h6_⟩
                               clear BK149
                               clear HB
                               clear h0_ h1_ h2_ h3_ h4_ h5_ h6_
                               have BK149 := n0_
                               have BK158 := n1_
                               have GW158 := Aside1.mk n2_.out
                               have GE158 := Aside1.mk n3_.out
                               have NB149_158 := n4_
                               have NB158_149 := n5_
                               have HB := n6_
                               clear n0_ n1_ n2_ n3_ n4_ n5_ n6_
                               have hHeld : w26.cell? ⟨gb149, 0, none⟩ = some (.int .u64 a2_0) ∧ w26.cell? ⟨gb149, 1, none⟩ = some (.int .u64 a2_1) ∧ w26.cell? ⟨gb149, 2, none⟩ = some (.int .u64 a2_2) ∧ w26.cell? ⟨gb149, 3, none⟩ = some (.int .u64 a2_3) ∧ w26.cell? ⟨gb149, 4, none⟩ = some (.int .u64 a2_4) ∧ w26.cell? ⟨gb149, 5, none⟩ = some (.int .u64 a2_5) := hS_
                               refine norm_ (a' := ?_) ?_ ?_
                               rotate_left
                               ·simp only [putAll, Act.put, sA, s0, sS]
                                rfl
                               refine three_ (i := 3) (j := 12) (k := 13) (Ni := some 30) (Nj := some 9) (Nk := some 10) #[yy, yy, yy, yy, yy, yy, yy, nn, yy, yy, yy, nn, nn, nn, yy, nn, nn, nn] #[yy, yy, yy, nn, yy, yy, yy, nn, yy, yy, yy, nn, yy, nn, yy, nn, nn, nn] #[yy, yy, yy, nn, yy, yy, yy, nn, yy, yy, yy, nn, nn, yy, yy, nn, nn, nn] rfl rfl rfl rfl rfl rfl (three_of HT_.out (by kernel_rfl)) (by decide) (by decide) (by decide) (fun K hK => ?_) (fun K hK => ?_) (fun K hK => ?_)
                               ·skip
                                refine goes_ Try.func10 (by kernel_rfl) rfl #[.int .i64 (lv8 a0), .agg #[.int .u64 a2_0, .int .u64 a2_1]] (by rfl) rfl rfl (by (try simp only [mA, mC, mN]); first | done | rfl | (simp only [List.length_drop, List.length_take]; rfl)) ?_
                                with_reducible refine (steeplelaw33_of.calls (lv8 a0) a2_0 a2_1 t150 t151 _ A5.out).mono ?_
                                rintro e w27 ⟨rfl, hb⟩
                                refine ⟨_, rfl, ?_⟩
                                replace BK149 := bb BK149 hb
                                replace BK158 := bb BK158 hb
                                replace HB := bh HB hb
                                (try clear hb)
                                refine hK.out _ _ (zc6 BK149) (fun hHeld => ?_)
                                clear hK K
                                refine norm_ (a' := ?_) ?_ ?_
                                rotate_left
                                ·show Act.put _ (some 30) _ = _
                                 simp only [Act.put, sA, s0, sS, i64_w, i32_w]
                                 rfl
                                exact norm_ (by simp only [putAll, Act.put, sA, s0, sS] <;> rfl) (hJ3_14 (gb158) _ ⟨hHeld, (bk BK149.out), (bk BK158.out), GW158.out, GE158.out, NB149_158.out, NB158_149.out, (bq HB.out)⟩)
                               ·skip
                                refine box_step ?hg (N := 9) ?hd (cs := #[.int .u64 0, .int .u64 0]) (t := 24) ?hr ?_; (case hd => rfl); (case hg => rfl); (case hr => go_simp <;> rfl)
                                intro gb156 hg w27 hbox hb
                                have BK156 := Aside0.mk hbox
                                have GW156 := ge hg HB
                                have GE156 := ge hg HB
                                have NB149_156 := nl hg BK149
                                have NB156_149 := ng hg BK149
                                have NB158_156 := nl hg BK158
                                have NB156_158 := ng hg BK158
                                replace BK149 := bb BK149 hb
                                replace BK158 := bb BK158 hb
                                replace HB := bh HB hb
                                clear hb hbox hg
                                refine hK.out _ _ (zc6 BK149) (fun hHeld => ?_)
                                clear hK K
                                refine norm_ (a' := ?_) ?_ ?_
                                rotate_left
                                ·show Act.put _ (some 9) _ = _
                                 simp only [Act.put, sA, s0, sS, i64_w, i32_w]
                                 rfl
                                exact norm_ (by simp only [putAll, Act.put, sA, s0, sS] <;> rfl) (hJ12_14 (gb156, gb158) _ ⟨hHeld, (bk BK149.out), (bk BK156.out), (bk BK158.out), GW156.out, GE156.out, NB149_156.out, NB156_149.out, NB158_156.out, NB156_158.out, GW158.out, GE158.out, NB149_158.out, NB158_149.out, (bq HB.out)⟩)
                               skip
                               refine box_step ?hg (N := 10) ?hd (cs := #[.int .u64 0, .int .u64 0]) (t := 24) ?hr ?_; (case hd => rfl); (case hg => rfl); (case hr => go_simp <;> rfl)
                               intro gb157 hg w27 hbox hb
                               have BK157 := Aside0.mk hbox
                               have GW157 := ge hg HB
                               have GE157 := ge hg HB
                               have NB149_157 := nl hg BK149
                               have NB157_149 := ng hg BK149
                               have NB158_157 := nl hg BK158
                               have NB157_158 := ng hg BK158
                               replace BK149 := bb BK149 hb
                               replace BK158 := bb BK158 hb
                               replace HB := bh HB hb
                               clear hb hbox hg
                               refine hK.out _ _ (zc6 BK149) (fun hHeld => ?_)
                               clear hK K
                               refine norm_ (a' := ?_) ?_ ?_
                               rotate_left
                               ·show Act.put _ (some 10) _ = _
                                simp only [Act.put, sA, s0, sS, i64_w, i32_w]
                                rfl
                               exact norm_ (by simp only [putAll, Act.put, sA, s0, sS] <;> rfl) (hJ13_14 (gb157, gb158) _ ⟨hHeld, (bk BK149.out), (bk BK157.out), (bk BK158.out), GW157.out, GE157.out, NB149_157.out, NB157_149.out, NB158_157.out, NB157_158.out, GW158.out, GE158.out, NB149_158.out, NB158_149.out, (bq HB.out)⟩)
                              skip
                              rintro gb157 w26 ⟨hS_, h0_, h1_, h2_, h3_, h4_, h5_, h6_⟩
                              have n0_ : Aside0 (w26.heap[gb149]? = some (.cells #[.int .u64 a2_0, .int .u64 a2_1, .int .u64 a2_2, .int .u64 a2_3, .int .u64 a2_4, .int .u64 a2_5] 26 (0, 0))) := ⟨h0_⟩
                              have n1_ : Aside0 (w26.heap[gb157]? = some (.cells #[.int .u64 0, .int .u64 0] 24 (0, 0))) := ⟨h1_⟩
                              have n2_ : Aside0 (w.heap.size ≤ gb157) := ⟨h2_⟩
                              have n3_ : Aside0 (w.heap.size ≤ gb157) := ⟨h3_⟩
                              have n4_ : Aside0 (gb149 ≠ gb157) := ⟨h4_⟩
                              have n5_ : Aside0 (gb157 ≠ gb149) := ⟨h5_⟩
                              have n6_ : Aside0 (Below w.heap.size w w26) := ⟨h6_⟩
                              clear BK149
                              clear HB
                              clear h0_ h1_ h2_ h3_ h4_ h5_ h6_
                              have BK149 := n0_
                              have BK157 := n1_
                              have GW157 := Aside1.mk n2_.out
                              have GE157 := Aside1.mk n3_.out
                              have NB149_157 := n4_
                              have NB157_149 := n5_
                              have HB := n6_
                              clear n0_ n1_ n2_ n3_ n4_ n5_ n6_
                              have hHeld : w26.cell? ⟨gb149, 0, none⟩ = some (.int .u64 a2_0) ∧ w26.cell? ⟨gb149, 1, none⟩ = some (.int .u64 a2_1) ∧ w26.cell? ⟨gb149, 2, none⟩ = some (.int .u64 a2_2) ∧ w26.cell? ⟨gb149, 3, none⟩ = some (.int .u64 a2_3) ∧ w26.cell? ⟨gb149, 4, none⟩ = some (.int .u64 a2_4) ∧ w26.cell? ⟨gb149, 5, none⟩ = some (.int .u64 a2_5) := hS_
                              refine norm_ (a' := ?_) ?_ ?_
                              rotate_left
                              ·simp only [putAll, Act.put, sA, s0, sS]
                               rfl
                              refine three_ (i := 3) (j := 12) (k := 14) (Ni := some 30) (Nj := some 9) (Nk := some 11) #[yy, yy, yy, yy, yy, yy, yy, nn, yy, yy, yy, nn, nn, yy, nn, nn, nn, nn] #[yy, yy, yy, nn, yy, yy, yy, nn, yy, yy, yy, nn, yy, yy, nn, nn, nn, nn] #[yy, yy, yy, nn, yy, yy, yy, nn, yy, yy, yy, nn, nn, yy, yy, nn, nn, nn] rfl rfl rfl rfl rfl rfl (three_of HT_.out (by kernel_rfl)) (by decide) (by decide) (by decide) (fun K hK => ?_) (fun K hK => ?_) (fun K hK => ?_)
                              ·skip
                               refine goes_ Try.func10 (by kernel_rfl) rfl #[.int .i64 (lv8 a0), .agg #[.int .u64 a2_0, .int .u64 a2_1]] (by rfl) rfl rfl (by (try simp only [mA, mC, mN]); first | done | rfl | (simp only [List.length_drop, List.length_take]; rfl)) ?_
                               with_reducible refine (steeplelaw33_of.calls (lv8 a0) a2_0 a2_1 t150 t151 _ A5.out).mono ?_
                               rintro e w27 ⟨rfl, hb⟩
                               refine ⟨_, rfl, ?_⟩
                               replace BK149 := bb BK149 hb
                               replace BK157 := bb BK157 hb
                               replace HB := bh HB hb
                               (try clear hb)
                               refine hK.out _ _ (zc6 BK149) (fun hHeld => ?_)
                               clear hK K
                               refine norm_ (a' := ?_) ?_ ?_
                               rotate_left
                               ·show Act.put _ (some 30) _ = _
                                simp only [Act.put, sA, s0, sS, i64_w, i32_w]
                                rfl
                               exact norm_ (by simp only [putAll, Act.put, sA, s0, sS] <;> rfl) (hJ3_13 (gb157) _ ⟨hHeld, (bk BK149.out), (bk BK157.out), GW157.out, GE157.out, NB149_157.out, NB157_149.out, (bq HB.out)⟩)
                              ·skip
                               refine box_step ?hg (N := 9) ?hd (cs := #[.int .u64 0, .int .u64 0]) (t := 24) ?hr ?_; (case hd => rfl); (case hg => rfl); (case hr => go_simp <;> rfl)
                               intro gb156 hg w27 hbox hb
                               have BK156 := Aside0.mk hbox
                               have GW156 := ge hg HB
                               have GE156 := ge hg HB
                               have NB149_156 := nl hg BK149
                               have NB156_149 := ng hg BK149
                               have NB157_156 := nl hg BK157
                               have NB156_157 := ng hg BK157
                               replace BK149 := bb BK149 hb
                               replace BK157 := bb BK157 hb
                               replace HB := bh HB hb
                               clear hb hbox hg
                               refine hK.out _ _ (zc6 BK149) (fun hHeld => ?_)
                               clear hK K
                               refine norm_ (a' := ?_) ?_ ?_
                               rotate_left
                               ·show Act.put _ (some 9) _ = _
                                simp only [Act.put, sA, s0, sS, i64_w, i32_w]
                                rfl
                               exact norm_ (by simp only [putAll, Act.put, sA, s0, sS] <;> rfl) (hJ12_13 (gb156, gb157) _ ⟨hHeld, (bk BK149.out), (bk BK156.out), (bk BK157.out), GW156.out, GE156.out, NB149_156.out, NB156_149.out, NB157_156.out, NB156_157.out, GW157.out, GE157.out, NB149_157.out, NB157_149.out, (bq HB.out)⟩)
                              skip
                              refine box_step ?hg (N := 11) ?hd (cs := #[.int .u64 0, .int .u64 0]) (t := 24) ?hr ?_; (case hd => rfl); (case hg => rfl); (case hr => go_simp <;> rfl)
                              intro gb158 hg w27 hbox hb
                              have BK158 := Aside0.mk hbox
                              have GW158 := ge hg HB
                              have GE158 := ge hg HB
                              have NB149_158 := nl hg BK149
                              have NB158_149 := ng hg BK149
                              have NB157_158 := nl hg BK157
                              have NB158_157 := ng hg BK157
                              replace BK149 := bb BK149 hb
                              replace BK157 := bb BK157 hb
                              replace HB := bh HB hb
                              clear hb hbox hg
                              refine hK.out _ _ (zc6 BK149) (fun hHeld => ?_)
                              clear hK K
                              refine norm_ (a' := ?_) ?_ ?_
                              rotate_left
                              ·show Act.put _ (some 11) _ = _
                               simp only [Act.put, sA, s0, sS, i64_w, i32_w]
                               rfl
                              exact norm_ (by simp only [putAll, Act.put, sA, s0, sS] <;> rfl) (hJ13_14 (gb157, gb158) _ ⟨hHeld, (bk BK149.out), (bk BK157.out), (bk BK158.out), GW157.out, GE157.out, NB149_157.out, NB157_149.out, NB158_157.out, NB157_158.out, GW158.out, GE158.out, NB149_158.out, NB158_149.out, (bq HB.out)⟩)
                             skip
                             rintro gb156 w26 ⟨hS_, h0_, h1_, h2_, h3_, h4_, h5_, h6_⟩
                             have n0_ : Aside0 (w26.heap[gb149]? = some (.cells #[.int .u64 a2_0, .int .u64 a2_1, .int .u64 a2_2, .int .u64 a2_3, .int .u64 a2_4, .int .u64 a2_5] 26 (0, 0))) := ⟨h0_⟩
                             have n1_ : Aside0 (w26.heap[gb156]? = some (.cells #[.int .u64 0, .int .u64 0] 24 (0, 0))) := ⟨h1_⟩
                             have n2_ : Aside0 (w.heap.size ≤ gb156) := ⟨h2_⟩
                             have n3_ : Aside0 (w.heap.size ≤ gb156) := ⟨h3_⟩
                             have n4_ : Aside0 (gb149 ≠ gb156) := ⟨h4_⟩
                             have n5_ : Aside0 (gb156 ≠ gb149) := ⟨h5_⟩
                             have n6_ : Aside0 (Below w.heap.size w w26) := ⟨h6_⟩
                             clear BK149
                             clear HB
                             clear h0_ h1_ h2_ h3_ h4_ h5_ h6_
                             have BK149 := n0_
                             have BK156 := n1_
                             have GW156 := Aside1.mk n2_.out
                             have GE156 := Aside1.mk n3_.out
                             have NB149_156 := n4_
                             have NB156_149 := n5_
                             have HB := n6_
                             clear n0_ n1_ n2_ n3_ n4_ n5_ n6_
                             have hHeld : w26.cell? ⟨gb149, 0, none⟩ = some (.int .u64 a2_0) ∧ w26.cell? ⟨gb149, 1, none⟩ = some (.int .u64 a2_1) ∧ w26.cell? ⟨gb149, 2, none⟩ = some (.int .u64 a2_2) ∧ w26.cell? ⟨gb149, 3, none⟩ = some (.int .u64 a2_3) ∧ w26.cell? ⟨gb149, 4, none⟩ = some (.int .u64 a2_4) ∧ w26.cell? ⟨gb149, 5, none⟩ = some (.int .u64 a2_5) := hS_
                             refine norm_ (a' := ?_) ?_ ?_
                             rotate_left
                             ·simp only [putAll, Act.put, sA, s0, sS]
                              rfl
                             refine three_ (i := 3) (j := 13) (k := 14) (Ni := some 30) (Nj := some 10) (Nk := some 11) #[yy, yy, yy, yy, yy, yy, yy, nn, yy, yy, yy, nn, yy, nn, nn, nn, nn, nn] #[yy, yy, yy, nn, yy, yy, yy, nn, yy, yy, yy, nn, yy, yy, nn, nn, nn, nn] #[yy, yy, yy, nn, yy, yy, yy, nn, yy, yy, yy, nn, yy, nn, yy, nn, nn, nn] rfl rfl rfl rfl rfl rfl (three_of HT_.out (by kernel_rfl)) (by decide) (by decide) (by decide) (fun K hK => ?_) (fun K hK => ?_) (fun K hK => ?_)
                             ·skip
                              refine goes_ Try.func10 (by kernel_rfl) rfl #[.int .i64 (lv8 a0), .agg #[.int .u64 a2_0, .int .u64 a2_1]] (by rfl) rfl rfl (by (try simp only [mA, mC, mN]); first | done | rfl | (simp only [List.length_drop, List.length_take]; rfl)) ?_
                              with_reducible refine (steeplelaw33_of.calls (lv8 a0) a2_0 a2_1 t150 t151 _ A5.out).mono ?_
                              rintro e w27 ⟨rfl, hb⟩
                              refine ⟨_, rfl, ?_⟩
                              replace BK149 := bb BK149 hb
                              replace BK156 := bb BK156 hb
                              replace HB := bh HB hb
                              (try clear hb)
                              refine hK.out _ _ (zc6 BK149) (fun hHeld => ?_)
                              clear hK K
                              refine norm_ (a' := ?_) ?_ ?_
                              rotate_left
                              ·show Act.put _ (some 30) _ = _
                               simp only [Act.put, sA, s0, sS, i64_w, i32_w]
                               rfl
                              exact norm_ (by simp only [putAll, Act.put, sA, s0, sS] <;> rfl) (hJ3_12 (gb156) _ ⟨hHeld, (bk BK149.out), (bk BK156.out), GW156.out, GE156.out, NB149_156.out, NB156_149.out, (bq HB.out)⟩)
                             ·skip
                              refine box_step ?hg (N := 10) ?hd (cs := #[.int .u64 0, .int .u64 0]) (t := 24) ?hr ?_; (case hd => rfl); (case hg => rfl); (case hr => go_simp <;> rfl)
                              intro gb157 hg w27 hbox hb
                              have BK157 := Aside0.mk hbox
                              have GW157 := ge hg HB
                              have GE157 := ge hg HB
                              have NB149_157 := nl hg BK149
                              have NB157_149 := ng hg BK149
                              have NB156_157 := nl hg BK156
                              have NB157_156 := ng hg BK156
                              replace BK149 := bb BK149 hb
                              replace BK156 := bb BK156 hb
                              replace HB := bh HB hb
                              clear hb hbox hg
                              refine hK.out _ _ (zc6 BK149) (fun hHeld => ?_)
                              clear hK K
                              refine norm_ (a' := ?_) ?_ ?_
                              rotate_left
                              ·show Act.put _ (some 10) _ = _
                               simp only [Act.put, sA, s0, sS, i64_w, i32_w]
                               rfl
                              exact norm_ (by simp only [putAll, Act.put, sA, s0, sS] <;> rfl) (hJ12_13 (gb156, gb157) _ ⟨hHeld, (bk BK149.out), (bk BK156.out), (bk BK157.out), GW156.out, GE156.out, NB149_156.out, NB156_149.out, NB157_156.out, NB156_157.out, GW157.out, GE157.out, NB149_157.out, NB157_149.out, (bq HB.out)⟩)
                             skip
                             refine box_step ?hg (N := 11) ?hd (cs := #[.int .u64 0, .int .u64 0]) (t := 24) ?hr ?_; (case hd => rfl); (case hg => rfl); (case hr => go_simp <;> rfl)
                             intro gb158 hg w27 hbox hb
                             have BK158 := Aside0.mk hbox
                             have GW158 := ge hg HB
                             have GE158 := ge hg HB
                             have NB149_158 := nl hg BK149
                             have NB158_149 := ng hg BK149
                             have NB156_158 := nl hg BK156
                             have NB158_156 := ng hg BK156
                             replace BK149 := bb BK149 hb
                             replace BK156 := bb BK156 hb
                             replace HB := bh HB hb
                             clear hb hbox hg
                             refine hK.out _ _ (zc6 BK149) (fun hHeld => ?_)
                             clear hK K
                             refine norm_ (a' := ?_) ?_ ?_
                             rotate_left
                             ·show Act.put _ (some 11) _ = _
                              simp only [Act.put, sA, s0, sS, i64_w, i32_w]
                              rfl
                             exact norm_ (by simp only [putAll, Act.put, sA, s0, sS] <;> rfl) (hJ12_14 (gb156, gb158) _ ⟨hHeld, (bk BK149.out), (bk BK156.out), (bk BK158.out), GW156.out, GE156.out, NB149_156.out, NB156_149.out, NB158_156.out, NB156_158.out, GW158.out, GE158.out, NB149_158.out, NB158_149.out, (bq HB.out)⟩)
                            skip
                            rintro _ w26 ⟨hS_, h0_, h1_⟩
                            have n0_ : Aside0 (w26.heap[gb149]? = some (.cells #[.int .u64 a2_0, .int .u64 a2_1, .int .u64 a2_2, .int .u64 a2_3, .int .u64 a2_4, .int .u64 a2_5] 26 (0, 0))) := ⟨h0_⟩
                            have n1_ : Aside0 (Below w.heap.size w w26) := ⟨h1_⟩
                            clear BK149
                            clear HB
                            clear h0_ h1_
                            have BK149 := n0_
                            have HB := n1_
                            clear n0_ n1_
                            have hHeld : w26.cell? ⟨gb149, 0, none⟩ = some (.int .u64 a2_0) ∧ w26.cell? ⟨gb149, 1, none⟩ = some (.int .u64 a2_1) ∧ w26.cell? ⟨gb149, 2, none⟩ = some (.int .u64 a2_2) ∧ w26.cell? ⟨gb149, 3, none⟩ = some (.int .u64 a2_3) ∧ w26.cell? ⟨gb149, 4, none⟩ = some (.int .u64 a2_4) ∧ w26.cell? ⟨gb149, 5, none⟩ = some (.int .u64 a2_5) := hS_
                            refine norm_ (a' := ?_) ?_ ?_
                            rotate_left
                            ·simp only [putAll, Act.put, sA, s0, sS]
                             rfl
                            refine four_ (i := 7) (j := 12) (k := 13) (m := 14) (Ni := some 34) (Nj := some 9) (Nk := some 10) (Nm := some 11) #[yy, yy, yy, yy, yy, yy, yy, yy, yy, yy, yy, nn, nn, nn, nn, nn, nn, nn] #[yy, yy, yy, yy, yy, yy, yy, nn, yy, yy, yy, nn, yy, nn, nn, nn, nn, nn] #[yy, yy, yy, yy, yy, yy, yy, nn, yy, yy, yy, nn, nn, yy, nn, nn, nn, nn] #[yy, yy, yy, yy, yy, yy, yy, nn, yy, yy, yy, nn, nn, nn, yy, nn, nn, nn] rfl rfl rfl rfl rfl rfl rfl rfl (four_of HT_.out (by kernel_rfl)) (by decide) (by decide) (by decide) (by decide) (fun K hK => ?_) (fun K hK => ?_) (fun K hK => ?_) (fun K hK => ?_)
                            ·skip
                             refine goes_ Try.func10 (by kernel_rfl) rfl #[.int .i64 (lv8 a0), .agg #[.int .u64 a2_2, .int .u64 a2_3]] (by rfl) rfl rfl (by (try simp only [mA, mC, mN]); first | done | rfl | (simp only [List.length_drop, List.length_take]; rfl)) ?_
                             with_reducible refine (steeplelaw33_of.calls (lv8 a0) a2_2 a2_3 t152 t153 _ A6.out).mono ?_
                             rintro e w27 ⟨rfl, hb⟩
                             refine ⟨_, rfl, ?_⟩
                             replace BK149 := bb BK149 hb
                             replace HB := bh HB hb
                             (try clear hb)
                             refine hK.out _ _ (zc6 BK149) (fun hHeld => ?_)
                             clear hK K
                             refine norm_ (a' := ?_) ?_ ?_
                             rotate_left
                             ·show Act.put _ (some 34) _ = _
                              simp only [Act.put, sA, s0, sS, i64_w, i32_w]
                              rfl
                             exact norm_ (by simp only [putAll, Act.put, sA, s0, sS] <;> rfl) (hJ3_7 () _ ⟨hHeld, (bk BK149.out), (bq HB.out)⟩)
                            ·skip
                             refine box_step ?hg (N := 9) ?hd (cs := #[.int .u64 0, .int .u64 0]) (t := 24) ?hr ?_; (case hd => rfl); (case hg => rfl); (case hr => go_simp <;> rfl)
                             intro gb156 hg w27 hbox hb
                             have BK156 := Aside0.mk hbox
                             have GW156 := ge hg HB
                             have GE156 := ge hg HB
                             have NB149_156 := nl hg BK149
                             have NB156_149 := ng hg BK149
                             replace BK149 := bb BK149 hb
                             replace HB := bh HB hb
                             clear hb hbox hg
                             refine hK.out _ _ (zc6 BK149) (fun hHeld => ?_)
                             clear hK K
                             refine norm_ (a' := ?_) ?_ ?_
                             rotate_left
                             ·show Act.put _ (some 9) _ = _
                              simp only [Act.put, sA, s0, sS, i64_w, i32_w]
                              rfl
                             exact norm_ (by simp only [putAll, Act.put, sA, s0, sS] <;> rfl) (hJ3_12 (gb156) _ ⟨hHeld, (bk BK149.out), (bk BK156.out), GW156.out, GE156.out, NB149_156.out, NB156_149.out, (bq HB.out)⟩)
                            ·skip
                             refine box_step ?hg (N := 10) ?hd (cs := #[.int .u64 0, .int .u64 0]) (t := 24) ?hr ?_; (case hd => rfl); (case hg => rfl); (case hr => go_simp <;> rfl)
                             intro gb157 hg w27 hbox hb
                             have BK157 := Aside0.mk hbox
                             have GW157 := ge hg HB
                             have GE157 := ge hg HB
                             have NB149_157 := nl hg BK149
                             have NB157_149 := ng hg BK149
                             replace BK149 := bb BK149 hb
                             replace HB := bh HB hb
                             clear hb hbox hg
                             refine hK.out _ _ (zc6 BK149) (fun hHeld => ?_)
                             clear hK K
                             refine norm_ (a' := ?_) ?_ ?_
                             rotate_left
                             ·show Act.put _ (some 10) _ = _
                              simp only [Act.put, sA, s0, sS, i64_w, i32_w]
                              rfl
                             exact norm_ (by simp only [putAll, Act.put, sA, s0, sS] <;> rfl) (hJ3_13 (gb157) _ ⟨hHeld, (bk BK149.out), (bk BK157.out), GW157.out, GE157.out, NB149_157.out, NB157_149.out, (bq HB.out)⟩)
                            skip
                            refine box_step ?hg (N := 11) ?hd (cs := #[.int .u64 0, .int .u64 0]) (t := 24) ?hr ?_; (case hd => rfl); (case hg => rfl); (case hr => go_simp <;> rfl)
                            intro gb158 hg w27 hbox hb
                            have BK158 := Aside0.mk hbox
                            have GW158 := ge hg HB
                            have GE158 := ge hg HB
                            have NB149_158 := nl hg BK149
                            have NB158_149 := ng hg BK149
                            replace BK149 := bb BK149 hb
                            replace HB := bh HB hb
                            clear hb hbox hg
                            refine hK.out _ _ (zc6 BK149) (fun hHeld => ?_)
                            clear hK K
                            refine norm_ (a' := ?_) ?_ ?_
                            rotate_left
                            ·show Act.put _ (some 11) _ = _
                             simp only [Act.put, sA, s0, sS, i64_w, i32_w]
                             rfl
                            exact norm_ (by simp only [putAll, Act.put, sA, s0, sS] <;> rfl) (hJ3_14 (gb158) _ ⟨hHeld, (bk BK149.out), (bk BK158.out), GW158.out, GE158.out, NB149_158.out, NB158_149.out, (bq HB.out)⟩)
                           skip
                           rintro ⟨gb157, gb158⟩ w27 ⟨hS_, h0_, h1_, h2_, h3_, h4_, h5_, h6_, h7_, h8_, h9_, h10_, h11_, h12_, h13_⟩
                           have n0_ : Aside0 (w27.heap[gb149]? = some (.cells #[.int .u64 a2_0, .int .u64 a2_1, .int .u64 a2_2, .int .u64 a2_3, .int .u64 a2_4, .int .u64 a2_5] 26 (0, 0))) := ⟨h0_⟩
                           have n1_ : Aside0 (w27.heap[gb157]? = some (.cells #[.int .u64 0, .int .u64 0] 24 (0, 0))) := ⟨h1_⟩
                           have n2_ : Aside0 (w27.heap[gb158]? = some (.cells #[.int .u64 0, .int .u64 0] 24 (0, 0))) := ⟨h2_⟩
                           have n3_ : Aside0 (w.heap.size ≤ gb157) := ⟨h3_⟩
                           have n4_ : Aside0 (w.heap.size ≤ gb157) := ⟨h4_⟩
                           have n5_ : Aside0 (gb149 ≠ gb157) := ⟨h5_⟩
                           have n6_ : Aside0 (gb157 ≠ gb149) := ⟨h6_⟩
                           have n7_ : Aside0 (gb158 ≠ gb157) := ⟨h7_⟩
                           have n8_ : Aside0 (gb157 ≠ gb158) := ⟨h8_⟩
                           have n9_ : Aside0 (w.heap.size ≤ gb158) := ⟨h9_⟩
                           have n10_ : Aside0 (w.heap.size ≤ gb158) := ⟨h10_⟩
                           have n11_ : Aside0 (gb149 ≠ gb158) := ⟨h11_⟩
                           have n12_ : Aside0 (gb158 ≠ gb149) := ⟨h12_⟩
                           have n13_ : Aside0 (Below w.heap.size w w27) := ⟨h13_⟩
                           clear BK149
                           clear HB
                           clear h0_ h1_ h2_ h3_ h4_ h5_ h6_ h7_ h8_ h9_ h10_ h11_ h12_ h13_
                           have BK149 := n0_
                           have BK157 := n1_
                           have BK158 := n2_
                           have GW157 := Aside1.mk n3_.out
                           have GE157 := Aside1.mk n4_.out
                           have NB149_157 := n5_
                           have NB157_149 := n6_
                           have NB158_157 := n7_
                           have NB157_158 := n8_
                           have GW158 := Aside1.mk n9_.out
                           have GE158 := Aside1.mk n10_.out
                           have NB149_158 := n11_
                           have NB158_149 := n12_
                           have HB := n13_
                           clear n0_ n1_ n2_ n3_ n4_ n5_ n6_ n7_ n8_ n9_ n10_ n11_ n12_ n13_
                           have hHeld : w27.cell? ⟨gb149, 0, none⟩ = some (.int .u64 a2_0) ∧ w27.cell? ⟨gb149, 1, none⟩ = some (.int .u64 a2_1) ∧ w27.cell? ⟨gb149, 2, none⟩ = some (.int .u64 a2_2) ∧ w27.cell? ⟨gb149, 3, none⟩ = some (.int .u64 a2_3) ∧ w27.cell? ⟨gb149, 4, none⟩ = some (.int .u64 a2_4) ∧ w27.cell? ⟨gb149, 5, none⟩ = some (.int .u64 a2_5) := hS_
                           refine norm_ (a' := ?_) ?_ ?_
                           rotate_left
                           ·simp only [putAll, Act.put, sA, s0, sS]
                            rfl
                           refine two_ (i := 3) (j := 12) (Ni := some 30) (Nj := some 9) #[yy, yy, yy, yy, yy, yy, yy, nn, yy, yy, yy, nn, nn, yy, yy, nn, nn, nn] #[yy, yy, yy, nn, yy, yy, yy, nn, yy, yy, yy, nn, yy, yy, yy, nn, nn, nn] rfl rfl rfl rfl (two_of HT_.out (by kernel_rfl)) (by decide) (by decide) (fun K hK => ?_) (fun K hK => ?_)
                           ·skip
                            refine goes_ Try.func10 (by kernel_rfl) rfl #[.int .i64 (lv8 a0), .agg #[.int .u64 a2_0, .int .u64 a2_1]] (by rfl) rfl rfl (by (try simp only [mA, mC, mN]); first | done | rfl | (simp only [List.length_drop, List.length_take]; rfl)) ?_
                            with_reducible refine (steeplelaw33_of.calls (lv8 a0) a2_0 a2_1 t150 t151 _ A5.out).mono ?_
                            rintro e w28 ⟨rfl, hb⟩
                            refine ⟨_, rfl, ?_⟩
                            replace BK149 := bb BK149 hb
                            replace BK157 := bb BK157 hb
                            replace BK158 := bb BK158 hb
                            replace HB := bh HB hb
                            (try clear hb)
                            refine hK.out _ _ (zc6 BK149) (fun hHeld => ?_)
                            clear hK K
                            refine norm_ (a' := ?_) ?_ ?_
                            rotate_left
                            ·show Act.put _ (some 30) _ = _
                             simp only [Act.put, sA, s0, sS, i64_w, i32_w]
                             rfl
                            exact norm_ (by simp only [putAll, Act.put, sA, s0, sS] <;> rfl) (hJ3_13_14 (gb157, gb158) _ ⟨hHeld, (bk BK149.out), (bk BK157.out), (bk BK158.out), GW157.out, GE157.out, NB149_157.out, NB157_149.out, NB158_157.out, NB157_158.out, GW158.out, GE158.out, NB149_158.out, NB158_149.out, (bq HB.out)⟩)
                           skip
                           refine box_step ?hg (N := 9) ?hd (cs := #[.int .u64 0, .int .u64 0]) (t := 24) ?hr ?_; (case hd => rfl); (case hg => rfl); (case hr => go_simp <;> rfl)
                           intro gb156 hg w28 hbox hb
                           have BK156 := Aside0.mk hbox
                           have GW156 := ge hg HB
                           have GE156 := ge hg HB
                           have NB149_156 := nl hg BK149
                           have NB156_149 := ng hg BK149
                           have NB157_156 := nl hg BK157
                           have NB156_157 := ng hg BK157
                           have NB158_156 := nl hg BK158
                           have NB156_158 := ng hg BK158
                           replace BK149 := bb BK149 hb
                           replace BK157 := bb BK157 hb
                           replace BK158 := bb BK158 hb
                           replace HB := bh HB hb
                           clear hb hbox hg
                           refine hK.out _ _ (zc6 BK149) (fun hHeld => ?_)
                           clear hK K
                           refine norm_ (a' := ?_) ?_ ?_
                           rotate_left
                           ·show Act.put _ (some 9) _ = _
                            simp only [Act.put, sA, s0, sS, i64_w, i32_w]
                            rfl
                           exact norm_ (by simp only [putAll, Act.put, sA, s0, sS] <;> rfl) (hJ12_13_14 (gb156, gb157, gb158) _ ⟨hHeld, (bk BK149.out), (bk BK156.out), (bk BK157.out), (bk BK158.out), GW156.out, GE156.out, NB149_156.out, NB156_149.out, NB157_156.out, NB156_157.out, NB158_156.out, NB156_158.out, GW157.out, GE157.out, NB149_157.out, NB157_149.out, NB158_157.out, NB157_158.out, GW158.out, GE158.out, NB149_158.out, NB158_149.out, (bq HB.out)⟩)
                          skip
                          rintro ⟨gb156, gb158⟩ w27 ⟨hS_, h0_, h1_, h2_, h3_, h4_, h5_, h6_, h7_, h8_, h9_, h10_, h11_, h12_, h13_⟩
                          have n0_ : Aside0 (w27.heap[gb149]? = some (.cells #[.int .u64 a2_0, .int .u64 a2_1, .int .u64 a2_2, .int .u64 a2_3, .int .u64 a2_4, .int .u64 a2_5] 26 (0, 0))) := ⟨h0_⟩
                          have n1_ : Aside0 (w27.heap[gb156]? = some (.cells #[.int .u64 0, .int .u64 0] 24 (0, 0))) := ⟨h1_⟩
                          have n2_ : Aside0 (w27.heap[gb158]? = some (.cells #[.int .u64 0, .int .u64 0] 24 (0, 0))) := ⟨h2_⟩
                          have n3_ : Aside0 (w.heap.size ≤ gb156) := ⟨h3_⟩
                          have n4_ : Aside0 (w.heap.size ≤ gb156) := ⟨h4_⟩
                          have n5_ : Aside0 (gb149 ≠ gb156) := ⟨h5_⟩
                          have n6_ : Aside0 (gb156 ≠ gb149) := ⟨h6_⟩
                          have n7_ : Aside0 (gb158 ≠ gb156) := ⟨h7_⟩
                          have n8_ : Aside0 (gb156 ≠ gb158) := ⟨h8_⟩
                          have n9_ : Aside0 (w.heap.size ≤ gb158) := ⟨h9_⟩
                          have n10_ : Aside0 (w.heap.size ≤ gb158) := ⟨h10_⟩
                          have n11_ : Aside0 (gb149 ≠ gb158) := ⟨h11_⟩
                          have n12_ : Aside0 (gb158 ≠ gb149) := ⟨h12_⟩
                          have n13_ : Aside0 (Below w.heap.size w w27) := ⟨h13_⟩
                          clear BK149
                          clear HB
                          clear h0_ h1_ h2_ h3_ h4_ h5_ h6_ h7_ h8_ h9_ h10_ h11_ h12_ h13_
                          have BK149 := n0_
                          have BK156 := n1_
                          have BK158 := n2_
                          have GW156 := Aside1.mk n3_.out
                          have GE156 := Aside1.mk n4_.out
                          have NB149_156 := n5_
                          have NB156_149 := n6_
                          have NB158_156 := n7_
                          have NB156_158 := n8_
                          have GW158 := Aside1.mk n9_.out
                          have GE158 := Aside1.mk n10_.out
                          have NB149_158 := n11_
                          have NB158_149 := n12_
                          have HB := n13_
                          clear n0_ n1_ n2_ n3_ n4_ n5_ n6_ n7_ n8_ n9_ n10_ n11_ n12_ n13_
                          have hHeld : w27.cell? ⟨gb149, 0, none⟩ = some (.int .u64 a2_0) ∧ w27.cell? ⟨gb149, 1, none⟩ = some (.int .u64 a2_1) ∧ w27.cell? ⟨gb149, 2, none⟩ = some (.int .u64 a2_2) ∧ w27.cell? ⟨gb149, 3, none⟩ = some (.int .u64 a2_3) ∧ w27.cell? ⟨gb149, 4, none⟩ = some (.int .u64 a2_4) ∧ w27.cell? ⟨gb149, 5, none⟩ = some (.int .u64 a2_5) := hS_
                          refine norm_ (a' := ?_) ?_ ?_
                          rotate_left
                          ·simp only [putAll, Act.put, sA, s0, sS]
                           rfl
                          refine two_ (i := 3) (j := 13) (Ni := some 30) (Nj := some 10) #[yy, yy, yy, yy, yy, yy, yy, nn, yy, yy, yy, nn, yy, nn, yy, nn, nn, nn] #[yy, yy, yy, nn, yy, yy, yy, nn, yy, yy, yy, nn, yy, yy, yy, nn, nn, nn] rfl rfl rfl rfl (two_of HT_.out (by kernel_rfl)) (by decide) (by decide) (fun K hK => ?_) (fun K hK => ?_)
                          ·skip
                           refine goes_ Try.func10 (by kernel_rfl) rfl #[.int .i64 (lv8 a0), .agg #[.int .u64 a2_0, .int .u64 a2_1]] (by rfl) rfl rfl (by (try simp only [mA, mC, mN]); first | done | rfl | (simp only [List.length_drop, List.length_take]; rfl)) ?_
                           with_reducible refine (steeplelaw33_of.calls (lv8 a0) a2_0 a2_1 t150 t151 _ A5.out).mono ?_
                           rintro e w28 ⟨rfl, hb⟩
                           refine ⟨_, rfl, ?_⟩
                           replace BK149 := bb BK149 hb
                           replace BK156 := bb BK156 hb
                           replace BK158 := bb BK158 hb
                           replace HB := bh HB hb
                           (try clear hb)
                           refine hK.out _ _ (zc6 BK149) (fun hHeld => ?_)
                           clear hK K
                           refine norm_ (a' := ?_) ?_ ?_
                           rotate_left
                           ·show Act.put _ (some 30) _ = _
                            simp only [Act.put, sA, s0, sS, i64_w, i32_w]
                            rfl
                           exact norm_ (by simp only [putAll, Act.put, sA, s0, sS] <;> rfl) (hJ3_12_14 (gb156, gb158) _ ⟨hHeld, (bk BK149.out), (bk BK156.out), (bk BK158.out), GW156.out, GE156.out, NB149_156.out, NB156_149.out, NB158_156.out, NB156_158.out, GW158.out, GE158.out, NB149_158.out, NB158_149.out, (bq HB.out)⟩)
                          skip
                          refine box_step ?hg (N := 10) ?hd (cs := #[.int .u64 0, .int .u64 0]) (t := 24) ?hr ?_; (case hd => rfl); (case hg => rfl); (case hr => go_simp <;> rfl)
                          intro gb157 hg w28 hbox hb
                          have BK157 := Aside0.mk hbox
                          have GW157 := ge hg HB
                          have GE157 := ge hg HB
                          have NB149_157 := nl hg BK149
                          have NB157_149 := ng hg BK149
                          have NB156_157 := nl hg BK156
                          have NB157_156 := ng hg BK156
                          have NB158_157 := nl hg BK158
                          have NB157_158 := ng hg BK158
                          replace BK149 := bb BK149 hb
                          replace BK156 := bb BK156 hb
                          replace BK158 := bb BK158 hb
                          replace HB := bh HB hb
                          clear hb hbox hg
                          refine hK.out _ _ (zc6 BK149) (fun hHeld => ?_)
                          clear hK K
                          refine norm_ (a' := ?_) ?_ ?_
                          rotate_left
                          ·show Act.put _ (some 10) _ = _
                           simp only [Act.put, sA, s0, sS, i64_w, i32_w]
                           rfl
                          exact norm_ (by simp only [putAll, Act.put, sA, s0, sS] <;> rfl) (hJ12_13_14 (gb156, gb157, gb158) _ ⟨hHeld, (bk BK149.out), (bk BK156.out), (bk BK157.out), (bk BK158.out), GW156.out, GE156.out, NB149_156.out, NB156_149.out, NB157_156.out, NB156_157.out, NB158_156.out, NB156_158.out, GW157.out, GE157.out, NB149_157.out, NB157_149.out, NB158_157.out, NB157_158.out, GW158.out, GE158.out, NB149_158.out, NB158_149.out, (bq HB.out)⟩)
                         skip
                         rintro ⟨gb156, gb157⟩ w27 ⟨hS_, h0_, h1_, h2_, h3_, h4_, h5_, h6_, h7_, h8_, h9_, h10_, h11_, h12_, h13_⟩
                         have n0_ : Aside0 (w27.heap[gb149]? = some (.cells #[.int .u64 a2_0, .int .u64 a2_1, .int .u64 a2_2, .int .u64 a2_3, .int .u64 a2_4, .int .u64 a2_5] 26 (0, 0))) := ⟨h0_⟩
                         have n1_ : Aside0 (w27.heap[gb156]? = some (.cells #[.int .u64 0, .int .u64 0] 24 (0, 0))) := ⟨h1_⟩
                         have n2_ : Aside0 (w27.heap[gb157]? = some (.cells #[.int .u64 0, .int .u64 0] 24 (0, 0))) := ⟨h2_⟩
                         have n3_ : Aside0 (w.heap.size ≤ gb156) := ⟨h3_⟩
                         have n4_ : Aside0 (w.heap.size ≤ gb156) := ⟨h4_⟩
                         have n5_ : Aside0 (gb149 ≠ gb156) := ⟨h5_⟩
                         have n6_ : Aside0 (gb156 ≠ gb149) := ⟨h6_⟩
                         have n7_ : Aside0 (gb157 ≠ gb156) := ⟨h7_⟩
                         have n8_ : Aside0 (gb156 ≠ gb157) := ⟨h8_⟩
                         have n9_ : Aside0 (w.heap.size ≤ gb157) := ⟨h9_⟩
                         have n10_ : Aside0 (w.heap.size ≤ gb157) := ⟨h10_⟩
                         have n11_ : Aside0 (gb149 ≠ gb157) := ⟨h11_⟩
                         have n12_ : Aside0 (gb157 ≠ gb149) := ⟨h12_⟩
                         have n13_ : Aside0 (Below w.heap.size w w27) := ⟨h13_⟩
                         clear BK149
                         clear HB
                         clear h0_ h1_ h2_ h3_ h4_ h5_ h6_ h7_ h8_ h9_ h10_ h11_ h12_ h13_
                         have BK149 := n0_
                         have BK156 := n1_
                         have BK157 := n2_
                         have GW156 := Aside1.mk n3_.out
                         have GE156 := Aside1.mk n4_.out
                         have NB149_156 := n5_
                         have NB156_149 := n6_
                         have NB157_156 := n7_
                         have NB156_157 := n8_
                         have GW157 := Aside1.mk n9_.out
                         have GE157 := Aside1.mk n10_.out
                         have NB149_157 := n11_
                         have NB157_149 := n12_
                         have HB := n13_
                         clear n0_ n1_ n2_ n3_ n4_ n5_ n6_ n7_ n8_ n9_ n10_ n11_ n12_ n13_
                         have hHeld : w27.cell? ⟨gb149, 0, none⟩ = some (.int .u64 a2_0) ∧ w27.cell? ⟨gb149, 1, none⟩ = some (.int .u64 a2_1) ∧ w27.cell? ⟨gb149, 2, none⟩ = some (.int .u64 a2_2) ∧ w27.cell? ⟨gb149, 3, none⟩ = some (.int .u64 a2_3) ∧ w27.cell? ⟨gb149, 4, none⟩ = some (.int .u64 a2_4) ∧ w27.cell? ⟨gb149, 5, none⟩ = some (.int .u64 a2_5) := hS_
                         refine norm_ (a' := ?_) ?_ ?_
                         rotate_left
                         ·simp only [putAll, Act.put, sA, s0, sS]
                          rfl
                         refine two_ (i := 3) (j := 14) (Ni := some 30) (Nj := some 11) #[yy, yy, yy, yy, yy, yy, yy, nn, yy, yy, yy, nn, yy, yy, nn, nn, nn, nn] #[yy, yy, yy, nn, yy, yy, yy, nn, yy, yy, yy, nn, yy, yy, yy, nn, nn, nn] rfl rfl rfl rfl (two_of HT_.out (by kernel_rfl)) (by decide) (by decide) (fun K hK => ?_) (fun K hK => ?_)
                         ·skip
                          refine goes_ Try.func10 (by kernel_rfl) rfl #[.int .i64 (lv8 a0), .agg #[.int .u64 a2_0, .int .u64 a2_1]] (by rfl) rfl rfl (by (try simp only [mA, mC, mN]); first | done | rfl | (simp only [List.length_drop, List.length_take]; rfl)) ?_
                          with_reducible refine (steeplelaw33_of.calls (lv8 a0) a2_0 a2_1 t150 t151 _ A5.out).mono ?_
                          rintro e w28 ⟨rfl, hb⟩
                          refine ⟨_, rfl, ?_⟩
                          replace BK149 := bb BK149 hb
                          replace BK156 := bb BK156 hb
                          replace BK157 := bb BK157 hb
                          replace HB := bh HB hb
                          (try clear hb)
                          refine hK.out _ _ (zc6 BK149) (fun hHeld => ?_)
                          clear hK K
                          refine norm_ (a' := ?_) ?_ ?_
                          rotate_left
                          ·show Act.put _ (some 30) _ = _
                           simp only [Act.put, sA, s0, sS, i64_w, i32_w]
                           rfl
                          exact norm_ (by simp only [putAll, Act.put, sA, s0, sS] <;> rfl) (hJ3_12_13 (gb156, gb157) _ ⟨hHeld, (bk BK149.out), (bk BK156.out), (bk BK157.out), GW156.out, GE156.out, NB149_156.out, NB156_149.out, NB157_156.out, NB156_157.out, GW157.out, GE157.out, NB149_157.out, NB157_149.out, (bq HB.out)⟩)
                         skip
                         refine box_step ?hg (N := 11) ?hd (cs := #[.int .u64 0, .int .u64 0]) (t := 24) ?hr ?_; (case hd => rfl); (case hg => rfl); (case hr => go_simp <;> rfl)
                         intro gb158 hg w28 hbox hb
                         have BK158 := Aside0.mk hbox
                         have GW158 := ge hg HB
                         have GE158 := ge hg HB
                         have NB149_158 := nl hg BK149
                         have NB158_149 := ng hg BK149
                         have NB156_158 := nl hg BK156
                         have NB158_156 := ng hg BK156
                         have NB157_158 := nl hg BK157
                         have NB158_157 := ng hg BK157
                         replace BK149 := bb BK149 hb
                         replace BK156 := bb BK156 hb
                         replace BK157 := bb BK157 hb
                         replace HB := bh HB hb
                         clear hb hbox hg
                         refine hK.out _ _ (zc6 BK149) (fun hHeld => ?_)
                         clear hK K
                         refine norm_ (a' := ?_) ?_ ?_
                         rotate_left
                         ·show Act.put _ (some 11) _ = _
                          simp only [Act.put, sA, s0, sS, i64_w, i32_w]
                          rfl
                         exact norm_ (by simp only [putAll, Act.put, sA, s0, sS] <;> rfl) (hJ12_13_14 (gb156, gb157, gb158) _ ⟨hHeld, (bk BK149.out), (bk BK156.out), (bk BK157.out), (bk BK158.out), GW156.out, GE156.out, NB149_156.out, NB156_149.out, NB157_156.out, NB156_157.out, NB158_156.out, NB156_158.out, GW157.out, GE157.out, NB149_157.out, NB157_149.out, NB158_157.out, NB157_158.out, GW158.out, GE158.out, NB149_158.out, NB158_149.out, (bq HB.out)⟩)
                        skip
                        rintro gb158 w27 ⟨hS_, h0_, h1_, h2_, h3_, h4_, h5_, h6_⟩
                        have n0_ : Aside0 (w27.heap[gb149]? = some (.cells #[.int .u64 a2_0, .int .u64 a2_1, .int .u64 a2_2, .int .u64 a2_3, .int .u64 a2_4, .int .u64 a2_5] 26 (0, 0))) := ⟨h0_⟩
                        have n1_ : Aside0 (w27.heap[gb158]? = some (.cells #[.int .u64 0, .int .u64 0] 24 (0, 0))) := ⟨h1_⟩
                        have n2_ : Aside0 (w.heap.size ≤ gb158) := ⟨h2_⟩
                        have n3_ : Aside0 (w.heap.size ≤ gb158) := ⟨h3_⟩
                        have n4_ : Aside0 (gb149 ≠ gb158) := ⟨h4_⟩
                        have n5_ : Aside0 (gb158 ≠ gb149) := ⟨h5_⟩
                        have n6_ : Aside0 (Below w.heap.size w w27) := ⟨h6_⟩
                        clear BK149
                        clear HB
                        clear h0_ h1_ h2_ h3_ h4_ h5_ h6_
                        have BK149 := n0_
                        have BK158 := n1_
                        have GW158 := Aside1.mk n2_.out
                        have GE158 := Aside1.mk n3_.out
                        have NB149_158 := n4_
                        have NB158_149 := n5_
                        have HB := n6_
                        clear n0_ n1_ n2_ n3_ n4_ n5_ n6_
                        have hHeld : w27.cell? ⟨gb149, 0, none⟩ = some (.int .u64 a2_0) ∧ w27.cell? ⟨gb149, 1, none⟩ = some (.int .u64 a2_1) ∧ w27.cell? ⟨gb149, 2, none⟩ = some (.int .u64 a2_2) ∧ w27.cell? ⟨gb149, 3, none⟩ = some (.int .u64 a2_3) ∧ w27.cell? ⟨gb149, 4, none⟩ = some (.int .u64 a2_4) ∧ w27.cell? ⟨gb149, 5, none⟩ = some (.int .u64 a2_5) := hS_
                        refine norm_ (a' := ?_) ?_ ?_
                        rotate_left
                        ·simp only [putAll, Act.put, sA, s0, sS]
                         rfl
                        refine three_ (i := 7) (j := 12) (k := 13) (Ni := some 34) (Nj := some 9) (Nk := some 10) #[yy, yy, yy, yy, yy, yy, yy, yy, yy, yy, yy, nn, nn, nn, yy, nn, nn, nn] #[yy, yy, yy, yy, yy, yy, yy, nn, yy, yy, yy, nn, yy, nn, yy, nn, nn, nn] #[yy, yy, yy, yy, yy, yy, yy, nn, yy, yy, yy, nn, nn, yy, yy, nn, nn, nn] rfl rfl rfl rfl rfl rfl (three_of HT_.out (by kernel_rfl)) (by decide) (by decide) (by decide) (fun K hK => ?_) (fun K hK => ?_) (fun K hK => ?_)
                        ·skip
                         refine goes_ Try.func10 (by kernel_rfl) rfl #[.int .i64 (lv8 a0), .agg #[.int .u64 a2_2, .int .u64 a2_3]] (by rfl) rfl rfl (by (try simp only [mA, mC, mN]); first | done | rfl | (simp only [List.length_drop, List.length_take]; rfl)) ?_
                         with_reducible refine (steeplelaw33_of.calls (lv8 a0) a2_2 a2_3 t152 t153 _ A6.out).mono ?_
                         rintro e w28 ⟨rfl, hb⟩
                         refine ⟨_, rfl, ?_⟩
                         replace BK149 := bb BK149 hb
                         replace BK158 := bb BK158 hb
                         replace HB := bh HB hb
                         (try clear hb)
                         refine hK.out _ _ (zc6 BK149) (fun hHeld => ?_)
                         clear hK K
                         refine norm_ (a' := ?_) ?_ ?_
                         rotate_left
                         ·show Act.put _ (some 34) _ = _
                          simp only [Act.put, sA, s0, sS, i64_w, i32_w]
                          rfl
                         exact norm_ (by simp only [putAll, Act.put, sA, s0, sS] <;> rfl) (hJ3_7_14 (gb158) _ ⟨hHeld, (bk BK149.out), (bk BK158.out), GW158.out, GE158.out, NB149_158.out, NB158_149.out, (bq HB.out)⟩)
                        ·skip
                         refine box_step ?hg (N := 9) ?hd (cs := #[.int .u64 0, .int .u64 0]) (t := 24) ?hr ?_; (case hd => rfl); (case hg => rfl); (case hr => go_simp <;> rfl)
                         intro gb156 hg w28 hbox hb
                         have BK156 := Aside0.mk hbox
                         have GW156 := ge hg HB
                         have GE156 := ge hg HB
                         have NB149_156 := nl hg BK149
                         have NB156_149 := ng hg BK149
                         have NB158_156 := nl hg BK158
                         have NB156_158 := ng hg BK158
                         replace BK149 := bb BK149 hb
                         replace BK158 := bb BK158 hb
                         replace HB := bh HB hb
                         clear hb hbox hg
                         refine hK.out _ _ (zc6 BK149) (fun hHeld => ?_)
                         clear hK K
                         refine norm_ (a' := ?_) ?_ ?_
                         rotate_left
                         ·show Act.put _ (some 9) _ = _
                          simp only [Act.put, sA, s0, sS, i64_w, i32_w]
                          rfl
                         exact norm_ (by simp only [putAll, Act.put, sA, s0, sS] <;> rfl) (hJ3_12_14 (gb156, gb158) _ ⟨hHeld, (bk BK149.out), (bk BK156.out), (bk BK158.out), GW156.out, GE156.out, NB149_156.out, NB156_149.out, NB158_156.out, NB156_158.out, GW158.out, GE158.out, NB149_158.out, NB158_149.out, (bq HB.out)⟩)
                        skip
                        refine box_step ?hg (N := 10) ?hd (cs := #[.int .u64 0, .int .u64 0]) (t := 24) ?hr ?_; (case hd => rfl); (case hg => rfl); (case hr => go_simp <;> rfl)
                        intro gb157 hg w28 hbox hb
                        have BK157 := Aside0.mk hbox
                        have GW157 := ge hg HB
                        have GE157 := ge hg HB
                        have NB149_157 := nl hg BK149
                        have NB157_149 := ng hg BK149
                        have NB158_157 := nl hg BK158
                        have NB157_158 := ng hg BK158
                        replace BK149 := bb BK149 hb
                        replace BK158 := bb BK158 hb
                        replace HB := bh HB hb
                        clear hb hbox hg
                        refine hK.out _ _ (zc6 BK149) (fun hHeld => ?_)
                        clear hK K
                        refine norm_ (a' := ?_) ?_ ?_
                        rotate_left
                        ·show Act.put _ (some 10) _ = _
                         simp only [Act.put, sA, s0, sS, i64_w, i32_w]
                         rfl
                        exact norm_ (by simp only [putAll, Act.put, sA, s0, sS] <;> rfl) (hJ3_13_14 (gb157, gb158) _ ⟨hHeld, (bk BK149.out), (bk BK157.out), (bk BK158.out), GW157.out, GE157.out, NB149_157.out, NB157_149.out, NB158_157.out, NB157_158.out, GW158.out, GE158.out, NB149_158.out, NB158_149.out, (bq HB.out)⟩)
                       skip
                       rintro gb157 w27 ⟨hS_, h0_, h1_, h2_, h3_, h4_, h5_, h6_⟩
                       have n0_ : Aside0 (w27.heap[gb149]? = some (.cells #[.int .u64 a2_0, .int .u64 a2_1, .int .u64 a2_2, .int .u64 a2_3, .int .u64 a2_4, .int .u64 a2_5] 26 (0, 0))) := ⟨h0_⟩
                       have n1_ : Aside0 (w27.heap[gb157]? = some (.cells #[.int .u64 0, .int .u64 0] 24 (0, 0))) := ⟨h1_⟩
                       have n2_ : Aside0 (w.heap.size ≤ gb157) := ⟨h2_⟩
                       have n3_ : Aside0 (w.heap.size ≤ gb157) := ⟨h3_⟩
                       have n4_ : Aside0 (gb149 ≠ gb157) := ⟨h4_⟩
                       have n5_ : Aside0 (gb157 ≠ gb149) := ⟨h5_⟩
                       have n6_ : Aside0 (Below w.heap.size w w27) := ⟨h6_⟩
                       clear BK149
                       clear HB
                       clear h0_ h1_ h2_ h3_ h4_ h5_ h6_
                       have BK149 := n0_
                       have BK157 := n1_
                       have GW157 := Aside1.mk n2_.out
                       have GE157 := Aside1.mk n3_.out
                       have NB149_157 := n4_
                       have NB157_149 := n5_
                       have HB := n6_
                       clear n0_ n1_ n2_ n3_ n4_ n5_ n6_
                       have hHeld : w27.cell? ⟨gb149, 0, none⟩ = some (.int .u64 a2_0) ∧ w27.cell? ⟨gb149, 1, none⟩ = some (.int .u64 a2_1) ∧ w27.cell? ⟨gb149, 2, none⟩ = some (.int .u64 a2_2) ∧ w27.cell? ⟨gb149, 3, none⟩ = some (.int .u64 a2_3) ∧ w27.cell? ⟨gb149, 4, none⟩ = some (.int .u64 a2_4) ∧ w27.cell? ⟨gb149, 5, none⟩ = some (.int .u64 a2_5) := hS_
                       refine norm_ (a' := ?_) ?_ ?_
                       rotate_left
                       ·simp only [putAll, Act.put, sA, s0, sS]
                        rfl
                       refine three_ (i := 7) (j := 12) (k := 14) (Ni := some 34) (Nj := some 9) (Nk := some 11) #[yy, yy, yy, yy, yy, yy, yy, yy, yy, yy, yy, nn, nn, yy, nn, nn, nn, nn] #[yy, yy, yy, yy, yy, yy, yy, nn, yy, yy, yy, nn, yy, yy, nn, nn, nn, nn] #[yy, yy, yy, yy, yy, yy, yy, nn, yy, yy, yy, nn, nn, yy, yy, nn, nn, nn] rfl rfl rfl rfl rfl rfl (three_of HT_.out (by kernel_rfl)) (by decide) (by decide) (by decide) (fun K hK => ?_) (fun K hK => ?_) (fun K hK => ?_)
                       ·skip
                        refine goes_ Try.func10 (by kernel_rfl) rfl #[.int .i64 (lv8 a0), .agg #[.int .u64 a2_2, .int .u64 a2_3]] (by rfl) rfl rfl (by (try simp only [mA, mC, mN]); first | done | rfl | (simp only [List.length_drop, List.length_take]; rfl)) ?_
                        with_reducible refine (steeplelaw33_of.calls (lv8 a0) a2_2 a2_3 t152 t153 _ A6.out).mono ?_
                        rintro e w28 ⟨rfl, hb⟩
                        refine ⟨_, rfl, ?_⟩
                        replace BK149 := bb BK149 hb
                        replace BK157 := bb BK157 hb
                        replace HB := bh HB hb
                        (try clear hb)
                        refine hK.out _ _ (zc6 BK149) (fun hHeld => ?_)
                        clear hK K
                        refine norm_ (a' := ?_) ?_ ?_
                        rotate_left
                        ·show Act.put _ (some 34) _ = _
                         simp only [Act.put, sA, s0, sS, i64_w, i32_w]
                         rfl
                        exact norm_ (by simp only [putAll, Act.put, sA, s0, sS] <;> rfl) (hJ3_7_13 (gb157) _ ⟨hHeld, (bk BK149.out), (bk BK157.out), GW157.out, GE157.out, NB149_157.out, NB157_149.out, (bq HB.out)⟩)
                       ·skip
                        refine box_step ?hg (N := 9) ?hd (cs := #[.int .u64 0, .int .u64 0]) (t := 24) ?hr ?_; (case hd => rfl); (case hg => rfl); (case hr => go_simp <;> rfl)
                        intro gb156 hg w28 hbox hb
                        have BK156 := Aside0.mk hbox
                        have GW156 := ge hg HB
                        have GE156 := ge hg HB
                        have NB149_156 := nl hg BK149
                        have NB156_149 := ng hg BK149
                        have NB157_156 := nl hg BK157
                        have NB156_157 := ng hg BK157
                        replace BK149 := bb BK149 hb
                        replace BK157 := bb BK157 hb
                        replace HB := bh HB hb
                        clear hb hbox hg
                        refine hK.out _ _ (zc6 BK149) (fun hHeld => ?_)
                        clear hK K
                        refine norm_ (a' := ?_) ?_ ?_
                        rotate_left
                        ·show Act.put _ (some 9) _ = _
                         simp only [Act.put, sA, s0, sS, i64_w, i32_w]
                         rfl
                        exact norm_ (by simp only [putAll, Act.put, sA, s0, sS] <;> rfl) (hJ3_12_13 (gb156, gb157) _ ⟨hHeld, (bk BK149.out), (bk BK156.out), (bk BK157.out), GW156.out, GE156.out, NB149_156.out, NB156_149.out, NB157_156.out, NB156_157.out, GW157.out, GE157.out, NB149_157.out, NB157_149.out, (bq HB.out)⟩)
                       skip
                       refine box_step ?hg (N := 11) ?hd (cs := #[.int .u64 0, .int .u64 0]) (t := 24) ?hr ?_; (case hd => rfl); (case hg => rfl); (case hr => go_simp <;> rfl)
                       intro gb158 hg w28 hbox hb
                       have BK158 := Aside0.mk hbox
                       have GW158 := ge hg HB
                       have GE158 := ge hg HB
                       have NB149_158 := nl hg BK149
                       have NB158_149 := ng hg BK149
                       have NB157_158 := nl hg BK157
                       have NB158_157 := ng hg BK157
                       replace BK149 := bb BK149 hb
                       replace BK157 := bb BK157 hb
                       replace HB := bh HB hb
                       clear hb hbox hg
                       refine hK.out _ _ (zc6 BK149) (fun hHeld => ?_)
                       clear hK K
                       refine norm_ (a' := ?_) ?_ ?_
                       rotate_left
                       ·show Act.put _ (some 11) _ = _
                        simp only [Act.put, sA, s0, sS, i64_w, i32_w]
                        rfl
                       exact norm_ (by simp only [putAll, Act.put, sA, s0, sS] <;> rfl) (hJ3_13_14 (gb157, gb158) _ ⟨hHeld, (bk BK149.out), (bk BK157.out), (bk BK158.out), GW157.out, GE157.out, NB149_157.out, NB157_149.out, NB158_157.out, NB157_158.out, GW158.out, GE158.out, NB149_158.out, NB158_149.out, (bq HB.out)⟩)
                      skip
                      rintro gb156 w27 ⟨hS_, h0_, h1_, h2_, h3_, h4_, h5_, h6_⟩
                      have n0_ : Aside0 (w27.heap[gb149]? = some (.cells #[.int .u64 a2_0, .int .u64 a2_1, .int .u64 a2_2, .int .u64 a2_3, .int .u64 a2_4, .int .u64 a2_5] 26 (0, 0))) := ⟨h0_⟩
                      have n1_ : Aside0 (w27.heap[gb156]? = some (.cells #[.int .u64 0, .int .u64 0] 24 (0, 0))) := ⟨h1_⟩
                      have n2_ : Aside0 (w.heap.size ≤ gb156) := ⟨h2_⟩
                      have n3_ : Aside0 (w.heap.size ≤ gb156) := ⟨h3_⟩
                      have n4_ : Aside0 (gb149 ≠ gb156) := ⟨h4_⟩
                      have n5_ : Aside0 (gb156 ≠ gb149) := ⟨h5_⟩
                      have n6_ : Aside0 (Below w.heap.size w w27) := ⟨h6_⟩
                      clear BK149
                      clear HB
                      clear h0_ h1_ h2_ h3_ h4_ h5_ h6_
                      have BK149 := n0_
                      have BK156 := n1_
                      have GW156 := Aside1.mk n2_.out
                      have GE156 := Aside1.mk n3_.out
                      have NB149_156 := n4_
                      have NB156_149 := n5_
                      have HB := n6_
                      clear n0_ n1_ n2_ n3_ n4_ n5_ n6_
                      have hHeld : w27.cell? ⟨gb149, 0, none⟩ = some (.int .u64 a2_0) ∧ w27.cell? ⟨gb149, 1, none⟩ = some (.int .u64 a2_1) ∧ w27.cell? ⟨gb149, 2, none⟩ = some (.int .u64 a2_2) ∧ w27.cell? ⟨gb149, 3, none⟩ = some (.int .u64 a2_3) ∧ w27.cell? ⟨gb149, 4, none⟩ = some (.int .u64 a2_4) ∧ w27.cell? ⟨gb149, 5, none⟩ = some (.int .u64 a2_5) := hS_
                      refine norm_ (a' := ?_) ?_ ?_
                      rotate_left
                      ·simp only [putAll, Act.put, sA, s0, sS]
                       rfl
                      refine three_ (i := 7) (j := 13) (k := 14) (Ni := some 34) (Nj := some 10) (Nk := some 11) #[yy, yy, yy, yy, yy, yy, yy, yy, yy, yy, yy, nn, yy, nn, nn, nn, nn, nn] #[yy, yy, yy, yy, yy, yy, yy, nn, yy, yy, yy, nn, yy, yy, nn, nn, nn, nn] #[yy, yy, yy, yy, yy, yy, yy, nn, yy, yy, yy, nn, yy, nn, yy, nn, nn, nn] rfl rfl rfl rfl rfl rfl (three_of HT_.out (by kernel_rfl)) (by decide) (by decide) (by decide) (fun K hK => ?_) (fun K hK => ?_) (fun K hK => ?_)
                      ·skip
                       refine goes_ Try.func10 (by kernel_rfl) rfl #[.int .i64 (lv8 a0), .agg #[.int .u64 a2_2, .int .u64 a2_3]] (by rfl) rfl rfl (by (try simp only [mA, mC, mN]); first | done | rfl | (simp only [List.length_drop, List.length_take]; rfl)) ?_
                       with_reducible refine (steeplelaw33_of.calls (lv8 a0) a2_2 a2_3 t152 t153 _ A6.out).mono ?_
                       rintro e w28 ⟨rfl, hb⟩
                       refine ⟨_, rfl, ?_⟩
                       replace BK149 := bb BK149 hb
                       replace BK156 := bb BK156 hb
                       replace HB := bh HB hb
                       (try clear hb)
                       refine hK.out _ _ (zc6 BK149) (fun hHeld => ?_)
                       clear hK K
                       refine norm_ (a' := ?_) ?_ ?_
                       rotate_left
                       ·show Act.put _ (some 34) _ = _
                        simp only [Act.put, sA, s0, sS, i64_w, i32_w]
                        rfl
                       exact norm_ (by simp only [putAll, Act.put, sA, s0, sS] <;> rfl) (hJ3_7_12 (gb156) _ ⟨hHeld, (bk BK149.out), (bk BK156.out), GW156.out, GE156.out, NB149_156.out, NB156_149.out, (bq HB.out)⟩)
                      ·skip
                       refine box_step ?hg (N := 10) ?hd (cs := #[.int .u64 0, .int .u64 0]) (t := 24) ?hr ?_; (case hd => rfl); (case hg => rfl); (case hr => go_simp <;> rfl)
                       intro gb157 hg w28 hbox hb
                       have BK157 := Aside0.mk hbox
                       have GW157 := ge hg HB
                       have GE157 := ge hg HB
                       have NB149_157 := nl hg BK149
                       have NB157_149 := ng hg BK149
                       have NB156_157 := nl hg BK156
                       have NB157_156 := ng hg BK156
                       replace BK149 := bb BK149 hb
                       replace BK156 := bb BK156 hb
                       replace HB := bh HB hb
                       clear hb hbox hg
                       refine hK.out _ _ (zc6 BK149) (fun hHeld => ?_)
                       clear hK K
                       refine norm_ (a' := ?_) ?_ ?_
                       rotate_left
                       ·show Act.put _ (some 10) _ = _
                        simp only [Act.put, sA, s0, sS, i64_w, i32_w]
                        rfl
                       exact norm_ (by simp only [putAll, Act.put, sA, s0, sS] <;> rfl) (hJ3_12_13 (gb156, gb157) _ ⟨hHeld, (bk BK149.out), (bk BK156.out), (bk BK157.out), GW156.out, GE156.out, NB149_156.out, NB156_149.out, NB157_156.out, NB156_157.out, GW157.out, GE157.out, NB149_157.out, NB157_149.out, (bq HB.out)⟩)
                      skip
                      refine box_step ?hg (N := 11) ?hd (cs := #[.int .u64 0, .int .u64 0]) (t := 24) ?hr ?_; (case hd => rfl); (case hg => rfl); (case hr => go_simp <;> rfl)
                      intro gb158 hg w28 hbox hb
                      have BK158 := Aside0.mk hbox
                      have GW158 := ge hg HB
                      have GE158 := ge hg HB
                      have NB149_158 := nl hg BK149
                      have NB158_149 := ng hg BK149
                      have NB156_158 := nl hg BK156
                      have NB158_156 := ng hg BK156
                      replace BK149 := bb BK149 hb
                      replace BK156 := bb BK156 hb
                      replace HB := bh HB hb
                      clear hb hbox hg
                      refine hK.out _ _ (zc6 BK149) (fun hHeld => ?_)
                      clear hK K
                      refine norm_ (a' := ?_) ?_ ?_
                      rotate_left
                      ·show Act.put _ (some 11) _ = _
                       simp only [Act.put, sA, s0, sS, i64_w, i32_w]
                       rfl
                      exact norm_ (by simp only [putAll, Act.put, sA, s0, sS] <;> rfl) (hJ3_12_14 (gb156, gb158) _ ⟨hHeld, (bk BK149.out), (bk BK156.out), (bk BK158.out), GW156.out, GE156.out, NB149_156.out, NB156_149.out, NB158_156.out, NB156_158.out, GW158.out, GE158.out, NB149_158.out, NB158_149.out, (bq HB.out)⟩)
                     skip
                     rintro _ w27 ⟨hS_, h0_, h1_⟩
                     have n0_ : Aside0 (w27.heap[gb149]? = some (.cells #[.int .u64 a2_0, .int .u64 a2_1, .int .u64 a2_2, .int .u64 a2_3, .int .u64 a2_4, .int .u64 a2_5] 26 (0, 0))) := ⟨h0_⟩
                     have n1_ : Aside0 (Below w.heap.size w w27) := ⟨h1_⟩
                     clear BK149
                     clear HB
                     clear h0_ h1_
                     have BK149 := n0_
                     have HB := n1_
                     clear n0_ n1_
                     have hHeld : w27.cell? ⟨gb149, 0, none⟩ = some (.int .u64 a2_0) ∧ w27.cell? ⟨gb149, 1, none⟩ = some (.int .u64 a2_1) ∧ w27.cell? ⟨gb149, 2, none⟩ = some (.int .u64 a2_2) ∧ w27.cell? ⟨gb149, 3, none⟩ = some (.int .u64 a2_3) ∧ w27.cell? ⟨gb149, 4, none⟩ = some (.int .u64 a2_4) ∧ w27.cell? ⟨gb149, 5, none⟩ = some (.int .u64 a2_5) := hS_
                     refine norm_ (a' := ?_) ?_ ?_
                     rotate_left
                     ·simp only [putAll, Act.put, sA, s0, sS]
                      rfl
                     refine four_ (i := 11) (j := 12) (k := 13) (m := 14) (Ni := some 38) (Nj := some 9) (Nk := some 10) (Nm := some 11) #[yy, yy, yy, yy, yy, yy, yy, yy, yy, yy, yy, yy, nn, nn, nn, nn, nn, nn] #[yy, yy, yy, yy, yy, yy, yy, yy, yy, yy, yy, nn, yy, nn, nn, nn, nn, nn] #[yy, yy, yy, yy, yy, yy, yy, yy, yy, yy, yy, nn, nn, yy, nn, nn, nn, nn] #[yy, yy, yy, yy, yy, yy, yy, yy, yy, yy, yy, nn, nn, nn, yy, nn, nn, nn] rfl rfl rfl rfl rfl rfl rfl rfl (four_of HT_.out (by kernel_rfl)) (by decide) (by decide) (by decide) (by decide) (fun K hK => ?_) (fun K hK => ?_) (fun K hK => ?_) (fun K hK => ?_)
                     ·skip
                      refine goes_ Try.func10 (by kernel_rfl) rfl #[.int .i64 (lj8 a0 a1), .agg #[.int .u64 a2_4, .int .u64 a2_5]] (by rfl) rfl rfl (by (try simp only [mA, mC, mN]); first | done | rfl | (simp only [List.length_drop, List.length_take]; rfl)) ?_
                      with_reducible refine (steeplelaw33_of.calls (lj8 a0 a1) a2_4 a2_5 t154 t155 _ A7.out).mono ?_
                      rintro e w28 ⟨rfl, hb⟩
                      refine ⟨_, rfl, ?_⟩
                      replace BK149 := bb BK149 hb
                      replace HB := bh HB hb
                      (try clear hb)
                      refine hK.out _ _ (zc6 BK149) (fun hHeld => ?_)
                      clear hK K
                      refine norm_ (a' := ?_) ?_ ?_
                      rotate_left
                      ·show Act.put _ (some 38) _ = _
                       simp only [Act.put, sA, s0, sS, i64_w, i32_w]
                       rfl
                      exact norm_ (by simp only [putAll, Act.put, sA, s0, sS] <;> rfl) (hJ3_7_11 () _ ⟨hHeld, (bk BK149.out), (bq HB.out)⟩)
                     ·skip
                      refine box_step ?hg (N := 9) ?hd (cs := #[.int .u64 0, .int .u64 0]) (t := 24) ?hr ?_; (case hd => rfl); (case hg => rfl); (case hr => go_simp <;> rfl)
                      intro gb156 hg w28 hbox hb
                      have BK156 := Aside0.mk hbox
                      have GW156 := ge hg HB
                      have GE156 := ge hg HB
                      have NB149_156 := nl hg BK149
                      have NB156_149 := ng hg BK149
                      replace BK149 := bb BK149 hb
                      replace HB := bh HB hb
                      clear hb hbox hg
                      refine hK.out _ _ (zc6 BK149) (fun hHeld => ?_)
                      clear hK K
                      refine norm_ (a' := ?_) ?_ ?_
                      rotate_left
                      ·show Act.put _ (some 9) _ = _
                       simp only [Act.put, sA, s0, sS, i64_w, i32_w]
                       rfl
                      exact norm_ (by simp only [putAll, Act.put, sA, s0, sS] <;> rfl) (hJ3_7_12 (gb156) _ ⟨hHeld, (bk BK149.out), (bk BK156.out), GW156.out, GE156.out, NB149_156.out, NB156_149.out, (bq HB.out)⟩)
                     ·skip
                      refine box_step ?hg (N := 10) ?hd (cs := #[.int .u64 0, .int .u64 0]) (t := 24) ?hr ?_; (case hd => rfl); (case hg => rfl); (case hr => go_simp <;> rfl)
                      intro gb157 hg w28 hbox hb
                      have BK157 := Aside0.mk hbox
                      have GW157 := ge hg HB
                      have GE157 := ge hg HB
                      have NB149_157 := nl hg BK149
                      have NB157_149 := ng hg BK149
                      replace BK149 := bb BK149 hb
                      replace HB := bh HB hb
                      clear hb hbox hg
                      refine hK.out _ _ (zc6 BK149) (fun hHeld => ?_)
                      clear hK K
                      refine norm_ (a' := ?_) ?_ ?_
                      rotate_left
                      ·show Act.put _ (some 10) _ = _
                       simp only [Act.put, sA, s0, sS, i64_w, i32_w]
                       rfl
                      exact norm_ (by simp only [putAll, Act.put, sA, s0, sS] <;> rfl) (hJ3_7_13 (gb157) _ ⟨hHeld, (bk BK149.out), (bk BK157.out), GW157.out, GE157.out, NB149_157.out, NB157_149.out, (bq HB.out)⟩)
                     skip
                     refine box_step ?hg (N := 11) ?hd (cs := #[.int .u64 0, .int .u64 0]) (t := 24) ?hr ?_; (case hd => rfl); (case hg => rfl); (case hr => go_simp <;> rfl)
                     intro gb158 hg w28 hbox hb
                     have BK158 := Aside0.mk hbox
                     have GW158 := ge hg HB
                     have GE158 := ge hg HB
                     have NB149_158 := nl hg BK149
                     have NB158_149 := ng hg BK149
                     replace BK149 := bb BK149 hb
                     replace HB := bh HB hb
                     clear hb hbox hg
                     refine hK.out _ _ (zc6 BK149) (fun hHeld => ?_)
                     clear hK K
                     refine norm_ (a' := ?_) ?_ ?_
                     rotate_left
                     ·show Act.put _ (some 11) _ = _
                      simp only [Act.put, sA, s0, sS, i64_w, i32_w]
                      rfl
                     exact norm_ (by simp only [putAll, Act.put, sA, s0, sS] <;> rfl) (hJ3_7_14 (gb158) _ ⟨hHeld, (bk BK149.out), (bk BK158.out), GW158.out, GE158.out, NB149_158.out, NB158_149.out, (bq HB.out)⟩)
                    skip
                    rintro ⟨gb156, gb157, gb158⟩ w28 ⟨hS_, h0_, h1_, h2_, h3_, h4_, h5_, h6_, h7_, h8_, h9_, h10_, h11_, h12_, h13_, h14_, h15_, h16_, h17_, h18_, h19_, h20_, h21_, h22_⟩
                    have n0_ : Aside0 (w28.heap[gb149]? = some (.cells #[.int .u64 a2_0, .int .u64 a2_1, .int .u64 a2_2, .int .u64 a2_3, .int .u64 a2_4, .int .u64 a2_5] 26 (0, 0))) := ⟨h0_⟩
                    have n1_ : Aside0 (w28.heap[gb156]? = some (.cells #[.int .u64 0, .int .u64 0] 24 (0, 0))) := ⟨h1_⟩
                    have n2_ : Aside0 (w28.heap[gb157]? = some (.cells #[.int .u64 0, .int .u64 0] 24 (0, 0))) := ⟨h2_⟩
                    have n3_ : Aside0 (w28.heap[gb158]? = some (.cells #[.int .u64 0, .int .u64 0] 24 (0, 0))) := ⟨h3_⟩
                    have n4_ : Aside0 (w.heap.size ≤ gb156) := ⟨h4_⟩
                    have n5_ : Aside0 (w.heap.size ≤ gb156) := ⟨h5_⟩
                    have n6_ : Aside0 (gb149 ≠ gb156) := ⟨h6_⟩
                    have n7_ : Aside0 (gb156 ≠ gb149) := ⟨h7_⟩
                    have n8_ : Aside0 (gb157 ≠ gb156) := ⟨h8_⟩
                    have n9_ : Aside0 (gb156 ≠ gb157) := ⟨h9_⟩
                    have n10_ : Aside0 (gb158 ≠ gb156) := ⟨h10_⟩
                    have n11_ : Aside0 (gb156 ≠ gb158) := ⟨h11_⟩
                    have n12_ : Aside0 (w.heap.size ≤ gb157) := ⟨h12_⟩
                    have n13_ : Aside0 (w.heap.size ≤ gb157) := ⟨h13_⟩
                    have n14_ : Aside0 (gb149 ≠ gb157) := ⟨h14_⟩
                    have n15_ : Aside0 (gb157 ≠ gb149) := ⟨h15_⟩
                    have n16_ : Aside0 (gb158 ≠ gb157) := ⟨h16_⟩
                    have n17_ : Aside0 (gb157 ≠ gb158) := ⟨h17_⟩
                    have n18_ : Aside0 (w.heap.size ≤ gb158) := ⟨h18_⟩
                    have n19_ : Aside0 (w.heap.size ≤ gb158) := ⟨h19_⟩
                    have n20_ : Aside0 (gb149 ≠ gb158) := ⟨h20_⟩
                    have n21_ : Aside0 (gb158 ≠ gb149) := ⟨h21_⟩
                    have n22_ : Aside0 (Below w.heap.size w w28) := ⟨h22_⟩
                    clear BK149
                    clear HB
                    clear h0_ h1_ h2_ h3_ h4_ h5_ h6_ h7_ h8_ h9_ h10_ h11_ h12_ h13_ h14_ h15_ h16_ h17_ h18_ h19_ h20_ h21_ h22_
                    have BK149 := n0_
                    have BK156 := n1_
                    have BK157 := n2_
                    have BK158 := n3_
                    have GW156 := Aside1.mk n4_.out
                    have GE156 := Aside1.mk n5_.out
                    have NB149_156 := n6_
                    have NB156_149 := n7_
                    have NB157_156 := n8_
                    have NB156_157 := n9_
                    have NB158_156 := n10_
                    have NB156_158 := n11_
                    have GW157 := Aside1.mk n12_.out
                    have GE157 := Aside1.mk n13_.out
                    have NB149_157 := n14_
                    have NB157_149 := n15_
                    have NB158_157 := n16_
                    have NB157_158 := n17_
                    have GW158 := Aside1.mk n18_.out
                    have GE158 := Aside1.mk n19_.out
                    have NB149_158 := n20_
                    have NB158_149 := n21_
                    have HB := n22_
                    clear n0_ n1_ n2_ n3_ n4_ n5_ n6_ n7_ n8_ n9_ n10_ n11_ n12_ n13_ n14_ n15_ n16_ n17_ n18_ n19_ n20_ n21_ n22_
                    have hHeld : w28.cell? ⟨gb149, 0, none⟩ = some (.int .u64 a2_0) ∧ w28.cell? ⟨gb149, 1, none⟩ = some (.int .u64 a2_1) ∧ w28.cell? ⟨gb149, 2, none⟩ = some (.int .u64 a2_2) ∧ w28.cell? ⟨gb149, 3, none⟩ = some (.int .u64 a2_3) ∧ w28.cell? ⟨gb149, 4, none⟩ = some (.int .u64 a2_4) ∧ w28.cell? ⟨gb149, 5, none⟩ = some (.int .u64 a2_5) := hS_
                    refine norm_ (a' := ?_) ?_ ?_
                    rotate_left
                    ·simp only [putAll, Act.put, sA, s0, sS]
                     rfl
                    refine one_ (i := 3) (N := some 30) #[yy, yy, yy, yy, yy, yy, yy, nn, yy, yy, yy, nn, yy, yy, yy, nn, nn, nn] rfl rfl (one_of HT_.out (by kernel_rfl)) (by decide) (fun K hK => ?_)
                    refine goes_ Try.func10 (by kernel_rfl) rfl #[.int .i64 (lv8 a0), .agg #[.int .u64 a2_0, .int .u64 a2_1]] (by rfl) rfl rfl (by (try simp only [mA, mC, mN]); first | done | rfl | (simp only [List.length_drop, List.length_take]; rfl)) ?_
                    with_reducible refine (steeplelaw33_of.calls (lv8 a0) a2_0 a2_1 t150 t151 _ A5.out).mono ?_
                    rintro e w29 ⟨rfl, hb⟩
                    refine ⟨_, rfl, ?_⟩
                    replace BK149 := bb BK149 hb
                    replace BK156 := bb BK156 hb
                    replace BK157 := bb BK157 hb
                    replace BK158 := bb BK158 hb
                    replace HB := bh HB hb
                    (try clear hb)
                    refine hK.out _ _ (zc6 BK149) (fun hHeld => ?_)
                    clear hK K
                    refine norm_ (a' := ?_) ?_ ?_
                    rotate_left
                    ·show Act.put _ (some 30) _ = _
                     simp only [Act.put, sA, s0, sS, i64_w, i32_w]
                     rfl
                    exact norm_ (by simp only [putAll, Act.put, sA, s0, sS] <;> rfl) (hJ3_12_13_14 (gb156, gb157, gb158) _ ⟨hHeld, (bk BK149.out), (bk BK156.out), (bk BK157.out), (bk BK158.out), GW156.out, GE156.out, NB149_156.out, NB156_149.out, NB157_156.out, NB156_157.out, NB158_156.out, NB156_158.out, GW157.out, GE157.out, NB149_157.out, NB157_149.out, NB158_157.out, NB157_158.out, GW158.out, GE158.out, NB149_158.out, NB158_149.out, (bq HB.out)⟩)
                   skip
                   rintro ⟨gb157, gb158⟩ w28 ⟨hS_, h0_, h1_, h2_, h3_, h4_, h5_, h6_, h7_, h8_, h9_, h10_, h11_, h12_, h13_⟩
                   have n0_ : Aside0 (w28.heap[gb149]? = some (.cells #[.int .u64 a2_0, .int .u64 a2_1, .int .u64 a2_2, .int .u64 a2_3, .int .u64 a2_4, .int .u64 a2_5] 26 (0, 0))) := ⟨h0_⟩
                   have n1_ : Aside0 (w28.heap[gb157]? = some (.cells #[.int .u64 0, .int .u64 0] 24 (0, 0))) := ⟨h1_⟩
                   have n2_ : Aside0 (w28.heap[gb158]? = some (.cells #[.int .u64 0, .int .u64 0] 24 (0, 0))) := ⟨h2_⟩
                   have n3_ : Aside0 (w.heap.size ≤ gb157) := ⟨h3_⟩
                   have n4_ : Aside0 (w.heap.size ≤ gb157) := ⟨h4_⟩
                   have n5_ : Aside0 (gb149 ≠ gb157) := ⟨h5_⟩
                   have n6_ : Aside0 (gb157 ≠ gb149) := ⟨h6_⟩
                   have n7_ : Aside0 (gb158 ≠ gb157) := ⟨h7_⟩
                   have n8_ : Aside0 (gb157 ≠ gb158) := ⟨h8_⟩
                   have n9_ : Aside0 (w.heap.size ≤ gb158) := ⟨h9_⟩
                   have n10_ : Aside0 (w.heap.size ≤ gb158) := ⟨h10_⟩
                   have n11_ : Aside0 (gb149 ≠ gb158) := ⟨h11_⟩
                   have n12_ : Aside0 (gb158 ≠ gb149) := ⟨h12_⟩
                   have n13_ : Aside0 (Below w.heap.size w w28) := ⟨h13_⟩
                   clear BK149
                   clear HB
                   clear h0_ h1_ h2_ h3_ h4_ h5_ h6_ h7_ h8_ h9_ h10_ h11_ h12_ h13_
                   have BK149 := n0_
                   have BK157 := n1_
                   have BK158 := n2_
                   have GW157 := Aside1.mk n3_.out
                   have GE157 := Aside1.mk n4_.out
                   have NB149_157 := n5_
                   have NB157_149 := n6_
                   have NB158_157 := n7_
                   have NB157_158 := n8_
                   have GW158 := Aside1.mk n9_.out
                   have GE158 := Aside1.mk n10_.out
                   have NB149_158 := n11_
                   have NB158_149 := n12_
                   have HB := n13_
                   clear n0_ n1_ n2_ n3_ n4_ n5_ n6_ n7_ n8_ n9_ n10_ n11_ n12_ n13_
                   have hHeld : w28.cell? ⟨gb149, 0, none⟩ = some (.int .u64 a2_0) ∧ w28.cell? ⟨gb149, 1, none⟩ = some (.int .u64 a2_1) ∧ w28.cell? ⟨gb149, 2, none⟩ = some (.int .u64 a2_2) ∧ w28.cell? ⟨gb149, 3, none⟩ = some (.int .u64 a2_3) ∧ w28.cell? ⟨gb149, 4, none⟩ = some (.int .u64 a2_4) ∧ w28.cell? ⟨gb149, 5, none⟩ = some (.int .u64 a2_5) := hS_
                   refine norm_ (a' := ?_) ?_ ?_
                   rotate_left
                   ·simp only [putAll, Act.put, sA, s0, sS]
                    rfl
                   refine two_ (i := 7) (j := 12) (Ni := some 34) (Nj := some 9) #[yy, yy, yy, yy, yy, yy, yy, yy, yy, yy, yy, nn, nn, yy, yy, nn, nn, nn] #[yy, yy, yy, yy, yy, yy, yy, nn, yy, yy, yy, nn, yy, yy, yy, nn, nn, nn] rfl rfl rfl rfl (two_of HT_.out (by kernel_rfl)) (by decide) (by decide) (fun K hK => ?_) (fun K hK => ?_)
                   ·skip
                    refine goes_ Try.func10 (by kernel_rfl) rfl #[.int .i64 (lv8 a0), .agg #[.int .u64 a2_2, .int .u64 a2_3]] (by rfl) rfl rfl (by (try simp only [mA, mC, mN]); first | done | rfl | (simp only [List.length_drop, List.length_take]; rfl)) ?_
                    with_reducible refine (steeplelaw33_of.calls (lv8 a0) a2_2 a2_3 t152 t153 _ A6.out).mono ?_
                    rintro e w29 ⟨rfl, hb⟩
                    refine ⟨_, rfl, ?_⟩
                    replace BK149 := bb BK149 hb
                    replace BK157 := bb BK157 hb
                    replace BK158 := bb BK158 hb
                    replace HB := bh HB hb
                    (try clear hb)
                    refine hK.out _ _ (zc6 BK149) (fun hHeld => ?_)
                    clear hK K
                    refine norm_ (a' := ?_) ?_ ?_
                    rotate_left
                    ·show Act.put _ (some 34) _ = _
                     simp only [Act.put, sA, s0, sS, i64_w, i32_w]
                     rfl
                    exact norm_ (by simp only [putAll, Act.put, sA, s0, sS] <;> rfl) (hJ3_7_13_14 (gb157, gb158) _ ⟨hHeld, (bk BK149.out), (bk BK157.out), (bk BK158.out), GW157.out, GE157.out, NB149_157.out, NB157_149.out, NB158_157.out, NB157_158.out, GW158.out, GE158.out, NB149_158.out, NB158_149.out, (bq HB.out)⟩)
                   skip
                   refine box_step ?hg (N := 9) ?hd (cs := #[.int .u64 0, .int .u64 0]) (t := 24) ?hr ?_; (case hd => rfl); (case hg => rfl); (case hr => go_simp <;> rfl)
                   intro gb156 hg w29 hbox hb
                   have BK156 := Aside0.mk hbox
                   have GW156 := ge hg HB
                   have GE156 := ge hg HB
                   have NB149_156 := nl hg BK149
                   have NB156_149 := ng hg BK149
                   have NB157_156 := nl hg BK157
                   have NB156_157 := ng hg BK157
                   have NB158_156 := nl hg BK158
                   have NB156_158 := ng hg BK158
                   replace BK149 := bb BK149 hb
                   replace BK157 := bb BK157 hb
                   replace BK158 := bb BK158 hb
                   replace HB := bh HB hb
                   clear hb hbox hg
                   refine hK.out _ _ (zc6 BK149) (fun hHeld => ?_)
                   clear hK K
                   refine norm_ (a' := ?_) ?_ ?_
                   rotate_left
                   ·show Act.put _ (some 9) _ = _
                    simp only [Act.put, sA, s0, sS, i64_w, i32_w]
                    rfl
                   exact norm_ (by simp only [putAll, Act.put, sA, s0, sS] <;> rfl) (hJ3_12_13_14 (gb156, gb157, gb158) _ ⟨hHeld, (bk BK149.out), (bk BK156.out), (bk BK157.out), (bk BK158.out), GW156.out, GE156.out, NB149_156.out, NB156_149.out, NB157_156.out, NB156_157.out, NB158_156.out, NB156_158.out, GW157.out, GE157.out, NB149_157.out, NB157_149.out, NB158_157.out, NB157_158.out, GW158.out, GE158.out, NB149_158.out, NB158_149.out, (bq HB.out)⟩)
                  skip
                  rintro ⟨gb156, gb158⟩ w28 ⟨hS_, h0_, h1_, h2_, h3_, h4_, h5_, h6_, h7_, h8_, h9_, h10_, h11_, h12_, h13_⟩
                  have n0_ : Aside0 (w28.heap[gb149]? = some (.cells #[.int .u64 a2_0, .int .u64 a2_1, .int .u64 a2_2, .int .u64 a2_3, .int .u64 a2_4, .int .u64 a2_5] 26 (0, 0))) := ⟨h0_⟩
                  have n1_ : Aside0 (w28.heap[gb156]? = some (.cells #[.int .u64 0, .int .u64 0] 24 (0, 0))) := ⟨h1_⟩
                  have n2_ : Aside0 (w28.heap[gb158]? = some (.cells #[.int .u64 0, .int .u64 0] 24 (0, 0))) := ⟨h2_⟩
                  have n3_ : Aside0 (w.heap.size ≤ gb156) := ⟨h3_⟩
                  have n4_ : Aside0 (w.heap.size ≤ gb156) := ⟨h4_⟩
                  have n5_ : Aside0 (gb149 ≠ gb156) := ⟨h5_⟩
                  have n6_ : Aside0 (gb156 ≠ gb149) := ⟨h6_⟩
                  have n7_ : Aside0 (gb158 ≠ gb156) := ⟨h7_⟩
                  have n8_ : Aside0 (gb156 ≠ gb158) := ⟨h8_⟩
                  have n9_ : Aside0 (w.heap.size ≤ gb158) := ⟨h9_⟩
                  have n10_ : Aside0 (w.heap.size ≤ gb158) := ⟨h10_⟩
                  have n11_ : Aside0 (gb149 ≠ gb158) := ⟨h11_⟩
                  have n12_ : Aside0 (gb158 ≠ gb149) := ⟨h12_⟩
                  have n13_ : Aside0 (Below w.heap.size w w28) := ⟨h13_⟩
                  clear BK149
                  clear HB
                  clear h0_ h1_ h2_ h3_ h4_ h5_ h6_ h7_ h8_ h9_ h10_ h11_ h12_ h13_
                  have BK149 := n0_
                  have BK156 := n1_
                  have BK158 := n2_
                  have GW156 := Aside1.mk n3_.out
                  have GE156 := Aside1.mk n4_.out
                  have NB149_156 := n5_
                  have NB156_149 := n6_
                  have NB158_156 := n7_
                  have NB156_158 := n8_
                  have GW158 := Aside1.mk n9_.out
                  have GE158 := Aside1.mk n10_.out
                  have NB149_158 := n11_
                  have NB158_149 := n12_
                  have HB := n13_
                  clear n0_ n1_ n2_ n3_ n4_ n5_ n6_ n7_ n8_ n9_ n10_ n11_ n12_ n13_
                  have hHeld : w28.cell? ⟨gb149, 0, none⟩ = some (.int .u64 a2_0) ∧ w28.cell? ⟨gb149, 1, none⟩ = some (.int .u64 a2_1) ∧ w28.cell? ⟨gb149, 2, none⟩ = some (.int .u64 a2_2) ∧ w28.cell? ⟨gb149, 3, none⟩ = some (.int .u64 a2_3) ∧ w28.cell? ⟨gb149, 4, none⟩ = some (.int .u64 a2_4) ∧ w28.cell? ⟨gb149, 5, none⟩ = some (.int .u64 a2_5) := hS_
                  refine norm_ (a' := ?_) ?_ ?_
                  rotate_left
                  ·simp only [putAll, Act.put, sA, s0, sS]
                   rfl
                  refine two_ (i := 7) (j := 13) (Ni := some 34) (Nj := some 10) #[yy, yy, yy, yy, yy, yy, yy, yy, yy, yy, yy, nn, yy, nn, yy, nn, nn, nn] #[yy, yy, yy, yy, yy, yy, yy, nn, yy, yy, yy, nn, yy, yy, yy, nn, nn, nn] rfl rfl rfl rfl (two_of HT_.out (by kernel_rfl)) (by decide) (by decide) (fun K hK => ?_) (fun K hK => ?_)
                  ·skip
                   refine goes_ Try.func10 (by kernel_rfl) rfl #[.int .i64 (lv8 a0), .agg #[.int .u64 a2_2, .int .u64 a2_3]] (by rfl) rfl rfl (by (try simp only [mA, mC, mN]); first | done | rfl | (simp only [List.length_drop, List.length_take]; rfl)) ?_
                   with_reducible refine (steeplelaw33_of.calls (lv8 a0) a2_2 a2_3 t152 t153 _ A6.out).mono ?_
                   rintro e w29 ⟨rfl, hb⟩
                   refine ⟨_, rfl, ?_⟩
                   replace BK149 := bb BK149 hb
                   replace BK156 := bb BK156 hb
                   replace BK158 := bb BK158 hb
                   replace HB := bh HB hb
                   (try clear hb)
                   refine hK.out _ _ (zc6 BK149) (fun hHeld => ?_)
                   clear hK K
                   refine norm_ (a' := ?_) ?_ ?_
                   rotate_left
                   ·show Act.put _ (some 34) _ = _
                    simp only [Act.put, sA, s0, sS, i64_w, i32_w]
                    rfl
                   exact norm_ (by simp only [putAll, Act.put, sA, s0, sS] <;> rfl) (hJ3_7_12_14 (gb156, gb158) _ ⟨hHeld, (bk BK149.out), (bk BK156.out), (bk BK158.out), GW156.out, GE156.out, NB149_156.out, NB156_149.out, NB158_156.out, NB156_158.out, GW158.out, GE158.out, NB149_158.out, NB158_149.out, (bq HB.out)⟩)
                  skip
                  refine box_step ?hg (N := 10) ?hd (cs := #[.int .u64 0, .int .u64 0]) (t := 24) ?hr ?_; (case hd => rfl); (case hg => rfl); (case hr => go_simp <;> rfl)
                  intro gb157 hg w29 hbox hb
                  have BK157 := Aside0.mk hbox
                  have GW157 := ge hg HB
                  have GE157 := ge hg HB
                  have NB149_157 := nl hg BK149
                  have NB157_149 := ng hg BK149
                  have NB156_157 := nl hg BK156
                  have NB157_156 := ng hg BK156
                  have NB158_157 := nl hg BK158
                  have NB157_158 := ng hg BK158
                  replace BK149 := bb BK149 hb
                  replace BK156 := bb BK156 hb
                  replace BK158 := bb BK158 hb
                  replace HB := bh HB hb
                  clear hb hbox hg
                  refine hK.out _ _ (zc6 BK149) (fun hHeld => ?_)
                  clear hK K
                  refine norm_ (a' := ?_) ?_ ?_
                  rotate_left
                  ·show Act.put _ (some 10) _ = _
                   simp only [Act.put, sA, s0, sS, i64_w, i32_w]
                   rfl
                  exact norm_ (by simp only [putAll, Act.put, sA, s0, sS] <;> rfl) (hJ3_12_13_14 (gb156, gb157, gb158) _ ⟨hHeld, (bk BK149.out), (bk BK156.out), (bk BK157.out), (bk BK158.out), GW156.out, GE156.out, NB149_156.out, NB156_149.out, NB157_156.out, NB156_157.out, NB158_156.out, NB156_158.out, GW157.out, GE157.out, NB149_157.out, NB157_149.out, NB158_157.out, NB157_158.out, GW158.out, GE158.out, NB149_158.out, NB158_149.out, (bq HB.out)⟩)
                 skip
                 rintro ⟨gb156, gb157⟩ w28 ⟨hS_, h0_, h1_, h2_, h3_, h4_, h5_, h6_, h7_, h8_, h9_, h10_, h11_, h12_, h13_⟩
                 have n0_ : Aside0 (w28.heap[gb149]? = some (.cells #[.int .u64 a2_0, .int .u64 a2_1, .int .u64 a2_2, .int .u64 a2_3, .int .u64 a2_4, .int .u64 a2_5] 26 (0, 0))) := ⟨h0_⟩
                 have n1_ : Aside0 (w28.heap[gb156]? = some (.cells #[.int .u64 0, .int .u64 0] 24 (0, 0))) := ⟨h1_⟩
                 have n2_ : Aside0 (w28.heap[gb157]? = some (.cells #[.int .u64 0, .int .u64 0] 24 (0, 0))) := ⟨h2_⟩
                 have n3_ : Aside0 (w.heap.size ≤ gb156) := ⟨h3_⟩
                 have n4_ : Aside0 (w.heap.size ≤ gb156) := ⟨h4_⟩
                 have n5_ : Aside0 (gb149 ≠ gb156) := ⟨h5_⟩
                 have n6_ : Aside0 (gb156 ≠ gb149) := ⟨h6_⟩
                 have n7_ : Aside0 (gb157 ≠ gb156) := ⟨h7_⟩
                 have n8_ : Aside0 (gb156 ≠ gb157) := ⟨h8_⟩
                 have n9_ : Aside0 (w.heap.size ≤ gb157) := ⟨h9_⟩
                 have n10_ : Aside0 (w.heap.size ≤ gb157) := ⟨h10_⟩
                 have n11_ : Aside0 (gb149 ≠ gb157) := ⟨h11_⟩
                 have n12_ : Aside0 (gb157 ≠ gb149) := ⟨h12_⟩
                 have n13_ : Aside0 (Below w.heap.size w w28) := ⟨h13_⟩
                 clear BK149
                 clear HB
                 clear h0_ h1_ h2_ h3_ h4_ h5_ h6_ h7_ h8_ h9_ h10_ h11_ h12_ h13_
                 have BK149 := n0_
                 have BK156 := n1_
                 have BK157 := n2_
                 have GW156 := Aside1.mk n3_.out
                 have GE156 := Aside1.mk n4_.out
                 have NB149_156 := n5_
                 have NB156_149 := n6_
                 have NB157_156 := n7_
                 have NB156_157 := n8_
                 have GW157 := Aside1.mk n9_.out
                 have GE157 := Aside1.mk n10_.out
                 have NB149_157 := n11_
                 have NB157_149 := n12_
                 have HB := n13_
                 clear n0_ n1_ n2_ n3_ n4_ n5_ n6_ n7_ n8_ n9_ n10_ n11_ n12_ n13_
                 have hHeld : w28.cell? ⟨gb149, 0, none⟩ = some (.int .u64 a2_0) ∧ w28.cell? ⟨gb149, 1, none⟩ = some (.int .u64 a2_1) ∧ w28.cell? ⟨gb149, 2, none⟩ = some (.int .u64 a2_2) ∧ w28.cell? ⟨gb149, 3, none⟩ = some (.int .u64 a2_3) ∧ w28.cell? ⟨gb149, 4, none⟩ = some (.int .u64 a2_4) ∧ w28.cell? ⟨gb149, 5, none⟩ = some (.int .u64 a2_5) := hS_
                 refine norm_ (a' := ?_) ?_ ?_
                 rotate_left
                 ·simp only [putAll, Act.put, sA, s0, sS]
                  rfl
                 refine two_ (i := 7) (j := 14) (Ni := some 34) (Nj := some 11) #[yy, yy, yy, yy, yy, yy, yy, yy, yy, yy, yy, nn, yy, yy, nn, nn, nn, nn] #[yy, yy, yy, yy, yy, yy, yy, nn, yy, yy, yy, nn, yy, yy, yy, nn, nn, nn] rfl rfl rfl rfl (two_of HT_.out (by kernel_rfl)) (by decide) (by decide) (fun K hK => ?_) (fun K hK => ?_)
                 ·skip
                  refine goes_ Try.func10 (by kernel_rfl) rfl #[.int .i64 (lv8 a0), .agg #[.int .u64 a2_2, .int .u64 a2_3]] (by rfl) rfl rfl (by (try simp only [mA, mC, mN]); first | done | rfl | (simp only [List.length_drop, List.length_take]; rfl)) ?_
                  with_reducible refine (steeplelaw33_of.calls (lv8 a0) a2_2 a2_3 t152 t153 _ A6.out).mono ?_
                  rintro e w29 ⟨rfl, hb⟩
                  refine ⟨_, rfl, ?_⟩
                  replace BK149 := bb BK149 hb
                  replace BK156 := bb BK156 hb
                  replace BK157 := bb BK157 hb
                  replace HB := bh HB hb
                  (try clear hb)
                  refine hK.out _ _ (zc6 BK149) (fun hHeld => ?_)
                  clear hK K
                  refine norm_ (a' := ?_) ?_ ?_
                  rotate_left
                  ·show Act.put _ (some 34) _ = _
                   simp only [Act.put, sA, s0, sS, i64_w, i32_w]
                   rfl
                  exact norm_ (by simp only [putAll, Act.put, sA, s0, sS] <;> rfl) (hJ3_7_12_13 (gb156, gb157) _ ⟨hHeld, (bk BK149.out), (bk BK156.out), (bk BK157.out), GW156.out, GE156.out, NB149_156.out, NB156_149.out, NB157_156.out, NB156_157.out, GW157.out, GE157.out, NB149_157.out, NB157_149.out, (bq HB.out)⟩)
                 skip
                 refine box_step ?hg (N := 11) ?hd (cs := #[.int .u64 0, .int .u64 0]) (t := 24) ?hr ?_; (case hd => rfl); (case hg => rfl); (case hr => go_simp <;> rfl)
                 intro gb158 hg w29 hbox hb
                 have BK158 := Aside0.mk hbox
                 have GW158 := ge hg HB
                 have GE158 := ge hg HB
                 have NB149_158 := nl hg BK149
                 have NB158_149 := ng hg BK149
                 have NB156_158 := nl hg BK156
                 have NB158_156 := ng hg BK156
                 have NB157_158 := nl hg BK157
                 have NB158_157 := ng hg BK157
                 replace BK149 := bb BK149 hb
                 replace BK156 := bb BK156 hb
                 replace BK157 := bb BK157 hb
                 replace HB := bh HB hb
                 clear hb hbox hg
                 refine hK.out _ _ (zc6 BK149) (fun hHeld => ?_)
                 clear hK K
                 refine norm_ (a' := ?_) ?_ ?_
                 rotate_left
                 ·show Act.put _ (some 11) _ = _
                  simp only [Act.put, sA, s0, sS, i64_w, i32_w]
                  rfl
                 exact norm_ (by simp only [putAll, Act.put, sA, s0, sS] <;> rfl) (hJ3_12_13_14 (gb156, gb157, gb158) _ ⟨hHeld, (bk BK149.out), (bk BK156.out), (bk BK157.out), (bk BK158.out), GW156.out, GE156.out, NB149_156.out, NB156_149.out, NB157_156.out, NB156_157.out, NB158_156.out, NB156_158.out, GW157.out, GE157.out, NB149_157.out, NB157_149.out, NB158_157.out, NB157_158.out, GW158.out, GE158.out, NB149_158.out, NB158_149.out, (bq HB.out)⟩)
                skip
                rintro gb158 w28 ⟨hS_, h0_, h1_, h2_, h3_, h4_, h5_, h6_⟩
                have n0_ : Aside0 (w28.heap[gb149]? = some (.cells #[.int .u64 a2_0, .int .u64 a2_1, .int .u64 a2_2, .int .u64 a2_3, .int .u64 a2_4, .int .u64 a2_5] 26 (0, 0))) := ⟨h0_⟩
                have n1_ : Aside0 (w28.heap[gb158]? = some (.cells #[.int .u64 0, .int .u64 0] 24 (0, 0))) := ⟨h1_⟩
                have n2_ : Aside0 (w.heap.size ≤ gb158) := ⟨h2_⟩
                have n3_ : Aside0 (w.heap.size ≤ gb158) := ⟨h3_⟩
                have n4_ : Aside0 (gb149 ≠ gb158) := ⟨h4_⟩
                have n5_ : Aside0 (gb158 ≠ gb149) := ⟨h5_⟩
                have n6_ : Aside0 (Below w.heap.size w w28) := ⟨h6_⟩
                clear BK149
                clear HB
                clear h0_ h1_ h2_ h3_ h4_ h5_ h6_
                have BK149 := n0_
                have BK158 := n1_
                have GW158 := Aside1.mk n2_.out
                have GE158 := Aside1.mk n3_.out
                have NB149_158 := n4_
                have NB158_149 := n5_
                have HB := n6_
                clear n0_ n1_ n2_ n3_ n4_ n5_ n6_
                have hHeld : w28.cell? ⟨gb149, 0, none⟩ = some (.int .u64 a2_0) ∧ w28.cell? ⟨gb149, 1, none⟩ = some (.int .u64 a2_1) ∧ w28.cell? ⟨gb149, 2, none⟩ = some (.int .u64 a2_2) ∧ w28.cell? ⟨gb149, 3, none⟩ = some (.int .u64 a2_3) ∧ w28.cell? ⟨gb149, 4, none⟩ = some (.int .u64 a2_4) ∧ w28.cell? ⟨gb149, 5, none⟩ = some (.int .u64 a2_5) := hS_
                refine norm_ (a' := ?_) ?_ ?_
                rotate_left
                ·simp only [putAll, Act.put, sA, s0, sS]
                 rfl
                refine three_ (i := 11) (j := 12) (k := 13) (Ni := some 38) (Nj := some 9) (Nk := some 10) #[yy, yy, yy, yy, yy, yy, yy, yy, yy, yy, yy, yy, nn, nn, yy, nn, nn, nn] #[yy, yy, yy, yy, yy, yy, yy, yy, yy, yy, yy, nn, yy, nn, yy, nn, nn, nn] #[yy, yy, yy, yy, yy, yy, yy, yy, yy, yy, yy, nn, nn, yy, yy, nn, nn, nn] rfl rfl rfl rfl rfl rfl (three_of HT_.out (by kernel_rfl)) (by decide) (by decide) (by decide) (fun K hK => ?_) (fun K hK => ?_) (fun K hK => ?_)
                ·skip
                 refine goes_ Try.func10 (by kernel_rfl) rfl #[.int .i64 (lj8 a0 a1), .agg #[.int .u64 a2_4, .int .u64 a2_5]] (by rfl) rfl rfl (by (try simp only [mA, mC, mN]); first | done | rfl | (simp only [List.length_drop, List.length_take]; rfl)) ?_
                 with_reducible refine (steeplelaw33_of.calls (lj8 a0 a1) a2_4 a2_5 t154 t155 _ A7.out).mono ?_
                 rintro e w29 ⟨rfl, hb⟩
                 refine ⟨_, rfl, ?_⟩
                 replace BK149 := bb BK149 hb
                 replace BK158 := bb BK158 hb
                 replace HB := bh HB hb
                 (try clear hb)
                 refine hK.out _ _ (zc6 BK149) (fun hHeld => ?_)
                 clear hK K
                 refine norm_ (a' := ?_) ?_ ?_
                 rotate_left
                 ·show Act.put _ (some 38) _ = _
                  simp only [Act.put, sA, s0, sS, i64_w, i32_w]
                  rfl
                 exact norm_ (by simp only [putAll, Act.put, sA, s0, sS] <;> rfl) (hJ3_7_11_14 (gb158) _ ⟨hHeld, (bk BK149.out), (bk BK158.out), GW158.out, GE158.out, NB149_158.out, NB158_149.out, (bq HB.out)⟩)
                ·skip
                 refine box_step ?hg (N := 9) ?hd (cs := #[.int .u64 0, .int .u64 0]) (t := 24) ?hr ?_; (case hd => rfl); (case hg => rfl); (case hr => go_simp <;> rfl)
                 intro gb156 hg w29 hbox hb
                 have BK156 := Aside0.mk hbox
                 have GW156 := ge hg HB
                 have GE156 := ge hg HB
                 have NB149_156 := nl hg BK149
                 have NB156_149 := ng hg BK149
                 have NB158_156 := nl hg BK158
                 have NB156_158 := ng hg BK158
                 replace BK149 := bb BK149 hb
                 replace BK158 := bb BK158 hb
                 replace HB := bh HB hb
                 clear hb hbox hg
                 refine hK.out _ _ (zc6 BK149) (fun hHeld => ?_)
                 clear hK K
                 refine norm_ (a' := ?_) ?_ ?_
                 rotate_left
                 ·show Act.put _ (some 9) _ = _
                  simp only [Act.put, sA, s0, sS, i64_w, i32_w]
                  rfl
                 exact norm_ (by simp only [putAll, Act.put, sA, s0, sS] <;> rfl) (hJ3_7_12_14 (gb156, gb158) _ ⟨hHeld, (bk BK149.out), (bk BK156.out), (bk BK158.out), GW156.out, GE156.out, NB149_156.out, NB156_149.out, NB158_156.out, NB156_158.out, GW158.out, GE158.out, NB149_158.out, NB158_149.out, (bq HB.out)⟩)
                skip
                refine box_step ?hg (N := 10) ?hd (cs := #[.int .u64 0, .int .u64 0]) (t := 24) ?hr ?_; (case hd => rfl); (case hg => rfl); (case hr => go_simp <;> rfl)
                intro gb157 hg w29 hbox hb
                have BK157 := Aside0.mk hbox
                have GW157 := ge hg HB
                have GE157 := ge hg HB
                have NB149_157 := nl hg BK149
                have NB157_149 := ng hg BK149
                have NB158_157 := nl hg BK158
                have NB157_158 := ng hg BK158
                replace BK149 := bb BK149 hb
                replace BK158 := bb BK158 hb
                replace HB := bh HB hb
                clear hb hbox hg
                refine hK.out _ _ (zc6 BK149) (fun hHeld => ?_)
                clear hK K
                refine norm_ (a' := ?_) ?_ ?_
                rotate_left
                ·show Act.put _ (some 10) _ = _
                 simp only [Act.put, sA, s0, sS, i64_w, i32_w]
                 rfl
                exact norm_ (by simp only [putAll, Act.put, sA, s0, sS] <;> rfl) (hJ3_7_13_14 (gb157, gb158) _ ⟨hHeld, (bk BK149.out), (bk BK157.out), (bk BK158.out), GW157.out, GE157.out, NB149_157.out, NB157_149.out, NB158_157.out, NB157_158.out, GW158.out, GE158.out, NB149_158.out, NB158_149.out, (bq HB.out)⟩)
               skip
               rintro gb157 w28 ⟨hS_, h0_, h1_, h2_, h3_, h4_, h5_, h6_⟩
               have n0_ : Aside0 (w28.heap[gb149]? = some (.cells #[.int .u64 a2_0, .int .u64 a2_1, .int .u64 a2_2, .int .u64 a2_3, .int .u64 a2_4, .int .u64 a2_5] 26 (0, 0))) := ⟨h0_⟩
               have n1_ : Aside0 (w28.heap[gb157]? = some (.cells #[.int .u64 0, .int .u64 0] 24 (0, 0))) := ⟨h1_⟩
               have n2_ : Aside0 (w.heap.size ≤ gb157) := ⟨h2_⟩
               have n3_ : Aside0 (w.heap.size ≤ gb157) := ⟨h3_⟩
               have n4_ : Aside0 (gb149 ≠ gb157) := ⟨h4_⟩
               have n5_ : Aside0 (gb157 ≠ gb149) := ⟨h5_⟩
               have n6_ : Aside0 (Below w.heap.size w w28) := ⟨h6_⟩
               clear BK149
               clear HB
               clear h0_ h1_ h2_ h3_ h4_ h5_ h6_
               have BK149 := n0_
               have BK157 := n1_
               have GW157 := Aside1.mk n2_.out
               have GE157 := Aside1.mk n3_.out
               have NB149_157 := n4_
               have NB157_149 := n5_
               have HB := n6_
               clear n0_ n1_ n2_ n3_ n4_ n5_ n6_
               have hHeld : w28.cell? ⟨gb149, 0, none⟩ = some (.int .u64 a2_0) ∧ w28.cell? ⟨gb149, 1, none⟩ = some (.int .u64 a2_1) ∧ w28.cell? ⟨gb149, 2, none⟩ = some (.int .u64 a2_2) ∧ w28.cell? ⟨gb149, 3, none⟩ = some (.int .u64 a2_3) ∧ w28.cell? ⟨gb149, 4, none⟩ = some (.int .u64 a2_4) ∧ w28.cell? ⟨gb149, 5, none⟩ = some (.int .u64 a2_5) := hS_
               refine norm_ (a' := ?_) ?_ ?_
               rotate_left
               ·simp only [putAll, Act.put, sA, s0, sS]
                rfl
               refine three_ (i := 11) (j := 12) (k := 14) (Ni := some 38) (Nj := some 9) (Nk := some 11) #[yy, yy, yy, yy, yy, yy, yy, yy, yy, yy, yy, yy, nn, yy, nn, nn, nn, nn] #[yy, yy, yy, yy, yy, yy, yy, yy, yy, yy, yy, nn, yy, yy, nn, nn, nn, nn] #[yy, yy, yy, yy, yy, yy, yy, yy, yy, yy, yy, nn, nn, yy, yy, nn, nn, nn] rfl rfl rfl rfl rfl rfl (three_of HT_.out (by kernel_rfl)) (by decide) (by decide) (by decide) (fun K hK => ?_) (fun K hK => ?_) (fun K hK => ?_)
               ·skip
                refine goes_ Try.func10 (by kernel_rfl) rfl #[.int .i64 (lj8 a0 a1), .agg #[.int .u64 a2_4, .int .u64 a2_5]] (by rfl) rfl rfl (by (try simp only [mA, mC, mN]); first | done | rfl | (simp only [List.length_drop, List.length_take]; rfl)) ?_
                with_reducible refine (steeplelaw33_of.calls (lj8 a0 a1) a2_4 a2_5 t154 t155 _ A7.out).mono ?_
                rintro e w29 ⟨rfl, hb⟩
                refine ⟨_, rfl, ?_⟩
                replace BK149 := bb BK149 hb
                replace BK157 := bb BK157 hb
                replace HB := bh HB hb
                (try clear hb)
                refine hK.out _ _ (zc6 BK149) (fun hHeld => ?_)
                clear hK K
                refine norm_ (a' := ?_) ?_ ?_
                rotate_left
                ·show Act.put _ (some 38) _ = _
                 simp only [Act.put, sA, s0, sS, i64_w, i32_w]
                 rfl
                exact norm_ (by simp only [putAll, Act.put, sA, s0, sS] <;> rfl) (hJ3_7_11_13 (gb157) _ ⟨hHeld, (bk BK149.out), (bk BK157.out), GW157.out, GE157.out, NB149_157.out, NB157_149.out, (bq HB.out)⟩)
               ·skip
                refine box_step ?hg (N := 9) ?hd (cs := #[.int .u64 0, .int .u64 0]) (t := 24) ?hr ?_; (case hd => rfl); (case hg => rfl); (case hr => go_simp <;> rfl)
                intro gb156 hg w29 hbox hb
                have BK156 := Aside0.mk hbox
                have GW156 := ge hg HB
                have GE156 := ge hg HB
                have NB149_156 := nl hg BK149
                have NB156_149 := ng hg BK149
                have NB157_156 := nl hg BK157
                have NB156_157 := ng hg BK157
                replace BK149 := bb BK149 hb
                replace BK157 := bb BK157 hb
                replace HB := bh HB hb
                clear hb hbox hg
                refine hK.out _ _ (zc6 BK149) (fun hHeld => ?_)
                clear hK K
                refine norm_ (a' := ?_) ?_ ?_
                rotate_left
                ·show Act.put _ (some 9) _ = _
                 simp only [Act.put, sA, s0, sS, i64_w, i32_w]
                 rfl
                exact norm_ (by simp only [putAll, Act.put, sA, s0, sS] <;> rfl) (hJ3_7_12_13 (gb156, gb157) _ ⟨hHeld, (bk BK149.out), (bk BK156.out), (bk BK157.out), GW156.out, GE156.out, NB149_156.out, NB156_149.out, NB157_156.out, NB156_157.out, GW157.out, GE157.out, NB149_157.out, NB157_149.out, (bq HB.out)⟩)
               skip
               refine box_step ?hg (N := 11) ?hd (cs := #[.int .u64 0, .int .u64 0]) (t := 24) ?hr ?_; (case hd => rfl); (case hg => rfl); (case hr => go_simp <;> rfl)
               intro gb158 hg w29 hbox hb
               have BK158 := Aside0.mk hbox
               have GW158 := ge hg HB
               have GE158 := ge hg HB
               have NB149_158 := nl hg BK149
               have NB158_149 := ng hg BK149
               have NB157_158 := nl hg BK157
               have NB158_157 := ng hg BK157
               replace BK149 := bb BK149 hb
               replace BK157 := bb BK157 hb
               replace HB := bh HB hb
               clear hb hbox hg
               refine hK.out _ _ (zc6 BK149) (fun hHeld => ?_)
               clear hK K
               refine norm_ (a' := ?_) ?_ ?_
               rotate_left
               ·show Act.put _ (some 11) _ = _
                simp only [Act.put, sA, s0, sS, i64_w, i32_w]
                rfl
               exact norm_ (by simp only [putAll, Act.put, sA, s0, sS] <;> rfl) (hJ3_7_13_14 (gb157, gb158) _ ⟨hHeld, (bk BK149.out), (bk BK157.out), (bk BK158.out), GW157.out, GE157.out, NB149_157.out, NB157_149.out, NB158_157.out, NB157_158.out, GW158.out, GE158.out, NB149_158.out, NB158_149.out, (bq HB.out)⟩)
              skip
              rintro gb156 w28 ⟨hS_, h0_, h1_, h2_, h3_, h4_, h5_, h6_⟩
              have n0_ : Aside0 (w28.heap[gb149]? = some (.cells #[.int .u64 a2_0, .int .u64 a2_1, .int .u64 a2_2, .int .u64 a2_3, .int .u64 a2_4, .int .u64 a2_5] 26 (0, 0))) := ⟨h0_⟩
              have n1_ : Aside0 (w28.heap[gb156]? = some (.cells #[.int .u64 0, .int .u64 0] 24 (0, 0))) := ⟨h1_⟩
              have n2_ : Aside0 (w.heap.size ≤ gb156) := ⟨h2_⟩
              have n3_ : Aside0 (w.heap.size ≤ gb156) := ⟨h3_⟩
              have n4_ : Aside0 (gb149 ≠ gb156) := ⟨h4_⟩
              have n5_ : Aside0 (gb156 ≠ gb149) := ⟨h5_⟩
              have n6_ : Aside0 (Below w.heap.size w w28) := ⟨h6_⟩
              clear BK149
              clear HB
              clear h0_ h1_ h2_ h3_ h4_ h5_ h6_
              have BK149 := n0_
              have BK156 := n1_
              have GW156 := Aside1.mk n2_.out
              have GE156 := Aside1.mk n3_.out
              have NB149_156 := n4_
              have NB156_149 := n5_
              have HB := n6_
              clear n0_ n1_ n2_ n3_ n4_ n5_ n6_
              have hHeld : w28.cell? ⟨gb149, 0, none⟩ = some (.int .u64 a2_0) ∧ w28.cell? ⟨gb149, 1, none⟩ = some (.int .u64 a2_1) ∧ w28.cell? ⟨gb149, 2, none⟩ = some (.int .u64 a2_2) ∧ w28.cell? ⟨gb149, 3, none⟩ = some (.int .u64 a2_3) ∧ w28.cell? ⟨gb149, 4, none⟩ = some (.int .u64 a2_4) ∧ w28.cell? ⟨gb149, 5, none⟩ = some (.int .u64 a2_5) := hS_
              refine norm_ (a' := ?_) ?_ ?_
              rotate_left
              ·simp only [putAll, Act.put, sA, s0, sS]
               rfl
              refine three_ (i := 11) (j := 13) (k := 14) (Ni := some 38) (Nj := some 10) (Nk := some 11) #[yy, yy, yy, yy, yy, yy, yy, yy, yy, yy, yy, yy, yy, nn, nn, nn, nn, nn] #[yy, yy, yy, yy, yy, yy, yy, yy, yy, yy, yy, nn, yy, yy, nn, nn, nn, nn] #[yy, yy, yy, yy, yy, yy, yy, yy, yy, yy, yy, nn, yy, nn, yy, nn, nn, nn] rfl rfl rfl rfl rfl rfl (three_of HT_.out (by kernel_rfl)) (by decide) (by decide) (by decide) (fun K hK => ?_) (fun K hK => ?_) (fun K hK => ?_)
              ·skip
               refine goes_ Try.func10 (by kernel_rfl) rfl #[.int .i64 (lj8 a0 a1), .agg #[.int .u64 a2_4, .int .u64 a2_5]] (by rfl) rfl rfl (by (try simp only [mA, mC, mN]); first | done | rfl | (simp only [List.length_drop, List.length_take]; rfl)) ?_
               with_reducible refine (steeplelaw33_of.calls (lj8 a0 a1) a2_4 a2_5 t154 t155 _ A7.out).mono ?_
               rintro e w29 ⟨rfl, hb⟩
               refine ⟨_, rfl, ?_⟩
               replace BK149 := bb BK149 hb
               replace BK156 := bb BK156 hb
               replace HB := bh HB hb
               (try clear hb)
               refine hK.out _ _ (zc6 BK149) (fun hHeld => ?_)
               clear hK K
               refine norm_ (a' := ?_) ?_ ?_
               rotate_left
               ·show Act.put _ (some 38) _ = _
                simp only [Act.put, sA, s0, sS, i64_w, i32_w]
                rfl
               exact norm_ (by simp only [putAll, Act.put, sA, s0, sS] <;> rfl) (hJ3_7_11_12 (gb156) _ ⟨hHeld, (bk BK149.out), (bk BK156.out), GW156.out, GE156.out, NB149_156.out, NB156_149.out, (bq HB.out)⟩)
              ·skip
               refine box_step ?hg (N := 10) ?hd (cs := #[.int .u64 0, .int .u64 0]) (t := 24) ?hr ?_; (case hd => rfl); (case hg => rfl); (case hr => go_simp <;> rfl)
               intro gb157 hg w29 hbox hb
               have BK157 := Aside0.mk hbox
               have GW157 := ge hg HB
               have GE157 := ge hg HB
               have NB149_157 := nl hg BK149
               have NB157_149 := ng hg BK149
               have NB156_157 := nl hg BK156
               have NB157_156 := ng hg BK156
               replace BK149 := bb BK149 hb
               replace BK156 := bb BK156 hb
               replace HB := bh HB hb
               clear hb hbox hg
               refine hK.out _ _ (zc6 BK149) (fun hHeld => ?_)
               clear hK K
               refine norm_ (a' := ?_) ?_ ?_
               rotate_left
               ·show Act.put _ (some 10) _ = _
                simp only [Act.put, sA, s0, sS, i64_w, i32_w]
                rfl
               exact norm_ (by simp only [putAll, Act.put, sA, s0, sS] <;> rfl) (hJ3_7_12_13 (gb156, gb157) _ ⟨hHeld, (bk BK149.out), (bk BK156.out), (bk BK157.out), GW156.out, GE156.out, NB149_156.out, NB156_149.out, NB157_156.out, NB156_157.out, GW157.out, GE157.out, NB149_157.out, NB157_149.out, (bq HB.out)⟩)
              skip
              refine box_step ?hg (N := 11) ?hd (cs := #[.int .u64 0, .int .u64 0]) (t := 24) ?hr ?_; (case hd => rfl); (case hg => rfl); (case hr => go_simp <;> rfl)
              intro gb158 hg w29 hbox hb
              have BK158 := Aside0.mk hbox
              have GW158 := ge hg HB
              have GE158 := ge hg HB
              have NB149_158 := nl hg BK149
              have NB158_149 := ng hg BK149
              have NB156_158 := nl hg BK156
              have NB158_156 := ng hg BK156
              replace BK149 := bb BK149 hb
              replace BK156 := bb BK156 hb
              replace HB := bh HB hb
              clear hb hbox hg
              refine hK.out _ _ (zc6 BK149) (fun hHeld => ?_)
              clear hK K
              refine norm_ (a' := ?_) ?_ ?_
              rotate_left
              ·show Act.put _ (some 11) _ = _
               simp only [Act.put, sA, s0, sS, i64_w, i32_w]
               rfl
              exact norm_ (by simp only [putAll, Act.put, sA, s0, sS] <;> rfl) (hJ3_7_12_14 (gb156, gb158) _ ⟨hHeld, (bk BK149.out), (bk BK156.out), (bk BK158.out), GW156.out, GE156.out, NB149_156.out, NB156_149.out, NB158_156.out, NB156_158.out, GW158.out, GE158.out, NB149_158.out, NB158_149.out, (bq HB.out)⟩)
             skip
             rintro _ w28 ⟨hS_, h0_, h1_⟩
             have n0_ : Aside0 (w28.heap[gb149]? = some (.cells #[.int .u64 a2_0, .int .u64 a2_1, .int .u64 a2_2, .int .u64 a2_3, .int .u64 a2_4, .int .u64 a2_5] 26 (0, 0))) := ⟨h0_⟩
             have n1_ : Aside0 (Below w.heap.size w w28) := ⟨h1_⟩
             clear BK149
             clear HB
             clear h0_ h1_
             have BK149 := n0_
             have HB := n1_
             clear n0_ n1_
             have hHeld : w28.cell? ⟨gb149, 0, none⟩ = some (.int .u64 a2_0) ∧ w28.cell? ⟨gb149, 1, none⟩ = some (.int .u64 a2_1) ∧ w28.cell? ⟨gb149, 2, none⟩ = some (.int .u64 a2_2) ∧ w28.cell? ⟨gb149, 3, none⟩ = some (.int .u64 a2_3) ∧ w28.cell? ⟨gb149, 4, none⟩ = some (.int .u64 a2_4) ∧ w28.cell? ⟨gb149, 5, none⟩ = some (.int .u64 a2_5) := hS_
             refine norm_ (a' := ?_) ?_ ?_
             rotate_left
             ·simp only [putAll, Act.put, sA, s0, sS]
              rfl
             refine three_ (i := 12) (j := 13) (k := 14) (Ni := some 9) (Nj := some 10) (Nk := some 11) #[yy, yy, yy, yy, yy, yy, yy, yy, yy, yy, yy, yy, yy, nn, nn, nn, nn, nn] #[yy, yy, yy, yy, yy, yy, yy, yy, yy, yy, yy, yy, nn, yy, nn, nn, nn, nn] #[yy, yy, yy, yy, yy, yy, yy, yy, yy, yy, yy, yy, nn, nn, yy, nn, nn, nn] rfl rfl rfl rfl rfl rfl (three_of HT_.out (by kernel_rfl)) (by decide) (by decide) (by decide) (fun K hK => ?_) (fun K hK => ?_) (fun K hK => ?_)
             ·skip
              refine box_step ?hg (N := 9) ?hd (cs := #[.int .u64 0, .int .u64 0]) (t := 24) ?hr ?_; (case hd => rfl); (case hg => rfl); (case hr => go_simp <;> rfl)
              intro gb156 hg w29 hbox hb
              have BK156 := Aside0.mk hbox
              have GW156 := ge hg HB
              have GE156 := ge hg HB
              have NB149_156 := nl hg BK149
              have NB156_149 := ng hg BK149
              replace BK149 := bb BK149 hb
              replace HB := bh HB hb
              clear hb hbox hg
              refine hK.out _ _ (zc6 BK149) (fun hHeld => ?_)
              clear hK K
              refine norm_ (a' := ?_) ?_ ?_
              rotate_left
              ·show Act.put _ (some 9) _ = _
               simp only [Act.put, sA, s0, sS, i64_w, i32_w]
               rfl
              exact norm_ (by simp only [putAll, Act.put, sA, s0, sS] <;> rfl) (hJ3_7_11_12 (gb156) _ ⟨hHeld, (bk BK149.out), (bk BK156.out), GW156.out, GE156.out, NB149_156.out, NB156_149.out, (bq HB.out)⟩)
             ·skip
              refine box_step ?hg (N := 10) ?hd (cs := #[.int .u64 0, .int .u64 0]) (t := 24) ?hr ?_; (case hd => rfl); (case hg => rfl); (case hr => go_simp <;> rfl)
              intro gb157 hg w29 hbox hb
              have BK157 := Aside0.mk hbox
              have GW157 := ge hg HB
              have GE157 := ge hg HB
              have NB149_157 := nl hg BK149
              have NB157_149 := ng hg BK149
              replace BK149 := bb BK149 hb
              replace HB := bh HB hb
              clear hb hbox hg
              refine hK.out _ _ (zc6 BK149) (fun hHeld => ?_)
              clear hK K
              refine norm_ (a' := ?_) ?_ ?_
              rotate_left
              ·show Act.put _ (some 10) _ = _
               simp only [Act.put, sA, s0, sS, i64_w, i32_w]
               rfl
              exact norm_ (by simp only [putAll, Act.put, sA, s0, sS] <;> rfl) (hJ3_7_11_13 (gb157) _ ⟨hHeld, (bk BK149.out), (bk BK157.out), GW157.out, GE157.out, NB149_157.out, NB157_149.out, (bq HB.out)⟩)
             skip
             refine box_step ?hg (N := 11) ?hd (cs := #[.int .u64 0, .int .u64 0]) (t := 24) ?hr ?_; (case hd => rfl); (case hg => rfl); (case hr => go_simp <;> rfl)
             intro gb158 hg w29 hbox hb
             have BK158 := Aside0.mk hbox
             have GW158 := ge hg HB
             have GE158 := ge hg HB
             have NB149_158 := nl hg BK149
             have NB158_149 := ng hg BK149
             replace BK149 := bb BK149 hb
             replace HB := bh HB hb
             clear hb hbox hg
             refine hK.out _ _ (zc6 BK149) (fun hHeld => ?_)
             clear hK K
             refine norm_ (a' := ?_) ?_ ?_
             rotate_left
             ·show Act.put _ (some 11) _ = _
              simp only [Act.put, sA, s0, sS, i64_w, i32_w]
              rfl
             exact norm_ (by simp only [putAll, Act.put, sA, s0, sS] <;> rfl) (hJ3_7_11_14 (gb158) _ ⟨hHeld, (bk BK149.out), (bk BK158.out), GW158.out, GE158.out, NB149_158.out, NB158_149.out, (bq HB.out)⟩)
            skip
            rintro ⟨gb156, gb157, gb158⟩ w29 ⟨hS_, h0_, h1_, h2_, h3_, h4_, h5_, h6_, h7_, h8_, h9_, h10_, h11_, h12_, h13_, h14_, h15_, h16_, h17_, h18_, h19_, h20_, h21_, h22_⟩
            have n0_ : Aside0 (w29.heap[gb149]? = some (.cells #[.int .u64 a2_0, .int .u64 a2_1, .int .u64 a2_2, .int .u64 a2_3, .int .u64 a2_4, .int .u64 a2_5] 26 (0, 0))) := ⟨h0_⟩
            have n1_ : Aside0 (w29.heap[gb156]? = some (.cells #[.int .u64 0, .int .u64 0] 24 (0, 0))) := ⟨h1_⟩
            have n2_ : Aside0 (w29.heap[gb157]? = some (.cells #[.int .u64 0, .int .u64 0] 24 (0, 0))) := ⟨h2_⟩
            have n3_ : Aside0 (w29.heap[gb158]? = some (.cells #[.int .u64 0, .int .u64 0] 24 (0, 0))) := ⟨h3_⟩
            have n4_ : Aside0 (w.heap.size ≤ gb156) := ⟨h4_⟩
            have n5_ : Aside0 (w.heap.size ≤ gb156) := ⟨h5_⟩
            have n6_ : Aside0 (gb149 ≠ gb156) := ⟨h6_⟩
            have n7_ : Aside0 (gb156 ≠ gb149) := ⟨h7_⟩
            have n8_ : Aside0 (gb157 ≠ gb156) := ⟨h8_⟩
            have n9_ : Aside0 (gb156 ≠ gb157) := ⟨h9_⟩
            have n10_ : Aside0 (gb158 ≠ gb156) := ⟨h10_⟩
            have n11_ : Aside0 (gb156 ≠ gb158) := ⟨h11_⟩
            have n12_ : Aside0 (w.heap.size ≤ gb157) := ⟨h12_⟩
            have n13_ : Aside0 (w.heap.size ≤ gb157) := ⟨h13_⟩
            have n14_ : Aside0 (gb149 ≠ gb157) := ⟨h14_⟩
            have n15_ : Aside0 (gb157 ≠ gb149) := ⟨h15_⟩
            have n16_ : Aside0 (gb158 ≠ gb157) := ⟨h16_⟩
            have n17_ : Aside0 (gb157 ≠ gb158) := ⟨h17_⟩
            have n18_ : Aside0 (w.heap.size ≤ gb158) := ⟨h18_⟩
            have n19_ : Aside0 (w.heap.size ≤ gb158) := ⟨h19_⟩
            have n20_ : Aside0 (gb149 ≠ gb158) := ⟨h20_⟩
            have n21_ : Aside0 (gb158 ≠ gb149) := ⟨h21_⟩
            have n22_ : Aside0 (Below w.heap.size w w29) := ⟨h22_⟩
            clear BK149
            clear HB
            clear h0_ h1_ h2_ h3_ h4_ h5_ h6_ h7_ h8_ h9_ h10_ h11_ h12_ h13_ h14_ h15_ h16_ h17_ h18_ h19_ h20_ h21_ h22_
            have BK149 := n0_
            have BK156 := n1_
            have BK157 := n2_
            have BK158 := n3_
            have GW156 := Aside1.mk n4_.out
            have GE156 := Aside1.mk n5_.out
            have NB149_156 := n6_
            have NB156_149 := n7_
            have NB157_156 := n8_
            have NB156_157 := n9_
            have NB158_156 := n10_
            have NB156_158 := n11_
            have GW157 := Aside1.mk n12_.out
            have GE157 := Aside1.mk n13_.out
            have NB149_157 := n14_
            have NB157_149 := n15_
            have NB158_157 := n16_
            have NB157_158 := n17_
            have GW158 := Aside1.mk n18_.out
            have GE158 := Aside1.mk n19_.out
            have NB149_158 := n20_
            have NB158_149 := n21_
            have HB := n22_
            clear n0_ n1_ n2_ n3_ n4_ n5_ n6_ n7_ n8_ n9_ n10_ n11_ n12_ n13_ n14_ n15_ n16_ n17_ n18_ n19_ n20_ n21_ n22_
            have hHeld : w29.cell? ⟨gb149, 0, none⟩ = some (.int .u64 a2_0) ∧ w29.cell? ⟨gb149, 1, none⟩ = some (.int .u64 a2_1) ∧ w29.cell? ⟨gb149, 2, none⟩ = some (.int .u64 a2_2) ∧ w29.cell? ⟨gb149, 3, none⟩ = some (.int .u64 a2_3) ∧ w29.cell? ⟨gb149, 4, none⟩ = some (.int .u64 a2_4) ∧ w29.cell? ⟨gb149, 5, none⟩ = some (.int .u64 a2_5) := hS_
            refine norm_ (a' := ?_) ?_ ?_
            rotate_left
            ·simp only [putAll, Act.put, sA, s0, sS]
             rfl
            refine one_ (i := 7) (N := some 34) #[yy, yy, yy, yy, yy, yy, yy, yy, yy, yy, yy, nn, yy, yy, yy, nn, nn, nn] rfl rfl (one_of HT_.out (by kernel_rfl)) (by decide) (fun K hK => ?_)
            refine goes_ Try.func10 (by kernel_rfl) rfl #[.int .i64 (lv8 a0), .agg #[.int .u64 a2_2, .int .u64 a2_3]] (by rfl) rfl rfl (by (try simp only [mA, mC, mN]); first | done | rfl | (simp only [List.length_drop, List.length_take]; rfl)) ?_
            with_reducible refine (steeplelaw33_of.calls (lv8 a0) a2_2 a2_3 t152 t153 _ A6.out).mono ?_
            rintro e w30 ⟨rfl, hb⟩
            refine ⟨_, rfl, ?_⟩
            replace BK149 := bb BK149 hb
            replace BK156 := bb BK156 hb
            replace BK157 := bb BK157 hb
            replace BK158 := bb BK158 hb
            replace HB := bh HB hb
            (try clear hb)
            refine hK.out _ _ (zc6 BK149) (fun hHeld => ?_)
            clear hK K
            refine norm_ (a' := ?_) ?_ ?_
            rotate_left
            ·show Act.put _ (some 34) _ = _
             simp only [Act.put, sA, s0, sS, i64_w, i32_w]
             rfl
            exact norm_ (by simp only [putAll, Act.put, sA, s0, sS] <;> rfl) (hJ3_7_12_13_14 (gb156, gb157, gb158) _ ⟨hHeld, (bk BK149.out), (bk BK156.out), (bk BK157.out), (bk BK158.out), GW156.out, GE156.out, NB149_156.out, NB156_149.out, NB157_156.out, NB156_157.out, NB158_156.out, NB156_158.out, GW157.out, GE157.out, NB149_157.out, NB157_149.out, NB158_157.out, NB157_158.out, GW158.out, GE158.out, NB149_158.out, NB158_149.out, (bq HB.out)⟩)
           skip
           rintro ⟨gb157, gb158⟩ w29 ⟨hS_, h0_, h1_, h2_, h3_, h4_, h5_, h6_, h7_, h8_, h9_, h10_, h11_, h12_, h13_⟩
           have n0_ : Aside0 (w29.heap[gb149]? = some (.cells #[.int .u64 a2_0, .int .u64 a2_1, .int .u64 a2_2, .int .u64 a2_3, .int .u64 a2_4, .int .u64 a2_5] 26 (0, 0))) := ⟨h0_⟩
           have n1_ : Aside0 (w29.heap[gb157]? = some (.cells #[.int .u64 0, .int .u64 0] 24 (0, 0))) := ⟨h1_⟩
           have n2_ : Aside0 (w29.heap[gb158]? = some (.cells #[.int .u64 0, .int .u64 0] 24 (0, 0))) := ⟨h2_⟩
           have n3_ : Aside0 (w.heap.size ≤ gb157) := ⟨h3_⟩
           have n4_ : Aside0 (w.heap.size ≤ gb157) := ⟨h4_⟩
           have n5_ : Aside0 (gb149 ≠ gb157) := ⟨h5_⟩
           have n6_ : Aside0 (gb157 ≠ gb149) := ⟨h6_⟩
           have n7_ : Aside0 (gb158 ≠ gb157) := ⟨h7_⟩
           have n8_ : Aside0 (gb157 ≠ gb158) := ⟨h8_⟩
           have n9_ : Aside0 (w.heap.size ≤ gb158) := ⟨h9_⟩
           have n10_ : Aside0 (w.heap.size ≤ gb158) := ⟨h10_⟩
           have n11_ : Aside0 (gb149 ≠ gb158) := ⟨h11_⟩
           have n12_ : Aside0 (gb158 ≠ gb149) := ⟨h12_⟩
           have n13_ : Aside0 (Below w.heap.size w w29) := ⟨h13_⟩
           clear BK149
           clear HB
           clear h0_ h1_ h2_ h3_ h4_ h5_ h6_ h7_ h8_ h9_ h10_ h11_ h12_ h13_
           have BK149 := n0_
           have BK157 := n1_
           have BK158 := n2_
           have GW157 := Aside1.mk n3_.out
           have GE157 := Aside1.mk n4_.out
           have NB149_157 := n5_
           have NB157_149 := n6_
           have NB158_157 := n7_
           have NB157_158 := n8_
           have GW158 := Aside1.mk n9_.out
           have GE158 := Aside1.mk n10_.out
           have NB149_158 := n11_
           have NB158_149 := n12_
           have HB := n13_
           clear n0_ n1_ n2_ n3_ n4_ n5_ n6_ n7_ n8_ n9_ n10_ n11_ n12_ n13_
           have hHeld : w29.cell? ⟨gb149, 0, none⟩ = some (.int .u64 a2_0) ∧ w29.cell? ⟨gb149, 1, none⟩ = some (.int .u64 a2_1) ∧ w29.cell? ⟨gb149, 2, none⟩ = some (.int .u64 a2_2) ∧ w29.cell? ⟨gb149, 3, none⟩ = some (.int .u64 a2_3) ∧ w29.cell? ⟨gb149, 4, none⟩ = some (.int .u64 a2_4) ∧ w29.cell? ⟨gb149, 5, none⟩ = some (.int .u64 a2_5) := hS_
           refine norm_ (a' := ?_) ?_ ?_
           rotate_left
           ·simp only [putAll, Act.put, sA, s0, sS]
            rfl
           refine two_ (i := 11) (j := 12) (Ni := some 38) (Nj := some 9) #[yy, yy, yy, yy, yy, yy, yy, yy, yy, yy, yy, yy, nn, yy, yy, nn, nn, nn] #[yy, yy, yy, yy, yy, yy, yy, yy, yy, yy, yy, nn, yy, yy, yy, nn, nn, nn] rfl rfl rfl rfl (two_of HT_.out (by kernel_rfl)) (by decide) (by decide) (fun K hK => ?_) (fun K hK => ?_)
           ·skip
            refine goes_ Try.func10 (by kernel_rfl) rfl #[.int .i64 (lj8 a0 a1), .agg #[.int .u64 a2_4, .int .u64 a2_5]] (by rfl) rfl rfl (by (try simp only [mA, mC, mN]); first | done | rfl | (simp only [List.length_drop, List.length_take]; rfl)) ?_
            with_reducible refine (steeplelaw33_of.calls (lj8 a0 a1) a2_4 a2_5 t154 t155 _ A7.out).mono ?_
            rintro e w30 ⟨rfl, hb⟩
            refine ⟨_, rfl, ?_⟩
            replace BK149 := bb BK149 hb
            replace BK157 := bb BK157 hb
            replace BK158 := bb BK158 hb
            replace HB := bh HB hb
            (try clear hb)
            refine hK.out _ _ (zc6 BK149) (fun hHeld => ?_)
            clear hK K
            refine norm_ (a' := ?_) ?_ ?_
            rotate_left
            ·show Act.put _ (some 38) _ = _
             simp only [Act.put, sA, s0, sS, i64_w, i32_w]
             rfl
            exact norm_ (by simp only [putAll, Act.put, sA, s0, sS] <;> rfl) (hJ3_7_11_13_14 (gb157, gb158) _ ⟨hHeld, (bk BK149.out), (bk BK157.out), (bk BK158.out), GW157.out, GE157.out, NB149_157.out, NB157_149.out, NB158_157.out, NB157_158.out, GW158.out, GE158.out, NB149_158.out, NB158_149.out, (bq HB.out)⟩)
           skip
           refine box_step ?hg (N := 9) ?hd (cs := #[.int .u64 0, .int .u64 0]) (t := 24) ?hr ?_; (case hd => rfl); (case hg => rfl); (case hr => go_simp <;> rfl)
           intro gb156 hg w30 hbox hb
           have BK156 := Aside0.mk hbox
           have GW156 := ge hg HB
           have GE156 := ge hg HB
           have NB149_156 := nl hg BK149
           have NB156_149 := ng hg BK149
           have NB157_156 := nl hg BK157
           have NB156_157 := ng hg BK157
           have NB158_156 := nl hg BK158
           have NB156_158 := ng hg BK158
           replace BK149 := bb BK149 hb
           replace BK157 := bb BK157 hb
           replace BK158 := bb BK158 hb
           replace HB := bh HB hb
           clear hb hbox hg
           refine hK.out _ _ (zc6 BK149) (fun hHeld => ?_)
           clear hK K
           refine norm_ (a' := ?_) ?_ ?_
           rotate_left
           ·show Act.put _ (some 9) _ = _
            simp only [Act.put, sA, s0, sS, i64_w, i32_w]
            rfl
           exact norm_ (by simp only [putAll, Act.put, sA, s0, sS] <;> rfl) (hJ3_7_12_13_14 (gb156, gb157, gb158) _ ⟨hHeld, (bk BK149.out), (bk BK156.out), (bk BK157.out), (bk BK158.out), GW156.out, GE156.out, NB149_156.out, NB156_149.out, NB157_156.out, NB156_157.out, NB158_156.out, NB156_158.out, GW157.out, GE157.out, NB149_157.out, NB157_149.out, NB158_157.out, NB157_158.out, GW158.out, GE158.out, NB149_158.out, NB158_149.out, (bq HB.out)⟩)
          skip
          rintro ⟨gb156, gb158⟩ w29 ⟨hS_, h0_, h1_, h2_, h3_, h4_, h5_, h6_, h7_, h8_, h9_, h10_, h11_, h12_, h13_⟩
          have n0_ : Aside0 (w29.heap[gb149]? = some (.cells #[.int .u64 a2_0, .int .u64 a2_1, .int .u64 a2_2, .int .u64 a2_3, .int .u64 a2_4, .int .u64 a2_5] 26 (0, 0))) := ⟨h0_⟩
          have n1_ : Aside0 (w29.heap[gb156]? = some (.cells #[.int .u64 0, .int .u64 0] 24 (0, 0))) := ⟨h1_⟩
          have n2_ : Aside0 (w29.heap[gb158]? = some (.cells #[.int .u64 0, .int .u64 0] 24 (0, 0))) := ⟨h2_⟩
          have n3_ : Aside0 (w.heap.size ≤ gb156) := ⟨h3_⟩
          have n4_ : Aside0 (w.heap.size ≤ gb156) := ⟨h4_⟩
          have n5_ : Aside0 (gb149 ≠ gb156) := ⟨h5_⟩
          have n6_ : Aside0 (gb156 ≠ gb149) := ⟨h6_⟩
          have n7_ : Aside0 (gb158 ≠ gb156) := ⟨h7_⟩
          have n8_ : Aside0 (gb156 ≠ gb158) := ⟨h8_⟩
          have n9_ : Aside0 (w.heap.size ≤ gb158) := ⟨h9_⟩
          have n10_ : Aside0 (w.heap.size ≤ gb158) := ⟨h10_⟩
          have n11_ : Aside0 (gb149 ≠ gb158) := ⟨h11_⟩
          have n12_ : Aside0 (gb158 ≠ gb149) := ⟨h12_⟩
          have n13_ : Aside0 (Below w.heap.size w w29) := ⟨h13_⟩
          clear BK149
          clear HB
          clear h0_ h1_ h2_ h3_ h4_ h5_ h6_ h7_ h8_ h9_ h10_ h11_ h12_ h13_
          have BK149 := n0_
          have BK156 := n1_
          have BK158 := n2_
          have GW156 := Aside1.mk n3_.out
          have GE156 := Aside1.mk n4_.out
          have NB149_156 := n5_
          have NB156_149 := n6_
          have NB158_156 := n7_
          have NB156_158 := n8_
          have GW158 := Aside1.mk n9_.out
          have GE158 := Aside1.mk n10_.out
          have NB149_158 := n11_
          have NB158_149 := n12_
          have HB := n13_
          clear n0_ n1_ n2_ n3_ n4_ n5_ n6_ n7_ n8_ n9_ n10_ n11_ n12_ n13_
          have hHeld : w29.cell? ⟨gb149, 0, none⟩ = some (.int .u64 a2_0) ∧ w29.cell? ⟨gb149, 1, none⟩ = some (.int .u64 a2_1) ∧ w29.cell? ⟨gb149, 2, none⟩ = some (.int .u64 a2_2) ∧ w29.cell? ⟨gb149, 3, none⟩ = some (.int .u64 a2_3) ∧ w29.cell? ⟨gb149, 4, none⟩ = some (.int .u64 a2_4) ∧ w29.cell? ⟨gb149, 5, none⟩ = some (.int .u64 a2_5) := hS_
          refine norm_ (a' := ?_) ?_ ?_
          rotate_left
          ·simp only [putAll, Act.put, sA, s0, sS]
           rfl
          refine two_ (i := 11) (j := 13) (Ni := some 38) (Nj := some 10) #[yy, yy, yy, yy, yy, yy, yy, yy, yy, yy, yy, yy, yy, nn, yy, nn, nn, nn] #[yy, yy, yy, yy, yy, yy, yy, yy, yy, yy, yy, nn, yy, yy, yy, nn, nn, nn] rfl rfl rfl rfl (two_of HT_.out (by kernel_rfl)) (by decide) (by decide) (fun K hK => ?_) (fun K hK => ?_)
          ·skip
           refine goes_ Try.func10 (by kernel_rfl) rfl #[.int .i64 (lj8 a0 a1), .agg #[.int .u64 a2_4, .int .u64 a2_5]] (by rfl) rfl rfl (by (try simp only [mA, mC, mN]); first | done | rfl | (simp only [List.length_drop, List.length_take]; rfl)) ?_
           with_reducible refine (steeplelaw33_of.calls (lj8 a0 a1) a2_4 a2_5 t154 t155 _ A7.out).mono ?_
           rintro e w30 ⟨rfl, hb⟩
           refine ⟨_, rfl, ?_⟩
           replace BK149 := bb BK149 hb
           replace BK156 := bb BK156 hb
           replace BK158 := bb BK158 hb
           replace HB := bh HB hb
           (try clear hb)
           refine hK.out _ _ (zc6 BK149) (fun hHeld => ?_)
           clear hK K
           refine norm_ (a' := ?_) ?_ ?_
           rotate_left
           ·show Act.put _ (some 38) _ = _
            simp only [Act.put, sA, s0, sS, i64_w, i32_w]
            rfl
           exact norm_ (by simp only [putAll, Act.put, sA, s0, sS] <;> rfl) (hJ3_7_11_12_14 (gb156, gb158) _ ⟨hHeld, (bk BK149.out), (bk BK156.out), (bk BK158.out), GW156.out, GE156.out, NB149_156.out, NB156_149.out, NB158_156.out, NB156_158.out, GW158.out, GE158.out, NB149_158.out, NB158_149.out, (bq HB.out)⟩)
          skip
          refine box_step ?hg (N := 10) ?hd (cs := #[.int .u64 0, .int .u64 0]) (t := 24) ?hr ?_; (case hd => rfl); (case hg => rfl); (case hr => go_simp <;> rfl)
          intro gb157 hg w30 hbox hb
          have BK157 := Aside0.mk hbox
          have GW157 := ge hg HB
          have GE157 := ge hg HB
          have NB149_157 := nl hg BK149
          have NB157_149 := ng hg BK149
          have NB156_157 := nl hg BK156
          have NB157_156 := ng hg BK156
          have NB158_157 := nl hg BK158
          have NB157_158 := ng hg BK158
          replace BK149 := bb BK149 hb
          replace BK156 := bb BK156 hb
          replace BK158 := bb BK158 hb
          replace HB := bh HB hb
          clear hb hbox hg
          refine hK.out _ _ (zc6 BK149) (fun hHeld => ?_)
          clear hK K
          refine norm_ (a' := ?_) ?_ ?_
          rotate_left
          ·show Act.put _ (some 10) _ = _
           simp only [Act.put, sA, s0, sS, i64_w, i32_w]
           rfl
          exact norm_ (by simp only [putAll, Act.put, sA, s0, sS] <;> rfl) (hJ3_7_12_13_14 (gb156, gb157, gb158) _ ⟨hHeld, (bk BK149.out), (bk BK156.out), (bk BK157.out), (bk BK158.out), GW156.out, GE156.out, NB149_156.out, NB156_149.out, NB157_156.out, NB156_157.out, NB158_156.out, NB156_158.out, GW157.out, GE157.out, NB149_157.out, NB157_149.out, NB158_157.out, NB157_158.out, GW158.out, GE158.out, NB149_158.out, NB158_149.out, (bq HB.out)⟩)
         skip
         rintro ⟨gb156, gb157⟩ w29 ⟨hS_, h0_, h1_, h2_, h3_, h4_, h5_, h6_, h7_, h8_, h9_, h10_, h11_, h12_, h13_⟩
         have n0_ : Aside0 (w29.heap[gb149]? = some (.cells #[.int .u64 a2_0, .int .u64 a2_1, .int .u64 a2_2, .int .u64 a2_3, .int .u64 a2_4, .int .u64 a2_5] 26 (0, 0))) := ⟨h0_⟩
         have n1_ : Aside0 (w29.heap[gb156]? = some (.cells #[.int .u64 0, .int .u64 0] 24 (0, 0))) := ⟨h1_⟩
         have n2_ : Aside0 (w29.heap[gb157]? = some (.cells #[.int .u64 0, .int .u64 0] 24 (0, 0))) := ⟨h2_⟩
         have n3_ : Aside0 (w.heap.size ≤ gb156) := ⟨h3_⟩
         have n4_ : Aside0 (w.heap.size ≤ gb156) := ⟨h4_⟩
         have n5_ : Aside0 (gb149 ≠ gb156) := ⟨h5_⟩
         have n6_ : Aside0 (gb156 ≠ gb149) := ⟨h6_⟩
         have n7_ : Aside0 (gb157 ≠ gb156) := ⟨h7_⟩
         have n8_ : Aside0 (gb156 ≠ gb157) := ⟨h8_⟩
         have n9_ : Aside0 (w.heap.size ≤ gb157) := ⟨h9_⟩
         have n10_ : Aside0 (w.heap.size ≤ gb157) := ⟨h10_⟩
         have n11_ : Aside0 (gb149 ≠ gb157) := ⟨h11_⟩
         have n12_ : Aside0 (gb157 ≠ gb149) := ⟨h12_⟩
         have n13_ : Aside0 (Below w.heap.size w w29) := ⟨h13_⟩
         clear BK149
         clear HB
         clear h0_ h1_ h2_ h3_ h4_ h5_ h6_ h7_ h8_ h9_ h10_ h11_ h12_ h13_
         have BK149 := n0_
         have BK156 := n1_
         have BK157 := n2_
         have GW156 := Aside1.mk n3_.out
         have GE156 := Aside1.mk n4_.out
         have NB149_156 := n5_
         have NB156_149 := n6_
         have NB157_156 := n7_
         have NB156_157 := n8_
         have GW157 := Aside1.mk n9_.out
         have GE157 := Aside1.mk n10_.out
         have NB149_157 := n11_
         have NB157_149 := n12_
         have HB := n13_
         clear n0_ n1_ n2_ n3_ n4_ n5_ n6_ n7_ n8_ n9_ n10_ n11_ n12_ n13_
         have hHeld : w29.cell? ⟨gb149, 0, none⟩ = some (.int .u64 a2_0) ∧ w29.cell? ⟨gb149, 1, none⟩ = some (.int .u64 a2_1) ∧ w29.cell? ⟨gb149, 2, none⟩ = some (.int .u64 a2_2) ∧ w29.cell? ⟨gb149, 3, none⟩ = some (.int .u64 a2_3) ∧ w29.cell? ⟨gb149, 4, none⟩ = some (.int .u64 a2_4) ∧ w29.cell? ⟨gb149, 5, none⟩ = some (.int .u64 a2_5) := hS_
         refine norm_ (a' := ?_) ?_ ?_
         rotate_left
         ·simp only [putAll, Act.put, sA, s0, sS]
          rfl
         refine two_ (i := 11) (j := 14) (Ni := some 38) (Nj := some 11) #[yy, yy, yy, yy, yy, yy, yy, yy, yy, yy, yy, yy, yy, yy, nn, nn, nn, nn] #[yy, yy, yy, yy, yy, yy, yy, yy, yy, yy, yy, nn, yy, yy, yy, nn, nn, nn] rfl rfl rfl rfl (two_of HT_.out (by kernel_rfl)) (by decide) (by decide) (fun K hK => ?_) (fun K hK => ?_)
         ·skip
          refine goes_ Try.func10 (by kernel_rfl) rfl #[.int .i64 (lj8 a0 a1), .agg #[.int .u64 a2_4, .int .u64 a2_5]] (by rfl) rfl rfl (by (try simp only [mA, mC, mN]); first | done | rfl | (simp only [List.length_drop, List.length_take]; rfl)) ?_
          with_reducible refine (steeplelaw33_of.calls (lj8 a0 a1) a2_4 a2_5 t154 t155 _ A7.out).mono ?_
          rintro e w30 ⟨rfl, hb⟩
          refine ⟨_, rfl, ?_⟩
          replace BK149 := bb BK149 hb
          replace BK156 := bb BK156 hb
          replace BK157 := bb BK157 hb
          replace HB := bh HB hb
          (try clear hb)
          refine hK.out _ _ (zc6 BK149) (fun hHeld => ?_)
          clear hK K
          refine norm_ (a' := ?_) ?_ ?_
          rotate_left
          ·show Act.put _ (some 38) _ = _
           simp only [Act.put, sA, s0, sS, i64_w, i32_w]
           rfl
          exact norm_ (by simp only [putAll, Act.put, sA, s0, sS] <;> rfl) (hJ3_7_11_12_13 (gb156, gb157) _ ⟨hHeld, (bk BK149.out), (bk BK156.out), (bk BK157.out), GW156.out, GE156.out, NB149_156.out, NB156_149.out, NB157_156.out, NB156_157.out, GW157.out, GE157.out, NB149_157.out, NB157_149.out, (bq HB.out)⟩)
         skip
         refine box_step ?hg (N := 11) ?hd (cs := #[.int .u64 0, .int .u64 0]) (t := 24) ?hr ?_; (case hd => rfl); (case hg => rfl); (case hr => go_simp <;> rfl)
         intro gb158 hg w30 hbox hb
         have BK158 := Aside0.mk hbox
         have GW158 := ge hg HB
         have GE158 := ge hg HB
         have NB149_158 := nl hg BK149
         have NB158_149 := ng hg BK149
         have NB156_158 := nl hg BK156
         have NB158_156 := ng hg BK156
         have NB157_158 := nl hg BK157
         have NB158_157 := ng hg BK157
         replace BK149 := bb BK149 hb
         replace BK156 := bb BK156 hb
         replace BK157 := bb BK157 hb
         replace HB := bh HB hb
         clear hb hbox hg
         refine hK.out _ _ (zc6 BK149) (fun hHeld => ?_)
         clear hK K
         refine norm_ (a' := ?_) ?_ ?_
         rotate_left
         ·show Act.put _ (some 11) _ = _
          simp only [Act.put, sA, s0, sS, i64_w, i32_w]
          rfl
         exact norm_ (by simp only [putAll, Act.put, sA, s0, sS] <;> rfl) (hJ3_7_12_13_14 (gb156, gb157, gb158) _ ⟨hHeld, (bk BK149.out), (bk BK156.out), (bk BK157.out), (bk BK158.out), GW156.out, GE156.out, NB149_156.out, NB156_149.out, NB157_156.out, NB156_157.out, NB158_156.out, NB156_158.out, GW157.out, GE157.out, NB149_157.out, NB157_149.out, NB158_157.out, NB157_158.out, GW158.out, GE158.out, NB149_158.out, NB158_149.out, (bq HB.out)⟩)
        skip
        rintro gb158 w29 ⟨hS_, h0_, h1_, h2_, h3_, h4_, h5_, h6_⟩
        have n0_ : Aside0 (w29.heap[gb149]? = some (.cells #[.int .u64 a2_0, .int .u64 a2_1, .int .u64 a2_2, .int .u64 a2_3, .int .u64 a2_4, .int .u64 a2_5] 26 (0, 0))) := ⟨h0_⟩
        have n1_ : Aside0 (w29.heap[gb158]? = some (.cells #[.int .u64 0, .int .u64 0] 24 (0, 0))) := ⟨h1_⟩
        have n2_ : Aside0 (w.heap.size ≤ gb158) := ⟨h2_⟩
        have n3_ : Aside0 (w.heap.size ≤ gb158) := ⟨h3_⟩
        have n4_ : Aside0 (gb149 ≠ gb158) := ⟨h4_⟩
        have n5_ : Aside0 (gb158 ≠ gb149) := ⟨h5_⟩
        have n6_ : Aside0 (Below w.heap.size w w29) := ⟨h6_⟩
        clear BK149
        clear HB
        clear h0_ h1_ h2_ h3_ h4_ h5_ h6_
        have BK149 := n0_
        have BK158 := n1_
        have GW158 := Aside1.mk n2_.out
        have GE158 := Aside1.mk n3_.out
        have NB149_158 := n4_
        have NB158_149 := n5_
        have HB := n6_
        clear n0_ n1_ n2_ n3_ n4_ n5_ n6_
        have hHeld : w29.cell? ⟨gb149, 0, none⟩ = some (.int .u64 a2_0) ∧ w29.cell? ⟨gb149, 1, none⟩ = some (.int .u64 a2_1) ∧ w29.cell? ⟨gb149, 2, none⟩ = some (.int .u64 a2_2) ∧ w29.cell? ⟨gb149, 3, none⟩ = some (.int .u64 a2_3) ∧ w29.cell? ⟨gb149, 4, none⟩ = some (.int .u64 a2_4) ∧ w29.cell? ⟨gb149, 5, none⟩ = some (.int .u64 a2_5) := hS_
        refine norm_ (a' := ?_) ?_ ?_
        rotate_left
        ·simp only [putAll, Act.put, sA, s0, sS]
         rfl
        refine two_ (i := 12) (j := 13) (Ni := some 9) (Nj := some 10) #[yy, yy, yy, yy, yy, yy, yy, yy, yy, yy, yy, yy, yy, nn, yy, nn, nn, nn] #[yy, yy, yy, yy, yy, yy, yy, yy, yy, yy, yy, yy, nn, yy, yy, nn, nn, nn] rfl rfl rfl rfl (two_of HT_.out (by kernel_rfl)) (by decide) (by decide) (fun K hK => ?_) (fun K hK => ?_)
        ·skip
         refine box_step ?hg (N := 9) ?hd (cs := #[.int .u64 0, .int .u64 0]) (t := 24) ?hr ?_; (case hd => rfl); (case hg => rfl); (case hr => go_simp <;> rfl)
         intro gb156 hg w30 hbox hb
         have BK156 := Aside0.mk hbox
         have GW156 := ge hg HB
         have GE156 := ge hg HB
         have NB149_156 := nl hg BK149
         have NB156_149 := ng hg BK149
         have NB158_156 := nl hg BK158
         have NB156_158 := ng hg BK158
         replace BK149 := bb BK149 hb
         replace BK158 := bb BK158 hb
         replace HB := bh HB hb
         clear hb hbox hg
         refine hK.out _ _ (zc6 BK149) (fun hHeld => ?_)
         clear hK K
         refine norm_ (a' := ?_) ?_ ?_
         rotate_left
         ·show Act.put _ (some 9) _ = _
          simp only [Act.put, sA, s0, sS, i64_w, i32_w]
          rfl
         exact norm_ (by simp only [putAll, Act.put, sA, s0, sS] <;> rfl) (hJ3_7_11_12_14 (gb156, gb158) _ ⟨hHeld, (bk BK149.out), (bk BK156.out), (bk BK158.out), GW156.out, GE156.out, NB149_156.out, NB156_149.out, NB158_156.out, NB156_158.out, GW158.out, GE158.out, NB149_158.out, NB158_149.out, (bq HB.out)⟩)
        skip
        refine box_step ?hg (N := 10) ?hd (cs := #[.int .u64 0, .int .u64 0]) (t := 24) ?hr ?_; (case hd => rfl); (case hg => rfl); (case hr => go_simp <;> rfl)
        intro gb157 hg w30 hbox hb
        have BK157 := Aside0.mk hbox
        have GW157 := ge hg HB
        have GE157 := ge hg HB
        have NB149_157 := nl hg BK149
        have NB157_149 := ng hg BK149
        have NB158_157 := nl hg BK158
        have NB157_158 := ng hg BK158
        replace BK149 := bb BK149 hb
        replace BK158 := bb BK158 hb
        replace HB := bh HB hb
        clear hb hbox hg
        refine hK.out _ _ (zc6 BK149) (fun hHeld => ?_)
        clear hK K
        refine norm_ (a' := ?_) ?_ ?_
        rotate_left
        ·show Act.put _ (some 10) _ = _
         simp only [Act.put, sA, s0, sS, i64_w, i32_w]
         rfl
        exact norm_ (by simp only [putAll, Act.put, sA, s0, sS] <;> rfl) (hJ3_7_11_13_14 (gb157, gb158) _ ⟨hHeld, (bk BK149.out), (bk BK157.out), (bk BK158.out), GW157.out, GE157.out, NB149_157.out, NB157_149.out, NB158_157.out, NB157_158.out, GW158.out, GE158.out, NB149_158.out, NB158_149.out, (bq HB.out)⟩)
       skip
       rintro gb157 w29 ⟨hS_, h0_, h1_, h2_, h3_, h4_, h5_, h6_⟩
       have n0_ : Aside0 (w29.heap[gb149]? = some (.cells #[.int .u64 a2_0, .int .u64 a2_1, .int .u64 a2_2, .int .u64 a2_3, .int .u64 a2_4, .int .u64 a2_5] 26 (0, 0))) := ⟨h0_⟩
       have n1_ : Aside0 (w29.heap[gb157]? = some (.cells #[.int .u64 0, .int .u64 0] 24 (0, 0))) := ⟨h1_⟩
       have n2_ : Aside0 (w.heap.size ≤ gb157) := ⟨h2_⟩
       have n3_ : Aside0 (w.heap.size ≤ gb157) := ⟨h3_⟩
       have n4_ : Aside0 (gb149 ≠ gb157) := ⟨h4_⟩
       have n5_ : Aside0 (gb157 ≠ gb149) := ⟨h5_⟩
       have n6_ : Aside0 (Below w.heap.size w w29) := ⟨h6_⟩
       clear BK149
       clear HB
       clear h0_ h1_ h2_ h3_ h4_ h5_ h6_
       have BK149 := n0_
       have BK157 := n1_
       have GW157 := Aside1.mk n2_.out
       have GE157 := Aside1.mk n3_.out
       have NB149_157 := n4_
       have NB157_149 := n5_
       have HB := n6_
       clear n0_ n1_ n2_ n3_ n4_ n5_ n6_
       have hHeld : w29.cell? ⟨gb149, 0, none⟩ = some (.int .u64 a2_0) ∧ w29.cell? ⟨gb149, 1, none⟩ = some (.int .u64 a2_1) ∧ w29.cell? ⟨gb149, 2, none⟩ = some (.int .u64 a2_2) ∧ w29.cell? ⟨gb149, 3, none⟩ = some (.int .u64 a2_3) ∧ w29.cell? ⟨gb149, 4, none⟩ = some (.int .u64 a2_4) ∧ w29.cell? ⟨gb149, 5, none⟩ = some (.int .u64 a2_5) := hS_
       refine norm_ (a' := ?_) ?_ ?_
       rotate_left
       ·simp only [putAll, Act.put, sA, s0, sS]
        rfl
       refine two_ (i := 12) (j := 14) (Ni := some 9) (Nj := some 11) #[yy, yy, yy, yy, yy, yy, yy, yy, yy, yy, yy, yy, yy, yy, nn, nn, nn, nn] #[yy, yy, yy, yy, yy, yy, yy, yy, yy, yy, yy, yy, nn, yy, yy, nn, nn, nn] rfl rfl rfl rfl (two_of HT_.out (by kernel_rfl)) (by decide) (by decide) (fun K hK => ?_) (fun K hK => ?_)
       ·skip
        refine box_step ?hg (N := 9) ?hd (cs := #[.int .u64 0, .int .u64 0]) (t := 24) ?hr ?_; (case hd => rfl); (case hg => rfl); (case hr => go_simp <;> rfl)
        intro gb156 hg w30 hbox hb
        have BK156 := Aside0.mk hbox
        have GW156 := ge hg HB
        have GE156 := ge hg HB
        have NB149_156 := nl hg BK149
        have NB156_149 := ng hg BK149
        have NB157_156 := nl hg BK157
        have NB156_157 := ng hg BK157
        replace BK149 := bb BK149 hb
        replace BK157 := bb BK157 hb
        replace HB := bh HB hb
        clear hb hbox hg
        refine hK.out _ _ (zc6 BK149) (fun hHeld => ?_)
        clear hK K
        refine norm_ (a' := ?_) ?_ ?_
        rotate_left
        ·show Act.put _ (some 9) _ = _
         simp only [Act.put, sA, s0, sS, i64_w, i32_w]
         rfl
        exact norm_ (by simp only [putAll, Act.put, sA, s0, sS] <;> rfl) (hJ3_7_11_12_13 (gb156, gb157) _ ⟨hHeld, (bk BK149.out), (bk BK156.out), (bk BK157.out), GW156.out, GE156.out, NB149_156.out, NB156_149.out, NB157_156.out, NB156_157.out, GW157.out, GE157.out, NB149_157.out, NB157_149.out, (bq HB.out)⟩)
       skip
       refine box_step ?hg (N := 11) ?hd (cs := #[.int .u64 0, .int .u64 0]) (t := 24) ?hr ?_; (case hd => rfl); (case hg => rfl); (case hr => go_simp <;> rfl)
       intro gb158 hg w30 hbox hb
       have BK158 := Aside0.mk hbox
       have GW158 := ge hg HB
       have GE158 := ge hg HB
       have NB149_158 := nl hg BK149
       have NB158_149 := ng hg BK149
       have NB157_158 := nl hg BK157
       have NB158_157 := ng hg BK157
       replace BK149 := bb BK149 hb
       replace BK157 := bb BK157 hb
       replace HB := bh HB hb
       clear hb hbox hg
       refine hK.out _ _ (zc6 BK149) (fun hHeld => ?_)
       clear hK K
       refine norm_ (a' := ?_) ?_ ?_
       rotate_left
       ·show Act.put _ (some 11) _ = _
        simp only [Act.put, sA, s0, sS, i64_w, i32_w]
        rfl
       exact norm_ (by simp only [putAll, Act.put, sA, s0, sS] <;> rfl) (hJ3_7_11_13_14 (gb157, gb158) _ ⟨hHeld, (bk BK149.out), (bk BK157.out), (bk BK158.out), GW157.out, GE157.out, NB149_157.out, NB157_149.out, NB158_157.out, NB157_158.out, GW158.out, GE158.out, NB149_158.out, NB158_149.out, (bq HB.out)⟩)
      skip
      rintro gb156 w29 ⟨hS_, h0_, h1_, h2_, h3_, h4_, h5_, h6_⟩
      have n0_ : Aside0 (w29.heap[gb149]? = some (.cells #[.int .u64 a2_0, .int .u64 a2_1, .int .u64 a2_2, .int .u64 a2_3, .int .u64 a2_4, .int .u64 a2_5] 26 (0, 0))) := ⟨h0_⟩
      have n1_ : Aside0 (w29.heap[gb156]? = some (.cells #[.int .u64 0, .int .u64 0] 24 (0, 0))) := ⟨h1_⟩
      have n2_ : Aside0 (w.heap.size ≤ gb156) := ⟨h2_⟩
      have n3_ : Aside0 (w.heap.size ≤ gb156) := ⟨h3_⟩
      have n4_ : Aside0 (gb149 ≠ gb156) := ⟨h4_⟩
      have n5_ : Aside0 (gb156 ≠ gb149) := ⟨h5_⟩
      have n6_ : Aside0 (Below w.heap.size w w29) := ⟨h6_⟩
      clear BK149
      clear HB
      clear h0_ h1_ h2_ h3_ h4_ h5_ h6_
      have BK149 := n0_
      have BK156 := n1_
      have GW156 := Aside1.mk n2_.out
      have GE156 := Aside1.mk n3_.out
      have NB149_156 := n4_
      have NB156_149 := n5_
      have HB := n6_
      clear n0_ n1_ n2_ n3_ n4_ n5_ n6_
      have hHeld : w29.cell? ⟨gb149, 0, none⟩ = some (.int .u64 a2_0) ∧ w29.cell? ⟨gb149, 1, none⟩ = some (.int .u64 a2_1) ∧ w29.cell? ⟨gb149, 2, none⟩ = some (.int .u64 a2_2) ∧ w29.cell? ⟨gb149, 3, none⟩ = some (.int .u64 a2_3) ∧ w29.cell? ⟨gb149, 4, none⟩ = some (.int .u64 a2_4) ∧ w29.cell? ⟨gb149, 5, none⟩ = some (.int .u64 a2_5) := hS_
      refine norm_ (a' := ?_) ?_ ?_
      rotate_left
      ·simp only [putAll, Act.put, sA, s0, sS]
       rfl
      refine two_ (i := 13) (j := 14) (Ni := some 10) (Nj := some 11) #[yy, yy, yy, yy, yy, yy, yy, yy, yy, yy, yy, yy, yy, yy, nn, nn, nn, nn] #[yy, yy, yy, yy, yy, yy, yy, yy, yy, yy, yy, yy, yy, nn, yy, nn, nn, nn] rfl rfl rfl rfl (two_of HT_.out (by kernel_rfl)) (by decide) (by decide) (fun K hK => ?_) (fun K hK => ?_)
      ·skip
       refine box_step ?hg (N := 10) ?hd (cs := #[.int .u64 0, .int .u64 0]) (t := 24) ?hr ?_; (case hd => rfl); (case hg => rfl); (case hr => go_simp <;> rfl)
       intro gb157 hg w30 hbox hb
       have BK157 := Aside0.mk hbox
       have GW157 := ge hg HB
       have GE157 := ge hg HB
       have NB149_157 := nl hg BK149
       have NB157_149 := ng hg BK149
       have NB156_157 := nl hg BK156
       have NB157_156 := ng hg BK156
       replace BK149 := bb BK149 hb
       replace BK156 := bb BK156 hb
       replace HB := bh HB hb
       clear hb hbox hg
       refine hK.out _ _ (zc6 BK149) (fun hHeld => ?_)
       clear hK K
       refine norm_ (a' := ?_) ?_ ?_
       rotate_left
       ·show Act.put _ (some 10) _ = _
        simp only [Act.put, sA, s0, sS, i64_w, i32_w]
        rfl
       exact norm_ (by simp only [putAll, Act.put, sA, s0, sS] <;> rfl) (hJ3_7_11_12_13 (gb156, gb157) _ ⟨hHeld, (bk BK149.out), (bk BK156.out), (bk BK157.out), GW156.out, GE156.out, NB149_156.out, NB156_149.out, NB157_156.out, NB156_157.out, GW157.out, GE157.out, NB149_157.out, NB157_149.out, (bq HB.out)⟩)
      skip
      refine box_step ?hg (N := 11) ?hd (cs := #[.int .u64 0, .int .u64 0]) (t := 24) ?hr ?_; (case hd => rfl); (case hg => rfl); (case hr => go_simp <;> rfl)
      intro gb158 hg w30 hbox hb
      have BK158 := Aside0.mk hbox
      have GW158 := ge hg HB
      have GE158 := ge hg HB
      have NB149_158 := nl hg BK149
      have NB158_149 := ng hg BK149
      have NB156_158 := nl hg BK156
      have NB158_156 := ng hg BK156
      replace BK149 := bb BK149 hb
      replace BK156 := bb BK156 hb
      replace HB := bh HB hb
      clear hb hbox hg
      refine hK.out _ _ (zc6 BK149) (fun hHeld => ?_)
      clear hK K
      refine norm_ (a' := ?_) ?_ ?_
      rotate_left
      ·show Act.put _ (some 11) _ = _
       simp only [Act.put, sA, s0, sS, i64_w, i32_w]
       rfl
      exact norm_ (by simp only [putAll, Act.put, sA, s0, sS] <;> rfl) (hJ3_7_11_12_14 (gb156, gb158) _ ⟨hHeld, (bk BK149.out), (bk BK156.out), (bk BK158.out), GW156.out, GE156.out, NB149_156.out, NB156_149.out, NB158_156.out, NB156_158.out, GW158.out, GE158.out, NB149_158.out, NB158_149.out, (bq HB.out)⟩)
     skip
     rintro ⟨gb156, gb157, gb158⟩ w30 ⟨hS_, h0_, h1_, h2_, h3_, h4_, h5_, h6_, h7_, h8_, h9_, h10_, h11_, h12_, h13_, h14_, h15_, h16_, h17_, h18_, h19_, h20_, h21_, h22_⟩
     have n0_ : Aside0 (w30.heap[gb149]? = some (.cells #[.int .u64 a2_0, .int .u64 a2_1, .int .u64 a2_2, .int .u64 a2_3, .int .u64 a2_4, .int .u64 a2_5] 26 (0, 0))) := ⟨h0_⟩
     have n1_ : Aside0 (w30.heap[gb156]? = some (.cells #[.int .u64 0, .int .u64 0] 24 (0, 0))) := ⟨h1_⟩
     have n2_ : Aside0 (w30.heap[gb157]? = some (.cells #[.int .u64 0, .int .u64 0] 24 (0, 0))) := ⟨h2_⟩
     have n3_ : Aside0 (w30.heap[gb158]? = some (.cells #[.int .u64 0, .int .u64 0] 24 (0, 0))) := ⟨h3_⟩
     have n4_ : Aside0 (w.heap.size ≤ gb156) := ⟨h4_⟩
     have n5_ : Aside0 (w.heap.size ≤ gb156) := ⟨h5_⟩
     have n6_ : Aside0 (gb149 ≠ gb156) := ⟨h6_⟩
     have n7_ : Aside0 (gb156 ≠ gb149) := ⟨h7_⟩
     have n8_ : Aside0 (gb157 ≠ gb156) := ⟨h8_⟩
     have n9_ : Aside0 (gb156 ≠ gb157) := ⟨h9_⟩
     have n10_ : Aside0 (gb158 ≠ gb156) := ⟨h10_⟩
     have n11_ : Aside0 (gb156 ≠ gb158) := ⟨h11_⟩
     have n12_ : Aside0 (w.heap.size ≤ gb157) := ⟨h12_⟩
     have n13_ : Aside0 (w.heap.size ≤ gb157) := ⟨h13_⟩
     have n14_ : Aside0 (gb149 ≠ gb157) := ⟨h14_⟩
     have n15_ : Aside0 (gb157 ≠ gb149) := ⟨h15_⟩
     have n16_ : Aside0 (gb158 ≠ gb157) := ⟨h16_⟩
     have n17_ : Aside0 (gb157 ≠ gb158) := ⟨h17_⟩
     have n18_ : Aside0 (w.heap.size ≤ gb158) := ⟨h18_⟩
     have n19_ : Aside0 (w.heap.size ≤ gb158) := ⟨h19_⟩
     have n20_ : Aside0 (gb149 ≠ gb158) := ⟨h20_⟩
     have n21_ : Aside0 (gb158 ≠ gb149) := ⟨h21_⟩
     have n22_ : Aside0 (Below w.heap.size w w30) := ⟨h22_⟩
     clear BK149
     clear HB
     clear h0_ h1_ h2_ h3_ h4_ h5_ h6_ h7_ h8_ h9_ h10_ h11_ h12_ h13_ h14_ h15_ h16_ h17_ h18_ h19_ h20_ h21_ h22_
     have BK149 := n0_
     have BK156 := n1_
     have BK157 := n2_
     have BK158 := n3_
     have GW156 := Aside1.mk n4_.out
     have GE156 := Aside1.mk n5_.out
     have NB149_156 := n6_
     have NB156_149 := n7_
     have NB157_156 := n8_
     have NB156_157 := n9_
     have NB158_156 := n10_
     have NB156_158 := n11_
     have GW157 := Aside1.mk n12_.out
     have GE157 := Aside1.mk n13_.out
     have NB149_157 := n14_
     have NB157_149 := n15_
     have NB158_157 := n16_
     have NB157_158 := n17_
     have GW158 := Aside1.mk n18_.out
     have GE158 := Aside1.mk n19_.out
     have NB149_158 := n20_
     have NB158_149 := n21_
     have HB := n22_
     clear n0_ n1_ n2_ n3_ n4_ n5_ n6_ n7_ n8_ n9_ n10_ n11_ n12_ n13_ n14_ n15_ n16_ n17_ n18_ n19_ n20_ n21_ n22_
     have hHeld : w30.cell? ⟨gb149, 0, none⟩ = some (.int .u64 a2_0) ∧ w30.cell? ⟨gb149, 1, none⟩ = some (.int .u64 a2_1) ∧ w30.cell? ⟨gb149, 2, none⟩ = some (.int .u64 a2_2) ∧ w30.cell? ⟨gb149, 3, none⟩ = some (.int .u64 a2_3) ∧ w30.cell? ⟨gb149, 4, none⟩ = some (.int .u64 a2_4) ∧ w30.cell? ⟨gb149, 5, none⟩ = some (.int .u64 a2_5) := hS_
     refine norm_ (a' := ?_) ?_ ?_
     rotate_left
     ·simp only [putAll, Act.put, sA, s0, sS]
      rfl
     refine one_ (i := 11) (N := some 38) #[yy, yy, yy, yy, yy, yy, yy, yy, yy, yy, yy, yy, yy, yy, yy, nn, nn, nn] rfl rfl (one_of HT_.out (by kernel_rfl)) (by decide) (fun K hK => ?_)
     refine goes_ Try.func10 (by kernel_rfl) rfl #[.int .i64 (lj8 a0 a1), .agg #[.int .u64 a2_4, .int .u64 a2_5]] (by rfl) rfl rfl (by (try simp only [mA, mC, mN]); first | done | rfl | (simp only [List.length_drop, List.length_take]; rfl)) ?_
     with_reducible refine (steeplelaw33_of.calls (lj8 a0 a1) a2_4 a2_5 t154 t155 _ A7.out).mono ?_
     rintro e w31 ⟨rfl, hb⟩
     refine ⟨_, rfl, ?_⟩
     replace BK149 := bb BK149 hb
     replace BK156 := bb BK156 hb
     replace BK157 := bb BK157 hb
     replace BK158 := bb BK158 hb
     replace HB := bh HB hb
     (try clear hb)
     refine hK.out _ _ (zc6 BK149) (fun hHeld => ?_)
     clear hK K
     refine norm_ (a' := ?_) ?_ ?_
     rotate_left
     ·show Act.put _ (some 38) _ = _
      simp only [Act.put, sA, s0, sS, i64_w, i32_w]
      rfl
     exact norm_ (by simp only [putAll, Act.put, sA, s0, sS] <;> rfl) (hJ3_7_11_12_13_14 (gb156, gb157, gb158) _ ⟨hHeld, (bk BK149.out), (bk BK156.out), (bk BK157.out), (bk BK158.out), GW156.out, GE156.out, NB149_156.out, NB156_149.out, NB157_156.out, NB156_157.out, NB158_156.out, NB156_158.out, GW157.out, GE157.out, NB149_157.out, NB157_149.out, NB158_157.out, NB157_158.out, GW158.out, GE158.out, NB149_158.out, NB158_149.out, (bq HB.out)⟩)
    skip
    rintro ⟨gb157, gb158⟩ w30 ⟨hS_, h0_, h1_, h2_, h3_, h4_, h5_, h6_, h7_, h8_, h9_, h10_, h11_, h12_, h13_⟩
    have n0_ : Aside0 (w30.heap[gb149]? = some (.cells #[.int .u64 a2_0, .int .u64 a2_1, .int .u64 a2_2, .int .u64 a2_3, .int .u64 a2_4, .int .u64 a2_5] 26 (0, 0))) := ⟨h0_⟩
    have n1_ : Aside0 (w30.heap[gb157]? = some (.cells #[.int .u64 0, .int .u64 0] 24 (0, 0))) := ⟨h1_⟩
    have n2_ : Aside0 (w30.heap[gb158]? = some (.cells #[.int .u64 0, .int .u64 0] 24 (0, 0))) := ⟨h2_⟩
    have n3_ : Aside0 (w.heap.size ≤ gb157) := ⟨h3_⟩
    have n4_ : Aside0 (w.heap.size ≤ gb157) := ⟨h4_⟩
    have n5_ : Aside0 (gb149 ≠ gb157) := ⟨h5_⟩
    have n6_ : Aside0 (gb157 ≠ gb149) := ⟨h6_⟩
    have n7_ : Aside0 (gb158 ≠ gb157) := ⟨h7_⟩
    have n8_ : Aside0 (gb157 ≠ gb158) := ⟨h8_⟩
    have n9_ : Aside0 (w.heap.size ≤ gb158) := ⟨h9_⟩
    have n10_ : Aside0 (w.heap.size ≤ gb158) := ⟨h10_⟩
    have n11_ : Aside0 (gb149 ≠ gb158) := ⟨h11_⟩
    have n12_ : Aside0 (gb158 ≠ gb149) := ⟨h12_⟩
    have n13_ : Aside0 (Below w.heap.size w w30) := ⟨h13_⟩
    clear BK149
    clear HB
    clear h0_ h1_ h2_ h3_ h4_ h5_ h6_ h7_ h8_ h9_ h10_ h11_ h12_ h13_
    have BK149 := n0_
    have BK157 := n1_
    have BK158 := n2_
    have GW157 := Aside1.mk n3_.out
    have GE157 := Aside1.mk n4_.out
    have NB149_157 := n5_
    have NB157_149 := n6_
    have NB158_157 := n7_
    have NB157_158 := n8_
    have GW158 := Aside1.mk n9_.out
    have GE158 := Aside1.mk n10_.out
    have NB149_158 := n11_
    have NB158_149 := n12_
    have HB := n13_
    clear n0_ n1_ n2_ n3_ n4_ n5_ n6_ n7_ n8_ n9_ n10_ n11_ n12_ n13_
    have hHeld : w30.cell? ⟨gb149, 0, none⟩ = some (.int .u64 a2_0) ∧ w30.cell? ⟨gb149, 1, none⟩ = some (.int .u64 a2_1) ∧ w30.cell? ⟨gb149, 2, none⟩ = some (.int .u64 a2_2) ∧ w30.cell? ⟨gb149, 3, none⟩ = some (.int .u64 a2_3) ∧ w30.cell? ⟨gb149, 4, none⟩ = some (.int .u64 a2_4) ∧ w30.cell? ⟨gb149, 5, none⟩ = some (.int .u64 a2_5) := hS_
    refine norm_ (a' := ?_) ?_ ?_
    rotate_left
    ·simp only [putAll, Act.put, sA, s0, sS]
     rfl
    refine one_ (i := 12) (N := some 9) #[yy, yy, yy, yy, yy, yy, yy, yy, yy, yy, yy, yy, yy, yy, yy, nn, nn, nn] rfl rfl (one_of HT_.out (by kernel_rfl)) (by decide) (fun K hK => ?_)
    refine box_step ?hg (N := 9) ?hd (cs := #[.int .u64 0, .int .u64 0]) (t := 24) ?hr ?_; (case hd => rfl); (case hg => rfl); (case hr => go_simp <;> rfl)
    intro gb156 hg w31 hbox hb
    have BK156 := Aside0.mk hbox
    have GW156 := ge hg HB
    have GE156 := ge hg HB
    have NB149_156 := nl hg BK149
    have NB156_149 := ng hg BK149
    have NB157_156 := nl hg BK157
    have NB156_157 := ng hg BK157
    have NB158_156 := nl hg BK158
    have NB156_158 := ng hg BK158
    replace BK149 := bb BK149 hb
    replace BK157 := bb BK157 hb
    replace BK158 := bb BK158 hb
    replace HB := bh HB hb
    clear hb hbox hg
    refine hK.out _ _ (zc6 BK149) (fun hHeld => ?_)
    clear hK K
    refine norm_ (a' := ?_) ?_ ?_
    rotate_left
    ·show Act.put _ (some 9) _ = _
     simp only [Act.put, sA, s0, sS, i64_w, i32_w]
     rfl
    exact norm_ (by simp only [putAll, Act.put, sA, s0, sS] <;> rfl) (hJ3_7_11_12_13_14 (gb156, gb157, gb158) _ ⟨hHeld, (bk BK149.out), (bk BK156.out), (bk BK157.out), (bk BK158.out), GW156.out, GE156.out, NB149_156.out, NB156_149.out, NB157_156.out, NB156_157.out, NB158_156.out, NB156_158.out, GW157.out, GE157.out, NB149_157.out, NB157_149.out, NB158_157.out, NB157_158.out, GW158.out, GE158.out, NB149_158.out, NB158_149.out, (bq HB.out)⟩)
   skip
   rintro ⟨gb156, gb158⟩ w30 ⟨hS_, h0_, h1_, h2_, h3_, h4_, h5_, h6_, h7_, h8_, h9_, h10_, h11_, h12_, h13_⟩
   have n0_ : Aside0 (w30.heap[gb149]? = some (.cells #[.int .u64 a2_0, .int .u64 a2_1, .int .u64 a2_2, .int .u64 a2_3, .int .u64 a2_4, .int .u64 a2_5] 26 (0, 0))) := ⟨h0_⟩
   have n1_ : Aside0 (w30.heap[gb156]? = some (.cells #[.int .u64 0, .int .u64 0] 24 (0, 0))) := ⟨h1_⟩
   have n2_ : Aside0 (w30.heap[gb158]? = some (.cells #[.int .u64 0, .int .u64 0] 24 (0, 0))) := ⟨h2_⟩
   have n3_ : Aside0 (w.heap.size ≤ gb156) := ⟨h3_⟩
   have n4_ : Aside0 (w.heap.size ≤ gb156) := ⟨h4_⟩
   have n5_ : Aside0 (gb149 ≠ gb156) := ⟨h5_⟩
   have n6_ : Aside0 (gb156 ≠ gb149) := ⟨h6_⟩
   have n7_ : Aside0 (gb158 ≠ gb156) := ⟨h7_⟩
   have n8_ : Aside0 (gb156 ≠ gb158) := ⟨h8_⟩
   have n9_ : Aside0 (w.heap.size ≤ gb158) := ⟨h9_⟩
   have n10_ : Aside0 (w.heap.size ≤ gb158) := ⟨h10_⟩
   have n11_ : Aside0 (gb149 ≠ gb158) := ⟨h11_⟩
   have n12_ : Aside0 (gb158 ≠ gb149) := ⟨h12_⟩
   have n13_ : Aside0 (Below w.heap.size w w30) := ⟨h13_⟩
   clear BK149
   clear HB
   clear h0_ h1_ h2_ h3_ h4_ h5_ h6_ h7_ h8_ h9_ h10_ h11_ h12_ h13_
   have BK149 := n0_
   have BK156 := n1_
   have BK158 := n2_
   have GW156 := Aside1.mk n3_.out
   have GE156 := Aside1.mk n4_.out
   have NB149_156 := n5_
   have NB156_149 := n6_
   have NB158_156 := n7_
   have NB156_158 := n8_
   have GW158 := Aside1.mk n9_.out
   have GE158 := Aside1.mk n10_.out
   have NB149_158 := n11_
   have NB158_149 := n12_
   have HB := n13_
   clear n0_ n1_ n2_ n3_ n4_ n5_ n6_ n7_ n8_ n9_ n10_ n11_ n12_ n13_
   have hHeld : w30.cell? ⟨gb149, 0, none⟩ = some (.int .u64 a2_0) ∧ w30.cell? ⟨gb149, 1, none⟩ = some (.int .u64 a2_1) ∧ w30.cell? ⟨gb149, 2, none⟩ = some (.int .u64 a2_2) ∧ w30.cell? ⟨gb149, 3, none⟩ = some (.int .u64 a2_3) ∧ w30.cell? ⟨gb149, 4, none⟩ = some (.int .u64 a2_4) ∧ w30.cell? ⟨gb149, 5, none⟩ = some (.int .u64 a2_5) := hS_
   refine norm_ (a' := ?_) ?_ ?_
   rotate_left
   ·simp only [putAll, Act.put, sA, s0, sS]
    rfl
   refine one_ (i := 13) (N := some 10) #[yy, yy, yy, yy, yy, yy, yy, yy, yy, yy, yy, yy, yy, yy, yy, nn, nn, nn] rfl rfl (one_of HT_.out (by kernel_rfl)) (by decide) (fun K hK => ?_)
   refine box_step ?hg (N := 10) ?hd (cs := #[.int .u64 0, .int .u64 0]) (t := 24) ?hr ?_; (case hd => rfl); (case hg => rfl); (case hr => go_simp <;> rfl)
   intro gb157 hg w31 hbox hb
   have BK157 := Aside0.mk hbox
   have GW157 := ge hg HB
   have GE157 := ge hg HB
   have NB149_157 := nl hg BK149
   have NB157_149 := ng hg BK149
   have NB156_157 := nl hg BK156
   have NB157_156 := ng hg BK156
   have NB158_157 := nl hg BK158
   have NB157_158 := ng hg BK158
   replace BK149 := bb BK149 hb
   replace BK156 := bb BK156 hb
   replace BK158 := bb BK158 hb
   replace HB := bh HB hb
   clear hb hbox hg
   refine hK.out _ _ (zc6 BK149) (fun hHeld => ?_)
   clear hK K
   refine norm_ (a' := ?_) ?_ ?_
   rotate_left
   ·show Act.put _ (some 10) _ = _
    simp only [Act.put, sA, s0, sS, i64_w, i32_w]
    rfl
   exact norm_ (by simp only [putAll, Act.put, sA, s0, sS] <;> rfl) (hJ3_7_11_12_13_14 (gb156, gb157, gb158) _ ⟨hHeld, (bk BK149.out), (bk BK156.out), (bk BK157.out), (bk BK158.out), GW156.out, GE156.out, NB149_156.out, NB156_149.out, NB157_156.out, NB156_157.out, NB158_156.out, NB156_158.out, GW157.out, GE157.out, NB149_157.out, NB157_149.out, NB158_157.out, NB157_158.out, GW158.out, GE158.out, NB149_158.out, NB158_149.out, (bq HB.out)⟩)
  skip
  rintro ⟨gb156, gb157⟩ w30 ⟨hS_, h0_, h1_, h2_, h3_, h4_, h5_, h6_, h7_, h8_, h9_, h10_, h11_, h12_, h13_⟩
  have n0_ : Aside0 (w30.heap[gb149]? = some (.cells #[.int .u64 a2_0, .int .u64 a2_1, .int .u64 a2_2, .int .u64 a2_3, .int .u64 a2_4, .int .u64 a2_5] 26 (0, 0))) := ⟨h0_⟩
  have n1_ : Aside0 (w30.heap[gb156]? = some (.cells #[.int .u64 0, .int .u64 0] 24 (0, 0))) := ⟨h1_⟩
  have n2_ : Aside0 (w30.heap[gb157]? = some (.cells #[.int .u64 0, .int .u64 0] 24 (0, 0))) := ⟨h2_⟩
  have n3_ : Aside0 (w.heap.size ≤ gb156) := ⟨h3_⟩
  have n4_ : Aside0 (w.heap.size ≤ gb156) := ⟨h4_⟩
  have n5_ : Aside0 (gb149 ≠ gb156) := ⟨h5_⟩
  have n6_ : Aside0 (gb156 ≠ gb149) := ⟨h6_⟩
  have n7_ : Aside0 (gb157 ≠ gb156) := ⟨h7_⟩
  have n8_ : Aside0 (gb156 ≠ gb157) := ⟨h8_⟩
  have n9_ : Aside0 (w.heap.size ≤ gb157) := ⟨h9_⟩
  have n10_ : Aside0 (w.heap.size ≤ gb157) := ⟨h10_⟩
  have n11_ : Aside0 (gb149 ≠ gb157) := ⟨h11_⟩
  have n12_ : Aside0 (gb157 ≠ gb149) := ⟨h12_⟩
  have n13_ : Aside0 (Below w.heap.size w w30) := ⟨h13_⟩
  clear BK149
  clear HB
  clear h0_ h1_ h2_ h3_ h4_ h5_ h6_ h7_ h8_ h9_ h10_ h11_ h12_ h13_
  have BK149 := n0_
  have BK156 := n1_
  have BK157 := n2_
  have GW156 := Aside1.mk n3_.out
  have GE156 := Aside1.mk n4_.out
  have NB149_156 := n5_
  have NB156_149 := n6_
  have NB157_156 := n7_
  have NB156_157 := n8_
  have GW157 := Aside1.mk n9_.out
  have GE157 := Aside1.mk n10_.out
  have NB149_157 := n11_
  have NB157_149 := n12_
  have HB := n13_
  clear n0_ n1_ n2_ n3_ n4_ n5_ n6_ n7_ n8_ n9_ n10_ n11_ n12_ n13_
  have hHeld : w30.cell? ⟨gb149, 0, none⟩ = some (.int .u64 a2_0) ∧ w30.cell? ⟨gb149, 1, none⟩ = some (.int .u64 a2_1) ∧ w30.cell? ⟨gb149, 2, none⟩ = some (.int .u64 a2_2) ∧ w30.cell? ⟨gb149, 3, none⟩ = some (.int .u64 a2_3) ∧ w30.cell? ⟨gb149, 4, none⟩ = some (.int .u64 a2_4) ∧ w30.cell? ⟨gb149, 5, none⟩ = some (.int .u64 a2_5) := hS_
  refine norm_ (a' := ?_) ?_ ?_
  rotate_left
  ·simp only [putAll, Act.put, sA, s0, sS]
   rfl
  refine one_ (i := 14) (N := some 11) #[yy, yy, yy, yy, yy, yy, yy, yy, yy, yy, yy, yy, yy, yy, yy, nn, nn, nn] rfl rfl (one_of HT_.out (by kernel_rfl)) (by decide) (fun K hK => ?_)
  refine box_step ?hg (N := 11) ?hd (cs := #[.int .u64 0, .int .u64 0]) (t := 24) ?hr ?_; (case hd => rfl); (case hg => rfl); (case hr => go_simp <;> rfl)
  intro gb158 hg w31 hbox hb
  have BK158 := Aside0.mk hbox
  have GW158 := ge hg HB
  have GE158 := ge hg HB
  have NB149_158 := nl hg BK149
  have NB158_149 := ng hg BK149
  have NB156_158 := nl hg BK156
  have NB158_156 := ng hg BK156
  have NB157_158 := nl hg BK157
  have NB158_157 := ng hg BK157
  replace BK149 := bb BK149 hb
  replace BK156 := bb BK156 hb
  replace BK157 := bb BK157 hb
  replace HB := bh HB hb
  clear hb hbox hg
  refine hK.out _ _ (zc6 BK149) (fun hHeld => ?_)
  clear hK K
  refine norm_ (a' := ?_) ?_ ?_
  rotate_left
  ·show Act.put _ (some 11) _ = _
   simp only [Act.put, sA, s0, sS, i64_w, i32_w]
   rfl
  exact norm_ (by simp only [putAll, Act.put, sA, s0, sS] <;> rfl) (hJ3_7_11_12_13_14 (gb156, gb157, gb158) _ ⟨hHeld, (bk BK149.out), (bk BK156.out), (bk BK157.out), (bk BK158.out), GW156.out, GE156.out, NB149_156.out, NB156_149.out, NB157_156.out, NB156_157.out, NB158_156.out, NB156_158.out, GW157.out, GE157.out, NB149_157.out, NB157_149.out, NB158_157.out, NB157_158.out, GW158.out, GE158.out, NB149_158.out, NB158_149.out, (bq HB.out)⟩)
 rintro ⟨gb156, gb157, gb158⟩ w31 ⟨hS_, h0_, h1_, h2_, h3_, h4_, h5_, h6_, h7_, h8_, h9_, h10_, h11_, h12_, h13_, h14_, h15_, h16_, h17_, h18_, h19_, h20_, h21_, h22_⟩
 have n0_ : Aside0 (w31.heap[gb149]? = some (.cells #[.int .u64 a2_0, .int .u64 a2_1, .int .u64 a2_2, .int .u64 a2_3, .int .u64 a2_4, .int .u64 a2_5] 26 (0, 0))) := ⟨h0_⟩
 have n1_ : Aside0 (w31.heap[gb156]? = some (.cells #[.int .u64 0, .int .u64 0] 24 (0, 0))) := ⟨h1_⟩
 have n2_ : Aside0 (w31.heap[gb157]? = some (.cells #[.int .u64 0, .int .u64 0] 24 (0, 0))) := ⟨h2_⟩
 have n3_ : Aside0 (w31.heap[gb158]? = some (.cells #[.int .u64 0, .int .u64 0] 24 (0, 0))) := ⟨h3_⟩
 have n4_ : Aside0 (w.heap.size ≤ gb156) := ⟨h4_⟩
 have n5_ : Aside0 (w.heap.size ≤ gb156) := ⟨h5_⟩
 have n6_ : Aside0 (gb149 ≠ gb156) := ⟨h6_⟩
 have n7_ : Aside0 (gb156 ≠ gb149) := ⟨h7_⟩
 have n8_ : Aside0 (gb157 ≠ gb156) := ⟨h8_⟩
 have n9_ : Aside0 (gb156 ≠ gb157) := ⟨h9_⟩
 have n10_ : Aside0 (gb158 ≠ gb156) := ⟨h10_⟩
 have n11_ : Aside0 (gb156 ≠ gb158) := ⟨h11_⟩
 have n12_ : Aside0 (w.heap.size ≤ gb157) := ⟨h12_⟩
 have n13_ : Aside0 (w.heap.size ≤ gb157) := ⟨h13_⟩
 have n14_ : Aside0 (gb149 ≠ gb157) := ⟨h14_⟩
 have n15_ : Aside0 (gb157 ≠ gb149) := ⟨h15_⟩
 have n16_ : Aside0 (gb158 ≠ gb157) := ⟨h16_⟩
 have n17_ : Aside0 (gb157 ≠ gb158) := ⟨h17_⟩
 have n18_ : Aside0 (w.heap.size ≤ gb158) := ⟨h18_⟩
 have n19_ : Aside0 (w.heap.size ≤ gb158) := ⟨h19_⟩
 have n20_ : Aside0 (gb149 ≠ gb158) := ⟨h20_⟩
 have n21_ : Aside0 (gb158 ≠ gb149) := ⟨h21_⟩
 have n22_ : Aside0 (Below w.heap.size w w31) := ⟨h22_⟩
 clear BK149
 clear HB
 clear h0_ h1_ h2_ h3_ h4_ h5_ h6_ h7_ h8_ h9_ h10_ h11_ h12_ h13_ h14_ h15_ h16_ h17_ h18_ h19_ h20_ h21_ h22_
 have BK149 := n0_
 have BK156 := n1_
 have BK157 := n2_
 have BK158 := n3_
 have GW156 := Aside1.mk n4_.out
 have GE156 := Aside1.mk n5_.out
 have NB149_156 := n6_
 have NB156_149 := n7_
 have NB157_156 := n8_
 have NB156_157 := n9_
 have NB158_156 := n10_
 have NB156_158 := n11_
 have GW157 := Aside1.mk n12_.out
 have GE157 := Aside1.mk n13_.out
 have NB149_157 := n14_
 have NB157_149 := n15_
 have NB158_157 := n16_
 have NB157_158 := n17_
 have GW158 := Aside1.mk n18_.out
 have GE158 := Aside1.mk n19_.out
 have NB149_158 := n20_
 have NB158_149 := n21_
 have HB := n22_
 clear n0_ n1_ n2_ n3_ n4_ n5_ n6_ n7_ n8_ n9_ n10_ n11_ n12_ n13_ n14_ n15_ n16_ n17_ n18_ n19_ n20_ n21_ n22_
 have hHeld : w31.cell? ⟨gb149, 0, none⟩ = some (.int .u64 a2_0) ∧ w31.cell? ⟨gb149, 1, none⟩ = some (.int .u64 a2_1) ∧ w31.cell? ⟨gb149, 2, none⟩ = some (.int .u64 a2_2) ∧ w31.cell? ⟨gb149, 3, none⟩ = some (.int .u64 a2_3) ∧ w31.cell? ⟨gb149, 4, none⟩ = some (.int .u64 a2_4) ∧ w31.cell? ⟨gb149, 5, none⟩ = some (.int .u64 a2_5) := hS_
 refine norm_ (a' := ?_) ?_ ?_
 rotate_left
 ·simp only [putAll, Act.put, sA, s0, sS]
  rfl
 refine one_ (i := 15) (N := none) #[yy, yy, yy, yy, yy, yy, yy, yy, yy, yy, yy, yy, yy, yy, yy, yy, nn, nn] rfl rfl (one_of HT_.out (by kernel_rfl)) (by decide) (fun K hK => ?_)
 have hs32 : w31.cell? ⟨gb156, 0, none⟩ = some (.int .u64 0) := bc BK156 0 rfl
 have hfs32 := blk_frozen BK156.out 0
 have hns32_0 := NB149_156.out
 have hns32_2 := NB157_156.out
 have hns32_3 := NB158_156.out
 have hms32_0 := NB156_149.out
 have hms32_2 := NB156_157.out
 have hms32_3 := NB156_158.out
 have hs33 : w31.cell? ⟨gb156, 1, none⟩ = some (.int .u64 0) := bc BK156 1 rfl
 have hfs33 := blk_frozen BK156.out 1
 have hns33_0 := NB149_156.out
 have hns33_2 := NB157_156.out
 have hns33_3 := NB158_156.out
 have hms33_0 := NB156_149.out
 have hms33_2 := NB156_157.out
 have hms33_3 := NB156_158.out
 refine skip_ (w1 := ?_) (by rfl) rfl ?_ ?_
 rotate_left
 ·go_simp
  rfl
 refine hK.out _ _ ⟨((cell_far (p := ⟨gb156, _, none⟩) NB149_156.out _).trans (((cell_far (p := ⟨gb156, _, none⟩) NB149_156.out _).trans (hHeld.1)))), ((cell_far (p := ⟨gb156, _, none⟩) NB149_156.out _).trans (((cell_far (p := ⟨gb156, _, none⟩) NB149_156.out _).trans (hHeld.2.1)))), ((cell_far (p := ⟨gb156, _, none⟩) NB149_156.out _).trans (((cell_far (p := ⟨gb156, _, none⟩) NB149_156.out _).trans (hHeld.2.2.1)))), ((cell_far (p := ⟨gb156, _, none⟩) NB149_156.out _).trans (((cell_far (p := ⟨gb156, _, none⟩) NB149_156.out _).trans (hHeld.2.2.2.1)))), ((cell_far (p := ⟨gb156, _, none⟩) NB149_156.out _).trans (((cell_far (p := ⟨gb156, _, none⟩) NB149_156.out _).trans (hHeld.2.2.2.2.1)))), ((cell_far (p := ⟨gb156, _, none⟩) NB149_156.out _).trans (((cell_far (p := ⟨gb156, _, none⟩) NB149_156.out _).trans (hHeld.2.2.2.2.2))))⟩ (fun hHeld => ?_)
 clear hK K
 refine one_ (i := 16) (N := none) #[yy, yy, yy, yy, yy, yy, yy, yy, yy, yy, yy, yy, yy, yy, yy, yy, yy, nn] rfl rfl (one_of HT_.out (by kernel_rfl)) (by decide) (fun K hK => ?_)
 have hs34 : w31.cell? ⟨gb157, 0, none⟩ = some (.int .u64 0) := bc BK157 0 rfl
 have hfs34 := blk_frozen BK157.out 0
 have hns34_0 := NB149_157.out
 have hns34_1 := NB156_157.out
 have hns34_3 := NB158_157.out
 have hms34_0 := NB157_149.out
 have hms34_1 := NB157_156.out
 have hms34_3 := NB157_158.out
 have hs35 : w31.cell? ⟨gb157, 1, none⟩ = some (.int .u64 0) := bc BK157 1 rfl
 have hfs35 := blk_frozen BK157.out 1
 have hns35_0 := NB149_157.out
 have hns35_1 := NB156_157.out
 have hns35_3 := NB158_157.out
 have hms35_0 := NB157_149.out
 have hms35_1 := NB157_156.out
 have hms35_3 := NB157_158.out
 refine skip_ (w1 := ?_) (by rfl) rfl ?_ ?_
 rotate_left
 ·go_simp
  rfl
 refine hK.out _ _ ⟨((cell_far (p := ⟨gb157, _, none⟩) NB149_157.out _).trans (((cell_far (p := ⟨gb157, _, none⟩) NB149_157.out _).trans (hHeld.1)))), ((cell_far (p := ⟨gb157, _, none⟩) NB149_157.out _).trans (((cell_far (p := ⟨gb157, _, none⟩) NB149_157.out _).trans (hHeld.2.1)))), ((cell_far (p := ⟨gb157, _, none⟩) NB149_157.out _).trans (((cell_far (p := ⟨gb157, _, none⟩) NB149_157.out _).trans (hHeld.2.2.1)))), ((cell_far (p := ⟨gb157, _, none⟩) NB149_157.out _).trans (((cell_far (p := ⟨gb157, _, none⟩) NB149_157.out _).trans (hHeld.2.2.2.1)))), ((cell_far (p := ⟨gb157, _, none⟩) NB149_157.out _).trans (((cell_far (p := ⟨gb157, _, none⟩) NB149_157.out _).trans (hHeld.2.2.2.2.1)))), ((cell_far (p := ⟨gb157, _, none⟩) NB149_157.out _).trans (((cell_far (p := ⟨gb157, _, none⟩) NB149_157.out _).trans (hHeld.2.2.2.2.2))))⟩ (fun hHeld => ?_)
 clear hK K
 refine one_ (i := 17) (N := none) #[yy, yy, yy, yy, yy, yy, yy, yy, yy, yy, yy, yy, yy, yy, yy, yy, yy, yy] rfl rfl (one_of HT_.out (by kernel_rfl)) (by decide) (fun K hK => ?_)
 have hs36 : w31.cell? ⟨gb158, 0, none⟩ = some (.int .u64 0) := bc BK158 0 rfl
 have hfs36 := blk_frozen BK158.out 0
 have hns36_0 := NB149_158.out
 have hns36_1 := NB156_158.out
 have hns36_2 := NB157_158.out
 have hms36_0 := NB158_149.out
 have hms36_1 := NB158_156.out
 have hms36_2 := NB158_157.out
 have hs37 : w31.cell? ⟨gb158, 1, none⟩ = some (.int .u64 0) := bc BK158 1 rfl
 have hfs37 := blk_frozen BK158.out 1
 have hns37_0 := NB149_158.out
 have hns37_1 := NB156_158.out
 have hns37_2 := NB157_158.out
 have hms37_0 := NB158_149.out
 have hms37_1 := NB158_156.out
 have hms37_2 := NB158_157.out
 refine skip_ (w1 := ?_) (by rfl) rfl ?_ ?_
 rotate_left
 ·go_simp
  rfl
 refine hK.out _ _ ⟨((cell_far (p := ⟨gb158, _, none⟩) NB149_158.out _).trans (((cell_far (p := ⟨gb158, _, none⟩) NB149_158.out _).trans (hHeld.1)))), ((cell_far (p := ⟨gb158, _, none⟩) NB149_158.out _).trans (((cell_far (p := ⟨gb158, _, none⟩) NB149_158.out _).trans (hHeld.2.1)))), ((cell_far (p := ⟨gb158, _, none⟩) NB149_158.out _).trans (((cell_far (p := ⟨gb158, _, none⟩) NB149_158.out _).trans (hHeld.2.2.1)))), ((cell_far (p := ⟨gb158, _, none⟩) NB149_158.out _).trans (((cell_far (p := ⟨gb158, _, none⟩) NB149_158.out _).trans (hHeld.2.2.2.1)))), ((cell_far (p := ⟨gb158, _, none⟩) NB149_158.out _).trans (((cell_far (p := ⟨gb158, _, none⟩) NB149_158.out _).trans (hHeld.2.2.2.2.1)))), ((cell_far (p := ⟨gb158, _, none⟩) NB149_158.out _).trans (((cell_far (p := ⟨gb158, _, none⟩) NB149_158.out _).trans (hHeld.2.2.2.2.2))))⟩ (fun hHeld => ?_)
 clear hK K
 refine done_ (done_of HT_.out (by kernel_rfl)) ?_
 try go_wp2
 have n0_ : Aside0 (((((((w31.setCell ⟨gb156, 0, none⟩ (.int .u64 t150)).setCell ⟨gb156, 1, none⟩ (.int .u64 t151)).setCell ⟨gb157, 0, none⟩ (.int .u64 t152)).setCell ⟨gb157, 1, none⟩ (.int .u64 t153)).setCell ⟨gb158, 0, none⟩ (.int .u64 t154)).setCell ⟨gb158, 1, none⟩ (.int .u64 t155)).heap[gb149]? = some (.cells #[.int .u64 a2_0, .int .u64 a2_1, .int .u64 a2_2, .int .u64 a2_3, .int .u64 a2_4, .int .u64 a2_5] 26 (0, 0))) := ⟨by (with_reducible repeat refine bl ?_); refine blk_far ?_ NB149_158.out _; (with_reducible repeat refine bl ?_); refine blk_far ?_ NB149_158.out _; (with_reducible repeat refine bl ?_); refine blk_far ?_ NB149_157.out _; (with_reducible repeat refine bl ?_); refine blk_far ?_ NB149_157.out _; (with_reducible repeat refine bl ?_); refine blk_far ?_ NB149_156.out _; (with_reducible repeat refine bl ?_); refine blk_far ?_ NB149_156.out _; (with_reducible repeat refine bl ?_); exact BK149.out⟩
 have n1_ : Aside0 (((((((w31.setCell ⟨gb156, 0, none⟩ (.int .u64 t150)).setCell ⟨gb156, 1, none⟩ (.int .u64 t151)).setCell ⟨gb157, 0, none⟩ (.int .u64 t152)).setCell ⟨gb157, 1, none⟩ (.int .u64 t153)).setCell ⟨gb158, 0, none⟩ (.int .u64 t154)).setCell ⟨gb158, 1, none⟩ (.int .u64 t155)).heap[gb156]? = some (.cells #[.int .u64 t150, .int .u64 t151] 24 (0, 0))) := ⟨by (with_reducible repeat refine bl ?_); refine blk_far ?_ NB156_158.out _; (with_reducible repeat refine bl ?_); refine blk_far ?_ NB156_158.out _; (with_reducible repeat refine bl ?_); refine blk_far ?_ NB156_157.out _; (with_reducible repeat refine bl ?_); refine blk_far ?_ NB156_157.out _; (with_reducible repeat refine bl ?_); refine blk_put (cs := #[.int .u64 t150, .int .u64 0]) ?_ 1 _ rfl; (with_reducible repeat refine bl ?_); refine blk_put (cs := #[.int .u64 0, .int .u64 0]) ?_ 0 _ rfl; (with_reducible repeat refine bl ?_); exact BK156.out⟩
 have n2_ : Aside0 (((((((w31.setCell ⟨gb156, 0, none⟩ (.int .u64 t150)).setCell ⟨gb156, 1, none⟩ (.int .u64 t151)).setCell ⟨gb157, 0, none⟩ (.int .u64 t152)).setCell ⟨gb157, 1, none⟩ (.int .u64 t153)).setCell ⟨gb158, 0, none⟩ (.int .u64 t154)).setCell ⟨gb158, 1, none⟩ (.int .u64 t155)).heap[gb157]? = some (.cells #[.int .u64 t152, .int .u64 t153] 24 (0, 0))) := ⟨by (with_reducible repeat refine bl ?_); refine blk_far ?_ NB157_158.out _; (with_reducible repeat refine bl ?_); refine blk_far ?_ NB157_158.out _; (with_reducible repeat refine bl ?_); refine blk_put (cs := #[.int .u64 t152, .int .u64 0]) ?_ 1 _ rfl; (with_reducible repeat refine bl ?_); refine blk_put (cs := #[.int .u64 0, .int .u64 0]) ?_ 0 _ rfl; (with_reducible repeat refine bl ?_); refine blk_far ?_ NB157_156.out _; (with_reducible repeat refine bl ?_); refine blk_far ?_ NB157_156.out _; (with_reducible repeat refine bl ?_); exact BK157.out⟩
 have n3_ : Aside0 (((((((w31.setCell ⟨gb156, 0, none⟩ (.int .u64 t150)).setCell ⟨gb156, 1, none⟩ (.int .u64 t151)).setCell ⟨gb157, 0, none⟩ (.int .u64 t152)).setCell ⟨gb157, 1, none⟩ (.int .u64 t153)).setCell ⟨gb158, 0, none⟩ (.int .u64 t154)).setCell ⟨gb158, 1, none⟩ (.int .u64 t155)).heap[gb158]? = some (.cells #[.int .u64 t154, .int .u64 t155] 24 (0, 0))) := ⟨by (with_reducible repeat refine bl ?_); refine blk_put (cs := #[.int .u64 t154, .int .u64 0]) ?_ 1 _ rfl; (with_reducible repeat refine bl ?_); refine blk_put (cs := #[.int .u64 0, .int .u64 0]) ?_ 0 _ rfl; (with_reducible repeat refine bl ?_); refine blk_far ?_ NB158_157.out _; (with_reducible repeat refine bl ?_); refine blk_far ?_ NB158_157.out _; (with_reducible repeat refine bl ?_); refine blk_far ?_ NB158_156.out _; (with_reducible repeat refine bl ?_); refine blk_far ?_ NB158_156.out _; (with_reducible repeat refine bl ?_); exact BK158.out⟩
 have n4_ : Aside0 (Below w.heap.size w ((((((w31.setCell ⟨gb156, 0, none⟩ (.int .u64 t150)).setCell ⟨gb156, 1, none⟩ (.int .u64 t151)).setCell ⟨gb157, 0, none⟩ (.int .u64 t152)).setCell ⟨gb157, 1, none⟩ (.int .u64 t153)).setCell ⟨gb158, 0, none⟩ (.int .u64 t154)).setCell ⟨gb158, 1, none⟩ (.int .u64 t155))) := ⟨bq HB.out⟩
 (try clear BK149)
 (try clear BK156)
 (try clear BK157)
 (try clear BK158)
 (try clear HB)
 generalize ((((((w31.setCell ⟨gb156, 0, none⟩ (.int .u64 t150)).setCell ⟨gb156, 1, none⟩ (.int .u64 t151)).setCell ⟨gb157, 0, none⟩ (.int .u64 t152)).setCell ⟨gb157, 1, none⟩ (.int .u64 t153)).setCell ⟨gb158, 0, none⟩ (.int .u64 t154)).setCell ⟨gb158, 1, none⟩ (.int .u64 t155)) = w38 at n0_ n1_ n2_ n3_ n4_ ⊢
 have BK149 := n0_
 have BK156 := n1_
 have BK157 := n2_
 have BK158 := n3_
 have HB := n4_
 clear n0_ n1_ n2_ n3_ n4_
 replace BK149 := Aside0.mk (blk_drew BK149.out)
 replace BK156 := Aside0.mk (blk_drew BK156.out)
 replace BK157 := Aside0.mk (blk_drew BK157.out)
 replace BK158 := Aside0.mk (blk_drew BK158.out)
 replace HB := Aside0.mk (below_drew1 HB.out)
 refine start_ (n := 11) (S := fun w' => w'.cell? ⟨gb158, 0, none⟩ = some (.int .u64 t154) ∧ w'.cell? ⟨gb158, 1, none⟩ = some (.int .u64 t155) ∧ w'.cell? ⟨gb156, 0, none⟩ = some (.int .u64 t150) ∧ w'.cell? ⟨gb156, 1, none⟩ = some (.int .u64 t151) ∧ w'.cell? ⟨gb157, 0, none⟩ = some (.int .u64 t152) ∧ w'.cell? ⟨gb157, 1, none⟩ = some (.int .u64 t153)) (ds := []) #[nn, nn, nn, nn, nn, nn, nn, nn, nn, nn, nn] (by kernel_rfl) rfl rfl ⟨bc BK158 0 rfl, bc BK158 1 rfl, bc BK156 0 rfl, bc BK156 1 rfl, bc BK157 0 rfl, bc BK157 1 rfl⟩ (fun hHeld => ?_); refine with_tabW steeplelaw33_FrobLinear.tab4 steeplelaw33_FrobLinear.bits4 (fun HT_ HW_ => ?_)
 generalize w38.drew = w39 at BK149 BK156 BK157 BK158 HB hHeld ⊢
 refine pure_ (i := 0) (N := some 39) (v := ?_) (a' := ?_) #[yy, nn, nn, nn, nn, nn, nn, nn, nn, nn, nn] rfl rfl (any_of HT_.out (by kernel_rfl)) (fun _ _ _ h => h) (Or.inl ⟨by rfl, ?_⟩) ?_ ?_
 rotate_left
 ·intro w'
  go_simp
  with_reducible rfl
 rotate_left
 ·simp only [Act.put, sA, s0, sS, i64_w, i32_w]
  rfl
 refine pure_ (i := 1) (N := some 40) (v := ?_) (a' := ?_) #[yy, yy, nn, nn, nn, nn, nn, nn, nn, nn, nn] rfl rfl (any_of HT_.out (by kernel_rfl)) (fun _ _ _ h => h) (Or.inl ⟨by rfl, ?_⟩) ?_ ?_
 rotate_left
 ·intro w'
  go_simp
  with_reducible rfl
 rotate_left
 ·simp only [Act.put, sA, s0, sS, i64_w, i32_w]
  rfl
 refine pure_ (i := 2) (N := some 41) (v := ?_) (a' := ?_) #[yy, yy, yy, nn, nn, nn, nn, nn, nn, nn, nn] rfl rfl (any_of HT_.out (by kernel_rfl)) (fun _ _ _ h => h) (Or.inl ⟨by rfl, ?_⟩) ?_ ?_
 rotate_left
 ·intro w'
  go_simp
  with_reducible rfl
 rotate_left
 ·simp only [Act.put, sA, s0, sS, i64_w, i32_w]
  rfl
 refine take_ (i := 3) (N := some 42) (v := ?_) (a' := ?_) #[yy, yy, yy, yy, nn, nn, nn, nn, nn, nn, nn] rfl rfl (take_ofW HT_.out HW_.out (by kernel_rfl)) (fun _ _ _ h => h) (Or.inl ⟨by rfl, ?_⟩) hHeld ?_ ?_
 rotate_left
 ·rintro w' ⟨s0, s1, s2, s3, s4, s5⟩
  go_simp
  with_reducible rfl
 rotate_left
 ·simp only [Act.put, sA, s0, sS, i64_w, i32_w]
  rfl
 refine take_ (i := 4) (N := some 43) (v := ?_) (a' := ?_) #[yy, yy, yy, yy, yy, nn, nn, nn, nn, nn, nn] rfl rfl (take_ofW HT_.out HW_.out (by kernel_rfl)) (fun _ _ _ h => h) (Or.inl ⟨by rfl, ?_⟩) hHeld ?_ ?_
 rotate_left
 ·rintro w' ⟨s0, s1, s2, s3, s4, s5⟩
  go_simp
  with_reducible rfl
 rotate_left
 ·simp only [Act.put, sA, s0, sS, i64_w, i32_w]
  rfl
 refine take_ (i := 6) (N := some 45) (v := ?_) (a' := ?_) #[yy, yy, yy, yy, yy, nn, yy, nn, nn, nn, nn] rfl rfl (take_ofW HT_.out HW_.out (by kernel_rfl)) (fun _ _ _ h => h) (Or.inl ⟨by rfl, ?_⟩) hHeld ?_ ?_
 rotate_left
 ·rintro w' ⟨s0, s1, s2, s3, s4, s5⟩
  go_simp
  with_reducible rfl
 rotate_left
 ·simp only [Act.put, sA, s0, sS, i64_w, i32_w]
  rfl
 refine join_ (σ := Nat) 1 #[yy, yy, yy, yy, yy, yy, yy, yy, yy, yy, nn] (fun s_ => [(44, .agg #[.int .u64 t159, .int .u64 t160]), (46, .agg #[.int .u64 t161, .int .u64 t162]), (47, .agg #[.int .u64 t163, .int .u64 t164]), (12, .pointer (some ⟨s_, 0, none⟩))]) (fun s_ w' => (w'.cell? ⟨gb158, 0, none⟩ = some (.int .u64 t154) ∧ w'.cell? ⟨gb158, 1, none⟩ = some (.int .u64 t155) ∧ w'.cell? ⟨gb156, 0, none⟩ = some (.int .u64 t150) ∧ w'.cell? ⟨gb156, 1, none⟩ = some (.int .u64 t151) ∧ w'.cell? ⟨gb157, 0, none⟩ = some (.int .u64 t152) ∧ w'.cell? ⟨gb157, 1, none⟩ = some (.int .u64 t153)) ∧ (w'.heap[gb149]? = some (.cells #[.int .u64 a2_0, .int .u64 a2_1, .int .u64 a2_2, .int .u64 a2_3, .int .u64 a2_4, .int .u64 a2_5] 26 (0, 0))) ∧ (w'.heap[gb156]? = some (.cells #[.int .u64 t150, .int .u64 t151] 24 (0, 0))) ∧ (w'.heap[gb157]? = some (.cells #[.int .u64 t152, .int .u64 t153] 24 (0, 0))) ∧ (w'.heap[gb158]? = some (.cells #[.int .u64 t154, .int .u64 t155] 24 (0, 0))) ∧ (w'.heap[s_]? = some (.cells #[.int .u64 0, .int .u64 0] 24 (0, 0))) ∧ (w.heap.size ≤ s_) ∧ (w.heap.size ≤ s_) ∧ (gb149 ≠ s_) ∧ (s_ ≠ gb149) ∧ (gb156 ≠ s_) ∧ (s_ ≠ gb156) ∧ (gb157 ≠ s_) ∧ (s_ ≠ gb157) ∧ (gb158 ≠ s_) ∧ (s_ ≠ gb158) ∧ (Below w.heap.size w w')) ?_ ?_
 rotate_left
 ·intro hCont
  refine two_ (i := 5) (j := 9) (Ni := some 44) (Nj := some 12) #[yy, yy, yy, yy, yy, yy, yy, nn, nn, nn, nn] #[yy, yy, yy, yy, yy, nn, yy, nn, nn, yy, nn] rfl rfl rfl rfl (two_of HT_.out (by kernel_rfl)) (by decide) (by decide) (fun K hK => ?_) (fun K hK => ?_)
  ·skip
   refine goes_ Try.func13 (by kernel_rfl) rfl #[.int .i64 (lv8 a0), .agg #[.int .u64 t154, .int .u64 t155], .agg #[.int .u64 t150, .int .u64 t151]] (by rfl) rfl rfl (by (try simp only [mA, mC, mN]); first | done | rfl | (simp only [List.length_drop, List.length_take]; rfl)) ?_
   with_reducible refine (tower_Mul.calls k (lv8 a0) t154 t155 t150 t151 t159 t160 _ A8.out).mono ?_
   rintro e w40 ⟨rfl, hb⟩
   refine ⟨_, rfl, ?_⟩
   replace BK149 := bb BK149 hb
   replace BK156 := bb BK156 hb
   replace BK157 := bb BK157 hb
   replace BK158 := bb BK158 hb
   replace HB := bh HB hb
   (try clear hb)
   refine hK.out _ _ ⟨bc BK158 0 rfl, bc BK158 1 rfl, bc BK156 0 rfl, bc BK156 1 rfl, bc BK157 0 rfl, bc BK157 1 rfl⟩ (fun hHeld => ?_)
   clear hK K
   refine norm_ (a' := ?_) ?_ ?_
   rotate_left
   ·show Act.put _ (some 44) _ = _
    simp only [Act.put, sA, s0, sS, i64_w, i32_w]
    rfl
   refine two_ (i := 7) (j := 9) (Ni := some 46) (Nj := some 12) #[yy, yy, yy, yy, yy, yy, yy, yy, nn, nn, nn] #[yy, yy, yy, yy, yy, yy, yy, nn, nn, yy, nn] rfl rfl rfl rfl (two_of HT_.out (by kernel_rfl)) (by decide) (by decide) (fun K hK => ?_) (fun K hK => ?_)
   ·skip
    refine goes_ Try.func12 (by kernel_rfl) rfl #[.agg #[.int .u64 t159, .int .u64 t160], .agg #[.int .u64 t152, .int .u64 t153]] (by rfl) rfl rfl (by (try simp only [mA, mC, mN]); first | done | rfl | (simp only [List.length_drop, List.length_take]; rfl)) ?_
    with_reducible refine (tower_Add.calls t159 t160 t152 t153 t161 t162 _ A9.out).mono ?_
    rintro e w41 ⟨rfl, hb⟩
    refine ⟨_, rfl, ?_⟩
    replace BK149 := bb BK149 hb
    replace BK156 := bb BK156 hb
    replace BK157 := bb BK157 hb
    replace BK158 := bb BK158 hb
    replace HB := bh HB hb
    (try clear hb)
    refine hK.out _ _ ⟨bc BK158 0 rfl, bc BK158 1 rfl, bc BK156 0 rfl, bc BK156 1 rfl, bc BK157 0 rfl, bc BK157 1 rfl⟩ (fun hHeld => ?_)
    clear hK K
    refine norm_ (a' := ?_) ?_ ?_
    rotate_left
    ·show Act.put _ (some 46) _ = _
     simp only [Act.put, sA, s0, sS, i64_w, i32_w]
     rfl
    refine two_ (i := 8) (j := 9) (Ni := some 47) (Nj := some 12) #[yy, yy, yy, yy, yy, yy, yy, yy, yy, nn, nn] #[yy, yy, yy, yy, yy, yy, yy, yy, nn, yy, nn] rfl rfl rfl rfl (two_of HT_.out (by kernel_rfl)) (by decide) (by decide) (fun K hK => ?_) (fun K hK => ?_)
    ·skip
     refine goes_ Try.func11 (by kernel_rfl) rfl #[.int .i64 (lv8 a0), .int .i64 (lj8 a0 a1), .agg #[.int .u64 t161, .int .u64 t162]] (by rfl) rfl rfl (by (try simp only [mA, mC, mN]); first | done | rfl | (simp only [List.length_drop, List.length_take]; rfl)) ?_
     with_reducible refine (frob_Trace.calls k (lv8 a0) (lj8 a0 a1) t161 t162 t163 t164 _ A10.out).mono ?_
     rintro e w42 ⟨rfl, hb⟩
     refine ⟨_, rfl, ?_⟩
     replace BK149 := bb BK149 hb
     replace BK156 := bb BK156 hb
     replace BK157 := bb BK157 hb
     replace BK158 := bb BK158 hb
     replace HB := bh HB hb
     (try clear hb)
     refine hK.out _ _ ⟨bc BK158 0 rfl, bc BK158 1 rfl, bc BK156 0 rfl, bc BK156 1 rfl, bc BK157 0 rfl, bc BK157 1 rfl⟩ (fun hHeld => ?_)
     clear hK K
     refine norm_ (a' := ?_) ?_ ?_
     rotate_left
     ·show Act.put _ (some 47) _ = _
      simp only [Act.put, sA, s0, sS, i64_w, i32_w]
      rfl
     refine one_ (i := 9) (N := some 12) #[yy, yy, yy, yy, yy, yy, yy, yy, yy, yy, nn] rfl rfl (one_of HT_.out (by kernel_rfl)) (by decide) (fun K hK => ?_)
     refine box_step ?hg (N := 12) ?hd (cs := #[.int .u64 0, .int .u64 0]) (t := 24) ?hr ?_; (case hd => rfl); (case hg => rfl); (case hr => go_simp <;> rfl)
     intro gb165 hg w43 hbox hb
     have BK165 := Aside0.mk hbox
     have GW165 := ge hg HB
     have GE165 := ge hg HB
     have NB149_165 := nl hg BK149
     have NB165_149 := ng hg BK149
     have NB156_165 := nl hg BK156
     have NB165_156 := ng hg BK156
     have NB157_165 := nl hg BK157
     have NB165_157 := ng hg BK157
     have NB158_165 := nl hg BK158
     have NB165_158 := ng hg BK158
     replace BK149 := bb BK149 hb
     replace BK156 := bb BK156 hb
     replace BK157 := bb BK157 hb
     replace BK158 := bb BK158 hb
     replace HB := bh HB hb
     clear hb hbox hg
     refine hK.out _ _ ⟨bc BK158 0 rfl, bc BK158 1 rfl, bc BK156 0 rfl, bc BK156 1 rfl, bc BK157 0 rfl, bc BK157 1 rfl⟩ (fun hHeld => ?_)
     clear hK K
     refine norm_ (a' := ?_) ?_ ?_
     rotate_left
     ·show Act.put _ (some 12) _ = _
      simp only [Act.put, sA, s0, sS, i64_w, i32_w]
      rfl
     exact norm_ (by simp only [putAll, Act.put, sA, s0, sS]) (hCont (gb165) _ ⟨hHeld, (bk BK149.out), (bk BK156.out), (bk BK157.out), (bk BK158.out), (bk BK165.out), GW165.out, GE165.out, NB149_165.out, NB165_149.out, NB156_165.out, NB165_156.out, NB157_165.out, NB165_157.out, NB158_165.out, NB165_158.out, (bq HB.out)⟩)
    skip
    refine box_step ?hg (N := 12) ?hd (cs := #[.int .u64 0, .int .u64 0]) (t := 24) ?hr ?_; (case hd => rfl); (case hg => rfl); (case hr => go_simp <;> rfl)
    intro gb165 hg w42 hbox hb
    have BK165 := Aside0.mk hbox
    have GW165 := ge hg HB
    have GE165 := ge hg HB
    have NB149_165 := nl hg BK149
    have NB165_149 := ng hg BK149
    have NB156_165 := nl hg BK156
    have NB165_156 := ng hg BK156
    have NB157_165 := nl hg BK157
    have NB165_157 := ng hg BK157
    have NB158_165 := nl hg BK158
    have NB165_158 := ng hg BK158
    replace BK149 := bb BK149 hb
    replace BK156 := bb BK156 hb
    replace BK157 := bb BK157 hb
    replace BK158 := bb BK158 hb
    replace HB := bh HB hb
    clear hb hbox hg
    refine hK.out _ _ ⟨bc BK158 0 rfl, bc BK158 1 rfl, bc BK156 0 rfl, bc BK156 1 rfl, bc BK157 0 rfl, bc BK157 1 rfl⟩ (fun hHeld => ?_)
    clear hK K
    refine norm_ (a' := ?_) ?_ ?_
    rotate_left
    ·show Act.put _ (some 12) _ = _
     simp only [Act.put, sA, s0, sS, i64_w, i32_w]
     rfl
    refine one_ (i := 8) (N := some 47) #[yy, yy, yy, yy, yy, yy, yy, yy, yy, yy, nn] rfl rfl (one_of HT_.out (by kernel_rfl)) (by decide) (fun K hK => ?_)
    refine goes_ Try.func11 (by kernel_rfl) rfl #[.int .i64 (lv8 a0), .int .i64 (lj8 a0 a1), .agg #[.int .u64 t161, .int .u64 t162]] (by rfl) rfl rfl (by (try simp only [mA, mC, mN]); first | done | rfl | (simp only [List.length_drop, List.length_take]; rfl)) ?_
    with_reducible refine (frob_Trace.calls k (lv8 a0) (lj8 a0 a1) t161 t162 t163 t164 _ A10.out).mono ?_
    rintro e w43 ⟨rfl, hb⟩
    refine ⟨_, rfl, ?_⟩
    replace BK149 := bb BK149 hb
    replace BK156 := bb BK156 hb
    replace BK157 := bb BK157 hb
    replace BK158 := bb BK158 hb
    replace BK165 := bb BK165 hb
    replace HB := bh HB hb
    (try clear hb)
    refine hK.out _ _ ⟨bc BK158 0 rfl, bc BK158 1 rfl, bc BK156 0 rfl, bc BK156 1 rfl, bc BK157 0 rfl, bc BK157 1 rfl⟩ (fun hHeld => ?_)
    clear hK K
    refine norm_ (a' := ?_) ?_ ?_
    rotate_left
    ·show Act.put _ (some 47) _ = _
     simp only [Act.put, sA, s0, sS, i64_w, i32_w]
     rfl
    exact norm_ (by simp only [putAll, Act.put, sA, s0, sS]) (hCont (gb165) _ ⟨hHeld, (bk BK149.out), (bk BK156.out), (bk BK157.out), (bk BK158.out), (bk BK165.out), GW165.out, GE165.out, NB149_165.out, NB165_149.out, NB156_165.out, NB165_156.out, NB157_165.out, NB165_157.out, NB158_165.out, NB165_158.out, (bq HB.out)⟩)
   skip
   refine box_step ?hg (N := 12) ?hd (cs := #[.int .u64 0, .int .u64 0]) (t := 24) ?hr ?_; (case hd => rfl); (case hg => rfl); (case hr => go_simp <;> rfl)
   intro gb165 hg w41 hbox hb
   have BK165 := Aside0.mk hbox
   have GW165 := ge hg HB
   have GE165 := ge hg HB
   have NB149_165 := nl hg BK149
   have NB165_149 := ng hg BK149
   have NB156_165 := nl hg BK156
   have NB165_156 := ng hg BK156
   have NB157_165 := nl hg BK157
   have NB165_157 := ng hg BK157
   have NB158_165 := nl hg BK158
   have NB165_158 := ng hg BK158
   replace BK149 := bb BK149 hb
   replace BK156 := bb BK156 hb
   replace BK157 := bb BK157 hb
   replace BK158 := bb BK158 hb
   replace HB := bh HB hb
   clear hb hbox hg
   refine hK.out _ _ ⟨bc BK158 0 rfl, bc BK158 1 rfl, bc BK156 0 rfl, bc BK156 1 rfl, bc BK157 0 rfl, bc BK157 1 rfl⟩ (fun hHeld => ?_)
   clear hK K
   refine norm_ (a' := ?_) ?_ ?_
   rotate_left
   ·show Act.put _ (some 12) _ = _
    simp only [Act.put, sA, s0, sS, i64_w, i32_w]
    rfl
   refine one_ (i := 7) (N := some 46) #[yy, yy, yy, yy, yy, yy, yy, yy, nn, yy, nn] rfl rfl (one_of HT_.out (by kernel_rfl)) (by decide) (fun K hK => ?_)
   refine goes_ Try.func12 (by kernel_rfl) rfl #[.agg #[.int .u64 t159, .int .u64 t160], .agg #[.int .u64 t152, .int .u64 t153]] (by rfl) rfl rfl (by (try simp only [mA, mC, mN]); first | done | rfl | (simp only [List.length_drop, List.length_take]; rfl)) ?_
   with_reducible refine (tower_Add.calls t159 t160 t152 t153 t161 t162 _ A9.out).mono ?_
   rintro e w42 ⟨rfl, hb⟩
   refine ⟨_, rfl, ?_⟩
   replace BK149 := bb BK149 hb
   replace BK156 := bb BK156 hb
   replace BK157 := bb BK157 hb
   replace BK158 := bb BK158 hb
   replace BK165 := bb BK165 hb
   replace HB := bh HB hb
   (try clear hb)
   refine hK.out _ _ ⟨bc BK158 0 rfl, bc BK158 1 rfl, bc BK156 0 rfl, bc BK156 1 rfl, bc BK157 0 rfl, bc BK157 1 rfl⟩ (fun hHeld => ?_)
   clear hK K
   refine norm_ (a' := ?_) ?_ ?_
   rotate_left
   ·show Act.put _ (some 46) _ = _
    simp only [Act.put, sA, s0, sS, i64_w, i32_w]
    rfl
   refine one_ (i := 8) (N := some 47) #[yy, yy, yy, yy, yy, yy, yy, yy, yy, yy, nn] rfl rfl (one_of HT_.out (by kernel_rfl)) (by decide) (fun K hK => ?_)
   refine goes_ Try.func11 (by kernel_rfl) rfl #[.int .i64 (lv8 a0), .int .i64 (lj8 a0 a1), .agg #[.int .u64 t161, .int .u64 t162]] (by rfl) rfl rfl (by (try simp only [mA, mC, mN]); first | done | rfl | (simp only [List.length_drop, List.length_take]; rfl)) ?_
   with_reducible refine (frob_Trace.calls k (lv8 a0) (lj8 a0 a1) t161 t162 t163 t164 _ A10.out).mono ?_
   rintro e w43 ⟨rfl, hb⟩
   refine ⟨_, rfl, ?_⟩
   replace BK149 := bb BK149 hb
   replace BK156 := bb BK156 hb
   replace BK157 := bb BK157 hb
   replace BK158 := bb BK158 hb
   replace BK165 := bb BK165 hb
   replace HB := bh HB hb
   (try clear hb)
   refine hK.out _ _ ⟨bc BK158 0 rfl, bc BK158 1 rfl, bc BK156 0 rfl, bc BK156 1 rfl, bc BK157 0 rfl, bc BK157 1 rfl⟩ (fun hHeld => ?_)
   clear hK K
   refine norm_ (a' := ?_) ?_ ?_
   rotate_left
   ·show Act.put _ (some 47) _ = _
    simp only [Act.put, sA, s0, sS, i64_w, i32_w]
    rfl
   exact norm_ (by simp only [putAll, Act.put, sA, s0, sS]) (hCont (gb165) _ ⟨hHeld, (bk BK149.out), (bk BK156.out), (bk BK157.out), (bk BK158.out), (bk BK165.out), GW165.out, GE165.out, NB149_165.out, NB165_149.out, NB156_165.out, NB165_156.out, NB157_165.out, NB165_157.out, NB158_165.out, NB165_158.out, (bq HB.out)⟩)
  skip
  refine box_step ?hg (N := 12) ?hd (cs := #[.int .u64 0, .int .u64 0]) (t := 24) ?hr ?_; (case hd => rfl); (case hg => rfl); (case hr => go_simp <;> rfl)
  intro gb165 hg w40 hbox hb
  have BK165 := Aside0.mk hbox
  have GW165 := ge hg HB
  have GE165 := ge hg HB
  have NB149_165 := nl hg BK149
  have NB165_149 := ng hg BK149
  have NB156_165 := nl hg BK156
  have NB165_156 := ng hg BK156
  have NB157_165 := nl hg BK157
  have NB165_157 := ng hg BK157
  have NB158_165 := nl hg BK158
  have NB165_158 := ng hg BK158
  replace BK149 := bb BK149 hb
  replace BK156 := bb BK156 hb
  replace BK157 := bb BK157 hb
  replace BK158 := bb BK158 hb
  replace HB := bh HB hb
  clear hb hbox hg
  refine hK.out _ _ ⟨bc BK158 0 rfl, bc BK158 1 rfl, bc BK156 0 rfl, bc BK156 1 rfl, bc BK157 0 rfl, bc BK157 1 rfl⟩ (fun hHeld => ?_)
  clear hK K
  refine norm_ (a' := ?_) ?_ ?_
  rotate_left
  ·show Act.put _ (some 12) _ = _
   simp only [Act.put, sA, s0, sS, i64_w, i32_w]
   rfl
  refine one_ (i := 5) (N := some 44) #[yy, yy, yy, yy, yy, yy, yy, nn, nn, yy, nn] rfl rfl (one_of HT_.out (by kernel_rfl)) (by decide) (fun K hK => ?_)
  refine goes_ Try.func13 (by kernel_rfl) rfl #[.int .i64 (lv8 a0), .agg #[.int .u64 t154, .int .u64 t155], .agg #[.int .u64 t150, .int .u64 t151]] (by rfl) rfl rfl (by (try simp only [mA, mC, mN]); first | done | rfl | (simp only [List.length_drop, List.length_take]; rfl)) ?_
  with_reducible refine (tower_Mul.calls k (lv8 a0) t154 t155 t150 t151 t159 t160 _ A8.out).mono ?_
  rintro e w41 ⟨rfl, hb⟩
  refine ⟨_, rfl, ?_⟩
  replace BK149 := bb BK149 hb
  replace BK156 := bb BK156 hb
  replace BK157 := bb BK157 hb
  replace BK158 := bb BK158 hb
  replace BK165 := bb BK165 hb
  replace HB := bh HB hb
  (try clear hb)
  refine hK.out _ _ ⟨bc BK158 0 rfl, bc BK158 1 rfl, bc BK156 0 rfl, bc BK156 1 rfl, bc BK157 0 rfl, bc BK157 1 rfl⟩ (fun hHeld => ?_)
  clear hK K
  refine norm_ (a' := ?_) ?_ ?_
  rotate_left
  ·show Act.put _ (some 44) _ = _
   simp only [Act.put, sA, s0, sS, i64_w, i32_w]
   rfl
  refine one_ (i := 7) (N := some 46) #[yy, yy, yy, yy, yy, yy, yy, yy, nn, yy, nn] rfl rfl (one_of HT_.out (by kernel_rfl)) (by decide) (fun K hK => ?_)
  refine goes_ Try.func12 (by kernel_rfl) rfl #[.agg #[.int .u64 t159, .int .u64 t160], .agg #[.int .u64 t152, .int .u64 t153]] (by rfl) rfl rfl (by (try simp only [mA, mC, mN]); first | done | rfl | (simp only [List.length_drop, List.length_take]; rfl)) ?_
  with_reducible refine (tower_Add.calls t159 t160 t152 t153 t161 t162 _ A9.out).mono ?_
  rintro e w42 ⟨rfl, hb⟩
  refine ⟨_, rfl, ?_⟩
  replace BK149 := bb BK149 hb
  replace BK156 := bb BK156 hb
  replace BK157 := bb BK157 hb
  replace BK158 := bb BK158 hb
  replace BK165 := bb BK165 hb
  replace HB := bh HB hb
  (try clear hb)
  refine hK.out _ _ ⟨bc BK158 0 rfl, bc BK158 1 rfl, bc BK156 0 rfl, bc BK156 1 rfl, bc BK157 0 rfl, bc BK157 1 rfl⟩ (fun hHeld => ?_)
  clear hK K
  refine norm_ (a' := ?_) ?_ ?_
  rotate_left
  ·show Act.put _ (some 46) _ = _
   simp only [Act.put, sA, s0, sS, i64_w, i32_w]
   rfl
  refine one_ (i := 8) (N := some 47) #[yy, yy, yy, yy, yy, yy, yy, yy, yy, yy, nn] rfl rfl (one_of HT_.out (by kernel_rfl)) (by decide) (fun K hK => ?_)
  refine goes_ Try.func11 (by kernel_rfl) rfl #[.int .i64 (lv8 a0), .int .i64 (lj8 a0 a1), .agg #[.int .u64 t161, .int .u64 t162]] (by rfl) rfl rfl (by (try simp only [mA, mC, mN]); first | done | rfl | (simp only [List.length_drop, List.length_take]; rfl)) ?_
  with_reducible refine (frob_Trace.calls k (lv8 a0) (lj8 a0 a1) t161 t162 t163 t164 _ A10.out).mono ?_
  rintro e w43 ⟨rfl, hb⟩
  refine ⟨_, rfl, ?_⟩
  replace BK149 := bb BK149 hb
  replace BK156 := bb BK156 hb
  replace BK157 := bb BK157 hb
  replace BK158 := bb BK158 hb
  replace BK165 := bb BK165 hb
  replace HB := bh HB hb
  (try clear hb)
  refine hK.out _ _ ⟨bc BK158 0 rfl, bc BK158 1 rfl, bc BK156 0 rfl, bc BK156 1 rfl, bc BK157 0 rfl, bc BK157 1 rfl⟩ (fun hHeld => ?_)
  clear hK K
  refine norm_ (a' := ?_) ?_ ?_
  rotate_left
  ·show Act.put _ (some 47) _ = _
   simp only [Act.put, sA, s0, sS, i64_w, i32_w]
   rfl
  exact norm_ (by simp only [putAll, Act.put, sA, s0, sS]) (hCont (gb165) _ ⟨hHeld, (bk BK149.out), (bk BK156.out), (bk BK157.out), (bk BK158.out), (bk BK165.out), GW165.out, GE165.out, NB149_165.out, NB165_149.out, NB156_165.out, NB165_156.out, NB157_165.out, NB165_157.out, NB158_165.out, NB165_158.out, (bq HB.out)⟩)
 rintro gb165 w44 ⟨hS_, h0_, h1_, h2_, h3_, h4_, h5_, h6_, h7_, h8_, h9_, h10_, h11_, h12_, h13_, h14_, h15_⟩
 have n0_ : Aside0 (w44.heap[gb149]? = some (.cells #[.int .u64 a2_0, .int .u64 a2_1, .int .u64 a2_2, .int .u64 a2_3, .int .u64 a2_4, .int .u64 a2_5] 26 (0, 0))) := ⟨h0_⟩
 have n1_ : Aside0 (w44.heap[gb156]? = some (.cells #[.int .u64 t150, .int .u64 t151] 24 (0, 0))) := ⟨h1_⟩
 have n2_ : Aside0 (w44.heap[gb157]? = some (.cells #[.int .u64 t152, .int .u64 t153] 24 (0, 0))) := ⟨h2_⟩
 have n3_ : Aside0 (w44.heap[gb158]? = some (.cells #[.int .u64 t154, .int .u64 t155] 24 (0, 0))) := ⟨h3_⟩
 have n4_ : Aside0 (w44.heap[gb165]? = some (.cells #[.int .u64 0, .int .u64 0] 24 (0, 0))) := ⟨h4_⟩
 have n5_ : Aside0 (w.heap.size ≤ gb165) := ⟨h5_⟩
 have n6_ : Aside0 (w.heap.size ≤ gb165) := ⟨h6_⟩
 have n7_ : Aside0 (gb149 ≠ gb165) := ⟨h7_⟩
 have n8_ : Aside0 (gb165 ≠ gb149) := ⟨h8_⟩
 have n9_ : Aside0 (gb156 ≠ gb165) := ⟨h9_⟩
 have n10_ : Aside0 (gb165 ≠ gb156) := ⟨h10_⟩
 have n11_ : Aside0 (gb157 ≠ gb165) := ⟨h11_⟩
 have n12_ : Aside0 (gb165 ≠ gb157) := ⟨h12_⟩
 have n13_ : Aside0 (gb158 ≠ gb165) := ⟨h13_⟩
 have n14_ : Aside0 (gb165 ≠ gb158) := ⟨h14_⟩
 have n15_ : Aside0 (Below w.heap.size w w44) := ⟨h15_⟩
 clear BK149
 clear BK156
 clear BK157
 clear BK158
 clear HB
 clear h0_ h1_ h2_ h3_ h4_ h5_ h6_ h7_ h8_ h9_ h10_ h11_ h12_ h13_ h14_ h15_
 have BK149 := n0_
 have BK156 := n1_
 have BK157 := n2_
 have BK158 := n3_
 have BK165 := n4_
 have GW165 := Aside1.mk n5_.out
 have GE165 := Aside1.mk n6_.out
 have NB149_165 := n7_
 have NB165_149 := n8_
 have NB156_165 := n9_
 have NB165_156 := n10_
 have NB157_165 := n11_
 have NB165_157 := n12_
 have NB158_165 := n13_
 have NB165_158 := n14_
 have HB := n15_
 clear n0_ n1_ n2_ n3_ n4_ n5_ n6_ n7_ n8_ n9_ n10_ n11_ n12_ n13_ n14_ n15_
 have hHeld : w44.cell? ⟨gb158, 0, none⟩ = some (.int .u64 t154) ∧ w44.cell? ⟨gb158, 1, none⟩ = some (.int .u64 t155) ∧ w44.cell? ⟨gb156, 0, none⟩ = some (.int .u64 t150) ∧ w44.cell? ⟨gb156, 1, none⟩ = some (.int .u64 t151) ∧ w44.cell? ⟨gb157, 0, none⟩ = some (.int .u64 t152) ∧ w44.cell? ⟨gb157, 1, none⟩ = some (.int .u64 t153) := hS_
 refine norm_ (a' := ?_) ?_ ?_
 rotate_left
 ·simp only [putAll, Act.put, sA, s0, sS]
  rfl
 refine one_ (i := 10) (N := none) #[yy, yy, yy, yy, yy, yy, yy, yy, yy, yy, yy] rfl rfl (one_of HT_.out (by kernel_rfl)) (by decide) (fun K hK => ?_)
 have hs45 : w44.cell? ⟨gb165, 0, none⟩ = some (.int .u64 0) := bc BK165 0 rfl
 have hfs45 := blk_frozen BK165.out 0
 have hns45_0 := NB149_165.out
 have hns45_1 := NB156_165.out
 have hns45_2 := NB157_165.out
 have hns45_3 := NB158_165.out
 have hms45_0 := NB165_149.out
 have hms45_1 := NB165_156.out
 have hms45_2 := NB165_157.out
 have hms45_3 := NB165_158.out
 have hs46 : w44.cell? ⟨gb165, 1, none⟩ = some (.int .u64 0) := bc BK165 1 rfl
 have hfs46 := blk_frozen BK165.out 1
 have hns46_0 := NB149_165.out
 have hns46_1 := NB156_165.out
 have hns46_2 := NB157_165.out
 have hns46_3 := NB158_165.out
 have hms46_0 := NB165_149.out
 have hms46_1 := NB165_156.out
 have hms46_2 := NB165_157.out
 have hms46_3 := NB165_158.out
 refine skip_ (w1 := ?_) (by rfl) rfl ?_ ?_
 rotate_left
 ·go_simp
  rfl
 refine hK.out _ _ ⟨((cell_far (p := ⟨gb165, _, none⟩) NB158_165.out _).trans (((cell_far (p := ⟨gb165, _, none⟩) NB158_165.out _).trans (hHeld.1)))), ((cell_far (p := ⟨gb165, _, none⟩) NB158_165.out _).trans (((cell_far (p := ⟨gb165, _, none⟩) NB158_165.out _).trans (hHeld.2.1)))), ((cell_far (p := ⟨gb165, _, none⟩) NB156_165.out _).trans (((cell_far (p := ⟨gb165, _, none⟩) NB156_165.out _).trans (hHeld.2.2.1)))), ((cell_far (p := ⟨gb165, _, none⟩) NB156_165.out _).trans (((cell_far (p := ⟨gb165, _, none⟩) NB156_165.out _).trans (hHeld.2.2.2.1)))), ((cell_far (p := ⟨gb165, _, none⟩) NB157_165.out _).trans (((cell_far (p := ⟨gb165, _, none⟩) NB157_165.out _).trans (hHeld.2.2.2.2.1)))), ((cell_far (p := ⟨gb165, _, none⟩) NB157_165.out _).trans (((cell_far (p := ⟨gb165, _, none⟩) NB157_165.out _).trans (hHeld.2.2.2.2.2))))⟩ (fun hHeld => ?_)
 clear hK K
 refine done_ (done_of HT_.out (by kernel_rfl)) ?_
 try go_wp2
 have n0_ : Aside0 (((w44.setCell ⟨gb165, 0, none⟩ (.int .u64 t163)).setCell ⟨gb165, 1, none⟩ (.int .u64 t164)).heap[gb149]? = some (.cells #[.int .u64 a2_0, .int .u64 a2_1, .int .u64 a2_2, .int .u64 a2_3, .int .u64 a2_4, .int .u64 a2_5] 26 (0, 0))) := ⟨by (with_reducible repeat refine bl ?_); refine blk_far ?_ NB149_165.out _; (with_reducible repeat refine bl ?_); refine blk_far ?_ NB149_165.out _; (with_reducible repeat refine bl ?_); exact BK149.out⟩
 have n1_ : Aside0 (((w44.setCell ⟨gb165, 0, none⟩ (.int .u64 t163)).setCell ⟨gb165, 1, none⟩ (.int .u64 t164)).heap[gb156]? = some (.cells #[.int .u64 t150, .int .u64 t151] 24 (0, 0))) := ⟨by (with_reducible repeat refine bl ?_); refine blk_far ?_ NB156_165.out _; (with_reducible repeat refine bl ?_); refine blk_far ?_ NB156_165.out _; (with_reducible repeat refine bl ?_); exact BK156.out⟩
 have n2_ : Aside0 (((w44.setCell ⟨gb165, 0, none⟩ (.int .u64 t163)).setCell ⟨gb165, 1, none⟩ (.int .u64 t164)).heap[gb157]? = some (.cells #[.int .u64 t152, .int .u64 t153] 24 (0, 0))) := ⟨by (with_reducible repeat refine bl ?_); refine blk_far ?_ NB157_165.out _; (with_reducible repeat refine bl ?_); refine blk_far ?_ NB157_165.out _; (with_reducible repeat refine bl ?_); exact BK157.out⟩
 have n3_ : Aside0 (((w44.setCell ⟨gb165, 0, none⟩ (.int .u64 t163)).setCell ⟨gb165, 1, none⟩ (.int .u64 t164)).heap[gb158]? = some (.cells #[.int .u64 t154, .int .u64 t155] 24 (0, 0))) := ⟨by (with_reducible repeat refine bl ?_); refine blk_far ?_ NB158_165.out _; (with_reducible repeat refine bl ?_); refine blk_far ?_ NB158_165.out _; (with_reducible repeat refine bl ?_); exact BK158.out⟩
 have n4_ : Aside0 (((w44.setCell ⟨gb165, 0, none⟩ (.int .u64 t163)).setCell ⟨gb165, 1, none⟩ (.int .u64 t164)).heap[gb165]? = some (.cells #[.int .u64 t163, .int .u64 t164] 24 (0, 0))) := ⟨by (with_reducible repeat refine bl ?_); refine blk_put (cs := #[.int .u64 t163, .int .u64 0]) ?_ 1 _ rfl; (with_reducible repeat refine bl ?_); refine blk_put (cs := #[.int .u64 0, .int .u64 0]) ?_ 0 _ rfl; (with_reducible repeat refine bl ?_); exact BK165.out⟩
 have n5_ : Aside0 (Below w.heap.size w ((w44.setCell ⟨gb165, 0, none⟩ (.int .u64 t163)).setCell ⟨gb165, 1, none⟩ (.int .u64 t164))) := ⟨bq HB.out⟩
 (try clear BK149)
 (try clear BK156)
 (try clear BK157)
 (try clear BK158)
 (try clear BK165)
 (try clear HB)
 generalize ((w44.setCell ⟨gb165, 0, none⟩ (.int .u64 t163)).setCell ⟨gb165, 1, none⟩ (.int .u64 t164)) = w47 at n0_ n1_ n2_ n3_ n4_ n5_ ⊢
 have BK149 := n0_
 have BK156 := n1_
 have BK157 := n2_
 have BK158 := n3_
 have BK165 := n4_
 have HB := n5_
 clear n0_ n1_ n2_ n3_ n4_ n5_
 replace BK149 := Aside0.mk (blk_drew BK149.out)
 replace BK156 := Aside0.mk (blk_drew BK156.out)
 replace BK157 := Aside0.mk (blk_drew BK157.out)
 replace BK158 := Aside0.mk (blk_drew BK158.out)
 replace BK165 := Aside0.mk (blk_drew BK165.out)
 replace HB := Aside0.mk (below_drew1 HB.out)
 refine start_ (n := 38) (S := fun w' => w'.cell? ⟨gb165, 0, none⟩ = some (.int .u64 t163) ∧ w'.cell? ⟨gb165, 1, none⟩ = some (.int .u64 t164) ∧ w'.cell? ⟨gb158, 0, none⟩ = some (.int .u64 t154) ∧ w'.cell? ⟨gb158, 1, none⟩ = some (.int .u64 t155) ∧ w'.cell? ⟨gb156, 0, none⟩ = some (.int .u64 t150) ∧ w'.cell? ⟨gb156, 1, none⟩ = some (.int .u64 t151) ∧ w'.cell? ⟨gb157, 0, none⟩ = some (.int .u64 t152) ∧ w'.cell? ⟨gb157, 1, none⟩ = some (.int .u64 t153)) (ds := []) #[nn, nn, nn, nn, nn, nn, nn, nn, nn, nn, nn, nn, nn, nn, nn, nn, nn, nn, nn, nn, nn, nn, nn, nn, nn, nn, nn, nn, nn, nn, nn, nn, nn, nn, nn, nn, nn, nn] (by kernel_rfl) rfl rfl ⟨bc BK165 0 rfl, bc BK165 1 rfl, bc BK158 0 rfl, bc BK158 1 rfl, bc BK156 0 rfl, bc BK156 1 rfl, bc BK157 0 rfl, bc BK157 1 rfl⟩ (fun hHeld => ?_); refine with_tabW steeplelaw33_FrobLinear.tab5 steeplelaw33_FrobLinear.bits5 (fun HT_ HW_ => ?_)
 generalize w47.drew = w48 at BK149 BK156 BK157 BK158 BK165 HB hHeld ⊢
 refine one_ (i := 0) (N := some 48) #[yy, nn, nn, nn, nn, nn, nn, nn, nn, nn, nn, nn, nn, nn, nn, nn, nn, nn, nn, nn, nn, nn, nn, nn, nn, nn, nn, nn, nn, nn, nn, nn, nn, nn, nn, nn, nn, nn] rfl rfl (one_of HT_.out (by kernel_rfl)) (by decide) (fun K hK => ?_)
 refine goes_ Try.func14 (by kernel_rfl) rfl #[] (by rfl) rfl rfl (by (try simp only [mA, mC, mN]); first | done | rfl | (simp only [List.length_drop, List.length_take]; rfl)) ?_
 with_reducible refine (steeplelaw33_awake.calls k  true _ A11.out).mono ?_
 rintro e w49 ⟨rfl, hb⟩
 refine ⟨_, rfl, ?_⟩
 replace BK149 := bb BK149 hb
 replace BK156 := bb BK156 hb
 replace BK157 := bb BK157 hb
 replace BK158 := bb BK158 hb
 replace BK165 := bb BK165 hb
 replace HB := bh HB hb
 (try clear hb)
 refine hK.out _ _ ⟨bc BK165 0 rfl, bc BK165 1 rfl, bc BK158 0 rfl, bc BK158 1 rfl, bc BK156 0 rfl, bc BK156 1 rfl, bc BK157 0 rfl, bc BK157 1 rfl⟩ (fun hHeld => ?_)
 clear hK K
 refine norm_ (a' := ?_) ?_ ?_
 rotate_left
 ·show Act.put _ (some 48) _ = _
  simp only [Act.put, sA, s0, sS, i64_w, i32_w]
  rfl
 refine pure_ (i := 1) (N := some 49) (v := ?_) (a' := ?_) #[yy, yy, nn, nn, nn, nn, nn, nn, nn, nn, nn, nn, nn, nn, nn, nn, nn, nn, nn, nn, nn, nn, nn, nn, nn, nn, nn, nn, nn, nn, nn, nn, nn, nn, nn, nn, nn, nn] rfl rfl (any_of HT_.out (by kernel_rfl)) (fun _ _ _ h => h) (Or.inl ⟨by rfl, ?_⟩) ?_ ?_
 rotate_left
 ·intro w'
  go_simp
  with_reducible rfl
 rotate_left
 ·simp only [Act.put, sA, s0, sS, i64_w, i32_w]
  rfl
 refine pure_ (i := 3) (N := some 51) (v := ?_) (a' := ?_) #[yy, yy, nn, yy, nn, nn, nn, nn, nn, nn, nn, nn, nn, nn, nn, nn, nn, nn, nn, nn, nn, nn, nn, nn, nn, nn, nn, nn, nn, nn, nn, nn, nn, nn, nn, nn, nn, nn] rfl rfl (any_of HT_.out (by kernel_rfl)) (fun _ _ _ h => h) (Or.inl ⟨by rfl, ?_⟩) ?_ ?_
 rotate_left
 ·intro w'
  go_simp
  with_reducible rfl
 rotate_left
 ·simp only [Act.put, sA, s0, sS, i64_w, i32_w]
  rfl
 refine pure_ (i := 5) (N := some 53) (v := ?_) (a' := ?_) #[yy, yy, nn, yy, nn, yy, nn, nn, nn, nn, nn, nn, nn, nn, nn, nn, nn, nn, nn, nn, nn, nn, nn, nn, nn, nn, nn, nn, nn, nn, nn, nn, nn, nn, nn, nn, nn, nn] rfl rfl (any_of HT_.out (by kernel_rfl)) (fun _ _ _ h => h) (Or.inl ⟨by rfl, ?_⟩) ?_ ?_
 rotate_left
 ·intro w'
  go_simp
  with_reducible rfl
 rotate_left
 ·simp only [Act.put, sA, s0, sS, i64_w, i32_w]
  rfl
 refine pure_ (i := 6) (N := some 54) (v := ?_) (a' := ?_) #[yy, yy, nn, yy, nn, yy, yy, nn, nn, nn, nn, nn, nn, nn, nn, nn, nn, nn, nn, nn, nn, nn, nn, nn, nn, nn, nn, nn, nn, nn, nn, nn, nn, nn, nn, nn, nn, nn] rfl rfl (any_of HT_.out (by kernel_rfl)) (fun _ _ _ h => h) (Or.inl ⟨by rfl, ?_⟩) ?_ ?_
 rotate_left
 ·intro w'
  go_simp
  with_reducible rfl
 rotate_left
 ·simp only [Act.put, sA, s0, sS, i64_w, i32_w]
  rfl
 refine pure_ (i := 10) (N := some 58) (v := ?_) (a' := ?_) #[yy, yy, nn, yy, nn, yy, yy, nn, nn, nn, yy, nn, nn, nn, nn, nn, nn, nn, nn, nn, nn, nn, nn, nn, nn, nn, nn, nn, nn, nn, nn, nn, nn, nn, nn, nn, nn, nn] rfl rfl (any_of HT_.out (by kernel_rfl)) (fun _ _ _ h => h) (Or.inl ⟨by rfl, ?_⟩) ?_ ?_
 rotate_left
 ·intro w'
  go_simp
  with_reducible rfl
 rotate_left
 ·simp only [Act.put, sA, s0, sS, i64_w, i32_w]
  rfl
 refine pure_ (i := 11) (N := some 59) (v := ?_) (a' := ?_) #[yy, yy, nn, yy, nn, yy, yy, nn, nn, nn, yy, yy, nn, nn, nn, nn, nn, nn, nn, nn, nn, nn, nn, nn, nn, nn, nn, nn, nn, nn, nn, nn, nn, nn, nn, nn, nn, nn] rfl rfl (any_of HT_.out (by kernel_rfl)) (fun _ _ _ h => h) (Or.inl ⟨by rfl, ?_⟩) ?_ ?_
 rotate_left
 ·intro w'
  go_simp
  with_reducible rfl
 rotate_left
 ·simp only [Act.put, sA, s0, sS, i64_w, i32_w]
  rfl
 refine take_ (i := 2) (N := some 50) (v := ?_) (a' := ?_) #[yy, yy, yy, yy, nn, yy, yy, nn, nn, nn, yy, yy, nn, nn, nn, nn, nn, nn, nn, nn, nn, nn, nn, nn, nn, nn, nn, nn, nn, nn, nn, nn, nn, nn, nn, nn, nn, nn] rfl rfl (take_ofW HT_.out HW_.out (by kernel_rfl)) (fun _ _ _ h => h) (Or.inl ⟨by rfl, ?_⟩) hHeld ?_ ?_
 rotate_left
 ·rintro w' ⟨s0, s1, s2, s3, s4, s5, s6, s7⟩
  go_simp
  with_reducible rfl
 rotate_left
 ·simp only [Act.put, sA, s0, sS, i64_w, i32_w]
  rfl
 refine take_ (i := 4) (N := some 52) (v := ?_) (a' := ?_) #[yy, yy, yy, yy, yy, yy, yy, nn, nn, nn, yy, yy, nn, nn, nn, nn, nn, nn, nn, nn, nn, nn, nn, nn, nn, nn, nn, nn, nn, nn, nn, nn, nn, nn, nn, nn, nn, nn] rfl rfl (take_ofW HT_.out HW_.out (by kernel_rfl)) (fun _ _ _ h => h) (Or.inl ⟨by rfl, ?_⟩) hHeld ?_ ?_
 rotate_left
 ·rintro w' ⟨s0, s1, s2, s3, s4, s5, s6, s7⟩
  go_simp
  with_reducible rfl
 rotate_left
 ·simp only [Act.put, sA, s0, sS, i64_w, i32_w]
  rfl
 refine take_ (i := 7) (N := some 55) (v := ?_) (a' := ?_) #[yy, yy, yy, yy, yy, yy, yy, yy, nn, nn, yy, yy, nn, nn, nn, nn, nn, nn, nn, nn, nn, nn, nn, nn, nn, nn, nn, nn, nn, nn, nn, nn, nn, nn, nn, nn, nn, nn] rfl rfl (take_ofW HT_.out HW_.out (by kernel_rfl)) (fun _ _ _ h => h) (Or.inl ⟨by rfl, ?_⟩) hHeld ?_ ?_
 rotate_left
 ·rintro w' ⟨s0, s1, s2, s3, s4, s5, s6, s7⟩
  go_simp
  with_reducible rfl
 rotate_left
 ·simp only [Act.put, sA, s0, sS, i64_w, i32_w]
  rfl
 refine take_ (i := 12) (N := some 60) (v := ?_) (a' := ?_) #[yy, yy, yy, yy, yy, yy, yy, yy, nn, nn, yy, yy, yy, nn, nn, nn, nn, nn, nn, nn, nn, nn, nn, nn, nn, nn, nn, nn, nn, nn, nn, nn, nn, nn, nn, nn, nn, nn] rfl rfl (take_ofW HT_.out HW_.out (by kernel_rfl)) (fun _ _ _ h => h) (Or.inl ⟨by rfl, ?_⟩) hHeld ?_ ?_
 rotate_left
 ·rintro w' ⟨s0, s1, s2, s3, s4, s5, s6, s7⟩
  go_simp
  with_reducible rfl
 rotate_left
 ·simp only [Act.put, sA, s0, sS, i64_w, i32_w]
  rfl
 refine one_ (i := 8) (N := some 56) #[yy, yy, yy, yy, yy, yy, yy, yy, yy, nn, yy, yy, yy, nn, nn, nn, nn, nn, nn, nn, nn, nn, nn, nn, nn, nn, nn, nn, nn, nn, nn, nn, nn, nn, nn, nn, nn, nn] rfl rfl (one_of HT_.out (by kernel_rfl)) (by decide) (fun K hK => ?_)
 refine goes_ Try.func11 (by kernel_rfl) rfl #[.int .i64 (lv8 a0), .int .i64 (lj8 a0 a1), .agg #[.int .u64 t150, .int .u64 t151]] (by rfl) rfl rfl (by (try simp only [mA, mC, mN]); first | done | rfl | (simp only [List.length_drop, List.length_take]; rfl)) ?_
 with_reducible refine (frob_Trace.calls k (lv8 a0) (lj8 a0 a1) t150 t151 t167 t168 _ A13.out).mono ?_
 rintro e w50 ⟨rfl, hb⟩
 refine ⟨_, rfl, ?_⟩
 replace BK149 := bb BK149 hb
 replace BK156 := bb BK156 hb
 replace BK157 := bb BK157 hb
 replace BK158 := bb BK158 hb
 replace BK165 := bb BK165 hb
 replace HB := bh HB hb
 (try clear hb)
 refine hK.out _ _ ⟨bc BK165 0 rfl, bc BK165 1 rfl, bc BK158 0 rfl, bc BK158 1 rfl, bc BK156 0 rfl, bc BK156 1 rfl, bc BK157 0 rfl, bc BK157 1 rfl⟩ (fun hHeld => ?_)
 clear hK K
 refine norm_ (a' := ?_) ?_ ?_
 rotate_left
 ·show Act.put _ (some 56) _ = _
  simp only [Act.put, sA, s0, sS, i64_w, i32_w]
  rfl
 refine one_ (i := 9) (N := some 57) #[yy, yy, yy, yy, yy, yy, yy, yy, yy, yy, yy, yy, yy, nn, nn, nn, nn, nn, nn, nn, nn, nn, nn, nn, nn, nn, nn, nn, nn, nn, nn, nn, nn, nn, nn, nn, nn, nn] rfl rfl (one_of HT_.out (by kernel_rfl)) (by decide) (fun K hK => ?_)
 refine goes_ Try.func13 (by kernel_rfl) rfl #[.int .i64 (lj8 a0 a1), .agg #[.int .u64 t154, .int .u64 t155], .agg #[.int .u64 t167, .int .u64 t168]] (by rfl) rfl rfl (by (try simp only [mA, mC, mN]); first | done | rfl | (simp only [List.length_drop, List.length_take]; rfl)) ?_
 with_reducible refine (tower_Mul.calls k (lj8 a0 a1) t154 t155 t167 t168 t169 t170 _ A14.out).mono ?_
 rintro e w51 ⟨rfl, hb⟩
 refine ⟨_, rfl, ?_⟩
 replace BK149 := bb BK149 hb
 replace BK156 := bb BK156 hb
 replace BK157 := bb BK157 hb
 replace BK158 := bb BK158 hb
 replace BK165 := bb BK165 hb
 replace HB := bh HB hb
 (try clear hb)
 refine hK.out _ _ ⟨bc BK165 0 rfl, bc BK165 1 rfl, bc BK158 0 rfl, bc BK158 1 rfl, bc BK156 0 rfl, bc BK156 1 rfl, bc BK157 0 rfl, bc BK157 1 rfl⟩ (fun hHeld => ?_)
 clear hK K
 refine norm_ (a' := ?_) ?_ ?_
 rotate_left
 ·show Act.put _ (some 57) _ = _
  simp only [Act.put, sA, s0, sS, i64_w, i32_w]
  rfl
 refine one_ (i := 13) (N := some 61) #[yy, yy, yy, yy, yy, yy, yy, yy, yy, yy, yy, yy, yy, yy, nn, nn, nn, nn, nn, nn, nn, nn, nn, nn, nn, nn, nn, nn, nn, nn, nn, nn, nn, nn, nn, nn, nn, nn] rfl rfl (one_of HT_.out (by kernel_rfl)) (by decide) (fun K hK => ?_)
 refine goes_ Try.func11 (by kernel_rfl) rfl #[.int .i64 (lv8 a0), .int .i64 (lj8 a0 a1), .agg #[.int .u64 t152, .int .u64 t153]] (by rfl) rfl rfl (by (try simp only [mA, mC, mN]); first | done | rfl | (simp only [List.length_drop, List.length_take]; rfl)) ?_
 with_reducible refine (frob_Trace.calls k (lv8 a0) (lj8 a0 a1) t152 t153 t171 t172 _ A15.out).mono ?_
 rintro e w52 ⟨rfl, hb⟩
 refine ⟨_, rfl, ?_⟩
 replace BK149 := bb BK149 hb
 replace BK156 := bb BK156 hb
 replace BK157 := bb BK157 hb
 replace BK158 := bb BK158 hb
 replace BK165 := bb BK165 hb
 replace HB := bh HB hb
 (try clear hb)
 refine hK.out _ _ ⟨bc BK165 0 rfl, bc BK165 1 rfl, bc BK158 0 rfl, bc BK158 1 rfl, bc BK156 0 rfl, bc BK156 1 rfl, bc BK157 0 rfl, bc BK157 1 rfl⟩ (fun hHeld => ?_)
 clear hK K
 refine norm_ (a' := ?_) ?_ ?_
 rotate_left
 ·show Act.put _ (some 61) _ = _
  simp only [Act.put, sA, s0, sS, i64_w, i32_w]
  rfl
 refine one_ (i := 14) (N := some 62) #[yy, yy, yy, yy, yy, yy, yy, yy, yy, yy, yy, yy, yy, yy, yy, nn, nn, nn, nn, nn, nn, nn, nn, nn, nn, nn, nn, nn, nn, nn, nn, nn, nn, nn, nn, nn, nn, nn] rfl rfl (one_of HT_.out (by kernel_rfl)) (by decide) (fun K hK => ?_)
 refine goes_ Try.func12 (by kernel_rfl) rfl #[.agg #[.int .u64 t169, .int .u64 t170], .agg #[.int .u64 t171, .int .u64 t172]] (by rfl) rfl rfl (by (try simp only [mA, mC, mN]); first | done | rfl | (simp only [List.length_drop, List.length_take]; rfl)) ?_
 with_reducible refine (tower_Add.calls t169 t170 t171 t172 t173 t174 _ A16.out).mono ?_
 rintro e w53 ⟨rfl, hb⟩
 refine ⟨_, rfl, ?_⟩
 replace BK149 := bb BK149 hb
 replace BK156 := bb BK156 hb
 replace BK157 := bb BK157 hb
 replace BK158 := bb BK158 hb
 replace BK165 := bb BK165 hb
 replace HB := bh HB hb
 (try clear hb)
 refine hK.out _ _ ⟨bc BK165 0 rfl, bc BK165 1 rfl, bc BK158 0 rfl, bc BK158 1 rfl, bc BK156 0 rfl, bc BK156 1 rfl, bc BK157 0 rfl, bc BK157 1 rfl⟩ (fun hHeld => ?_)
 clear hK K
 refine norm_ (a' := ?_) ?_ ?_
 rotate_left
 ·show Act.put _ (some 62) _ = _
  simp only [Act.put, sA, s0, sS, i64_w, i32_w]
  rfl
 refine pure_ (i := 15) (N := some 63) (v := ?_) (a' := ?_) #[yy, yy, yy, yy, yy, yy, yy, yy, yy, yy, yy, yy, yy, yy, yy, yy, nn, nn, nn, nn, nn, nn, nn, nn, nn, nn, nn, nn, nn, nn, nn, nn, nn, nn, nn, nn, nn, nn] rfl rfl (any_of HT_.out (by kernel_rfl)) (fun _ _ _ h => h) (Or.inl ⟨by rfl, ?_⟩) ?_ ?_
 rotate_left
 ·intro w'
  go_simp
  with_reducible rfl
 rotate_left
 ·simp only [Act.put, sA, s0, sS, i64_w, i32_w]
  rfl
 refine pure_ (i := 16) (N := some 64) (v := ?_) (a' := ?_) #[yy, yy, yy, yy, yy, yy, yy, yy, yy, yy, yy, yy, yy, yy, yy, yy, yy, nn, nn, nn, nn, nn, nn, nn, nn, nn, nn, nn, nn, nn, nn, nn, nn, nn, nn, nn, nn, nn] rfl rfl (any_of HT_.out (by kernel_rfl)) (fun _ _ _ h => h) (Or.inl ⟨by rfl, ?_⟩) ?_ ?_
 rotate_left
 ·intro w'
  go_simp
  with_reducible rfl
 rotate_left
 ·simp only [Act.put, sA, s0, sS, i64_w, i32_w]
  rfl
 refine pure_ (i := 17) (N := some 65) (v := ?_) (a' := ?_) #[yy, yy, yy, yy, yy, yy, yy, yy, yy, yy, yy, yy, yy, yy, yy, yy, yy, yy, nn, nn, nn, nn, nn, nn, nn, nn, nn, nn, nn, nn, nn, nn, nn, nn, nn, nn, nn, nn] rfl rfl (any_of HT_.out (by kernel_rfl)) (fun _ _ _ h => h) (Or.inl ⟨by rfl, ?_⟩) ?_ ?_
 rotate_left
 ·intro w'
  go_simp
  with_reducible rfl
 rotate_left
 ·simp only [Act.put, sA, s0, sS, i64_w, i32_w]
  rfl
 refine pure_ (i := 18) (N := some 66) (v := ?_) (a' := ?_) #[yy, yy, yy, yy, yy, yy, yy, yy, yy, yy, yy, yy, yy, yy, yy, yy, yy, yy, yy, nn, nn, nn, nn, nn, nn, nn, nn, nn, nn, nn, nn, nn, nn, nn, nn, nn, nn, nn] rfl rfl (any_of HT_.out (by kernel_rfl)) (fun _ _ _ h => h) (Or.inl ⟨by rfl, ?_⟩) ?_ ?_
 rotate_left
 ·intro w'
  go_simp
  with_reducible rfl
 rotate_left
 ·simp only [Act.put, sA, s0, sS, i64_w, i32_w]
  rfl
 refine pure_ (i := 19) (N := some 67) (v := ?_) (a' := ?_) #[yy, yy, yy, yy, yy, yy, yy, yy, yy, yy, yy, yy, yy, yy, yy, yy, yy, yy, yy, yy, nn, nn, nn, nn, nn, nn, nn, nn, nn, nn, nn, nn, nn, nn, nn, nn, nn, nn] rfl rfl (any_of HT_.out (by kernel_rfl)) (fun _ _ _ h => h) (Or.inl ⟨by rfl, ?_⟩) ?_ ?_
 rotate_left
 ·intro w'
  go_simp
  with_reducible rfl
 rotate_left
 ·simp only [Act.put, sA, s0, sS, i64_w, i32_w]
  rfl
 refine pure_ (i := 20) (N := some 68) (v := ?_) (a' := ?_) #[yy, yy, yy, yy, yy, yy, yy, yy, yy, yy, yy, yy, yy, yy, yy, yy, yy, yy, yy, yy, yy, nn, nn, nn, nn, nn, nn, nn, nn, nn, nn, nn, nn, nn, nn, nn, nn, nn] rfl rfl (any_of HT_.out (by kernel_rfl)) (fun _ _ _ h => h) (Or.inl ⟨by rfl, ?_⟩) ?_ ?_
 rotate_left
 ·intro w'
  go_simp
  with_reducible rfl
 rotate_left
 ·simp only [Act.put, sA, s0, sS, i64_w, i32_w]
  rfl
 refine pure_ (i := 25) (N := some 73) (v := ?_) (a' := ?_) #[yy, yy, yy, yy, yy, yy, yy, yy, yy, yy, yy, yy, yy, yy, yy, yy, yy, yy, yy, yy, yy, nn, nn, nn, nn, yy, nn, nn, nn, nn, nn, nn, nn, nn, nn, nn, nn, nn] rfl rfl (any_of HT_.out (by kernel_rfl)) (fun _ _ _ h => h) (Or.inl ⟨by rfl, ?_⟩) ?_ ?_
 rotate_left
 ·intro w'
  go_simp
  with_reducible rfl
 rotate_left
 ·simp only [Act.put, sA, s0, sS, i64_w, i32_w]
  rfl
 refine pure_ (i := 26) (N := some 74) (v := ?_) (a' := ?_) #[yy, yy, yy, yy, yy, yy, yy, yy, yy, yy, yy, yy, yy, yy, yy, yy, yy, yy, yy, yy, yy, nn, nn, nn, nn, yy, yy, nn, nn, nn, nn, nn, nn, nn, nn, nn, nn, nn] rfl rfl (any_of HT_.out (by kernel_rfl)) (fun _ _ _ h => h) (Or.inl ⟨by rfl, ?_⟩) ?_ ?_
 rotate_left
 ·intro w'
  go_simp
  with_reducible rfl
 rotate_left
 ·simp only [Act.put, sA, s0, sS, i64_w, i32_w]
  rfl
 refine pure_ (i := 27) (N := some 75) (v := ?_) (a' := ?_) #[yy, yy, yy, yy, yy, yy, yy, yy, yy, yy, yy, yy, yy, yy, yy, yy, yy, yy, yy, yy, yy, nn, nn, nn, nn, yy, yy, yy, nn, nn, nn, nn, nn, nn, nn, nn, nn, nn] rfl rfl (any_of HT_.out (by kernel_rfl)) (fun _ _ _ h => h) (Or.inl ⟨by rfl, ?_⟩) ?_ ?_
 rotate_left
 ·intro w'
  go_simp
  with_reducible rfl
 rotate_left
 ·simp only [Act.put, sA, s0, sS, i64_w, i32_w]
  rfl
 refine pure_ (i := 30) (N := some 78) (v := ?_) (a' := ?_) #[yy, yy, yy, yy, yy, yy, yy, yy, yy, yy, yy, yy, yy, yy, yy, yy, yy, yy, yy, yy, yy, nn, nn, nn, nn, yy, yy, yy, nn, nn, yy, nn, nn, nn, nn, nn, nn, nn] rfl rfl (any_of HT_.out (by kernel_rfl)) (fun _ _ _ h => h) (Or.inl ⟨by rfl, ?_⟩) ?_ ?_
 rotate_left
 ·intro w'
  go_simp
  with_reducible rfl
 rotate_left
 ·simp only [Act.put, sA, s0, sS, i64_w, i32_w]
  rfl
 refine pure_ (i := 31) (N := some 79) (v := ?_) (a' := ?_) #[yy, yy, yy, yy, yy, yy, yy, yy, yy, yy, yy, yy, yy, yy, yy, yy, yy, yy, yy, yy, yy, nn, nn, nn, nn, yy, yy, yy, nn, nn, yy, yy, nn, nn, nn, nn, nn, nn] rfl rfl (any_of HT_.out (by kernel_rfl)) (fun _ _ _ h => h) (Or.inl ⟨by rfl, ?_⟩) ?_ ?_
 rotate_left
 ·intro w'
  go_simp
  with_reducible rfl
 rotate_left
 ·simp only [Act.put, sA, s0, sS, i64_w, i32_w]
  rfl
 refine take_ (i := 21) (N := some 69) (v := ?_) (a' := ?_) #[yy, yy, yy, yy, yy, yy, yy, yy, yy, yy, yy, yy, yy, yy, yy, yy, yy, yy, yy, yy, yy, yy, nn, nn, nn, yy, yy, yy, nn, nn, yy, yy, nn, nn, nn, nn, nn, nn] rfl rfl (take_ofW HT_.out HW_.out (by kernel_rfl)) (fun _ _ _ h => h) (Or.inl ⟨by rfl, ?_⟩) hHeld ?_ ?_
 rotate_left
 ·rintro w' ⟨s0, s1, s2, s3, s4, s5, s6, s7⟩
  go_simp
  with_reducible rfl
 rotate_left
 ·simp only [Act.put, sA, s0, sS, i64_w, i32_w]
  rfl
 refine take_ (i := 22) (N := some 70) (v := ?_) (a' := ?_) #[yy, yy, yy, yy, yy, yy, yy, yy, yy, yy, yy, yy, yy, yy, yy, yy, yy, yy, yy, yy, yy, yy, yy, nn, nn, yy, yy, yy, nn, nn, yy, yy, nn, nn, nn, nn, nn, nn] rfl rfl (take_ofW HT_.out HW_.out (by kernel_rfl)) (fun _ _ _ h => h) (Or.inl ⟨by rfl, ?_⟩) hHeld ?_ ?_
 rotate_left
 ·rintro w' ⟨s0, s1, s2, s3, s4, s5, s6, s7⟩
  go_simp
  with_reducible rfl
 rotate_left
 ·simp only [Act.put, sA, s0, sS, i64_w, i32_w]
  rfl
 refine take_ (i := 28) (N := some 76) (v := ?_) (a' := ?_) #[yy, yy, yy, yy, yy, yy, yy, yy, yy, yy, yy, yy, yy, yy, yy, yy, yy, yy, yy, yy, yy, yy, yy, nn, nn, yy, yy, yy, yy, nn, yy, yy, nn, nn, nn, nn, nn, nn] rfl rfl (take_ofW HT_.out HW_.out (by kernel_rfl)) (fun _ _ _ h => h) (Or.inl ⟨by rfl, ?_⟩) hHeld ?_ ?_
 rotate_left
 ·rintro w' ⟨s0, s1, s2, s3, s4, s5, s6, s7⟩
  go_simp
  with_reducible rfl
 rotate_left
 ·simp only [Act.put, sA, s0, sS, i64_w, i32_w]
  rfl
 refine take_ (i := 32) (N := some 80) (v := ?_) (a' := ?_) #[yy, yy, yy, yy, yy, yy, yy, yy, yy, yy, yy, yy, yy, yy, yy, yy, yy, yy, yy, yy, yy, yy, yy, nn, nn, yy, yy, yy, yy, nn, yy, yy, yy, nn, nn, nn, nn, nn] rfl rfl (take_ofW HT_.out HW_.out (by kernel_rfl)) (fun _ _ _ h => h) (Or.inl ⟨by rfl, ?_⟩) hHeld ?_ ?_
 rotate_left
 ·rintro w' ⟨s0, s1, s2, s3, s4, s5, s6, s7⟩
  go_simp
  with_reducible rfl
 rotate_left
 ·simp only [Act.put, sA, s0, sS, i64_w, i32_w]
  rfl
 refine one_ (i := 23) (N := some 71) #[yy, yy, yy, yy, yy, yy, yy, yy, yy, yy, yy, yy, yy, yy, yy, yy, yy, yy, yy, yy, yy, yy, yy, yy, nn, yy, yy, yy, yy, nn, yy, yy, yy, nn, nn, nn, nn, nn] rfl rfl (one_of HT_.out (by kernel_rfl)) (by decide) (fun K hK => ?_)
 refine goes_ Try.func13 (by kernel_rfl) rfl #[.int .i64 (lv8 a0), .agg #[.int .u64 t150, .int .u64 t151], .agg #[.int .u64 t152, .int .u64 t153]] (by rfl) rfl rfl (by (try simp only [mA, mC, mN]); first | done | rfl | (simp only [List.length_drop, List.length_take]; rfl)) ?_
 with_reducible refine (tower_Mul.calls k (lv8 a0) t150 t151 t152 t153 t175 t176 _ A18.out).mono ?_
 rintro e w54 ⟨rfl, hb⟩
 refine ⟨_, rfl, ?_⟩
 replace BK149 := bb BK149 hb
 replace BK156 := bb BK156 hb
 replace BK157 := bb BK157 hb
 replace BK158 := bb BK158 hb
 replace BK165 := bb BK165 hb
 replace HB := bh HB hb
 (try clear hb)
 refine hK.out _ _ ⟨bc BK165 0 rfl, bc BK165 1 rfl, bc BK158 0 rfl, bc BK158 1 rfl, bc BK156 0 rfl, bc BK156 1 rfl, bc BK157 0 rfl, bc BK157 1 rfl⟩ (fun hHeld => ?_)
 clear hK K
 refine norm_ (a' := ?_) ?_ ?_
 rotate_left
 ·show Act.put _ (some 71) _ = _
  simp only [Act.put, sA, s0, sS, i64_w, i32_w]
  rfl
 refine one_ (i := 24) (N := some 72) #[yy, yy, yy, yy, yy, yy, yy, yy, yy, yy, yy, yy, yy, yy, yy, yy, yy, yy, yy, yy, yy, yy, yy, yy, yy, yy, yy, yy, yy, nn, yy, yy, yy, nn, nn, nn, nn, nn] rfl rfl (one_of HT_.out (by kernel_rfl)) (by decide) (fun K hK => ?_)
 refine goes_ Try.func15 (by kernel_rfl) rfl #[.int .i64 (lv8 a0), .int .i64 (lj8 a0 a1), .agg #[.int .u64 t175, .int .u64 t176]] (by rfl) rfl rfl (by (try simp only [mA, mC, mN]); first | done | rfl | (simp only [List.length_drop, List.length_take]; rfl)) ?_
 with_reducible refine (frob_Norm.calls k (lv8 a0) (lj8 a0 a1) t175 t176 t177 t178 _ A19.out).mono ?_
 rintro e w55 ⟨rfl, hb⟩
 refine ⟨_, rfl, ?_⟩
 replace BK149 := bb BK149 hb
 replace BK156 := bb BK156 hb
 replace BK157 := bb BK157 hb
 replace BK158 := bb BK158 hb
 replace BK165 := bb BK165 hb
 replace HB := bh HB hb
 (try clear hb)
 refine hK.out _ _ ⟨bc BK165 0 rfl, bc BK165 1 rfl, bc BK158 0 rfl, bc BK158 1 rfl, bc BK156 0 rfl, bc BK156 1 rfl, bc BK157 0 rfl, bc BK157 1 rfl⟩ (fun hHeld => ?_)
 clear hK K
 refine norm_ (a' := ?_) ?_ ?_
 rotate_left
 ·show Act.put _ (some 72) _ = _
  simp only [Act.put, sA, s0, sS, i64_w, i32_w]
  rfl
 refine one_ (i := 29) (N := some 77) #[yy, yy, yy, yy, yy, yy, yy, yy, yy, yy, yy, yy, yy, yy, yy, yy, yy, yy, yy, yy, yy, yy, yy, yy, yy, yy, yy, yy, yy, yy, yy, yy, yy, nn, nn, nn, nn, nn] rfl rfl (one_of HT_.out (by kernel_rfl)) (by decide) (fun K hK => ?_)
 refine goes_ Try.func15 (by kernel_rfl) rfl #[.int .i64 (lv8 a0), .int .i64 (lj8 a0 a1), .agg #[.int .u64 t150, .int .u64 t151]] (by rfl) rfl rfl (by (try simp only [mA, mC, mN]); first | done | rfl | (simp only [List.length_drop, List.length_take]; rfl)) ?_
 with_reducible refine (frob_Norm.calls k (lv8 a0) (lj8 a0 a1) t150 t151 t179 t180 _ A20.out).mono ?_
 rintro e w56 ⟨rfl, hb⟩
 refine ⟨_, rfl, ?_⟩
 replace BK149 := bb BK149 hb
 replace BK156 := bb BK156 hb
 replace BK157 := bb BK157 hb
 replace BK158 := bb BK158 hb
 replace BK165 := bb BK165 hb
 replace HB := bh HB hb
 (try clear hb)
 refine hK.out _ _ ⟨bc BK165 0 rfl, bc BK165 1 rfl, bc BK158 0 rfl, bc BK158 1 rfl, bc BK156 0 rfl, bc BK156 1 rfl, bc BK157 0 rfl, bc BK157 1 rfl⟩ (fun hHeld => ?_)
 clear hK K
 refine norm_ (a' := ?_) ?_ ?_
 rotate_left
 ·show Act.put _ (some 77) _ = _
  simp only [Act.put, sA, s0, sS, i64_w, i32_w]
  rfl
 refine one_ (i := 33) (N := some 81) #[yy, yy, yy, yy, yy, yy, yy, yy, yy, yy, yy, yy, yy, yy, yy, yy, yy, yy, yy, yy, yy, yy, yy, yy, yy, yy, yy, yy, yy, yy, yy, yy, yy, yy, nn, nn, nn, nn] rfl rfl (one_of HT_.out (by kernel_rfl)) (by decide) (fun K hK => ?_)
 refine goes_ Try.func15 (by kernel_rfl) rfl #[.int .i64 (lv8 a0), .int .i64 (lj8 a0 a1), .agg #[.int .u64 t152, .int .u64 t153]] (by rfl) rfl rfl (by (try simp only [mA, mC, mN]); first | done | rfl | (simp only [List.length_drop, List.length_take]; rfl)) ?_
 with_reducible refine (frob_Norm.calls k (lv8 a0) (lj8 a0 a1) t152 t153 t181 t182 _ A21.out).mono ?_
 rintro e w57 ⟨rfl, hb⟩
 refine ⟨_, rfl, ?_⟩
 replace BK149 := bb BK149 hb
 replace BK156 := bb BK156 hb
 replace BK157 := bb BK157 hb
 replace BK158 := bb BK158 hb
 replace BK165 := bb BK165 hb
 replace HB := bh HB hb
 (try clear hb)
 refine hK.out _ _ ⟨bc BK165 0 rfl, bc BK165 1 rfl, bc BK158 0 rfl, bc BK158 1 rfl, bc BK156 0 rfl, bc BK156 1 rfl, bc BK157 0 rfl, bc BK157 1 rfl⟩ (fun hHeld => ?_)
 clear hK K
 refine norm_ (a' := ?_) ?_ ?_
 rotate_left
 ·show Act.put _ (some 81) _ = _
  simp only [Act.put, sA, s0, sS, i64_w, i32_w]
  rfl
 refine one_ (i := 34) (N := some 82) #[yy, yy, yy, yy, yy, yy, yy, yy, yy, yy, yy, yy, yy, yy, yy, yy, yy, yy, yy, yy, yy, yy, yy, yy, yy, yy, yy, yy, yy, yy, yy, yy, yy, yy, yy, nn, nn, nn] rfl rfl (one_of HT_.out (by kernel_rfl)) (by decide) (fun K hK => ?_)
 refine goes_ Try.func13 (by kernel_rfl) rfl #[.int .i64 (lj8 a0 a1), .agg #[.int .u64 t179, .int .u64 t180], .agg #[.int .u64 t181, .int .u64 t182]] (by rfl) rfl rfl (by (try simp only [mA, mC, mN]); first | done | rfl | (simp only [List.length_drop, List.length_take]; rfl)) ?_
 with_reducible refine (tower_Mul.calls k (lj8 a0 a1) t179 t180 t181 t182 t183 t184 _ A22.out).mono ?_
 rintro e w58 ⟨rfl, hb⟩
 refine ⟨_, rfl, ?_⟩
 replace BK149 := bb BK149 hb
 replace BK156 := bb BK156 hb
 replace BK157 := bb BK157 hb
 replace BK158 := bb BK158 hb
 replace BK165 := bb BK165 hb
 replace HB := bh HB hb
 (try clear hb)
 refine hK.out _ _ ⟨bc BK165 0 rfl, bc BK165 1 rfl, bc BK158 0 rfl, bc BK158 1 rfl, bc BK156 0 rfl, bc BK156 1 rfl, bc BK157 0 rfl, bc BK157 1 rfl⟩ (fun hHeld => ?_)
 clear hK K
 refine norm_ (a' := ?_) ?_ ?_
 rotate_left
 ·show Act.put _ (some 82) _ = _
  simp only [Act.put, sA, s0, sS, i64_w, i32_w]
  rfl
 refine pure_ (i := 35) (N := some 83) (v := ?_) (a' := ?_) #[yy, yy, yy, yy, yy, yy, yy, yy, yy, yy, yy, yy, yy, yy, yy, yy, yy, yy, yy, yy, yy, yy, yy, yy, yy, yy, yy, yy, yy, yy, yy, yy, yy, yy, yy, yy, nn, nn] rfl rfl (any_of HT_.out (by kernel_rfl)) (fun _ _ _ h => h) (Or.inl ⟨by rfl, ?_⟩) ?_ ?_
 rotate_left
 ·intro w'
  go_simp
  with_reducible rfl
 rotate_left
 ·simp only [Act.put, sA, s0, sS, i64_w, i32_w]
  rfl
 refine pure_ (i := 36) (N := some 84) (v := ?_) (a' := ?_) #[yy, yy, yy, yy, yy, yy, yy, yy, yy, yy, yy, yy, yy, yy, yy, yy, yy, yy, yy, yy, yy, yy, yy, yy, yy, yy, yy, yy, yy, yy, yy, yy, yy, yy, yy, yy, yy, nn] rfl rfl (any_of HT_.out (by kernel_rfl)) (fun _ _ _ h => h) (Or.inl ⟨by rfl, ?_⟩) ?_ ?_
 rotate_left
 ·intro w'
  go_simp
  with_reducible rfl
 rotate_left
 ·simp only [Act.put, sA, s0, sS, i64_w, i32_w]
  rfl
 refine pure_ (i := 37) (N := some 6) (v := ?_) (a' := ?_) #[yy, yy, yy, yy, yy, yy, yy, yy, yy, yy, yy, yy, yy, yy, yy, yy, yy, yy, yy, yy, yy, yy, yy, yy, yy, yy, yy, yy, yy, yy, yy, yy, yy, yy, yy, yy, yy, yy] rfl rfl (any_of HT_.out (by kernel_rfl)) (fun _ _ _ h => h) (Or.inl ⟨by rfl, ?_⟩) ?_ ?_
 rotate_left
 ·intro w'
  go_simp
  with_reducible rfl
 rotate_left
 ·simp only [Act.put, sA, s0, sS, i64_w, i32_w]
  rfl
 refine done_ (done_of HT_.out (by kernel_rfl)) ?_
 try go_wp2
 go_ret
 exact ⟨by first | rfl | (simp [errW_none, errW_some] <;> rfl) | (simp [*, errW_none, errW_some] <;> rfl), bq HB.out⟩
/-- THE ONE PURE STATEMENT of steeplelaw33_FrobLinear. -/
def steeplelaw33_FrobLinear.Pure : Prop := ∀ (x0 : Int) (x1 : Int) (x2 : S26), (Lit.int .i64 x0).wf = true → (Lit.int .i64 x1).wf = true → (((Lit.int .u64 x2.f0.f0).wf = true ∧ (Lit.int .u64 x2.f0.f1).wf = true) ∧ ((Lit.int .u64 x2.f1.f0).wf = true ∧ (Lit.int .u64 x2.f1.f1).wf = true) ∧ ((Lit.int .u64 x2.f2.f0).wf = true ∧ (Lit.int .u64 x2.f2.f1).wf = true)) → ∃ k, steeplelaw33_FrobLinear.f k x0 x1 x2.f0.f0 x2.f0.f1 x2.f1.f0 x2.f1.f1 x2.f2.f0 x2.f2.f1 = some true

end Go.Proofs.Ytlegcabfgkccmaa.P
