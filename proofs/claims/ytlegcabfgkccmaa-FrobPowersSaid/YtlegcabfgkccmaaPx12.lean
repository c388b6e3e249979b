/- Written by a program of this session: functions that the law reaches, as Lean functions, and that the code comes to their answers. Conditions: those that each theorem names. -/
import Derived.Test.YtlegcabfgkccmaaPx0
import Derived.Test.YtlegcabfgkccmaaPx1
import Derived.Test.YtlegcabfgkccmaaPx2
import Derived.Test.YtlegcabfgkccmaaPx3
import Derived.Test.YtlegcabfgkccmaaPx6
import Derived.Test.YtlegcabfgkccmaaPx6a
import Derived.Test.YtlegcabfgkccmaaPx7
import Derived.Test.YtlegcabfgkccmaaPx8
import Derived.Test.YtlegcabfgkccmaaPx11
namespace Go.Proofs.Ytlegcabfgkccmaa.P
open Go.RowKit Go.Proofs.YtlegcabfgkccmaaX Go.Proofs.YtlegcabfgkccmaaW.PrintWords Go.Proofs.YtlegcabfgkccmaaW.PrintLast Go.Proofs.YtlegcabfgkccmaaW.PrintMore
attribute [local go_sem] max2_int min2_int max_two min_two max_three min_three max_four min_four   -- for this text's walks alone
set_option linter.unusedVariables false
set_option linter.unusedSimpArgs false

attribute [local go_sem high] eqA24 eqA37
/-! ### steeplelaw33_FrobPowers: function 6 -/
def steeplelaw33_FrobPowers.j0 : Nat → Int → Int → Bool → Int → Int → Int → Int → Int → Int → Int → Int → Option (Bool)
 | 0, _, _, _, _, _, _, _, _, _, _, _ => none
 | k + 1, x0, x2, x40, x348000, x348001, x349000, x349001, x354000, x354001, x355000, x355001 => if x40 = true then (if (!(x354000 == 0) || (!(x354001 == 0))) = true then (none) else ((steeplelaw33_awake.f k).bind fun t358 => (if t358 = true then ((octet_Of.f k x0 x355000 x355001).bind fun t359 => (if t359 = true then ((steepleref02_Product.f k x355000 x355001 x355000 x355001).bind fun bt360 => (some (x348000 == bt360.1 && (x348001 == bt360.2)))) else (none))) else (none)))) else ((steepleref33_Power.f k x349000 x349001 x2).bind fun bt362 => (if (!(x354000 == bt362.1) || (!(x354001 == bt362.2))) = true then (none) else ((steeplelaw33_awake.f k).bind fun t364 => (if t364 = true then ((octet_Of.f k x0 x355000 x355001).bind fun t365 => (if t365 = true then ((steepleref02_Product.f k x355000 x355001 x355000 x355001).bind fun bt366 => (some (x348000 == bt366.1 && (x348001 == bt366.2)))) else (none))) else (none)))))
def steeplelaw33_FrobPowers.f (k : Nat) (a0 : Int) (a1_0 : Int) (a1_1 : Int) (a2 : Int) : Option (Bool) := (frob_Power.f k a0 a1_0 a1_1 a2).bind fun bt349 => ((frob_Root.f k a0 a1_0 a1_1).bind fun bt351 => ((steepleref01_Of.f k a0 a1_0 a1_1).bind fun t355 => (if t355 = true then (if a2 < 0 then (steeplelaw33_FrobPowers.j0 k a0 a2 true a1_0 a1_1 a1_0 a1_1 bt349.1 bt349.2 bt351.1 bt351.2) else ((steepleref15_Two.f k a0).bind fun t357 => (steeplelaw33_FrobPowers.j0 k a0 a2 (decide (a2 ≥ t357)) a1_0 a1_1 a1_0 a1_1 bt349.1 bt349.2 bt351.1 bt351.2))) else ((steeplelaw33_awake.f k).bind fun t356 => (if t356 = true then (if (bt349.1 == 0 && (bt349.2 == 0)) = true then (some (bt351.1 == 0 && (bt351.2 == 0))) else (none)) else (none))))))
theorem steeplelaw33_FrobPowers.mono_l : ∀ k, (∀ y0 y1 y2 y3 y4 y5 y6 y7 y8 y9 y10, LeO (steeplelaw33_FrobPowers.j0 k y0 y1 y2 y3 y4 y5 y6 y7 y8 y9 y10) (steeplelaw33_FrobPowers.j0 (k + 1) y0 y1 y2 y3 y4 y5 y6 y7 y8 y9 y10))
 | 0 => fun _ _ _ _ _ _ _ _ _ _ _ r h => by simp [steeplelaw33_FrobPowers.j0] at h
 | k + 1 => by
  have ih0 := steeplelaw33_FrobPowers.mono_l k
  ·intro y0 y1 y2 y3 y4 y5 y6 y7 y8 y9 y10
   unfold steeplelaw33_FrobPowers.j0
   repeat' first
   | (with_reducible exact ih0 _ _ _ _ _ _ _ _ _ _ _)
   | (with_reducible exact frob_Power.mono _ _ _ _ _)
   | (with_reducible exact frob_Root.mono _ _ _ _)
   | (with_reducible exact octet_Of.mono _ _ _ _)
   | (with_reducible exact steeplelaw33_awake.mono _)
   | (with_reducible exact steepleref01_Of.mono _ _ _ _)
   | (with_reducible exact steepleref02_Product.mono _ _ _ _ _)
   | (with_reducible exact steepleref15_Two.mono _ _)
   | (with_reducible exact steepleref33_Power.mono _ _ _ _)
   | (with_reducible exact LeO.refl _)
   | (with_reducible exact LeO.none _)
   | (with_reducible refine LeO.ite ?_ ?_)
   | (with_reducible refine LeO.bind ?_ (fun _ => ?_))
   | exact ih0 _ _ _ _ _ _ _ _ _ _ _
   | exact frob_Power.mono _ _ _ _ _
   | exact frob_Root.mono _ _ _ _
   | exact octet_Of.mono _ _ _ _
   | exact steeplelaw33_awake.mono _
   | exact steepleref01_Of.mono _ _ _ _
   | exact steepleref02_Product.mono _ _ _ _ _
   | exact steepleref15_Two.mono _ _
   | exact steepleref33_Power.mono _ _ _ _
   | exact LeO.none _
   | refine LeO.ite ?_ ?_
   | refine LeO.bind ?_ (fun _ => ?_)
theorem steeplelaw33_FrobPowers.mono : ∀ a0 a1 a2 a3 k, LeO (steeplelaw33_FrobPowers.f k a0 a1 a2 a3) (steeplelaw33_FrobPowers.f (k + 1) a0 a1 a2 a3) := by
 intro a0 a1 a2 a3 k
 have ih0 := steeplelaw33_FrobPowers.mono_l k
 unfold steeplelaw33_FrobPowers.f
 repeat' first
   | (with_reducible exact ih0 _ _ _ _ _ _ _ _ _ _ _)
   | (with_reducible exact frob_Power.mono _ _ _ _ _)
   | (with_reducible exact frob_Root.mono _ _ _ _)
   | (with_reducible exact octet_Of.mono _ _ _ _)
   | (with_reducible exact steeplelaw33_awake.mono _)
   | (with_reducible exact steepleref01_Of.mono _ _ _ _)
   | (with_reducible exact steepleref02_Product.mono _ _ _ _ _)
   | (with_reducible exact steepleref15_Two.mono _ _)
   | (with_reducible exact steepleref33_Power.mono _ _ _ _)
   | (with_reducible exact LeO.refl _)
   | (with_reducible exact LeO.none _)
   | (with_reducible refine LeO.ite ?_ ?_)
   | (with_reducible refine LeO.bind ?_ (fun _ => ?_))
   | exact ih0 _ _ _ _ _ _ _ _ _ _ _
   | exact frob_Power.mono _ _ _ _ _
   | exact frob_Root.mono _ _ _ _
   | exact octet_Of.mono _ _ _ _
   | exact steeplelaw33_awake.mono _
   | exact steepleref01_Of.mono _ _ _ _
   | exact steepleref02_Product.mono _ _ _ _ _
   | exact steepleref15_Two.mono _ _
   | exact steepleref33_Power.mono _ _ _ _
   | exact LeO.none _
   | refine LeO.ite ?_ ?_
   | refine LeO.bind ?_ (fun _ => ?_)
def steeplelaw33_FrobPowers.T2 : Bool × List (List Nat × List Nat) := (true, [([], []), ([], []), ([], []), ([0, 1, 2], [0, 1, 2]), ([], []), ([], []), ([4, 5, 3], [4, 5]), ([], []), ([], []), ([7, 3, 6, 0, 1, 2, 3, 7, 8], [3, 7]), ([8, 6, 9, 0, 1, 2, 3, 4, 5, 6, 7, 8, 9], [6, 8])])
def steeplelaw33_FrobPowers.B2 : List Nat := [0, 0, 0, 7, 0, 0, 63, 0, 0, 511, 1023]
theorem steeplelaw33_FrobPowers.tab2 : rtab .any (opsOf Try.f6 2) = steeplelaw33_FrobPowers.T2 := by kernel_rfl
theorem steeplelaw33_FrobPowers.bits2 : waitsOk steeplelaw33_FrobPowers.T2.2 steeplelaw33_FrobPowers.B2 = true := by kernel_rfl
def steeplelaw33_FrobPowers.T10 : Bool × List (List Nat × List Nat) := (true, [([], []), ([0, 0], [0]), ([1], [1]), ([1], [1]), ([2, 3, 1, 1], [1, 2, 3]), ([1, 4], [1, 4]), ([5, 4], [5]), ([6], [6]), ([6], [6]), ([6], [6]), ([8, 9, 6, 6], [6, 8, 9]), ([7, 10, 6], [6, 7, 10]), ([6, 11], [6, 11]), ([12, 10, 0, 1, 2, 3, 4, 5, 6, 7, 8, 9, 10, 11, 12], [12])])
def steeplelaw33_FrobPowers.B10 : List Nat := [0, 1, 3, 3, 15, 31, 63, 127, 127, 127, 895, 2047, 4095, 8191]
theorem steeplelaw33_FrobPowers.tab10 : rtab .any (opsOf Try.f6 10) = steeplelaw33_FrobPowers.T10 := by kernel_rfl
theorem steeplelaw33_FrobPowers.bits10 : waitsOk steeplelaw33_FrobPowers.T10.2 steeplelaw33_FrobPowers.B10 = true := by kernel_rfl
set_option maxHeartbeats 8000000 in
set_option maxRecDepth 100000 in
theorem steeplelaw33_FrobPowers.calls (k : Nat) (a0 : Int) (a1_0 : Int) (a1_1 : Int) (a2 : Int) (r : Bool) (w : World) (h : steeplelaw33_FrobPowers.f k a0 a1_0 a1_1 a2 = some r) :
  Calls Try.prog 6 #[.int .i64 a0, .agg #[.int .u64 a1_0, .int .u64 a1_1], .int .i64 a2] w fun e w' => e = .returned (.bool r) ∧ Below w.heap.size w w' := by
 have hu24 := Try.underlying24
 have hu37 := Try.underlying37
 have HB := Aside0.mk (Below.refl w.heap.size w)
 have H : ((frob_Power.f k a0 a1_0 a1_1 a2).bind fun bt349 => ((frob_Root.f k a0 a1_0 a1_1).bind fun bt351 => ((steepleref01_Of.f k a0 a1_0 a1_1).bind fun t355 => (if t355 = true then (if a2 < 0 then (steeplelaw33_FrobPowers.j0 k a0 a2 true a1_0 a1_1 a1_0 a1_1 bt349.1 bt349.2 bt351.1 bt351.2) else ((steepleref15_Two.f k a0).bind fun t357 => (steeplelaw33_FrobPowers.j0 k a0 a2 (decide (a2 ≥ t357)) a1_0 a1_1 a1_0 a1_1 bt349.1 bt349.2 bt351.1 bt351.2))) else ((steeplelaw33_awake.f k).bind fun t356 => (if t356 = true then (if (bt349.1 == 0 && (bt349.2 == 0)) = true then (some (bt351.1 == 0 && (bt351.2 == 0))) else (none)) else (none))))))) = some r := h
 clear h
 replace H := Option.bind_eq_some_iff.mp H
 obtain ⟨⟨t349, t350⟩, A40, H⟩ := H
 replace H : ((frob_Root.f k a0 a1_0 a1_1).bind fun bt351 => ((steepleref01_Of.f k a0 a1_0 a1_1).bind fun t355 => (if t355 = true then (if a2 < 0 then (steeplelaw33_FrobPowers.j0 k a0 a2 true a1_0 a1_1 a1_0 a1_1 t349 t350 bt351.1 bt351.2) else ((steepleref15_Two.f k a0).bind fun t357 => (steeplelaw33_FrobPowers.j0 k a0 a2 (decide (a2 ≥ t357)) a1_0 a1_1 a1_0 a1_1 t349 t350 bt351.1 bt351.2))) else ((steeplelaw33_awake.f k).bind fun t356 => (if t356 = true then (if (t349 == 0 && (t350 == 0)) = true then (some (bt351.1 == 0 && (bt351.2 == 0))) else (none)) else (none)))))) = some r := H
 have A4 := Aside0.mk A40
 clear A40
 replace H := Option.bind_eq_some_iff.mp H
 obtain ⟨⟨t351, t352⟩, A50, H⟩ := H
 replace H : ((steepleref01_Of.f k a0 a1_0 a1_1).bind fun t355 => (if t355 = true then (if a2 < 0 then (steeplelaw33_FrobPowers.j0 k a0 a2 true a1_0 a1_1 a1_0 a1_1 t349 t350 t351 t352) else ((steepleref15_Two.f k a0).bind fun t357 => (steeplelaw33_FrobPowers.j0 k a0 a2 (decide (a2 ≥ t357)) a1_0 a1_1 a1_0 a1_1 t349 t350 t351 t352))) else ((steeplelaw33_awake.f k).bind fun t356 => (if t356 = true then (if (t349 == 0 && (t350 == 0)) = true then (some (t351 == 0 && (t352 == 0))) else (none)) else (none))))) = some r := H
 have A5 := Aside0.mk A50
 clear A50
 replace H := Option.bind_eq_some_iff.mp H
 obtain ⟨t355, A60, H⟩ := H
 replace H : (if t355 = true then (if a2 < 0 then (steeplelaw33_FrobPowers.j0 k a0 a2 true a1_0 a1_1 a1_0 a1_1 t349 t350 t351 t352) else ((steepleref15_Two.f k a0).bind fun t357 => (steeplelaw33_FrobPowers.j0 k a0 a2 (decide (a2 ≥ t357)) a1_0 a1_1 a1_0 a1_1 t349 t350 t351 t352))) else ((steeplelaw33_awake.f k).bind fun t356 => (if t356 = true then (if (t349 == 0 && (t350 == 0)) = true then (some (t351 == 0 && (t352 == 0))) else (none)) else (none)))) = some r := H
 have A6 := Aside0.mk A60
 clear A60
 by_cases c7 : t355 = true
 ·subst c7
  have H1 : (if a2 < 0 then (steeplelaw33_FrobPowers.j0 k a0 a2 true a1_0 a1_1 a1_0 a1_1 t349 t350 t351 t352) else ((steepleref15_Two.f k a0).bind fun t357 => (steeplelaw33_FrobPowers.j0 k a0 a2 (decide (a2 ≥ t357)) a1_0 a1_1 a1_0 a1_1 t349 t350 t351 t352))) = some r := by rw [if_pos rfl] at H; exact H
  clear H
  have H := H1
  clear H1
  have HC8 := Aside0.mk H
  clear H
  go_enter Try.func6, Try.ntmps6
  try go_wp2_with (first | ((with_reducible refine gate_dst (N := 4) rfl ?_); refine box_event ?hg (N := 4) ?hd (cs := #[.int .u64 a1_0, .int .u64 a1_1]) (t := 24) ?hr ?_; (case hd => rfl); (case hg => rfl); (case hr => first | (go_simp; done) | (go_simp; rfl)); intro gb347 hg w9 hbox hb; have BK347 := Aside0.mk hbox; have GW347 := ge hg HB; have GE347 := ge hg HB; replace HB := bh HB hb; clear hb hbox hg; obtain ⟨hcz10_0, hcz10_1⟩ := zc2 BK347; obtain ⟨hfz10_0, hfz10_1⟩ := zf2 BK347) | ((with_reducible refine gate_dst (N := 7) rfl ?_); refine box_event ?hg (N := 7) ?hd (cs := #[.int .u64 0, .int .u64 0]) (t := 37) ?hr ?_; (case hd => rfl); (case hg => rfl); (case hr => first | (go_simp; done) | (go_simp; rfl)); intro gb348 hg w11 hbox hb; have BK348 := Aside0.mk hbox; have GW348 := ge hg HB; have GE348 := ge hg HB; have NB347_348 := nl hg BK347; have NB348_347 := ng hg BK347; replace BK347 := bb BK347 hb; replace HB := bh HB hb; clear hb hbox hg; have hnb12 := NB348_347.out; have hnc12 := NB347_348.out; obtain ⟨hcz13_0, hcz13_1⟩ := zc2 BK348; obtain ⟨hfz13_0, hfz13_1⟩ := zf2 BK348))
  have n0_ : Aside0 (((w11.setCell ⟨gb348, 0, none⟩ (.int .u64 a1_0)).setCell ⟨gb348, 1, none⟩ (.int .u64 a1_1)).heap[gb347]? = some (.cells #[.int .u64 a1_0, .int .u64 a1_1] 24 (0, 0))) := ⟨by (with_reducible repeat refine bl ?_); refine blk_far ?_ NB347_348.out _; (with_reducible repeat refine bl ?_); refine blk_far ?_ NB347_348.out _; (with_reducible repeat refine bl ?_); exact BK347.out⟩
  have n1_ : Aside0 (((w11.setCell ⟨gb348, 0, none⟩ (.int .u64 a1_0)).setCell ⟨gb348, 1, none⟩ (.int .u64 a1_1)).heap[gb348]? = some (.cells #[.int .u64 a1_0, .int .u64 a1_1] 37 (0, 0))) := ⟨by (with_reducible repeat refine bl ?_); refine blk_put (cs := #[.int .u64 a1_0, .int .u64 0]) ?_ 1 _ rfl; (with_reducible repeat refine bl ?_); refine blk_put (cs := #[.int .u64 0, .int .u64 0]) ?_ 0 _ rfl; (with_reducible repeat refine bl ?_); exact BK348.out⟩
  have n2_ : Aside0 (Below w.heap.size w ((w11.setCell ⟨gb348, 0, none⟩ (.int .u64 a1_0)).setCell ⟨gb348, 1, none⟩ (.int .u64 a1_1))) := ⟨bq HB.out⟩
  (try clear BK347)
  (try clear BK348)
  (try clear HB)
  generalize ((w11.setCell ⟨gb348, 0, none⟩ (.int .u64 a1_0)).setCell ⟨gb348, 1, none⟩ (.int .u64 a1_1)) = w14 at n0_ n1_ n2_ ⊢
  have BK347 := n0_
  have BK348 := n1_
  have HB := n2_
  clear n0_ n1_ n2_
  replace BK347 := Aside0.mk (blk_drew BK347.out)
  replace BK348 := Aside0.mk (blk_drew BK348.out)
  replace HB := Aside0.mk (below_drew1 HB.out)
  refine start_ (n := 11) (S := fun w' => w'.cell? ⟨gb347, 0, none⟩ = some (.int .u64 a1_0) ∧ w'.cell? ⟨gb347, 1, none⟩ = some (.int .u64 a1_1)) (ds := []) #[false, false, false, false, false, false, false, false, false, false, false] (by kernel_rfl) rfl rfl ⟨(blk_cell BK347.out 0).trans rfl, (blk_cell BK347.out 1).trans rfl⟩ (fun hHeld => ?_); refine with_tabW steeplelaw33_FrobPowers.tab2 steeplelaw33_FrobPowers.bits2 (fun HT_ HW_ => ?_)
  generalize w14.drew = w15 at BK347 BK348 HB hHeld ⊢
  refine pure_ (i := 0) (N := some 11) (v := ?_) (a' := ?_) #[true, false, false, false, false, false, false, false, false, false, false] rfl rfl (any_of HT_.out (by kernel_rfl)) (fun _ _ _ h => h) (Or.inl ⟨by rfl, ?_⟩) ?_ ?_
  rotate_left
  ·intro w'
   go_simp
   with_reducible rfl
  rotate_left
  ·simp only [Act.put, List.setIfInBounds_toArray, List.set_cons_zero, List.set_cons_succ, i64_w, i32_w]
   rfl
  refine pure_ (i := 2) (N := some 13) (v := ?_) (a' := ?_) #[true, false, true, false, false, false, false, false, false, false, false] rfl rfl (any_of HT_.out (by kernel_rfl)) (fun _ _ _ h => h) (Or.inl ⟨by rfl, ?_⟩) ?_ ?_
  rotate_left
  ·intro w'
   go_simp
   with_reducible rfl
  rotate_left
  ·simp only [Act.put, List.setIfInBounds_toArray, List.set_cons_zero, List.set_cons_succ, i64_w, i32_w]
   rfl
  refine pure_ (i := 4) (N := some 15) (v := ?_) (a' := ?_) #[true, false, true, false, true, false, false, false, false, false, false] rfl rfl (any_of HT_.out (by kernel_rfl)) (fun _ _ _ h => h) (Or.inl ⟨by rfl, ?_⟩) ?_ ?_
  rotate_left
  ·intro w'
   go_simp
   with_reducible rfl
  rotate_left
  ·simp only [Act.put, List.setIfInBounds_toArray, List.set_cons_zero, List.set_cons_succ, i64_w, i32_w]
   rfl
  refine take_ (i := 1) (N := some 12) (v := ?_) (a' := ?_) #[true, true, true, false, true, false, false, false, false, false, false] rfl rfl (take_ofW HT_.out HW_.out (by kernel_rfl)) (fun _ _ _ h => h) (Or.inl ⟨by rfl, ?_⟩) hHeld ?_ ?_
  rotate_left
  ·rintro w' ⟨s0, s1⟩
   go_simp
   with_reducible rfl
  rotate_left
  ·simp only [Act.put, List.setIfInBounds_toArray, List.set_cons_zero, List.set_cons_succ, i64_w, i32_w]
   rfl
  refine take_ (i := 5) (N := some 16) (v := ?_) (a' := ?_) #[true, true, true, false, true, true, false, false, false, false, false] rfl rfl (take_ofW HT_.out HW_.out (by kernel_rfl)) (fun _ _ _ h => h) (Or.inl ⟨by rfl, ?_⟩) hHeld ?_ ?_
  rotate_left
  ·rintro w' ⟨s0, s1⟩
   go_simp
   with_reducible rfl
  rotate_left
  ·simp only [Act.put, List.setIfInBounds_toArray, List.set_cons_zero, List.set_cons_succ, i64_w, i32_w]
   rfl
  refine join_ (σ := Nat × Nat) 2 #[true, true, true, true, true, true, true, true, true, false, false] (fun s_ => [(14, .agg #[.int .u64 t349, .int .u64 t350]), (17, .agg #[.int .u64 t351, .int .u64 t352]), (8, .pointer (some ⟨s_.1, 0, none⟩)), (9, .pointer (some ⟨s_.2, 0, none⟩))]) (fun s_ w' => (w'.cell? ⟨gb347, 0, none⟩ = some (.int .u64 a1_0) ∧ w'.cell? ⟨gb347, 1, none⟩ = some (.int .u64 a1_1)) ∧ (w'.heap[gb347]? = some (.cells #[.int .u64 a1_0, .int .u64 a1_1] 24 (0, 0))) ∧ (w'.heap[gb348]? = some (.cells #[.int .u64 a1_0, .int .u64 a1_1] 37 (0, 0))) ∧ (w'.heap[s_.1]? = some (.cells #[.int .u64 0, .int .u64 0] 24 (0, 0))) ∧ (w'.heap[s_.2]? = some (.cells #[.int .u64 0, .int .u64 0] 24 (0, 0))) ∧ (w.heap.size ≤ s_.1) ∧ (w.heap.size ≤ s_.1) ∧ (gb347 ≠ s_.1) ∧ (s_.1 ≠ gb347) ∧ (gb348 ≠ s_.1) ∧ (s_.1 ≠ gb348) ∧ (s_.2 ≠ s_.1) ∧ (s_.1 ≠ s_.2) ∧ (w.heap.size ≤ s_.2) ∧ (w.heap.size ≤ s_.2) ∧ (gb347 ≠ s_.2) ∧ (s_.2 ≠ gb347) ∧ (gb348 ≠ s_.2) ∧ (s_.2 ≠ gb348) ∧ (Below w.heap.size w w')) ?_ ?_
  rotate_left
  ·intro hJ3_6_7_8
   refine join_ (σ := Nat) 3 #[true, true, true, true, true, true, true, true, false, false, false] (fun s_ => [(14, .agg #[.int .u64 t349, .int .u64 t350]), (17, .agg #[.int .u64 t351, .int .u64 t352]), (8, .pointer (some ⟨s_, 0, none⟩))]) (fun s_ w' => (w'.cell? ⟨gb347, 0, none⟩ = some (.int .u64 a1_0) ∧ w'.cell? ⟨gb347, 1, none⟩ = some (.int .u64 a1_1)) ∧ (w'.heap[gb347]? = some (.cells #[.int .u64 a1_0, .int .u64 a1_1] 24 (0, 0))) ∧ (w'.heap[gb348]? = some (.cells #[.int .u64 a1_0, .int .u64 a1_1] 37 (0, 0))) ∧ (w'.heap[s_]? = some (.cells #[.int .u64 0, .int .u64 0] 24 (0, 0))) ∧ (w.heap.size ≤ s_) ∧ (w.heap.size ≤ s_) ∧ (gb347 ≠ s_) ∧ (s_ ≠ gb347) ∧ (gb348 ≠ s_) ∧ (s_ ≠ gb348) ∧ (Below w.heap.size w w')) ?_ ?_
   rotate_left
   ·intro hJ3_6_7
    refine join_ (σ := Nat) 3 #[true, true, true, true, true, true, true, false, true, false, false] (fun s_ => [(14, .agg #[.int .u64 t349, .int .u64 t350]), (17, .agg #[.int .u64 t351, .int .u64 t352]), (9, .pointer (some ⟨s_, 0, none⟩))]) (fun s_ w' => (w'.cell? ⟨gb347, 0, none⟩ = some (.int .u64 a1_0) ∧ w'.cell? ⟨gb347, 1, none⟩ = some (.int .u64 a1_1)) ∧ (w'.heap[gb347]? = some (.cells #[.int .u64 a1_0, .int .u64 a1_1] 24 (0, 0))) ∧ (w'.heap[gb348]? = some (.cells #[.int .u64 a1_0, .int .u64 a1_1] 37 (0, 0))) ∧ (w'.heap[s_]? = some (.cells #[.int .u64 0, .int .u64 0] 24 (0, 0))) ∧ (w.heap.size ≤ s_) ∧ (w.heap.size ≤ s_) ∧ (gb347 ≠ s_) ∧ (s_ ≠ gb347) ∧ (gb348 ≠ s_) ∧ (s_ ≠ gb348) ∧ (Below w.heap.size w w')) ?_ ?_
    rotate_left
    ·intro hJ3_6_8
     refine join_ (σ := Nat × Nat) 3 #[true, true, true, true, true, true, false, true, true, false, false] (fun s_ => [(14, .agg #[.int .u64 t349, .int .u64 t350]), (8, .pointer (some ⟨s_.1, 0, none⟩)), (9, .pointer (some ⟨s_.2, 0, none⟩))]) (fun s_ w' => (w'.cell? ⟨gb347, 0, none⟩ = some (.int .u64 a1_0) ∧ w'.cell? ⟨gb347, 1, none⟩ = some (.int .u64 a1_1)) ∧ (w'.heap[gb347]? = some (.cells #[.int .u64 a1_0, .int .u64 a1_1] 24 (0, 0))) ∧ (w'.heap[gb348]? = some (.cells #[.int .u64 a1_0, .int .u64 a1_1] 37 (0, 0))) ∧ (w'.heap[s_.1]? = some (.cells #[.int .u64 0, .int .u64 0] 24 (0, 0))) ∧ (w'.heap[s_.2]? = some (.cells #[.int .u64 0, .int .u64 0] 24 (0, 0))) ∧ (w.heap.size ≤ s_.1) ∧ (w.heap.size ≤ s_.1) ∧ (gb347 ≠ s_.1) ∧ (s_.1 ≠ gb347) ∧ (gb348 ≠ s_.1) ∧ (s_.1 ≠ gb348) ∧ (s_.2 ≠ s_.1) ∧ (s_.1 ≠ s_.2) ∧ (w.heap.size ≤ s_.2) ∧ (w.heap.size ≤ s_.2) ∧ (gb347 ≠ s_.2) ∧ (s_.2 ≠ gb347) ∧ (gb348 ≠ s_.2) ∧ (s_.2 ≠ gb348) ∧ (Below w.heap.size w w')) ?_ ?_
     rotate_left
     ·intro hJ3_7_8
      refine join_ (σ := Unit) 4 #[true, true, true, true, true, true, true, false, false, false, false] (fun s_ => [(14, .agg #[.int .u64 t349, .int .u64 t350]), (17, .agg #[.int .u64 t351, .int .u64 t352])]) (fun s_ w' => (w'.cell? ⟨gb347, 0, none⟩ = some (.int .u64 a1_0) ∧ w'.cell? ⟨gb347, 1, none⟩ = some (.int .u64 a1_1)) ∧ (w'.heap[gb347]? = some (.cells #[.int .u64 a1_0, .int .u64 a1_1] 24 (0, 0))) ∧ (w'.heap[gb348]? = some (.cells #[.int .u64 a1_0, .int .u64 a1_1] 37 (0, 0))) ∧ (Below w.heap.size w w')) ?_ ?_
      rotate_left
      ·intro hJ3_6
       refine join_ (σ := Nat) 4 #[true, true, true, true, true, true, false, true, false, false, false] (fun s_ => [(14, .agg #[.int .u64 t349, .int .u64 t350]), (8, .pointer (some ⟨s_, 0, none⟩))]) (fun s_ w' => (w'.cell? ⟨gb347, 0, none⟩ = some (.int .u64 a1_0) ∧ w'.cell? ⟨gb347, 1, none⟩ = some (.int .u64 a1_1)) ∧ (w'.heap[gb347]? = some (.cells #[.int .u64 a1_0, .int .u64 a1_1] 24 (0, 0))) ∧ (w'.heap[gb348]? = some (.cells #[.int .u64 a1_0, .int .u64 a1_1] 37 (0, 0))) ∧ (w'.heap[s_]? = some (.cells #[.int .u64 0, .int .u64 0] 24 (0, 0))) ∧ (w.heap.size ≤ s_) ∧ (w.heap.size ≤ s_) ∧ (gb347 ≠ s_) ∧ (s_ ≠ gb347) ∧ (gb348 ≠ s_) ∧ (s_ ≠ gb348) ∧ (Below w.heap.size w w')) ?_ ?_
       rotate_left
       ·intro hJ3_7
        refine join_ (σ := Nat) 4 #[true, true, true, true, true, true, false, false, true, false, false] (fun s_ => [(14, .agg #[.int .u64 t349, .int .u64 t350]), (9, .pointer (some ⟨s_, 0, none⟩))]) (fun s_ w' => (w'.cell? ⟨gb347, 0, none⟩ = some (.int .u64 a1_0) ∧ w'.cell? ⟨gb347, 1, none⟩ = some (.int .u64 a1_1)) ∧ (w'.heap[gb347]? = some (.cells #[.int .u64 a1_0, .int .u64 a1_1] 24 (0, 0))) ∧ (w'.heap[gb348]? = some (.cells #[.int .u64 a1_0, .int .u64 a1_1] 37 (0, 0))) ∧ (w'.heap[s_]? = some (.cells #[.int .u64 0, .int .u64 0] 24 (0, 0))) ∧ (w.heap.size ≤ s_) ∧ (w.heap.size ≤ s_) ∧ (gb347 ≠ s_) ∧ (s_ ≠ gb347) ∧ (gb348 ≠ s_) ∧ (s_ ≠ gb348) ∧ (Below w.heap.size w w')) ?_ ?_
        rotate_left
        ·intro hJ3_8
         refine join_ (σ := Nat × Nat) 4 #[true, true, true, false, true, true, false, true, true, false, false] (fun s_ => [(8, .pointer (some ⟨s_.1, 0, none⟩)), (9, .pointer (some ⟨s_.2, 0, none⟩))]) (fun s_ w' => (w'.cell? ⟨gb347, 0, none⟩ = some (.int .u64 a1_0) ∧ w'.cell? ⟨gb347, 1, none⟩ = some (.int .u64 a1_1)) ∧ (w'.heap[gb347]? = some (.cells #[.int .u64 a1_0, .int .u64 a1_1] 24 (0, 0))) ∧ (w'.heap[gb348]? = some (.cells #[.int .u64 a1_0, .int .u64 a1_1] 37 (0, 0))) ∧ (w'.heap[s_.1]? = some (.cells #[.int .u64 0, .int .u64 0] 24 (0, 0))) ∧ (w'.heap[s_.2]? = some (.cells #[.int .u64 0, .int .u64 0] 24 (0, 0))) ∧ (w.heap.size ≤ s_.1) ∧ (w.heap.size ≤ s_.1) ∧ (gb347 ≠ s_.1) ∧ (s_.1 ≠ gb347) ∧ (gb348 ≠ s_.1) ∧ (s_.1 ≠ gb348) ∧ (s_.2 ≠ s_.1) ∧ (s_.1 ≠ s_.2) ∧ (w.heap.size ≤ s_.2) ∧ (w.heap.size ≤ s_.2) ∧ (gb347 ≠ s_.2) ∧ (s_.2 ≠ gb347) ∧ (gb348 ≠ s_.2) ∧ (s_.2 ≠ gb348) ∧ (Below w.heap.size w w')) ?_ ?_
         rotate_left
         ·intro hJ7_8
          refine join_ (σ := Unit) 5 #[true, true, true, true, true, true, false, false, false, false, false] (fun s_ => [(14, .agg #[.int .u64 t349, .int .u64 t350])]) (fun s_ w' => (w'.cell? ⟨gb347, 0, none⟩ = some (.int .u64 a1_0) ∧ w'.cell? ⟨gb347, 1, none⟩ = some (.int .u64 a1_1)) ∧ (w'.heap[gb347]? = some (.cells #[.int .u64 a1_0, .int .u64 a1_1] 24 (0, 0))) ∧ (w'.heap[gb348]? = some (.cells #[.int .u64 a1_0, .int .u64 a1_1] 37 (0, 0))) ∧ (Below w.heap.size w w')) ?_ ?_
          rotate_left
          ·intro hJ3
           refine join_ (σ := Nat) 5 #[true, true, true, false, true, true, false, true, false, false, false] (fun s_ => [(8, .pointer (some ⟨s_, 0, none⟩))]) (fun s_ w' => (w'.cell? ⟨gb347, 0, none⟩ = some (.int .u64 a1_0) ∧ w'.cell? ⟨gb347, 1, none⟩ = some (.int .u64 a1_1)) ∧ (w'.heap[gb347]? = some (.cells #[.int .u64 a1_0, .int .u64 a1_1] 24 (0, 0))) ∧ (w'.heap[gb348]? = some (.cells #[.int .u64 a1_0, .int .u64 a1_1] 37 (0, 0))) ∧ (w'.heap[s_]? = some (.cells #[.int .u64 0, .int .u64 0] 24 (0, 0))) ∧ (w.heap.size ≤ s_) ∧ (w.heap.size ≤ s_) ∧ (gb347 ≠ s_) ∧ (s_ ≠ gb347) ∧ (gb348 ≠ s_) ∧ (s_ ≠ gb348) ∧ (Below w.heap.size w w')) ?_ ?_
           rotate_left
           ·intro hJ7
            refine join_ (σ := Nat) 5 #[true, true, true, false, true, true, false, false, true, false, false] (fun s_ => [(9, .pointer (some ⟨s_, 0, none⟩))]) (fun s_ w' => (w'.cell? ⟨gb347, 0, none⟩ = some (.int .u64 a1_0) ∧ w'.cell? ⟨gb347, 1, none⟩ = some (.int .u64 a1_1)) ∧ (w'.heap[gb347]? = some (.cells #[.int .u64 a1_0, .int .u64 a1_1] 24 (0, 0))) ∧ (w'.heap[gb348]? = some (.cells #[.int .u64 a1_0, .int .u64 a1_1] 37 (0, 0))) ∧ (w'.heap[s_]? = some (.cells #[.int .u64 0, .int .u64 0] 24 (0, 0))) ∧ (w.heap.size ≤ s_) ∧ (w.heap.size ≤ s_) ∧ (gb347 ≠ s_) ∧ (s_ ≠ gb347) ∧ (gb348 ≠ s_) ∧ (s_ ≠ gb348) ∧ (Below w.heap.size w w')) ?_ ?_
            rotate_left
            ·intro hJ8
             refine three_ (i := 3) (j := 7) (k := 8) (Ni := some 14) (Nj := some 8) (Nk := some 9) #[true, true, true, true, true, true, false, false, false, false, false] #[true, true, true, false, true, true, false, true, false, false, false] #[true, true, true, false, true, true, false, false, true, false, false] rfl rfl rfl rfl rfl rfl (three_of HT_.out (by kernel_rfl)) (by decide) (by decide) (by decide) (fun K hK => ?_) (fun K hK => ?_) (fun K hK => ?_)
             ·skip
              refine goes_ Try.func23 (by kernel_rfl) rfl #[.int .i64 a0, .agg #[.int .u64 a1_0, .int .u64 a1_1], .int .i64 a2] (by rfl) rfl rfl (by (try simp only [List.map_toArray, List.map_cons, List.map_nil]); first | done | rfl | (simp only [List.length_drop, List.length_take]; rfl)) ?_
              with_reducible refine (frob_Power.calls k a0 a1_0 a1_1 a2 t349 t350 _ A4.out).mono ?_
              rintro e w16 ⟨rfl, hb⟩
              refine ⟨_, rfl, ?_⟩
              replace BK347 := bb BK347 hb
              replace BK348 := bb BK348 hb
              replace HB := bh HB hb
              (try clear hb)
              (try clear hb2)
              (try clear hk)
              (try clear hi)
              refine hK.out _ _ ⟨(blk_cell BK347.out 0).trans rfl, (blk_cell BK347.out 1).trans rfl⟩ (fun hHeld => ?_)
              clear hK K
              refine norm_ (a' := ?_) ?_ ?_
              rotate_left
              ·show Act.put _ (some 14) _ = _
               simp only [Act.put, List.setIfInBounds_toArray, List.set_cons_zero, List.set_cons_succ, i64_w, i32_w]
               rfl
              exact norm_ (by first | (simp only [putAll, Act.put, List.setIfInBounds_toArray, List.set_cons_zero, List.set_cons_succ]; done) | (simp only [putAll, Act.put, List.setIfInBounds_toArray, List.set_cons_zero, List.set_cons_succ]; rfl)) (hJ3 () _ ⟨hHeld, (bk BK347.out), (bk BK348.out), (bq HB.out)⟩)
             ·skip
              refine box_step ?hg (N := 8) ?hd (cs := #[.int .u64 0, .int .u64 0]) (t := 24) ?hr ?_; (case hd => rfl); (case hg => rfl); (case hr => first | (go_simp; done) | (go_simp; rfl))
              intro gb353 hg w16 hbox hb
              have BK353 := Aside0.mk hbox
              have GW353 := ge hg HB
              have GE353 := ge hg HB
              have NB347_353 := nl hg BK347
              have NB353_347 := ng hg BK347
              have NB348_353 := nl hg BK348
              have NB353_348 := ng hg BK348
              replace BK347 := bb BK347 hb
              replace BK348 := bb BK348 hb
              replace HB := bh HB hb
              clear hb hbox hg
              refine hK.out _ _ ⟨(blk_cell BK347.out 0).trans rfl, (blk_cell BK347.out 1).trans rfl⟩ (fun hHeld => ?_)
              clear hK K
              refine norm_ (a' := ?_) ?_ ?_
              rotate_left
              ·show Act.put _ (some 8) _ = _
               simp only [Act.put, List.setIfInBounds_toArray, List.set_cons_zero, List.set_cons_succ, i64_w, i32_w]
               rfl
              exact norm_ (by first | (simp only [putAll, Act.put, List.setIfInBounds_toArray, List.set_cons_zero, List.set_cons_succ]; done) | (simp only [putAll, Act.put, List.setIfInBounds_toArray, List.set_cons_zero, List.set_cons_succ]; rfl)) (hJ7 (gb353) _ ⟨hHeld, (bk BK347.out), (bk BK348.out), (bk BK353.out), GW353.out, GE353.out, NB347_353.out, NB353_347.out, NB348_353.out, NB353_348.out, (bq HB.out)⟩)
             ·skip
              refine box_step ?hg (N := 9) ?hd (cs := #[.int .u64 0, .int .u64 0]) (t := 24) ?hr ?_; (case hd => rfl); (case hg => rfl); (case hr => first | (go_simp; done) | (go_simp; rfl))
              intro gb354 hg w16 hbox hb
              have BK354 := Aside0.mk hbox
              have GW354 := ge hg HB
              have GE354 := ge hg HB
              have NB347_354 := nl hg BK347
              have NB354_347 := ng hg BK347
              have NB348_354 := nl hg BK348
              have NB354_348 := ng hg BK348
              replace BK347 := bb BK347 hb
              replace BK348 := bb BK348 hb
              replace HB := bh HB hb
              clear hb hbox hg
              refine hK.out _ _ ⟨(blk_cell BK347.out 0).trans rfl, (blk_cell BK347.out 1).trans rfl⟩ (fun hHeld => ?_)
              clear hK K
              refine norm_ (a' := ?_) ?_ ?_
              rotate_left
              ·show Act.put _ (some 9) _ = _
               simp only [Act.put, List.setIfInBounds_toArray, List.set_cons_zero, List.set_cons_succ, i64_w, i32_w]
               rfl
              exact norm_ (by first | (simp only [putAll, Act.put, List.setIfInBounds_toArray, List.set_cons_zero, List.set_cons_succ]; done) | (simp only [putAll, Act.put, List.setIfInBounds_toArray, List.set_cons_zero, List.set_cons_succ]; rfl)) (hJ8 (gb354) _ ⟨hHeld, (bk BK347.out), (bk BK348.out), (bk BK354.out), GW354.out, GE354.out, NB347_354.out, NB354_347.out, NB348_354.out, NB354_348.out, (bq HB.out)⟩)
            ·skip
             rintro gb354 w17 ⟨hS_, h0_, h1_, h2_, h3_, h4_, h5_, h6_, h7_, h8_, h9_⟩
             have n0_ : Aside0 (w17.heap[gb347]? = some (.cells #[.int .u64 a1_0, .int .u64 a1_1] 24 (0, 0))) := ⟨h0_⟩
             have n1_ : Aside0 (w17.heap[gb348]? = some (.cells #[.int .u64 a1_0, .int .u64 a1_1] 37 (0, 0))) := ⟨h1_⟩
             have n2_ : Aside0 (w17.heap[gb354]? = some (.cells #[.int .u64 0, .int .u64 0] 24 (0, 0))) := ⟨h2_⟩
             have n3_ : Aside0 (w.heap.size ≤ gb354) := ⟨h3_⟩
             have n4_ : Aside0 (w.heap.size ≤ gb354) := ⟨h4_⟩
             have n5_ : Aside0 (gb347 ≠ gb354) := ⟨h5_⟩
             have n6_ : Aside0 (gb354 ≠ gb347) := ⟨h6_⟩
             have n7_ : Aside0 (gb348 ≠ gb354) := ⟨h7_⟩
             have n8_ : Aside0 (gb354 ≠ gb348) := ⟨h8_⟩
             have n9_ : Aside0 (Below w.heap.size w w17) := ⟨h9_⟩
             clear BK347
             clear BK348
             clear HB
             clear h0_ h1_ h2_ h3_ h4_ h5_ h6_ h7_ h8_ h9_
             have BK347 := n0_
             have BK348 := n1_
             have BK354 := n2_
             have GW354 := Aside1.mk n3_.out
             have GE354 := Aside1.mk n4_.out
             have NB347_354 := n5_
             have NB354_347 := n6_
             have NB348_354 := n7_
             have NB354_348 := n8_
             have HB := n9_
             clear n0_ n1_ n2_ n3_ n4_ n5_ n6_ n7_ n8_ n9_
             have hHeld : w17.cell? ⟨gb347, 0, none⟩ = some (.int .u64 a1_0) ∧ w17.cell? ⟨gb347, 1, none⟩ = some (.int .u64 a1_1) := hS_
             refine norm_ (a' := ?_) ?_ ?_
             rotate_left
             ·simp only [putAll, Act.put, List.setIfInBounds_toArray, List.set_cons_zero, List.set_cons_succ]
              rfl
             refine two_ (i := 3) (j := 7) (Ni := some 14) (Nj := some 8) #[true, true, true, true, true, true, false, false, true, false, false] #[true, true, true, false, true, true, false, true, true, false, false] rfl rfl rfl rfl (two_of HT_.out (by kernel_rfl)) (by decide) (by decide) (fun K hK => ?_) (fun K hK => ?_)
             ·skip
              refine goes_ Try.func23 (by kernel_rfl) rfl #[.int .i64 a0, .agg #[.int .u64 a1_0, .int .u64 a1_1], .int .i64 a2] (by rfl) rfl rfl (by (try simp only [List.map_toArray, List.map_cons, List.map_nil]); first | done | rfl | (simp only [List.length_drop, List.length_take]; rfl)) ?_
              with_reducible refine (frob_Power.calls k a0 a1_0 a1_1 a2 t349 t350 _ A4.out).mono ?_
              rintro e w18 ⟨rfl, hb⟩
              refine ⟨_, rfl, ?_⟩
              replace BK347 := bb BK347 hb
              replace BK348 := bb BK348 hb
              replace BK354 := bb BK354 hb
              replace HB := bh HB hb
              (try clear hb)
              (try clear hb2)
              (try clear hk)
              (try clear hi)
              refine hK.out _ _ ⟨(blk_cell BK347.out 0).trans rfl, (blk_cell BK347.out 1).trans rfl⟩ (fun hHeld => ?_)
              clear hK K
              refine norm_ (a' := ?_) ?_ ?_
              rotate_left
              ·show Act.put _ (some 14) _ = _
               simp only [Act.put, List.setIfInBounds_toArray, List.set_cons_zero, List.set_cons_succ, i64_w, i32_w]
               rfl
              exact norm_ (by first | (simp only [putAll, Act.put, List.setIfInBounds_toArray, List.set_cons_zero, List.set_cons_succ]; done) | (simp only [putAll, Act.put, List.setIfInBounds_toArray, List.set_cons_zero, List.set_cons_succ]; rfl)) (hJ3_8 (gb354) _ ⟨hHeld, (bk BK347.out), (bk BK348.out), (bk BK354.out), GW354.out, GE354.out, NB347_354.out, NB354_347.out, NB348_354.out, NB354_348.out, (bq HB.out)⟩)
             ·skip
              refine box_step ?hg (N := 8) ?hd (cs := #[.int .u64 0, .int .u64 0]) (t := 24) ?hr ?_; (case hd => rfl); (case hg => rfl); (case hr => first | (go_simp; done) | (go_simp; rfl))
              intro gb353 hg w18 hbox hb
              have BK353 := Aside0.mk hbox
              have GW353 := ge hg HB
              have GE353 := ge hg HB
              have NB347_353 := nl hg BK347
              have NB353_347 := ng hg BK347
              have NB348_353 := nl hg BK348
              have NB353_348 := ng hg BK348
              have NB354_353 := nl hg BK354
              have NB353_354 := ng hg BK354
              replace BK347 := bb BK347 hb
              replace BK348 := bb BK348 hb
              replace BK354 := bb BK354 hb
              replace HB := bh HB hb
              clear hb hbox hg
              refine hK.out _ _ ⟨(blk_cell BK347.out 0).trans rfl, (blk_cell BK347.out 1).trans rfl⟩ (fun hHeld => ?_)
              clear hK K
              refine norm_ (a' := ?_) ?_ ?_
              rotate_left
              ·show Act.put _ (some 8) _ = _
               simp only [Act.put, List.setIfInBounds_toArray, List.set_cons_zero, List.set_cons_succ, i64_w, i32_w]
               rfl
              exact norm_ (by first | (simp only [putAll, Act.put, List.setIfInBounds_toArray, List.set_cons_zero, List.set_cons_succ]; done) | (simp only [putAll, Act.put, List.setIfInBounds_toArray, List.set_cons_zero, List.set_cons_succ]; rfl)) (hJ7_8 (gb353, gb354) _ ⟨hHeld, (bk BK347.out), (bk BK348.out), (bk BK353.out), (bk BK354.out), GW353.out, GE353.out, NB347_353.out, NB353_347.out, NB348_353.out, NB353_348.out, NB354_353.out, NB353_354.out, GW354.out, GE354.out, NB347_354.out, NB354_347.out, NB348_354.out, NB354_348.out, (bq HB.out)⟩)
           ·skip
            rintro gb353 w17 ⟨hS_, h0_, h1_, h2_, h3_, h4_, h5_, h6_, h7_, h8_, h9_⟩
            have n0_ : Aside0 (w17.heap[gb347]? = some (.cells #[.int .u64 a1_0, .int .u64 a1_1] 24 (0, 0))) := ⟨h0_⟩
            have n1_ : Aside0 (w17.heap[gb348]? = some (.cells #[.int .u64 a1_0, .int .u64 a1_1] 37 (0, 0))) := ⟨h1_⟩
            have n2_ : Aside0 (w17.heap[gb353]? = some (.cells #[.int .u64 0, .int .u64 0] 24 (0, 0))) := ⟨h2_⟩
            have n3_ : Aside0 (w.heap.size ≤ gb353) := ⟨h3_⟩
            have n4_ : Aside0 (w.heap.size ≤ gb353) := ⟨h4_⟩
            have n5_ : Aside0 (gb347 ≠ gb353) := ⟨h5_⟩
            have n6_ : Aside0 (gb353 ≠ gb347) := ⟨h6_⟩
            have n7_ : Aside0 (gb348 ≠ gb353) := ⟨h7_⟩
            have n8_ : Aside0 (gb353 ≠ gb348) := ⟨h8_⟩
            have n9_ : Aside0 (Below w.heap.size w w17) := ⟨h9_⟩
            clear BK347
            clear BK348
            clear HB
            clear h0_ h1_ h2_ h3_ h4_ h5_ h6_ h7_ h8_ h9_
            have BK347 := n0_
            have BK348 := n1_
            have BK353 := n2_
            have GW353 := Aside1.mk n3_.out
            have GE353 := Aside1.mk n4_.out
            have NB347_353 := n5_
            have NB353_347 := n6_
            have NB348_353 := n7_
            have NB353_348 := n8_
            have HB := n9_
            clear n0_ n1_ n2_ n3_ n4_ n5_ n6_ n7_ n8_ n9_
            have hHeld : w17.cell? ⟨gb347, 0, none⟩ = some (.int .u64 a1_0) ∧ w17.cell? ⟨gb347, 1, none⟩ = some (.int .u64 a1_1) := hS_
            refine norm_ (a' := ?_) ?_ ?_
            rotate_left
            ·simp only [putAll, Act.put, List.setIfInBounds_toArray, List.set_cons_zero, List.set_cons_succ]
             rfl
            refine two_ (i := 3) (j := 8) (Ni := some 14) (Nj := some 9) #[true, true, true, true, true, true, false, true, false, false, false] #[true, true, true, false, true, true, false, true, true, false, false] rfl rfl rfl rfl (two_of HT_.out (by kernel_rfl)) (by decide) (by decide) (fun K hK => ?_) (fun K hK => ?_)
            ·skip
             refine goes_ Try.func23 (by kernel_rfl) rfl #[.int .i64 a0, .agg #[.int .u64 a1_0, .int .u64 a1_1], .int .i64 a2] (by rfl) rfl rfl (by (try simp only [List.map_toArray, List.map_cons, List.map_nil]); first | done | rfl | (simp only [List.length_drop, List.length_take]; rfl)) ?_
             with_reducible refine (frob_Power.calls k a0 a1_0 a1_1 a2 t349 t350 _ A4.out).mono ?_
             rintro e w18 ⟨rfl, hb⟩
             refine ⟨_, rfl, ?_⟩
             replace BK347 := bb BK347 hb
             replace BK348 := bb BK348 hb
             replace BK353 := bb BK353 hb
             replace HB := bh HB hb
             (try clear hb)
             (try clear hb2)
             (try clear hk)
             (try clear hi)
             refine hK.out _ _ ⟨(blk_cell BK347.out 0).trans rfl, (blk_cell BK347.out 1).trans rfl⟩ (fun hHeld => ?_)
             clear hK K
             refine norm_ (a' := ?_) ?_ ?_
             rotate_left
             ·show Act.put _ (some 14) _ = _
              simp only [Act.put, List.setIfInBounds_toArray, List.set_cons_zero, List.set_cons_succ, i64_w, i32_w]
              rfl
             exact norm_ (by first | (simp only [putAll, Act.put, List.setIfInBounds_toArray, List.set_cons_zero, List.set_cons_succ]; done) | (simp only [putAll, Act.put, List.setIfInBounds_toArray, List.set_cons_zero, List.set_cons_succ]; rfl)) (hJ3_7 (gb353) _ ⟨hHeld, (bk BK347.out), (bk BK348.out), (bk BK353.out), GW353.out, GE353.out, NB347_353.out, NB353_347.out, NB348_353.out, NB353_348.out, (bq HB.out)⟩)
            ·skip
             refine box_step ?hg (N := 9) ?hd (cs := #[.int .u64 0, .int .u64 0]) (t := 24) ?hr ?_; (case hd => rfl); (case hg => rfl); (case hr => first | (go_simp; done) | (go_simp; rfl))
             intro gb354 hg w18 hbox hb
             have BK354 := Aside0.mk hbox
             have GW354 := ge hg HB
             have GE354 := ge hg HB
             have NB347_354 := nl hg BK347
             have NB354_347 := ng hg BK347
             have NB348_354 := nl hg BK348
             have NB354_348 := ng hg BK348
             have NB353_354 := nl hg BK353
             have NB354_353 := ng hg BK353
             replace BK347 := bb BK347 hb
             replace BK348 := bb BK348 hb
             replace BK353 := bb BK353 hb
             replace HB := bh HB hb
             clear hb hbox hg
             refine hK.out _ _ ⟨(blk_cell BK347.out 0).trans rfl, (blk_cell BK347.out 1).trans rfl⟩ (fun hHeld => ?_)
             clear hK K
             refine norm_ (a' := ?_) ?_ ?_
             rotate_left
             ·show Act.put _ (some 9) _ = _
              simp only [Act.put, List.setIfInBounds_toArray, List.set_cons_zero, List.set_cons_succ, i64_w, i32_w]
              rfl
             exact norm_ (by first | (simp only [putAll, Act.put, List.setIfInBounds_toArray, List.set_cons_zero, List.set_cons_succ]; done) | (simp only [putAll, Act.put, List.setIfInBounds_toArray, List.set_cons_zero, List.set_cons_succ]; rfl)) (hJ7_8 (gb353, gb354) _ ⟨hHeld, (bk BK347.out), (bk BK348.out), (bk BK353.out), (bk BK354.out), GW353.out, GE353.out, NB347_353.out, NB353_347.out, NB348_353.out, NB353_348.out, NB354_353.out, NB353_354.out, GW354.out, GE354.out, NB347_354.out, NB354_347.out, NB348_354.out, NB354_348.out, (bq HB.out)⟩)
          ·skip
           rintro _ w17 ⟨hS_, h0_, h1_, h2_⟩
           have n0_ : Aside0 (w17.heap[gb347]? = some (.cells #[.int .u64 a1_0, .int .u64 a1_1] 24 (0, 0))) := ⟨h0_⟩
           have n1_ : Aside0 (w17.heap[gb348]? = some (.cells #[.int .u64 a1_0, .int .u64 a1_1] 37 (0, 0))) := ⟨h1_⟩
           have n2_ : Aside0 (Below w.heap.size w w17) := ⟨h2_⟩
           clear BK347
           clear BK348
           clear HB
           clear h0_ h1_ h2_
           have BK347 := n0_
           have BK348 := n1_
           have HB := n2_
           clear n0_ n1_ n2_
           have hHeld : w17.cell? ⟨gb347, 0, none⟩ = some (.int .u64 a1_0) ∧ w17.cell? ⟨gb347, 1, none⟩ = some (.int .u64 a1_1) := hS_
           refine norm_ (a' := ?_) ?_ ?_
           rotate_left
           ·simp only [putAll, Act.put, List.setIfInBounds_toArray, List.set_cons_zero, List.set_cons_succ]
            rfl
           refine three_ (i := 6) (j := 7) (k := 8) (Ni := some 17) (Nj := some 8) (Nk := some 9) #[true, true, true, true, true, true, true, false, false, false, false] #[true, true, true, true, true, true, false, true, false, false, false] #[true, true, true, true, true, true, false, false, true, false, false] rfl rfl rfl rfl rfl rfl (three_of HT_.out (by kernel_rfl)) (by decide) (by decide) (by decide) (fun K hK => ?_) (fun K hK => ?_) (fun K hK => ?_)
           ·skip
            refine goes_ Try.func24 (by kernel_rfl) rfl #[.int .i64 a0, .agg #[.int .u64 a1_0, .int .u64 a1_1]] (by rfl) rfl rfl (by (try simp only [List.map_toArray, List.map_cons, List.map_nil]); first | done | rfl | (simp only [List.length_drop, List.length_take]; rfl)) ?_
            with_reducible refine (frob_Root.calls k a0 a1_0 a1_1 t351 t352 _ A5.out).mono ?_
            rintro e w18 ⟨rfl, hb⟩
            refine ⟨_, rfl, ?_⟩
            replace BK347 := bb BK347 hb
            replace BK348 := bb BK348 hb
            replace HB := bh HB hb
            (try clear hb)
            (try clear hb2)
            (try clear hk)
            (try clear hi)
            refine hK.out _ _ ⟨(blk_cell BK347.out 0).trans rfl, (blk_cell BK347.out 1).trans rfl⟩ (fun hHeld => ?_)
            clear hK K
            refine norm_ (a' := ?_) ?_ ?_
            rotate_left
            ·show Act.put _ (some 17) _ = _
             simp only [Act.put, List.setIfInBounds_toArray, List.set_cons_zero, List.set_cons_succ, i64_w, i32_w]
             rfl
            exact norm_ (by first | (simp only [putAll, Act.put, List.setIfInBounds_toArray, List.set_cons_zero, List.set_cons_succ]; done) | (simp only [putAll, Act.put, List.setIfInBounds_toArray, List.set_cons_zero, List.set_cons_succ]; rfl)) (hJ3_6 () _ ⟨hHeld, (bk BK347.out), (bk BK348.out), (bq HB.out)⟩)
           ·skip
            refine box_step ?hg (N := 8) ?hd (cs := #[.int .u64 0, .int .u64 0]) (t := 24) ?hr ?_; (case hd => rfl); (case hg => rfl); (case hr => first | (go_simp; done) | (go_simp; rfl))
            intro gb353 hg w18 hbox hb
            have BK353 := Aside0.mk hbox
            have GW353 := ge hg HB
            have GE353 := ge hg HB
            have NB347_353 := nl hg BK347
            have NB353_347 := ng hg BK347
            have NB348_353 := nl hg BK348
            have NB353_348 := ng hg BK348
            replace BK347 := bb BK347 hb
            replace BK348 := bb BK348 hb
            replace HB := bh HB hb
            clear hb hbox hg
            refine hK.out _ _ ⟨(blk_cell BK347.out 0).trans rfl, (blk_cell BK347.out 1).trans rfl⟩ (fun hHeld => ?_)
            clear hK K
            refine norm_ (a' := ?_) ?_ ?_
            rotate_left
            ·show Act.put _ (some 8) _ = _
             simp only [Act.put, List.setIfInBounds_toArray, List.set_cons_zero, List.set_cons_succ, i64_w, i32_w]
             rfl
            exact norm_ (by first | (simp only [putAll, Act.put, List.setIfInBounds_toArray, List.set_cons_zero, List.set_cons_succ]; done) | (simp only [putAll, Act.put, List.setIfInBounds_toArray, List.set_cons_zero, List.set_cons_succ]; rfl)) (hJ3_7 (gb353) _ ⟨hHeld, (bk BK347.out), (bk BK348.out), (bk BK353.out), GW353.out, GE353.out, NB347_353.out, NB353_347.out, NB348_353.out, NB353_348.out, (bq HB.out)⟩)
           ·skip
            refine box_step ?hg (N := 9) ?hd (cs := #[.int .u64 0, .int .u64 0]) (t := 24) ?hr ?_; (case hd => rfl); (case hg => rfl); (case hr => first | (go_simp; done) | (go_simp; rfl))
            intro gb354 hg w18 hbox hb
            have BK354 := Aside0.mk hbox
            have GW354 := ge hg HB
            have GE354 := ge hg HB
            have NB347_354 := nl hg BK347
            have NB354_347 := ng hg BK347
            have NB348_354 := nl hg BK348
            have NB354_348 := ng hg BK348
            replace BK347 := bb BK347 hb
            replace BK348 := bb BK348 hb
            replace HB := bh HB hb
            clear hb hbox hg
            refine hK.out _ _ ⟨(blk_cell BK347.out 0).trans rfl, (blk_cell BK347.out 1).trans rfl⟩ (fun hHeld => ?_)
            clear hK K
            refine norm_ (a' := ?_) ?_ ?_
            rotate_left
            ·show Act.put _ (some 9) _ = _
             simp only [Act.put, List.setIfInBounds_toArray, List.set_cons_zero, List.set_cons_succ, i64_w, i32_w]
             rfl
            exact norm_ (by first | (simp only [putAll, Act.put, List.setIfInBounds_toArray, List.set_cons_zero, List.set_cons_succ]; done) | (simp only [putAll, Act.put, List.setIfInBounds_toArray, List.set_cons_zero, List.set_cons_succ]; rfl)) (hJ3_8 (gb354) _ ⟨hHeld, (bk BK347.out), (bk BK348.out), (bk BK354.out), GW354.out, GE354.out, NB347_354.out, NB354_347.out, NB348_354.out, NB354_348.out, (bq HB.out)⟩)
         ·skip
          rintro ⟨gb353, gb354⟩ w18 ⟨hS_, h0_, h1_, h2_, h3_, h4_, h5_, h6_, h7_, h8_, h9_, h10_, h11_, h12_, h13_, h14_, h15_, h16_, h17_, h18_⟩
          have n0_ : Aside0 (w18.heap[gb347]? = some (.cells #[.int .u64 a1_0, .int .u64 a1_1] 24 (0, 0))) := ⟨h0_⟩
          have n1_ : Aside0 (w18.heap[gb348]? = some (.cells #[.int .u64 a1_0, .int .u64 a1_1] 37 (0, 0))) := ⟨h1_⟩
          have n2_ : Aside0 (w18.heap[gb353]? = some (.cells #[.int .u64 0, .int .u64 0] 24 (0, 0))) := ⟨h2_⟩
          have n3_ : Aside0 (w18.heap[gb354]? = some (.cells #[.int .u64 0, .int .u64 0] 24 (0, 0))) := ⟨h3_⟩
          have n4_ : Aside0 (w.heap.size ≤ gb353) := ⟨h4_⟩
          have n5_ : Aside0 (w.heap.size ≤ gb353) := ⟨h5_⟩
          have n6_ : Aside0 (gb347 ≠ gb353) := ⟨h6_⟩
          have n7_ : Aside0 (gb353 ≠ gb347) := ⟨h7_⟩
          have n8_ : Aside0 (gb348 ≠ gb353) := ⟨h8_⟩
          have n9_ : Aside0 (gb353 ≠ gb348) := ⟨h9_⟩
          have n10_ : Aside0 (gb354 ≠ gb353) := ⟨h10_⟩
          have n11_ : Aside0 (gb353 ≠ gb354) := ⟨h11_⟩
          have n12_ : Aside0 (w.heap.size ≤ gb354) := ⟨h12_⟩
          have n13_ : Aside0 (w.heap.size ≤ gb354) := ⟨h13_⟩
          have n14_ : Aside0 (gb347 ≠ gb354) := ⟨h14_⟩
          have n15_ : Aside0 (gb354 ≠ gb347) := ⟨h15_⟩
          have n16_ : Aside0 (gb348 ≠ gb354) := ⟨h16_⟩
          have n17_ : Aside0 (gb354 ≠ gb348) := ⟨h17_⟩
          have n18_ : Aside0 (Below w.heap.size w w18) := ⟨h18_⟩
          clear BK347
          clear BK348
          clear HB
          clear h0_ h1_ h2_ h3_ h4_ h5_ h6_ h7_ h8_ h9_ h10_ h11_ h12_ h13_ h14_ h15_ h16_ h17_ h18_
          have BK347 := n0_
          have BK348 := n1_
          have BK353 := n2_
          have BK354 := n3_
          have GW353 := Aside1.mk n4_.out
          have GE353 := Aside1.mk n5_.out
          have NB347_353 := n6_
          have NB353_347 := n7_
          have NB348_353 := n8_
          have NB353_348 := n9_
          have NB354_353 := n10_
          have NB353_354 := n11_
          have GW354 := Aside1.mk n12_.out
          have GE354 := Aside1.mk n13_.out
          have NB347_354 := n14_
          have NB354_347 := n15_
          have NB348_354 := n16_
          have NB354_348 := n17_
          have HB := n18_
          clear n0_ n1_ n2_ n3_ n4_ n5_ n6_ n7_ n8_ n9_ n10_ n11_ n12_ n13_ n14_ n15_ n16_ n17_ n18_
          have hHeld : w18.cell? ⟨gb347, 0, none⟩ = some (.int .u64 a1_0) ∧ w18.cell? ⟨gb347, 1, none⟩ = some (.int .u64 a1_1) := hS_
          refine norm_ (a' := ?_) ?_ ?_
          rotate_left
          ·simp only [putAll, Act.put, List.setIfInBounds_toArray, List.set_cons_zero, List.set_cons_succ]
           rfl
          refine one_ (i := 3) (N := some 14) #[true, true, true, true, true, true, false, true, true, false, false] rfl rfl (one_of HT_.out (by kernel_rfl)) (by decide) (fun K hK => ?_)
          refine goes_ Try.func23 (by kernel_rfl) rfl #[.int .i64 a0, .agg #[.int .u64 a1_0, .int .u64 a1_1], .int .i64 a2] (by rfl) rfl rfl (by (try simp only [List.map_toArray, List.map_cons, List.map_nil]); first | done | rfl | (simp only [List.length_drop, List.length_take]; rfl)) ?_
          with_reducible refine (frob_Power.calls k a0 a1_0 a1_1 a2 t349 t350 _ A4.out).mono ?_
          rintro e w19 ⟨rfl, hb⟩
          refine ⟨_, rfl, ?_⟩
          replace BK347 := bb BK347 hb
          replace BK348 := bb BK348 hb
          replace BK353 := bb BK353 hb
          replace BK354 := bb BK354 hb
          replace HB := bh HB hb
          (try clear hb)
          (try clear hb2)
          (try clear hk)
          (try clear hi)
          refine hK.out _ _ ⟨(blk_cell BK347.out 0).trans rfl, (blk_cell BK347.out 1).trans rfl⟩ (fun hHeld => ?_)
          clear hK K
          refine norm_ (a' := ?_) ?_ ?_
          rotate_left
          ·show Act.put _ (some 14) _ = _
           simp only [Act.put, List.setIfInBounds_toArray, List.set_cons_zero, List.set_cons_succ, i64_w, i32_w]
           rfl
          exact norm_ (by first | (simp only [putAll, Act.put, List.setIfInBounds_toArray, List.set_cons_zero, List.set_cons_succ]; done) | (simp only [putAll, Act.put, List.setIfInBounds_toArray, List.set_cons_zero, List.set_cons_succ]; rfl)) (hJ3_7_8 (gb353, gb354) _ ⟨hHeld, (bk BK347.out), (bk BK348.out), (bk BK353.out), (bk BK354.out), GW353.out, GE353.out, NB347_353.out, NB353_347.out, NB348_353.out, NB353_348.out, NB354_353.out, NB353_354.out, GW354.out, GE354.out, NB347_354.out, NB354_347.out, NB348_354.out, NB354_348.out, (bq HB.out)⟩)
        ·skip
         rintro gb354 w18 ⟨hS_, h0_, h1_, h2_, h3_, h4_, h5_, h6_, h7_, h8_, h9_⟩
         have n0_ : Aside0 (w18.heap[gb347]? = some (.cells #[.int .u64 a1_0, .int .u64 a1_1] 24 (0, 0))) := ⟨h0_⟩
         have n1_ : Aside0 (w18.heap[gb348]? = some (.cells #[.int .u64 a1_0, .int .u64 a1_1] 37 (0, 0))) := ⟨h1_⟩
         have n2_ : Aside0 (w18.heap[gb354]? = some (.cells #[.int .u64 0, .int .u64 0] 24 (0, 0))) := ⟨h2_⟩
         have n3_ : Aside0 (w.heap.size ≤ gb354) := ⟨h3_⟩
         have n4_ : Aside0 (w.heap.size ≤ gb354) := ⟨h4_⟩
         have n5_ : Aside0 (gb347 ≠ gb354) := ⟨h5_⟩
         have n6_ : Aside0 (gb354 ≠ gb347) := ⟨h6_⟩
         have n7_ : Aside0 (gb348 ≠ gb354) := ⟨h7_⟩
         have n8_ : Aside0 (gb354 ≠ gb348) := ⟨h8_⟩
         have n9_ : Aside0 (Below w.heap.size w w18) := ⟨h9_⟩
         clear BK347
         clear BK348
         clear HB
         clear h0_ h1_ h2_ h3_ h4_ h5_ h6_ h7_ h8_ h9_
         have BK347 := n0_
         have BK348 := n1_
         have BK354 := n2_
         have GW354 := Aside1.mk n3_.out
         have GE354 := Aside1.mk n4_.out
         have NB347_354 := n5_
         have NB354_347 := n6_
         have NB348_354 := n7_
         have NB354_348 := n8_
         have HB := n9_
         clear n0_ n1_ n2_ n3_ n4_ n5_ n6_ n7_ n8_ n9_
         have hHeld : w18.cell? ⟨gb347, 0, none⟩ = some (.int .u64 a1_0) ∧ w18.cell? ⟨gb347, 1, none⟩ = some (.int .u64 a1_1) := hS_
         refine norm_ (a' := ?_) ?_ ?_
         rotate_left
         ·simp only [putAll, Act.put, List.setIfInBounds_toArray, List.set_cons_zero, List.set_cons_succ]
          rfl
         refine two_ (i := 6) (j := 7) (Ni := some 17) (Nj := some 8) #[true, true, true, true, true, true, true, false, true, false, false] #[true, true, true, true, true, true, false, true, true, false, false] rfl rfl rfl rfl (two_of HT_.out (by kernel_rfl)) (by decide) (by decide) (fun K hK => ?_) (fun K hK => ?_)
         ·skip
          refine goes_ Try.func24 (by kernel_rfl) rfl #[.int .i64 a0, .agg #[.int .u64 a1_0, .int .u64 a1_1]] (by rfl) rfl rfl (by (try simp only [List.map_toArray, List.map_cons, List.map_nil]); first | done | rfl | (simp only [List.length_drop, List.length_take]; rfl)) ?_
          with_reducible refine (frob_Root.calls k a0 a1_0 a1_1 t351 t352 _ A5.out).mono ?_
          rintro e w19 ⟨rfl, hb⟩
          refine ⟨_, rfl, ?_⟩
          replace BK347 := bb BK347 hb
          replace BK348 := bb BK348 hb
          replace BK354 := bb BK354 hb
          replace HB := bh HB hb
          (try clear hb)
          (try clear hb2)
          (try clear hk)
          (try clear hi)
          refine hK.out _ _ ⟨(blk_cell BK347.out 0).trans rfl, (blk_cell BK347.out 1).trans rfl⟩ (fun hHeld => ?_)
          clear hK K
          refine norm_ (a' := ?_) ?_ ?_
          rotate_left
          ·show Act.put _ (some 17) _ = _
           simp only [Act.put, List.setIfInBounds_toArray, List.set_cons_zero, List.set_cons_succ, i64_w, i32_w]
           rfl
          exact norm_ (by first | (simp only [putAll, Act.put, List.setIfInBounds_toArray, List.set_cons_zero, List.set_cons_succ]; done) | (simp only [putAll, Act.put, List.setIfInBounds_toArray, List.set_cons_zero, List.set_cons_succ]; rfl)) (hJ3_6_8 (gb354) _ ⟨hHeld, (bk BK347.out), (bk BK348.out), (bk BK354.out), GW354.out, GE354.out, NB347_354.out, NB354_347.out, NB348_354.out, NB354_348.out, (bq HB.out)⟩)
         ·skip
          refine box_step ?hg (N := 8) ?hd (cs := #[.int .u64 0, .int .u64 0]) (t := 24) ?hr ?_; (case hd => rfl); (case hg => rfl); (case hr => first | (go_simp; done) | (go_simp; rfl))
          intro gb353 hg w19 hbox hb
          have BK353 := Aside0.mk hbox
          have GW353 := ge hg HB
          have GE353 := ge hg HB
          have NB347_353 := nl hg BK347
          have NB353_347 := ng hg BK347
          have NB348_353 := nl hg BK348
          have NB353_348 := ng hg BK348
          have NB354_353 := nl hg BK354
          have NB353_354 := ng hg BK354
          replace BK347 := bb BK347 hb
          replace BK348 := bb BK348 hb
          replace BK354 := bb BK354 hb
          replace HB := bh HB hb
          clear hb hbox hg
          refine hK.out _ _ ⟨(blk_cell BK347.out 0).trans rfl, (blk_cell BK347.out 1).trans rfl⟩ (fun hHeld => ?_)
          clear hK K
          refine norm_ (a' := ?_) ?_ ?_
          rotate_left
          ·show Act.put _ (some 8) _ = _
           simp only [Act.put, List.setIfInBounds_toArray, List.set_cons_zero, List.set_cons_succ, i64_w, i32_w]
           rfl
          exact norm_ (by first | (simp only [putAll, Act.put, List.setIfInBounds_toArray, List.set_cons_zero, List.set_cons_succ]; done) | (simp only [putAll, Act.put, List.setIfInBounds_toArray, List.set_cons_zero, List.set_cons_succ]; rfl)) (hJ3_7_8 (gb353, gb354) _ ⟨hHeld, (bk BK347.out), (bk BK348.out), (bk BK353.out), (bk BK354.out), GW353.out, GE353.out, NB347_353.out, NB353_347.out, NB348_353.out, NB353_348.out, NB354_353.out, NB353_354.out, GW354.out, GE354.out, NB347_354.out, NB354_347.out, NB348_354.out, NB354_348.out, (bq HB.out)⟩)
       ·skip
        rintro gb353 w18 ⟨hS_, h0_, h1_, h2_, h3_, h4_, h5_, h6_, h7_, h8_, h9_⟩
        have n0_ : Aside0 (w18.heap[gb347]? = some (.cells #[.int .u64 a1_0, .int .u64 a1_1] 24 (0, 0))) := ⟨h0_⟩
        have n1_ : Aside0 (w18.heap[gb348]? = some (.cells #[.int .u64 a1_0, .int .u64 a1_1] 37 (0, 0))) := ⟨h1_⟩
        have n2_ : Aside0 (w18.heap[gb353]? = some (.cells #[.int .u64 0, .int .u64 0] 24 (0, 0))) := ⟨h2_⟩
        have n3_ : Aside0 (w.heap.size ≤ gb353) := ⟨h3_⟩
        have n4_ : Aside0 (w.heap.size ≤ gb353) := ⟨h4_⟩
        have n5_ : Aside0 (gb347 ≠ gb353) := ⟨h5_⟩
        have n6_ : Aside0 (gb353 ≠ gb347) := ⟨h6_⟩
        have n7_ : Aside0 (gb348 ≠ gb353) := ⟨h7_⟩
        have n8_ : Aside0 (gb353 ≠ gb348) := ⟨h8_⟩
        have n9_ : Aside0 (Below w.heap.size w w18) := ⟨h9_⟩
        clear BK347
        clear BK348
        clear HB
        clear h0_ h1_ h2_ h3_ h4_ h5_ h6_ h7_ h8_ h9_
        have BK347 := n0_
        have BK348 := n1_
        have BK353 := n2_
        have GW353 := Aside1.mk n3_.out
        have GE353 := Aside1.mk n4_.out
        have NB347_353 := n5_
        have NB353_347 := n6_
        have NB348_353 := n7_
        have NB353_348 := n8_
        have HB := n9_
        clear n0_ n1_ n2_ n3_ n4_ n5_ n6_ n7_ n8_ n9_
        have hHeld : w18.cell? ⟨gb347, 0, none⟩ = some (.int .u64 a1_0) ∧ w18.cell? ⟨gb347, 1, none⟩ = some (.int .u64 a1_1) := hS_
        refine norm_ (a' := ?_) ?_ ?_
        rotate_left
        ·simp only [putAll, Act.put, List.setIfInBounds_toArray, List.set_cons_zero, List.set_cons_succ]
         rfl
        refine two_ (i := 6) (j := 8) (Ni := some 17) (Nj := some 9) #[true, true, true, true, true, true, true, true, false, false, false] #[true, true, true, true, true, true, false, true, true, false, false] rfl rfl rfl rfl (two_of HT_.out (by kernel_rfl)) (by decide) (by decide) (fun K hK => ?_) (fun K hK => ?_)
        ·skip
         refine goes_ Try.func24 (by kernel_rfl) rfl #[.int .i64 a0, .agg #[.int .u64 a1_0, .int .u64 a1_1]] (by rfl) rfl rfl (by (try simp only [List.map_toArray, List.map_cons, List.map_nil]); first | done | rfl | (simp only [List.length_drop, List.length_take]; rfl)) ?_
         with_reducible refine (frob_Root.calls k a0 a1_0 a1_1 t351 t352 _ A5.out).mono ?_
         rintro e w19 ⟨rfl, hb⟩
         refine ⟨_, rfl, ?_⟩
         replace BK347 := bb BK347 hb
         replace BK348 := bb BK348 hb
         replace BK353 := bb BK353 hb
         replace HB := bh HB hb
         (try clear hb)
         (try clear hb2)
         (try clear hk)
         (try clear hi)
         refine hK.out _ _ ⟨(blk_cell BK347.out 0).trans rfl, (blk_cell BK347.out 1).trans rfl⟩ (fun hHeld => ?_)
         clear hK K
         refine norm_ (a' := ?_) ?_ ?_
         rotate_left
         ·show Act.put _ (some 17) _ = _
          simp only [Act.put, List.setIfInBounds_toArray, List.set_cons_zero, List.set_cons_succ, i64_w, i32_w]
          rfl
         exact norm_ (by first | (simp only [putAll, Act.put, List.setIfInBounds_toArray, List.set_cons_zero, List.set_cons_succ]; done) | (simp only [putAll, Act.put, List.setIfInBounds_toArray, List.set_cons_zero, List.set_cons_succ]; rfl)) (hJ3_6_7 (gb353) _ ⟨hHeld, (bk BK347.out), (bk BK348.out), (bk BK353.out), GW353.out, GE353.out, NB347_353.out, NB353_347.out, NB348_353.out, NB353_348.out, (bq HB.out)⟩)
        ·skip
         refine box_step ?hg (N := 9) ?hd (cs := #[.int .u64 0, .int .u64 0]) (t := 24) ?hr ?_; (case hd => rfl); (case hg => rfl); (case hr => first | (go_simp; done) | (go_simp; rfl))
         intro gb354 hg w19 hbox hb
         have BK354 := Aside0.mk hbox
         have GW354 := ge hg HB
         have GE354 := ge hg HB
         have NB347_354 := nl hg BK347
         have NB354_347 := ng hg BK347
         have NB348_354 := nl hg BK348
         have NB354_348 := ng hg BK348
         have NB353_354 := nl hg BK353
         have NB354_353 := ng hg BK353
         replace BK347 := bb BK347 hb
         replace BK348 := bb BK348 hb
         replace BK353 := bb BK353 hb
         replace HB := bh HB hb
         clear hb hbox hg
         refine hK.out _ _ ⟨(blk_cell BK347.out 0).trans rfl, (blk_cell BK347.out 1).trans rfl⟩ (fun hHeld => ?_)
         clear hK K
         refine norm_ (a' := ?_) ?_ ?_
         rotate_left
         ·show Act.put _ (some 9) _ = _
          simp only [Act.put, List.setIfInBounds_toArray, List.set_cons_zero, List.set_cons_succ, i64_w, i32_w]
          rfl
         exact norm_ (by first | (simp only [putAll, Act.put, List.setIfInBounds_toArray, List.set_cons_zero, List.set_cons_succ]; done) | (simp only [putAll, Act.put, List.setIfInBounds_toArray, List.set_cons_zero, List.set_cons_succ]; rfl)) (hJ3_7_8 (gb353, gb354) _ ⟨hHeld, (bk BK347.out), (bk BK348.out), (bk BK353.out), (bk BK354.out), GW353.out, GE353.out, NB347_353.out, NB353_347.out, NB348_353.out, NB353_348.out, NB354_353.out, NB353_354.out, GW354.out, GE354.out, NB347_354.out, NB354_347.out, NB348_354.out, NB354_348.out, (bq HB.out)⟩)
      ·skip
       rintro _ w18 ⟨hS_, h0_, h1_, h2_⟩
       have n0_ : Aside0 (w18.heap[gb347]? = some (.cells #[.int .u64 a1_0, .int .u64 a1_1] 24 (0, 0))) := ⟨h0_⟩
       have n1_ : Aside0 (w18.heap[gb348]? = some (.cells #[.int .u64 a1_0, .int .u64 a1_1] 37 (0, 0))) := ⟨h1_⟩
       have n2_ : Aside0 (Below w.heap.size w w18) := ⟨h2_⟩
       clear BK347
       clear BK348
       clear HB
       clear h0_ h1_ h2_
       have BK347 := n0_
       have BK348 := n1_
       have HB := n2_
       clear n0_ n1_ n2_
       have hHeld : w18.cell? ⟨gb347, 0, none⟩ = some (.int .u64 a1_0) ∧ w18.cell? ⟨gb347, 1, none⟩ = some (.int .u64 a1_1) := hS_
       refine norm_ (a' := ?_) ?_ ?_
       rotate_left
       ·simp only [putAll, Act.put, List.setIfInBounds_toArray, List.set_cons_zero, List.set_cons_succ]
        rfl
       refine two_ (i := 7) (j := 8) (Ni := some 8) (Nj := some 9) #[true, true, true, true, true, true, true, true, false, false, false] #[true, true, true, true, true, true, true, false, true, false, false] rfl rfl rfl rfl (two_of HT_.out (by kernel_rfl)) (by decide) (by decide) (fun K hK => ?_) (fun K hK => ?_)
       ·skip
        refine box_step ?hg (N := 8) ?hd (cs := #[.int .u64 0, .int .u64 0]) (t := 24) ?hr ?_; (case hd => rfl); (case hg => rfl); (case hr => first | (go_simp; done) | (go_simp; rfl))
        intro gb353 hg w19 hbox hb
        have BK353 := Aside0.mk hbox
        have GW353 := ge hg HB
        have GE353 := ge hg HB
        have NB347_353 := nl hg BK347
        have NB353_347 := ng hg BK347
        have NB348_353 := nl hg BK348
        have NB353_348 := ng hg BK348
        replace BK347 := bb BK347 hb
        replace BK348 := bb BK348 hb
        replace HB := bh HB hb
        clear hb hbox hg
        refine hK.out _ _ ⟨(blk_cell BK347.out 0).trans rfl, (blk_cell BK347.out 1).trans rfl⟩ (fun hHeld => ?_)
        clear hK K
        refine norm_ (a' := ?_) ?_ ?_
        rotate_left
        ·show Act.put _ (some 8) _ = _
         simp only [Act.put, List.setIfInBounds_toArray, List.set_cons_zero, List.set_cons_succ, i64_w, i32_w]
         rfl
        exact norm_ (by first | (simp only [putAll, Act.put, List.setIfInBounds_toArray, List.set_cons_zero, List.set_cons_succ]; done) | (simp only [putAll, Act.put, List.setIfInBounds_toArray, List.set_cons_zero, List.set_cons_succ]; rfl)) (hJ3_6_7 (gb353) _ ⟨hHeld, (bk BK347.out), (bk BK348.out), (bk BK353.out), GW353.out, GE353.out, NB347_353.out, NB353_347.out, NB348_353.out, NB353_348.out, (bq HB.out)⟩)
       ·skip
        refine box_step ?hg (N := 9) ?hd (cs := #[.int .u64 0, .int .u64 0]) (t := 24) ?hr ?_; (case hd => rfl); (case hg => rfl); (case hr => first | (go_simp; done) | (go_simp; rfl))
        intro gb354 hg w19 hbox hb
        have BK354 := Aside0.mk hbox
        have GW354 := ge hg HB
        have GE354 := ge hg HB
        have NB347_354 := nl hg BK347
        have NB354_347 := ng hg BK347
        have NB348_354 := nl hg BK348
        have NB354_348 := ng hg BK348
        replace BK347 := bb BK347 hb
        replace BK348 := bb BK348 hb
        replace HB := bh HB hb
        clear hb hbox hg
        refine hK.out _ _ ⟨(blk_cell BK347.out 0).trans rfl, (blk_cell BK347.out 1).trans rfl⟩ (fun hHeld => ?_)
        clear hK K
        refine norm_ (a' := ?_) ?_ ?_
        rotate_left
        ·show Act.put _ (some 9) _ = _
         simp only [Act.put, List.setIfInBounds_toArray, List.set_cons_zero, List.set_cons_succ, i64_w, i32_w]
         rfl
        exact norm_ (by first | (simp only [putAll, Act.put, List.setIfInBounds_toArray, List.set_cons_zero, List.set_cons_succ]; done) | (simp only [putAll, Act.put, List.setIfInBounds_toArray, List.set_cons_zero, List.set_cons_succ]; rfl)) (hJ3_6_8 (gb354) _ ⟨hHeld, (bk BK347.out), (bk BK348.out), (bk BK354.out), GW354.out, GE354.out, NB347_354.out, NB354_347.out, NB348_354.out, NB354_348.out, (bq HB.out)⟩)
     ·skip
      rintro ⟨gb353, gb354⟩ w19 ⟨hS_, h0_, h1_, h2_, h3_, h4_, h5_, h6_, h7_, h8_, h9_, h10_, h11_, h12_, h13_, h14_, h15_, h16_, h17_, h18_⟩
      have n0_ : Aside0 (w19.heap[gb347]? = some (.cells #[.int .u64 a1_0, .int .u64 a1_1] 24 (0, 0))) := ⟨h0_⟩
      have n1_ : Aside0 (w19.heap[gb348]? = some (.cells #[.int .u64 a1_0, .int .u64 a1_1] 37 (0, 0))) := ⟨h1_⟩
      have n2_ : Aside0 (w19.heap[gb353]? = some (.cells #[.int .u64 0, .int .u64 0] 24 (0, 0))) := ⟨h2_⟩
      have n3_ : Aside0 (w19.heap[gb354]? = some (.cells #[.int .u64 0, .int .u64 0] 24 (0, 0))) := ⟨h3_⟩
      have n4_ : Aside0 (w.heap.size ≤ gb353) := ⟨h4_⟩
      have n5_ : Aside0 (w.heap.size ≤ gb353) := ⟨h5_⟩
      have n6_ : Aside0 (gb347 ≠ gb353) := ⟨h6_⟩
      have n7_ : Aside0 (gb353 ≠ gb347) := ⟨h7_⟩
      have n8_ : Aside0 (gb348 ≠ gb353) := ⟨h8_⟩
      have n9_ : Aside0 (gb353 ≠ gb348) := ⟨h9_⟩
      have n10_ : Aside0 (gb354 ≠ gb353) := ⟨h10_⟩
      have n11_ : Aside0 (gb353 ≠ gb354) := ⟨h11_⟩
      have n12_ : Aside0 (w.heap.size ≤ gb354) := ⟨h12_⟩
      have n13_ : Aside0 (w.heap.size ≤ gb354) := ⟨h13_⟩
      have n14_ : Aside0 (gb347 ≠ gb354) := ⟨h14_⟩
      have n15_ : Aside0 (gb354 ≠ gb347) := ⟨h15_⟩
      have n16_ : Aside0 (gb348 ≠ gb354) := ⟨h16_⟩
      have n17_ : Aside0 (gb354 ≠ gb348) := ⟨h17_⟩
      have n18_ : Aside0 (Below w.heap.size w w19) := ⟨h18_⟩
      clear BK347
      clear BK348
      clear HB
      clear h0_ h1_ h2_ h3_ h4_ h5_ h6_ h7_ h8_ h9_ h10_ h11_ h12_ h13_ h14_ h15_ h16_ h17_ h18_
      have BK347 := n0_
      have BK348 := n1_
      have BK353 := n2_
      have BK354 := n3_
      have GW353 := Aside1.mk n4_.out
      have GE353 := Aside1.mk n5_.out
      have NB347_353 := n6_
      have NB353_347 := n7_
      have NB348_353 := n8_
      have NB353_348 := n9_
      have NB354_353 := n10_
      have NB353_354 := n11_
      have GW354 := Aside1.mk n12_.out
      have GE354 := Aside1.mk n13_.out
      have NB347_354 := n14_
      have NB354_347 := n15_
      have NB348_354 := n16_
      have NB354_348 := n17_
      have HB := n18_
      clear n0_ n1_ n2_ n3_ n4_ n5_ n6_ n7_ n8_ n9_ n10_ n11_ n12_ n13_ n14_ n15_ n16_ n17_ n18_
      have hHeld : w19.cell? ⟨gb347, 0, none⟩ = some (.int .u64 a1_0) ∧ w19.cell? ⟨gb347, 1, none⟩ = some (.int .u64 a1_1) := hS_
      refine norm_ (a' := ?_) ?_ ?_
      rotate_left
      ·simp only [putAll, Act.put, List.setIfInBounds_toArray, List.set_cons_zero, List.set_cons_succ]
       rfl
      refine one_ (i := 6) (N := some 17) #[true, true, true, true, true, true, true, true, true, false, false] rfl rfl (one_of HT_.out (by kernel_rfl)) (by decide) (fun K hK => ?_)
      refine goes_ Try.func24 (by kernel_rfl) rfl #[.int .i64 a0, .agg #[.int .u64 a1_0, .int .u64 a1_1]] (by rfl) rfl rfl (by (try simp only [List.map_toArray, List.map_cons, List.map_nil]); first | done | rfl | (simp only [List.length_drop, List.length_take]; rfl)) ?_
      with_reducible refine (frob_Root.calls k a0 a1_0 a1_1 t351 t352 _ A5.out).mono ?_
      rintro e w20 ⟨rfl, hb⟩
      refine ⟨_, rfl, ?_⟩
      replace BK347 := bb BK347 hb
      replace BK348 := bb BK348 hb
      replace BK353 := bb BK353 hb
      replace BK354 := bb BK354 hb
      replace HB := bh HB hb
      (try clear hb)
      (try clear hb2)
      (try clear hk)
      (try clear hi)
      refine hK.out _ _ ⟨(blk_cell BK347.out 0).trans rfl, (blk_cell BK347.out 1).trans rfl⟩ (fun hHeld => ?_)
      clear hK K
      refine norm_ (a' := ?_) ?_ ?_
      rotate_left
      ·show Act.put _ (some 17) _ = _
       simp only [Act.put, List.setIfInBounds_toArray, List.set_cons_zero, List.set_cons_succ, i64_w, i32_w]
       rfl
      exact norm_ (by first | (simp only [putAll, Act.put, List.setIfInBounds_toArray, List.set_cons_zero, List.set_cons_succ]; done) | (simp only [putAll, Act.put, List.setIfInBounds_toArray, List.set_cons_zero, List.set_cons_succ]; rfl)) (hJ3_6_7_8 (gb353, gb354) _ ⟨hHeld, (bk BK347.out), (bk BK348.out), (bk BK353.out), (bk BK354.out), GW353.out, GE353.out, NB347_353.out, NB353_347.out, NB348_353.out, NB353_348.out, NB354_353.out, NB353_354.out, GW354.out, GE354.out, NB347_354.out, NB354_347.out, NB348_354.out, NB354_348.out, (bq HB.out)⟩)
    ·skip
     rintro gb354 w19 ⟨hS_, h0_, h1_, h2_, h3_, h4_, h5_, h6_, h7_, h8_, h9_⟩
     have n0_ : Aside0 (w19.heap[gb347]? = some (.cells #[.int .u64 a1_0, .int .u64 a1_1] 24 (0, 0))) := ⟨h0_⟩
     have n1_ : Aside0 (w19.heap[gb348]? = some (.cells #[.int .u64 a1_0, .int .u64 a1_1] 37 (0, 0))) := ⟨h1_⟩
     have n2_ : Aside0 (w19.heap[gb354]? = some (.cells #[.int .u64 0, .int .u64 0] 24 (0, 0))) := ⟨h2_⟩
     have n3_ : Aside0 (w.heap.size ≤ gb354) := ⟨h3_⟩
     have n4_ : Aside0 (w.heap.size ≤ gb354) := ⟨h4_⟩
     have n5_ : Aside0 (gb347 ≠ gb354) := ⟨h5_⟩
     have n6_ : Aside0 (gb354 ≠ gb347) := ⟨h6_⟩
     have n7_ : Aside0 (gb348 ≠ gb354) := ⟨h7_⟩
     have n8_ : Aside0 (gb354 ≠ gb348) := ⟨h8_⟩
     have n9_ : Aside0 (Below w.heap.size w w19) := ⟨h9_⟩
     clear BK347
     clear BK348
     clear HB
     clear h0_ h1_ h2_ h3_ h4_ h5_ h6_ h7_ h8_ h9_
     have BK347 := n0_
     have BK348 := n1_
     have BK354 := n2_
     have GW354 := Aside1.mk n3_.out
     have GE354 := Aside1.mk n4_.out
     have NB347_354 := n5_
     have NB354_347 := n6_
     have NB348_354 := n7_
     have NB354_348 := n8_
     have HB := n9_
     clear n0_ n1_ n2_ n3_ n4_ n5_ n6_ n7_ n8_ n9_
     have hHeld : w19.cell? ⟨gb347, 0, none⟩ = some (.int .u64 a1_0) ∧ w19.cell? ⟨gb347, 1, none⟩ = some (.int .u64 a1_1) := hS_
     refine norm_ (a' := ?_) ?_ ?_
     rotate_left
     ·simp only [putAll, Act.put, List.setIfInBounds_toArray, List.set_cons_zero, List.set_cons_succ]
      rfl
     refine one_ (i := 7) (N := some 8) #[true, true, true, true, true, true, true, true, true, false, false] rfl rfl (one_of HT_.out (by kernel_rfl)) (by decide) (fun K hK => ?_)
     refine box_step ?hg (N := 8) ?hd (cs := #[.int .u64 0, .int .u64 0]) (t := 24) ?hr ?_; (case hd => rfl); (case hg => rfl); (case hr => first | (go_simp; done) | (go_simp; rfl))
     intro gb353 hg w20 hbox hb
     have BK353 := Aside0.mk hbox
     have GW353 := ge hg HB
     have GE353 := ge hg HB
     have NB347_353 := nl hg BK347
     have NB353_347 := ng hg BK347
     have NB348_353 := nl hg BK348
     have NB353_348 := ng hg BK348
     have NB354_353 := nl hg BK354
     have NB353_354 := ng hg BK354
     replace BK347 := bb BK347 hb
     replace BK348 := bb BK348 hb
     replace BK354 := bb BK354 hb
     replace HB := bh HB hb
     clear hb hbox hg
     refine hK.out _ _ ⟨(blk_cell BK347.out 0).trans rfl, (blk_cell BK347.out 1).trans rfl⟩ (fun hHeld => ?_)
     clear hK K
     refine norm_ (a' := ?_) ?_ ?_
     rotate_left
     ·show Act.put _ (some 8) _ = _
      simp only [Act.put, List.setIfInBounds_toArray, List.set_cons_zero, List.set_cons_succ, i64_w, i32_w]
      rfl
     exact norm_ (by first | (simp only [putAll, Act.put, List.setIfInBounds_toArray, List.set_cons_zero, List.set_cons_succ]; done) | (simp only [putAll, Act.put, List.setIfInBounds_toArray, List.set_cons_zero, List.set_cons_succ]; rfl)) (hJ3_6_7_8 (gb353, gb354) _ ⟨hHeld, (bk BK347.out), (bk BK348.out), (bk BK353.out), (bk BK354.out), GW353.out, GE353.out, NB347_353.out, NB353_347.out, NB348_353.out, NB353_348.out, NB354_353.out, NB353_354.out, GW354.out, GE354.out, NB347_354.out, NB354_347.out, NB348_354.out, NB354_348.out, (bq HB.out)⟩)
   ·skip
    rintro gb353 w19 ⟨hS_, h0_, h1_, h2_, h3_, h4_, h5_, h6_, h7_, h8_, h9_⟩
    have n0_ : Aside0 (w19.heap[gb347]? = some (.cells #[.int .u64 a1_0, .int .u64 a1_1] 24 (0, 0))) := ⟨h0_⟩
    have n1_ : Aside0 (w19.heap[gb348]? = some (.cells #[.int .u64 a1_0, .int .u64 a1_1] 37 (0, 0))) := ⟨h1_⟩
    have n2_ : Aside0 (w19.heap[gb353]? = some (.cells #[.int .u64 0, .int .u64 0] 24 (0, 0))) := ⟨h2_⟩
    have n3_ : Aside0 (w.heap.size ≤ gb353) := ⟨h3_⟩
    have n4_ : Aside0 (w.heap.size ≤ gb353) := ⟨h4_⟩
    have n5_ : Aside0 (gb347 ≠ gb353) := ⟨h5_⟩
    have n6_ : Aside0 (gb353 ≠ gb347) := ⟨h6_⟩
    have n7_ : Aside0 (gb348 ≠ gb353) := ⟨h7_⟩
    have n8_ : Aside0 (gb353 ≠ gb348) := ⟨h8_⟩
    have n9_ : Aside0 (Below w.heap.size w w19) := ⟨h9_⟩
    clear BK347
    clear BK348
    clear HB
    clear h0_ h1_ h2_ h3_ h4_ h5_ h6_ h7_ h8_ h9_
    have BK347 := n0_
    have BK348 := n1_
    have BK353 := n2_
    have GW353 := Aside1.mk n3_.out
    have GE353 := Aside1.mk n4_.out
    have NB347_353 := n5_
    have NB353_347 := n6_
    have NB348_353 := n7_
    have NB353_348 := n8_
    have HB := n9_
    clear n0_ n1_ n2_ n3_ n4_ n5_ n6_ n7_ n8_ n9_
    have hHeld : w19.cell? ⟨gb347, 0, none⟩ = some (.int .u64 a1_0) ∧ w19.cell? ⟨gb347, 1, none⟩ = some (.int .u64 a1_1) := hS_
    refine norm_ (a' := ?_) ?_ ?_
    rotate_left
    ·simp only [putAll, Act.put, List.setIfInBounds_toArray, List.set_cons_zero, List.set_cons_succ]
     rfl
    refine one_ (i := 8) (N := some 9) #[true, true, true, true, true, true, true, true, true, false, false] rfl rfl (one_of HT_.out (by kernel_rfl)) (by decide) (fun K hK => ?_)
    refine box_step ?hg (N := 9) ?hd (cs := #[.int .u64 0, .int .u64 0]) (t := 24) ?hr ?_; (case hd => rfl); (case hg => rfl); (case hr => first | (go_simp; done) | (go_simp; rfl))
    intro gb354 hg w20 hbox hb
    have BK354 := Aside0.mk hbox
    have GW354 := ge hg HB
    have GE354 := ge hg HB
    have NB347_354 := nl hg BK347
    have NB354_347 := ng hg BK347
    have NB348_354 := nl hg BK348
    have NB354_348 := ng hg BK348
    have NB353_354 := nl hg BK353
    have NB354_353 := ng hg BK353
    replace BK347 := bb BK347 hb
    replace BK348 := bb BK348 hb
    replace BK353 := bb BK353 hb
    replace HB := bh HB hb
    clear hb hbox hg
    refine hK.out _ _ ⟨(blk_cell BK347.out 0).trans rfl, (blk_cell BK347.out 1).trans rfl⟩ (fun hHeld => ?_)
    clear hK K
    refine norm_ (a' := ?_) ?_ ?_
    rotate_left
    ·show Act.put _ (some 9) _ = _
     simp only [Act.put, List.setIfInBounds_toArray, List.set_cons_zero, List.set_cons_succ, i64_w, i32_w]
     rfl
    exact norm_ (by first | (simp only [putAll, Act.put, List.setIfInBounds_toArray, List.set_cons_zero, List.set_cons_succ]; done) | (simp only [putAll, Act.put, List.setIfInBounds_toArray, List.set_cons_zero, List.set_cons_succ]; rfl)) (hJ3_6_7_8 (gb353, gb354) _ ⟨hHeld, (bk BK347.out), (bk BK348.out), (bk BK353.out), (bk BK354.out), GW353.out, GE353.out, NB347_353.out, NB353_347.out, NB348_353.out, NB353_348.out, NB354_353.out, NB353_354.out, GW354.out, GE354.out, NB347_354.out, NB354_347.out, NB348_354.out, NB354_348.out, (bq HB.out)⟩)
  rintro ⟨gb353, gb354⟩ w20 ⟨hS_, h0_, h1_, h2_, h3_, h4_, h5_, h6_, h7_, h8_, h9_, h10_, h11_, h12_, h13_, h14_, h15_, h16_, h17_, h18_⟩
  have n0_ : Aside0 (w20.heap[gb347]? = some (.cells #[.int .u64 a1_0, .int .u64 a1_1] 24 (0, 0))) := ⟨h0_⟩
  have n1_ : Aside0 (w20.heap[gb348]? = some (.cells #[.int .u64 a1_0, .int .u64 a1_1] 37 (0, 0))) := ⟨h1_⟩
  have n2_ : Aside0 (w20.heap[gb353]? = some (.cells #[.int .u64 0, .int .u64 0] 24 (0, 0))) := ⟨h2_⟩
  have n3_ : Aside0 (w20.heap[gb354]? = some (.cells #[.int .u64 0, .int .u64 0] 24 (0, 0))) := ⟨h3_⟩
  have n4_ : Aside0 (w.heap.size ≤ gb353) := ⟨h4_⟩
  have n5_ : Aside0 (w.heap.size ≤ gb353) := ⟨h5_⟩
  have n6_ : Aside0 (gb347 ≠ gb353) := ⟨h6_⟩
  have n7_ : Aside0 (gb353 ≠ gb347) := ⟨h7_⟩
  have n8_ : Aside0 (gb348 ≠ gb353) := ⟨h8_⟩
  have n9_ : Aside0 (gb353 ≠ gb348) := ⟨h9_⟩
  have n10_ : Aside0 (gb354 ≠ gb353) := ⟨h10_⟩
  have n11_ : Aside0 (gb353 ≠ gb354) := ⟨h11_⟩
  have n12_ : Aside0 (w.heap.size ≤ gb354) := ⟨h12_⟩
  have n13_ : Aside0 (w.heap.size ≤ gb354) := ⟨h13_⟩
  have n14_ : Aside0 (gb347 ≠ gb354) := ⟨h14_⟩
  have n15_ : Aside0 (gb354 ≠ gb347) := ⟨h15_⟩
  have n16_ : Aside0 (gb348 ≠ gb354) := ⟨h16_⟩
  have n17_ : Aside0 (gb354 ≠ gb348) := ⟨h17_⟩
  have n18_ : Aside0 (Below w.heap.size w w20) := ⟨h18_⟩
  clear BK347
  clear BK348
  clear HB
  clear h0_ h1_ h2_ h3_ h4_ h5_ h6_ h7_ h8_ h9_ h10_ h11_ h12_ h13_ h14_ h15_ h16_ h17_ h18_
  have BK347 := n0_
  have BK348 := n1_
  have BK353 := n2_
  have BK354 := n3_
  have GW353 := Aside1.mk n4_.out
  have GE353 := Aside1.mk n5_.out
  have NB347_353 := n6_
  have NB353_347 := n7_
  have NB348_353 := n8_
  have NB353_348 := n9_
  have NB354_353 := n10_
  have NB353_354 := n11_
  have GW354 := Aside1.mk n12_.out
  have GE354 := Aside1.mk n13_.out
  have NB347_354 := n14_
  have NB354_347 := n15_
  have NB348_354 := n16_
  have NB354_348 := n17_
  have HB := n18_
  clear n0_ n1_ n2_ n3_ n4_ n5_ n6_ n7_ n8_ n9_ n10_ n11_ n12_ n13_ n14_ n15_ n16_ n17_ n18_
  have hHeld : w20.cell? ⟨gb347, 0, none⟩ = some (.int .u64 a1_0) ∧ w20.cell? ⟨gb347, 1, none⟩ = some (.int .u64 a1_1) := hS_
  refine norm_ (a' := ?_) ?_ ?_
  rotate_left
  ·simp only [putAll, Act.put, List.setIfInBounds_toArray, List.set_cons_zero, List.set_cons_succ]
   rfl
  refine one_ (i := 9) (N := none) #[true, true, true, true, true, true, true, true, true, true, false] rfl rfl (one_of HT_.out (by kernel_rfl)) (by decide) (fun K hK => ?_)
  have hs21 : w20.cell? ⟨gb353, 0, none⟩ = some (.int .u64 0) := (blk_cell BK353.out 0).trans rfl
  have hfs21 := blk_frozen BK353.out 0
  have hns21_0 := NB347_353.out
  have hns21_1 := NB348_353.out
  have hns21_3 := NB354_353.out
  have hms21_0 := NB353_347.out
  have hms21_1 := NB353_348.out
  have hms21_3 := NB353_354.out
  have hs22 : w20.cell? ⟨gb353, 1, none⟩ = some (.int .u64 0) := (blk_cell BK353.out 1).trans rfl
  have hfs22 := blk_frozen BK353.out 1
  have hns22_0 := NB347_353.out
  have hns22_1 := NB348_353.out
  have hns22_3 := NB354_353.out
  have hms22_0 := NB353_347.out
  have hms22_1 := NB353_348.out
  have hms22_3 := NB353_354.out
  refine skip_ (w1 := ?_) (by rfl) rfl ?_ ?_
  rotate_left
  ·go_simp
   rfl
  refine hK.out _ _ ⟨((cell_far (p := ⟨gb353, _, none⟩) NB347_353.out _).trans (((cell_far (p := ⟨gb353, _, none⟩) NB347_353.out _).trans (hHeld.1)))), ((cell_far (p := ⟨gb353, _, none⟩) NB347_353.out _).trans (((cell_far (p := ⟨gb353, _, none⟩) NB347_353.out _).trans (hHeld.2))))⟩ (fun hHeld => ?_)
  clear hK K
  refine one_ (i := 10) (N := none) #[true, true, true, true, true, true, true, true, true, true, true] rfl rfl (one_of HT_.out (by kernel_rfl)) (by decide) (fun K hK => ?_)
  have hs23 : w20.cell? ⟨gb354, 0, none⟩ = some (.int .u64 0) := (blk_cell BK354.out 0).trans rfl
  have hfs23 := blk_frozen BK354.out 0
  have hns23_0 := NB347_354.out
  have hns23_1 := NB348_354.out
  have hns23_2 := NB353_354.out
  have hms23_0 := NB354_347.out
  have hms23_1 := NB354_348.out
  have hms23_2 := NB354_353.out
  have hs24 : w20.cell? ⟨gb354, 1, none⟩ = some (.int .u64 0) := (blk_cell BK354.out 1).trans rfl
  have hfs24 := blk_frozen BK354.out 1
  have hns24_0 := NB347_354.out
  have hns24_1 := NB348_354.out
  have hns24_2 := NB353_354.out
  have hms24_0 := NB354_347.out
  have hms24_1 := NB354_348.out
  have hms24_2 := NB354_353.out
  refine skip_ (w1 := ?_) (by rfl) rfl ?_ ?_
  rotate_left
  ·go_simp
   rfl
  refine hK.out _ _ ⟨((cell_far (p := ⟨gb354, _, none⟩) NB347_354.out _).trans (((cell_far (p := ⟨gb354, _, none⟩) NB347_354.out _).trans (hHeld.1)))), ((cell_far (p := ⟨gb354, _, none⟩) NB347_354.out _).trans (((cell_far (p := ⟨gb354, _, none⟩) NB347_354.out _).trans (hHeld.2))))⟩ (fun hHeld => ?_)
  clear hK K
  refine done_ (done_of HT_.out (by kernel_rfl)) ?_
  have hnb25 := NB348_353.out
  have hnc25 := NB353_348.out
  have hnb26 := NB348_354.out
  have hnc26 := NB354_348.out
  obtain ⟨hcz27_0, hcz27_1⟩ := zc2 BK348
  obtain ⟨hfz27_0, hfz27_1⟩ := zf2 BK348
  go_upto_region 5 with (first | ((with_reducible refine gate_callee (f := 17) rfl ?_); refine goesL_ (some 20) rfl rfl Try.func17 (by kernel_rfl) rfl #[.int .i64 a0, .agg #[.int .u64 a1_0, .int .u64 a1_1]] rfl (by (try simp only [List.map_toArray, List.map_cons, List.map_nil]); first | done | rfl | (simp only [List.length_drop, List.length_take]; rfl)) ?_; (with_reducible refine (steepleref01_Of.calls k a0 a1_0 a1_1 true _ A6.out).mono ?_); rintro e w28 ⟨rfl, hb⟩; refine ⟨_, rfl, ?_⟩; replace BK347 := Aside0.mk (blk_below (g := gb347) (o := .cells #[.int .u64 a1_0, .int .u64 a1_1] 24 (0, 0)) (by (with_reducible repeat refine bl ?_); refine blk_far ?_ NB347_354.out _; (with_reducible repeat refine bl ?_); refine blk_far ?_ NB347_354.out _; (with_reducible repeat refine bl ?_); refine blk_far ?_ NB347_353.out _; (with_reducible repeat refine bl ?_); refine blk_far ?_ NB347_353.out _; (with_reducible repeat refine bl ?_); exact BK347.out) hb); replace BK348 := Aside0.mk (blk_below (g := gb348) (o := .cells #[.int .u64 a1_0, .int .u64 a1_1] 37 (0, 0)) (by (with_reducible repeat refine bl ?_); refine blk_far ?_ NB348_354.out _; (with_reducible repeat refine bl ?_); refine blk_far ?_ NB348_354.out _; (with_reducible repeat refine bl ?_); refine blk_far ?_ NB348_353.out _; (with_reducible repeat refine bl ?_); refine blk_far ?_ NB348_353.out _; (with_reducible repeat refine bl ?_); exact BK348.out) hb); replace BK353 := Aside0.mk (blk_below (g := gb353) (o := .cells #[.int .u64 t349, .int .u64 t350] 24 (0, 0)) (by (with_reducible repeat refine bl ?_); refine blk_far ?_ NB353_354.out _; (with_reducible repeat refine bl ?_); refine blk_far ?_ NB353_354.out _; (with_reducible repeat refine bl ?_); refine blk_put (cs := #[.int .u64 t349, .int .u64 0]) ?_ 1 _ rfl; (with_reducible repeat refine bl ?_); refine blk_put (cs := #[.int .u64 0, .int .u64 0]) ?_ 0 _ rfl; (with_reducible repeat refine bl ?_); exact BK353.out) hb); replace BK354 := Aside0.mk (blk_below (g := gb354) (o := .cells #[.int .u64 t351, .int .u64 t352] 24 (0, 0)) (by (with_reducible repeat refine bl ?_); refine blk_put (cs := #[.int .u64 t351, .int .u64 0]) ?_ 1 _ rfl; (with_reducible repeat refine bl ?_); refine blk_put (cs := #[.int .u64 0, .int .u64 0]) ?_ 0 _ rfl; (with_reducible repeat refine bl ?_); refine blk_far ?_ NB354_353.out _; (with_reducible repeat refine bl ?_); refine blk_far ?_ NB354_353.out _; (with_reducible repeat refine bl ?_); exact BK354.out) hb); replace HB := bh HB hb; (try clear hb); (try clear hb2); (try clear hk); (try clear hi)))
  (try simp only [Act.put, List.setIfInBounds_toArray, List.set_cons_zero, List.set_cons_succ])
  go_cut [40] (fun v40 wc => ∃ (kq : Nat) (x40_7 : Bool), v40 = .bool x40_7 ∧ Aside0 (steeplelaw33_FrobPowers.j0 kq a0 a2 x40_7 a1_0 a1_1 a1_0 a1_1 t349 t350 t351 t352 = some r) ∧ Aside0 (kq ≤ k) ∧ Aside0 (wc.heap[gb347]? = some (.cells #[.int .u64 a1_0, .int .u64 a1_1] 24 (0, 0))) ∧ Aside0 (wc.heap[gb348]? = some (.cells #[.int .u64 a1_0, .int .u64 a1_1] 37 (0, 0))) ∧ Aside0 (wc.heap[gb353]? = some (.cells #[.int .u64 t349, .int .u64 t350] 24 (0, 0))) ∧ Aside0 (wc.heap[gb354]? = some (.cells #[.int .u64 t351, .int .u64 t352] 24 (0, 0))) ∧ Aside0 (Below w.heap.size w wc))
  case first =>
   have H := HC8.out
   clear HC8
   by_cases c29 : a2 < 0
   ·rw [if_pos c29] at H
    have c29b0 : decide (a2 < 0) = true := decide_eq_true c29
    clear c29
    (first | rw [c29b0] | (simp only [i64_w, i32_w]; rw [c29b0]) | skip)
    have H' := Aside0.mk H
    clear H
    go_wp2
    go_meet
    case rel => exact ⟨_, (true), (by first | rfl | (simp; done) | (simp [*]; done)), H', ⟨by first | omega | exact Nat.le_refl _⟩, ⟨bk BK347.out⟩, ⟨bk BK348.out⟩, ⟨bk BK353.out⟩, ⟨bk BK354.out⟩, ⟨bq HB.out⟩⟩
   ·rw [if_neg c29] at H
    have c29b0 : decide (a2 < 0) = false := decide_eq_false c29
    clear c29
    (first | rw [c29b0] | (simp only [i64_w, i32_w]; rw [c29b0]) | skip)
    replace H := Option.bind_eq_some_iff.mp H
    obtain ⟨t357, A300, H⟩ := H
    replace H : (steeplelaw33_FrobPowers.j0 k a0 a2 (decide (a2 ≥ t357)) a1_0 a1_1 a1_0 a1_1 t349 t350 t351 t352) = some r := H
    have A30 := Aside0.mk A300
    clear A300
    have H' := Aside0.mk H
    clear H
    go_wp2_with (first | (go_at_call 19; (with_reducible refine (steepleref15_Two.calls k a0 t357 _ A30.out).mono ?_); rintro e w' ⟨rfl, ⟨nd, rfl⟩⟩))
    go_meet
    case rel => exact ⟨_, (decide (a2 ≥ t357)), (by first | rfl | (simp; done) | (simp [*]; done)), H', ⟨by first | omega | exact Nat.le_refl _⟩, ⟨bk BK347.out⟩, ⟨bk BK348.out⟩, ⟨bk BK353.out⟩, ⟨bk BK354.out⟩, ⟨bq HB.out⟩⟩
  case rest =>
   clear HC8
   try clear c1
   try clear c2
   try clear p2
   try clear c17
   try clear c24
   try clear c25
   try clear c26
   try clear c29
   try clear c29b0
   try clear hcz27_0
   try clear hcz27_1
   try clear hfz27_0
   try clear hfz27_1
   obtain ⟨kq, x40_7, rfl, HA, HJ7, BK347, BK348, BK353, BK354, HB⟩ := hcut
   cases kq with
   | zero => exact absurd HA.out (by simp [steeplelaw33_FrobPowers.j0])
   | succ kj7 =>
    have H := HA.out
    clear HA
    simp only [steeplelaw33_FrobPowers.j0] at H
    by_cases c31 : x40_7 = true
    ·subst c31
     have H1 : (if (!(t349 == 0) || (!(t350 == 0))) = true then (none) else ((steeplelaw33_awake.f kj7).bind fun t358 => (if t358 = true then ((octet_Of.f kj7 a0 t351 t352).bind fun t359 => (if t359 = true then ((steepleref02_Product.f kj7 t351 t352 t351 t352).bind fun bt360 => (some (a1_0 == bt360.1 && (a1_1 == bt360.2)))) else (none))) else (none)))) = some r := by rw [if_pos rfl] at H; exact H
     clear H
     have H := H1
     clear H1
     by_cases c32 : (!(t349 == 0) || (!(t350 == 0))) = true
     ·rw [if_pos c32] at H
      exact absurd H (by simp)
     ·rw [if_neg c32] at H
      have c32b0 : (!(t349 == 0) || (!(t350 == 0))) = false := by simpa using c32
      clear c32
      replace H := Option.bind_eq_some_iff.mp H
      obtain ⟨t358, A330, H⟩ := H
      replace H : (if t358 = true then ((octet_Of.f kj7 a0 t351 t352).bind fun t359 => (if t359 = true then ((steepleref02_Product.f kj7 t351 t352 t351 t352).bind fun bt360 => (some (a1_0 == bt360.1 && (a1_1 == bt360.2)))) else (none))) else (none)) = some r := H
      have A33 := Aside0.mk A330
      clear A330
      by_cases c34 : t358 = true
      ·subst c34
       have H1 : ((octet_Of.f kj7 a0 t351 t352).bind fun t359 => (if t359 = true then ((steepleref02_Product.f kj7 t351 t352 t351 t352).bind fun bt360 => (some (a1_0 == bt360.1 && (a1_1 == bt360.2)))) else (none))) = some r := by rw [if_pos rfl] at H; exact H
       clear H
       have H := H1
       clear H1
       replace H := Option.bind_eq_some_iff.mp H
       obtain ⟨t359, A350, H⟩ := H
       replace H : (if t359 = true then ((steepleref02_Product.f kj7 t351 t352 t351 t352).bind fun bt360 => (some (a1_0 == bt360.1 && (a1_1 == bt360.2)))) else (none)) = some r := H
       have A35 := Aside0.mk A350
       clear A350
       by_cases c36 : t359 = true
       ·subst c36
        have H1 : ((steepleref02_Product.f kj7 t351 t352 t351 t352).bind fun bt360 => (some (a1_0 == bt360.1 && (a1_1 == bt360.2)))) = some r := by rw [if_pos rfl] at H; exact H
        clear H
        have H := H1
        clear H1
        replace H := Option.bind_eq_some_iff.mp H
        obtain ⟨⟨t360, t361⟩, A370, H⟩ := H
        replace H : (some (a1_0 == t360 && (a1_1 == t361))) = some r := H
        have A37 := Aside0.mk A370
        clear A370
        obtain rfl := Option.some.inj H
        have hnb38 := NB353_347.out
        have hnc38 := NB347_353.out
        have hnb39 := NB353_348.out
        have hnc39 := NB348_353.out
        have hnb40 := NB353_354.out
        have hnc40 := NB354_353.out
        obtain ⟨hcz41_0, hcz41_1⟩ := zc2 BK353
        obtain ⟨hfz41_0, hfz41_1⟩ := zf2 BK353
        try go_wp2
        replace BK347 := Aside0.mk (blk_drew BK347.out)
        replace BK348 := Aside0.mk (blk_drew BK348.out)
        replace BK353 := Aside0.mk (blk_drew BK353.out)
        replace BK354 := Aside0.mk (blk_drew BK354.out)
        replace HB := Aside0.mk (below_drew1 HB.out)
        refine start_ (n := 14) (S := fun w' => w'.cell? ⟨gb354, 0, none⟩ = some (.int .u64 t351) ∧ w'.cell? ⟨gb354, 1, none⟩ = some (.int .u64 t352) ∧ w'.cell? ⟨gb347, 0, none⟩ = some (.int .u64 a1_0) ∧ w'.cell? ⟨gb347, 1, none⟩ = some (.int .u64 a1_1)) (ds := []) #[false, false, false, false, false, false, false, false, false, false, false, false, false, false] (by kernel_rfl) rfl rfl ⟨(blk_cell BK354.out 0).trans rfl, (blk_cell BK354.out 1).trans rfl, (blk_cell BK347.out 0).trans rfl, (blk_cell BK347.out 1).trans rfl⟩ (fun hHeld => ?_); refine with_tabW steeplelaw33_FrobPowers.tab10 steeplelaw33_FrobPowers.bits10 (fun HT_ HW_ => ?_)
        generalize wc.drew = w42 at BK347 BK348 BK353 BK354 HB hHeld ⊢
        refine one_ (i := 0) (N := some 49) #[true, false, false, false, false, false, false, false, false, false, false, false, false, false] rfl rfl (one_of HT_.out (by kernel_rfl)) (by decide) (fun K hK => ?_)
        refine goes_ Try.func14 (by kernel_rfl) rfl #[] (by rfl) rfl rfl (by (try simp only [List.map_toArray, List.map_cons, List.map_nil]); first | done | rfl | (simp only [List.length_drop, List.length_take]; rfl)) ?_
        with_reducible refine (steeplelaw33_awake.calls kj7  true _ A33.out).mono ?_
        rintro e w43 ⟨rfl, hb⟩
        refine ⟨_, rfl, ?_⟩
        replace BK347 := bb BK347 hb
        replace BK348 := bb BK348 hb
        replace BK353 := bb BK353 hb
        replace BK354 := bb BK354 hb
        replace HB := bh HB hb
        (try clear hb)
        (try clear hb2)
        (try clear hk)
        (try clear hi)
        refine hK.out _ _ ⟨(blk_cell BK354.out 0).trans rfl, (blk_cell BK354.out 1).trans rfl, (blk_cell BK347.out 0).trans rfl, (blk_cell BK347.out 1).trans rfl⟩ (fun hHeld => ?_)
        clear hK K
        refine norm_ (a' := ?_) ?_ ?_
        rotate_left
        ·show Act.put _ (some 49) _ = _
         simp only [Act.put, List.setIfInBounds_toArray, List.set_cons_zero, List.set_cons_succ, i64_w, i32_w]
         rfl
        refine pure_ (i := 1) (N := some 50) (v := ?_) (a' := ?_) #[true, true, false, false, false, false, false, false, false, false, false, false, false, false] rfl rfl (any_of HT_.out (by kernel_rfl)) (fun _ _ _ h => h) (Or.inl ⟨by rfl, ?_⟩) ?_ ?_
        rotate_left
        ·intro w'
         go_simp
         with_reducible rfl
        rotate_left
        ·simp only [Act.put, List.setIfInBounds_toArray, List.set_cons_zero, List.set_cons_succ, i64_w, i32_w]
         rfl
        refine pure_ (i := 2) (N := some 51) (v := ?_) (a' := ?_) #[true, true, true, false, false, false, false, false, false, false, false, false, false, false] rfl rfl (any_of HT_.out (by kernel_rfl)) (fun _ _ _ h => h) (Or.inl ⟨by rfl, ?_⟩) ?_ ?_
        rotate_left
        ·intro w'
         go_simp
         with_reducible rfl
        rotate_left
        ·simp only [Act.put, List.setIfInBounds_toArray, List.set_cons_zero, List.set_cons_succ, i64_w, i32_w]
         rfl
        refine take_ (i := 3) (N := some 52) (v := ?_) (a' := ?_) #[true, true, true, true, false, false, false, false, false, false, false, false, false, false] rfl rfl (take_ofW HT_.out HW_.out (by kernel_rfl)) (fun _ _ _ h => h) (Or.inl ⟨by rfl, ?_⟩) hHeld ?_ ?_
        rotate_left
        ·rintro w' ⟨s0, s1, s2, s3⟩
         go_simp
         with_reducible rfl
        rotate_left
        ·simp only [Act.put, List.setIfInBounds_toArray, List.set_cons_zero, List.set_cons_succ, i64_w, i32_w]
         rfl
        refine one_ (i := 4) (N := some 53) #[true, true, true, true, true, false, false, false, false, false, false, false, false, false] rfl rfl (one_of HT_.out (by kernel_rfl)) (by decide) (fun K hK => ?_)
        refine goes_ Try.func26 (by kernel_rfl) rfl #[.int .i64 a0, .agg #[.int .u64 t351, .int .u64 t352]] (by rfl) rfl rfl (by (try simp only [List.map_toArray, List.map_cons, List.map_nil]); first | done | rfl | (simp only [List.length_drop, List.length_take]; rfl)) ?_
        with_reducible refine (octet_Of.calls kj7 a0 t351 t352 true _ A35.out).mono ?_
        rintro e w44 ⟨rfl, hb⟩
        refine ⟨_, rfl, ?_⟩
        replace BK347 := bb BK347 hb
        replace BK348 := bb BK348 hb
        replace BK353 := bb BK353 hb
        replace BK354 := bb BK354 hb
        replace HB := bh HB hb
        (try clear hb)
        (try clear hb2)
        (try clear hk)
        (try clear hi)
        refine hK.out _ _ ⟨(blk_cell BK354.out 0).trans rfl, (blk_cell BK354.out 1).trans rfl, (blk_cell BK347.out 0).trans rfl, (blk_cell BK347.out 1).trans rfl⟩ (fun hHeld => ?_)
        clear hK K
        refine norm_ (a' := ?_) ?_ ?_
        rotate_left
        ·show Act.put _ (some 53) _ = _
         simp only [Act.put, List.setIfInBounds_toArray, List.set_cons_zero, List.set_cons_succ, i64_w, i32_w]
         rfl
        refine pure_ (i := 5) (N := some 54) (v := ?_) (a' := ?_) #[true, true, true, true, true, true, false, false, false, false, false, false, false, false] rfl rfl (any_of HT_.out (by kernel_rfl)) (fun _ _ _ h => h) (Or.inl ⟨by rfl, ?_⟩) ?_ ?_
        rotate_left
        ·intro w'
         go_simp
         with_reducible rfl
        rotate_left
        ·simp only [Act.put, List.setIfInBounds_toArray, List.set_cons_zero, List.set_cons_succ, i64_w, i32_w]
         rfl
        refine pure_ (i := 6) (N := some 55) (v := ?_) (a' := ?_) #[true, true, true, true, true, true, true, false, false, false, false, false, false, false] rfl rfl (any_of HT_.out (by kernel_rfl)) (fun _ _ _ h => h) (Or.inl ⟨by rfl, ?_⟩) ?_ ?_
        rotate_left
        ·intro w'
         go_simp
         with_reducible rfl
        rotate_left
        ·simp only [Act.put, List.setIfInBounds_toArray, List.set_cons_zero, List.set_cons_succ, i64_w, i32_w]
         rfl
        refine take_ (i := 7) (N := some 56) (v := ?_) (a' := ?_) #[true, true, true, true, true, true, true, true, false, false, false, false, false, false] rfl rfl (take_ofW HT_.out HW_.out (by kernel_rfl)) (fun _ _ _ h => h) (Or.inl ⟨by rfl, ?_⟩) hHeld ?_ ?_
        rotate_left
        ·rintro w' ⟨s0, s1, s2, s3⟩
         go_simp
         with_reducible rfl
        rotate_left
        ·simp only [Act.put, List.setIfInBounds_toArray, List.set_cons_zero, List.set_cons_succ, i64_w, i32_w]
         rfl
        refine take_ (i := 8) (N := some 57) (v := ?_) (a' := ?_) #[true, true, true, true, true, true, true, true, true, false, false, false, false, false] rfl rfl (take_ofW HT_.out HW_.out (by kernel_rfl)) (fun _ _ _ h => h) (Or.inl ⟨by rfl, ?_⟩) hHeld ?_ ?_
        rotate_left
        ·rintro w' ⟨s0, s1, s2, s3⟩
         go_simp
         with_reducible rfl
        rotate_left
        ·simp only [Act.put, List.setIfInBounds_toArray, List.set_cons_zero, List.set_cons_succ, i64_w, i32_w]
         rfl
        refine take_ (i := 9) (N := some 58) (v := ?_) (a' := ?_) #[true, true, true, true, true, true, true, true, true, true, false, false, false, false] rfl rfl (take_ofW HT_.out HW_.out (by kernel_rfl)) (fun _ _ _ h => h) (Or.inl ⟨by rfl, ?_⟩) hHeld ?_ ?_
        rotate_left
        ·rintro w' ⟨s0, s1, s2, s3⟩
         go_simp
         with_reducible rfl
        rotate_left
        ·simp only [Act.put, List.setIfInBounds_toArray, List.set_cons_zero, List.set_cons_succ, i64_w, i32_w]
         rfl
        refine one_ (i := 10) (N := some 59) #[true, true, true, true, true, true, true, true, true, true, true, false, false, false] rfl rfl (one_of HT_.out (by kernel_rfl)) (by decide) (fun K hK => ?_)
        refine goes_ Try.func22 (by kernel_rfl) rfl #[.agg #[.int .u64 t351, .int .u64 t352], .agg #[.int .u64 t351, .int .u64 t352]] (by rfl) rfl rfl (by (try simp only [List.map_toArray, List.map_cons, List.map_nil]); first | done | rfl | (simp only [List.length_drop, List.length_take]; rfl)) ?_
        with_reducible refine (steepleref02_Product.calls kj7 t351 t352 t351 t352 t360 t361 _ A37.out).mono ?_
        rintro e w45 ⟨rfl, hb⟩
        refine ⟨_, rfl, ?_⟩
        replace BK347 := bb BK347 hb
        replace BK348 := bb BK348 hb
        replace BK353 := bb BK353 hb
        replace BK354 := bb BK354 hb
        replace HB := bh HB hb
        (try clear hb)
        (try clear hb2)
        (try clear hk)
        (try clear hi)
        refine hK.out _ _ ⟨(blk_cell BK354.out 0).trans rfl, (blk_cell BK354.out 1).trans rfl, (blk_cell BK347.out 0).trans rfl, (blk_cell BK347.out 1).trans rfl⟩ (fun hHeld => ?_)
        clear hK K
        refine norm_ (a' := ?_) ?_ ?_
        rotate_left
        ·show Act.put _ (some 59) _ = _
         simp only [Act.put, List.setIfInBounds_toArray, List.set_cons_zero, List.set_cons_succ, i64_w, i32_w]
         rfl
        refine pure_ (i := 11) (N := some 60) (v := ?_) (a' := ?_) #[true, true, true, true, true, true, true, true, true, true, true, true, false, false] rfl rfl (any_of HT_.out (by kernel_rfl)) (fun _ _ _ h => h) (Or.inl ⟨by rfl, ?_⟩) ?_ ?_
        rotate_left
        ·intro w'
         go_simp
         with_reducible rfl
        rotate_left
        ·simp only [Act.put, List.setIfInBounds_toArray, List.set_cons_zero, List.set_cons_succ, i64_w, i32_w]
         rfl
        refine pure_ (i := 12) (N := some 61) (v := ?_) (a' := ?_) #[true, true, true, true, true, true, true, true, true, true, true, true, true, false] rfl rfl (any_of HT_.out (by kernel_rfl)) (fun _ _ _ h => h) (Or.inl ⟨by rfl, ?_⟩) ?_ ?_
        rotate_left
        ·intro w'
         go_simp
         with_reducible rfl
        rotate_left
        ·simp only [Act.put, List.setIfInBounds_toArray, List.set_cons_zero, List.set_cons_succ, i64_w, i32_w]
         rfl
        refine pure_ (i := 13) (N := some 6) (v := ?_) (a' := ?_) #[true, true, true, true, true, true, true, true, true, true, true, true, true, true] rfl rfl (any_of HT_.out (by kernel_rfl)) (fun _ _ _ h => h) (Or.inl ⟨by rfl, ?_⟩) ?_ ?_
        rotate_left
        ·intro w'
         go_simp
         with_reducible rfl
        rotate_left
        ·simp only [Act.put, List.setIfInBounds_toArray, List.set_cons_zero, List.set_cons_succ, i64_w, i32_w]
         rfl
        refine done_ (done_of HT_.out (by kernel_rfl)) ?_
        try go_wp2
        go_ret
        exact ⟨by first | rfl | (simp [errW_none, errW_some] <;> rfl) | (simp [*, errW_none, errW_some] <;> rfl), bq HB.out⟩
       ·replace c36 := Bool.eq_false_iff.mpr c36
        subst c36
        have H1 : (none) = some r := by rw [if_neg (show ¬ (false = true) by decide)] at H; exact H
        clear H
        have H := H1
        clear H1
        exact absurd H (by simp)
      ·replace c34 := Bool.eq_false_iff.mpr c34
       subst c34
       have H1 : (none) = some r := by rw [if_neg (show ¬ (false = true) by decide)] at H; exact H
       clear H
       have H := H1
       clear H1
       exact absurd H (by simp)
    ·replace c31 := Bool.eq_false_iff.mpr c31
     subst c31
     have H1 : ((steepleref33_Power.f kj7 a1_0 a1_1 a2).bind fun bt362 => (if (!(t349 == bt362.1) || (!(t350 == bt362.2))) = true then (none) else ((steeplelaw33_awake.f kj7).bind fun t364 => (if t364 = true then ((octet_Of.f kj7 a0 t351 t352).bind fun t365 => (if t365 = true then ((steepleref02_Product.f kj7 t351 t352 t351 t352).bind fun bt366 => (some (a1_0 == bt366.1 && (a1_1 == bt366.2)))) else (none))) else (none))))) = some r := by rw [if_neg (show ¬ (false = true) by decide)] at H; exact H
     clear H
     have H := H1
     clear H1
     replace H := Option.bind_eq_some_iff.mp H
     obtain ⟨⟨t362, t363⟩, A460, H⟩ := H
     replace H : (if (!(t349 == t362) || (!(t350 == t363))) = true then (none) else ((steeplelaw33_awake.f kj7).bind fun t364 => (if t364 = true then ((octet_Of.f kj7 a0 t351 t352).bind fun t365 => (if t365 = true then ((steepleref02_Product.f kj7 t351 t352 t351 t352).bind fun bt366 => (some (a1_0 == bt366.1 && (a1_1 == bt366.2)))) else (none))) else (none)))) = some r := H
     have A46 := Aside0.mk A460
     clear A460
     by_cases c47 : (!(t349 == t362) || (!(t350 == t363))) = true
     ·rw [if_pos c47] at H
      exact absurd H (by simp)
     ·rw [if_neg c47] at H
      have c47b0 : (!(t349 == t362) || (!(t350 == t363))) = false := by simpa using c47
      clear c47
      replace H := Option.bind_eq_some_iff.mp H
      obtain ⟨t364, A480, H⟩ := H
      replace H : (if t364 = true then ((octet_Of.f kj7 a0 t351 t352).bind fun t365 => (if t365 = true then ((steepleref02_Product.f kj7 t351 t352 t351 t352).bind fun bt366 => (some (a1_0 == bt366.1 && (a1_1 == bt366.2)))) else (none))) else (none)) = some r := H
      have A48 := Aside0.mk A480
      clear A480
      by_cases c49 : t364 = true
      ·subst c49
       have H1 : ((octet_Of.f kj7 a0 t351 t352).bind fun t365 => (if t365 = true then ((steepleref02_Product.f kj7 t351 t352 t351 t352).bind fun bt366 => (some (a1_0 == bt366.1 && (a1_1 == bt366.2)))) else (none))) = some r := by rw [if_pos rfl] at H; exact H
       clear H
       have H := H1
       clear H1
       replace H := Option.bind_eq_some_iff.mp H
       obtain ⟨t365, A500, H⟩ := H
       replace H : (if t365 = true then ((steepleref02_Product.f kj7 t351 t352 t351 t352).bind fun bt366 => (some (a1_0 == bt366.1 && (a1_1 == bt366.2)))) else (none)) = some r := H
       have A50 := Aside0.mk A500
       clear A500
       by_cases c51 : t365 = true
       ·subst c51
        have H1 : ((steepleref02_Product.f kj7 t351 t352 t351 t352).bind fun bt366 => (some (a1_0 == bt366.1 && (a1_1 == bt366.2)))) = some r := by rw [if_pos rfl] at H; exact H
        clear H
        have H := H1
        clear H1
        replace H := Option.bind_eq_some_iff.mp H
        obtain ⟨⟨t366, t367⟩, A520, H⟩ := H
        replace H : (some (a1_0 == t366 && (a1_1 == t367))) = some r := H
        have A52 := Aside0.mk A520
        clear A520
        obtain rfl := Option.some.inj H
        try go_wp2
        replace BK347 := Aside0.mk (blk_drew BK347.out)
        replace BK348 := Aside0.mk (blk_drew BK348.out)
        replace BK353 := Aside0.mk (blk_drew BK353.out)
        replace BK354 := Aside0.mk (blk_drew BK354.out)
        replace HB := Aside0.mk (below_drew1 HB.out)
        refine start_ (n := 5) (S := fun w' => w'.cell? ⟨gb353, 0, none⟩ = some (.int .u64 t349) ∧ w'.cell? ⟨gb353, 1, none⟩ = some (.int .u64 t350) ∧ w'.cell? ⟨gb348, 0, none⟩ = some (.int .u64 a1_0) ∧ w'.cell? ⟨gb348, 1, none⟩ = some (.int .u64 a1_1)) (ds := []) #[false, false, false, false, false] (by kernel_rfl) rfl rfl ⟨(blk_cell BK353.out 0).trans rfl, (blk_cell BK353.out 1).trans rfl, (blk_cell BK348.out 0).trans rfl, (blk_cell BK348.out 1).trans rfl⟩ (fun hHeld => ?_)
        generalize wc.drew = w53 at BK347 BK348 BK353 BK354 HB hHeld ⊢
        refine pure_ (i := 2) (N := some 46) (v := ?_) (a' := ?_) #[false, false, true, false, false] rfl rfl (by kernel_rfl) (fun _ _ _ h => h) (Or.inl ⟨by rfl, ?_⟩) ?_ ?_
        rotate_left
        ·intro w'
         go_simp
         with_reducible rfl
        rotate_left
        ·simp only [Act.put, List.setIfInBounds_toArray, List.set_cons_zero, List.set_cons_succ, i64_w, i32_w]
         rfl
        refine take_ (i := 0) (N := some 44) (v := ?_) (a' := ?_) #[true, false, true, false, false] rfl rfl (by kernel_rfl) (fun _ _ _ h => h) (Or.inl ⟨by rfl, ?_⟩) hHeld ?_ ?_
        rotate_left
        ·rintro w' ⟨s0, s1, s2, s3⟩
         go_simp
         with_reducible rfl
        rotate_left
        ·simp only [Act.put, List.setIfInBounds_toArray, List.set_cons_zero, List.set_cons_succ, i64_w, i32_w]
         rfl
        refine take_ (i := 1) (N := some 45) (v := ?_) (a' := ?_) #[true, true, true, false, false] rfl rfl (by kernel_rfl) (fun _ _ _ h => h) (Or.inl ⟨by rfl, ?_⟩) hHeld ?_ ?_
        rotate_left
        ·rintro w' ⟨s0, s1, s2, s3⟩
         go_simp
         with_reducible rfl
        rotate_left
        ·simp only [Act.put, List.setIfInBounds_toArray, List.set_cons_zero, List.set_cons_succ, i64_w, i32_w]
         rfl
        refine one_ (i := 3) (N := some 47) #[true, true, true, true, false] rfl rfl (by kernel_rfl) (by decide) (fun K hK => ?_)
        refine goes_ Try.func25 (by kernel_rfl) rfl #[.agg #[.int .u64 a1_0, .int .u64 a1_1], .int .i64 a2] (by rfl) rfl rfl (by (try simp only [List.map_toArray, List.map_cons, List.map_nil]); first | done | rfl | (simp only [List.length_drop, List.length_take]; rfl)) ?_
        with_reducible refine (steepleref33_Power.calls kj7 a1_0 a1_1 a2 t362 t363 _ A46.out).mono ?_
        rintro e w54 ⟨rfl, hb⟩
        refine ⟨_, rfl, ?_⟩
        replace BK347 := bb BK347 hb
        replace BK348 := bb BK348 hb
        replace BK353 := bb BK353 hb
        replace BK354 := bb BK354 hb
        replace HB := bh HB hb
        (try clear hb)
        (try clear hb2)
        (try clear hk)
        (try clear hi)
        refine hK.out _ _ ⟨(blk_cell BK353.out 0).trans rfl, (blk_cell BK353.out 1).trans rfl, (blk_cell BK348.out 0).trans rfl, (blk_cell BK348.out 1).trans rfl⟩ (fun hHeld => ?_)
        clear hK K
        refine norm_ (a' := ?_) ?_ ?_
        rotate_left
        ·show Act.put _ (some 47) _ = _
         simp only [Act.put, List.setIfInBounds_toArray, List.set_cons_zero, List.set_cons_succ, i64_w, i32_w]
         rfl
        refine pure_ (i := 4) (N := some 48) (v := ?_) (a' := ?_) #[true, true, true, true, true] rfl rfl (by kernel_rfl) (fun _ _ _ h => h) (Or.inl ⟨by rfl, ?_⟩) ?_ ?_
        rotate_left
        ·intro w'
         go_simp
         with_reducible rfl
        rotate_left
        ·simp only [Act.put, List.setIfInBounds_toArray, List.set_cons_zero, List.set_cons_succ, i64_w, i32_w]
         rfl
        refine done_ (by kernel_rfl) ?_
        try go_wp2
        replace BK347 := Aside0.mk (blk_drew BK347.out)
        replace BK348 := Aside0.mk (blk_drew BK348.out)
        replace BK353 := Aside0.mk (blk_drew BK353.out)
        replace BK354 := Aside0.mk (blk_drew BK354.out)
        replace HB := Aside0.mk (below_drew1 HB.out)
        refine start_ (n := 14) (S := fun w' => w'.cell? ⟨gb354, 0, none⟩ = some (.int .u64 t351) ∧ w'.cell? ⟨gb354, 1, none⟩ = some (.int .u64 t352) ∧ w'.cell? ⟨gb347, 0, none⟩ = some (.int .u64 a1_0) ∧ w'.cell? ⟨gb347, 1, none⟩ = some (.int .u64 a1_1)) (ds := []) #[false, false, false, false, false, false, false, false, false, false, false, false, false, false] (by kernel_rfl) rfl rfl ⟨(blk_cell BK354.out 0).trans rfl, (blk_cell BK354.out 1).trans rfl, (blk_cell BK347.out 0).trans rfl, (blk_cell BK347.out 1).trans rfl⟩ (fun hHeld => ?_); refine with_tabW steeplelaw33_FrobPowers.tab10 steeplelaw33_FrobPowers.bits10 (fun HT_ HW_ => ?_)
        generalize w54.drew = w55 at BK347 BK348 BK353 BK354 HB hHeld ⊢
        refine one_ (i := 0) (N := some 49) #[true, false, false, false, false, false, false, false, false, false, false, false, false, false] rfl rfl (one_of HT_.out (by kernel_rfl)) (by decide) (fun K hK => ?_)
        refine goes_ Try.func14 (by kernel_rfl) rfl #[] (by rfl) rfl rfl (by (try simp only [List.map_toArray, List.map_cons, List.map_nil]); first | done | rfl | (simp only [List.length_drop, List.length_take]; rfl)) ?_
        with_reducible refine (steeplelaw33_awake.calls kj7  true _ A48.out).mono ?_
        rintro e w56 ⟨rfl, hb⟩
        refine ⟨_, rfl, ?_⟩
        replace BK347 := bb BK347 hb
        replace BK348 := bb BK348 hb
        replace BK353 := bb BK353 hb
        replace BK354 := bb BK354 hb
        replace HB := bh HB hb
        (try clear hb)
        (try clear hb2)
        (try clear hk)
        (try clear hi)
        refine hK.out _ _ ⟨(blk_cell BK354.out 0).trans rfl, (blk_cell BK354.out 1).trans rfl, (blk_cell BK347.out 0).trans rfl, (blk_cell BK347.out 1).trans rfl⟩ (fun hHeld => ?_)
        clear hK K
        refine norm_ (a' := ?_) ?_ ?_
        rotate_left
        ·show Act.put _ (some 49) _ = _
         simp only [Act.put, List.setIfInBounds_toArray, List.set_cons_zero, List.set_cons_succ, i64_w, i32_w]
         rfl
        refine pure_ (i := 1) (N := some 50) (v := ?_) (a' := ?_) #[true, true, false, false, false, false, false, false, false, false, false, false, false, false] rfl rfl (any_of HT_.out (by kernel_rfl)) (fun _ _ _ h => h) (Or.inl ⟨by rfl, ?_⟩) ?_ ?_
        rotate_left
        ·intro w'
         go_simp
         with_reducible rfl
        rotate_left
        ·simp only [Act.put, List.setIfInBounds_toArray, List.set_cons_zero, List.set_cons_succ, i64_w, i32_w]
         rfl
        refine pure_ (i := 2) (N := some 51) (v := ?_) (a' := ?_) #[true, true, true, false, false, false, false, false, false, false, false, false, false, false] rfl rfl (any_of HT_.out (by kernel_rfl)) (fun _ _ _ h => h) (Or.inl ⟨by rfl, ?_⟩) ?_ ?_
        rotate_left
        ·intro w'
         go_simp
         with_reducible rfl
        rotate_left
        ·simp only [Act.put, List.setIfInBounds_toArray, List.set_cons_zero, List.set_cons_succ, i64_w, i32_w]
         rfl
        refine take_ (i := 3) (N := some 52) (v := ?_) (a' := ?_) #[true, true, true, true, false, false, false, false, false, false, false, false, false, false] rfl rfl (take_ofW HT_.out HW_.out (by kernel_rfl)) (fun _ _ _ h => h) (Or.inl ⟨by rfl, ?_⟩) hHeld ?_ ?_
        rotate_left
        ·rintro w' ⟨s0, s1, s2, s3⟩
         go_simp
         with_reducible rfl
        rotate_left
        ·simp only [Act.put, List.setIfInBounds_toArray, List.set_cons_zero, List.set_cons_succ, i64_w, i32_w]
         rfl
        refine one_ (i := 4) (N := some 53) #[true, true, true, true, true, false, false, false, false, false, false, false, false, false] rfl rfl (one_of HT_.out (by kernel_rfl)) (by decide) (fun K hK => ?_)
        refine goes_ Try.func26 (by kernel_rfl) rfl #[.int .i64 a0, .agg #[.int .u64 t351, .int .u64 t352]] (by rfl) rfl rfl (by (try simp only [List.map_toArray, List.map_cons, List.map_nil]); first | done | rfl | (simp only [List.length_drop, List.length_take]; rfl)) ?_
        with_reducible refine (octet_Of.calls kj7 a0 t351 t352 true _ A50.out).mono ?_
        rintro e w57 ⟨rfl, hb⟩
        refine ⟨_, rfl, ?_⟩
        replace BK347 := bb BK347 hb
        replace BK348 := bb BK348 hb
        replace BK353 := bb BK353 hb
        replace BK354 := bb BK354 hb
        replace HB := bh HB hb
        (try clear hb)
        (try clear hb2)
        (try clear hk)
        (try clear hi)
        refine hK.out _ _ ⟨(blk_cell BK354.out 0).trans rfl, (blk_cell BK354.out 1).trans rfl, (blk_cell BK347.out 0).trans rfl, (blk_cell BK347.out 1).trans rfl⟩ (fun hHeld => ?_)
        clear hK K
        refine norm_ (a' := ?_) ?_ ?_
        rotate_left
        ·show Act.put _ (some 53) _ = _
         simp only [Act.put, List.setIfInBounds_toArray, List.set_cons_zero, List.set_cons_succ, i64_w, i32_w]
         rfl
        refine pure_ (i := 5) (N := some 54) (v := ?_) (a' := ?_) #[true, true, true, true, true, true, false, false, false, false, false, false, false, false] rfl rfl (any_of HT_.out (by kernel_rfl)) (fun _ _ _ h => h) (Or.inl ⟨by rfl, ?_⟩) ?_ ?_
        rotate_left
        ·intro w'
         go_simp
         with_reducible rfl
        rotate_left
        ·simp only [Act.put, List.setIfInBounds_toArray, List.set_cons_zero, List.set_cons_succ, i64_w, i32_w]
         rfl
        refine pure_ (i := 6) (N := some 55) (v := ?_) (a' := ?_) #[true, true, true, true, true, true, true, false, false, false, false, false, false, false] rfl rfl (any_of HT_.out (by kernel_rfl)) (fun _ _ _ h => h) (Or.inl ⟨by rfl, ?_⟩) ?_ ?_
        rotate_left
        ·intro w'
         go_simp
         with_reducible rfl
        rotate_left
        ·simp only [Act.put, List.setIfInBounds_toArray, List.set_cons_zero, List.set_cons_succ, i64_w, i32_w]
         rfl
        refine take_ (i := 7) (N := some 56) (v := ?_) (a' := ?_) #[true, true, true, true, true, true, true, true, false, false, false, false, false, false] rfl rfl (take_ofW HT_.out HW_.out (by kernel_rfl)) (fun _ _ _ h => h) (Or.inl ⟨by rfl, ?_⟩) hHeld ?_ ?_
        rotate_left
        ·rintro w' ⟨s0, s1, s2, s3⟩
         go_simp
         with_reducible rfl
        rotate_left
        ·simp only [Act.put, List.setIfInBounds_toArray, List.set_cons_zero, List.set_cons_succ, i64_w, i32_w]
         rfl
        refine take_ (i := 8) (N := some 57) (v := ?_) (a' := ?_) #[true, true, true, true, true, true, true, true, true, false, false, false, false, false] rfl rfl (take_ofW HT_.out HW_.out (by kernel_rfl)) (fun _ _ _ h => h) (Or.inl ⟨by rfl, ?_⟩) hHeld ?_ ?_
        rotate_left
        ·rintro w' ⟨s0, s1, s2, s3⟩
         go_simp
         with_reducible rfl
        rotate_left
        ·simp only [Act.put, List.setIfInBounds_toArray, List.set_cons_zero, List.set_cons_succ, i64_w, i32_w]
         rfl
        refine take_ (i := 9) (N := some 58) (v := ?_) (a' := ?_) #[true, true, true, true, true, true, true, true, true, true, false, false, false, false] rfl rfl (take_ofW HT_.out HW_.out (by kernel_rfl)) (fun _ _ _ h => h) (Or.inl ⟨by rfl, ?_⟩) hHeld ?_ ?_
        rotate_left
        ·rintro w' ⟨s0, s1, s2, s3⟩
         go_simp
         with_reducible rfl
        rotate_left
        ·simp only [Act.put, List.setIfInBounds_toArray, List.set_cons_zero, List.set_cons_succ, i64_w, i32_w]
         rfl
        refine one_ (i := 10) (N := some 59) #[true, true, true, true, true, true, true, true, true, true, true, false, false, false] rfl rfl (one_of HT_.out (by kernel_rfl)) (by decide) (fun K hK => ?_)
        refine goes_ Try.func22 (by kernel_rfl) rfl #[.agg #[.int .u64 t351, .int .u64 t352], .agg #[.int .u64 t351, .int .u64 t352]] (by rfl) rfl rfl (by (try simp only [List.map_toArray, List.map_cons, List.map_nil]); first | done | rfl | (simp only [List.length_drop, List.length_take]; rfl)) ?_
        with_reducible refine (steepleref02_Product.calls kj7 t351 t352 t351 t352 t366 t367 _ A52.out).mono ?_
        rintro e w58 ⟨rfl, hb⟩
        refine ⟨_, rfl, ?_⟩
        replace BK347 := bb BK347 hb
        replace BK348 := bb BK348 hb
        replace BK353 := bb BK353 hb
        replace BK354 := bb BK354 hb
        replace HB := bh HB hb
        (try clear hb)
        (try clear hb2)
        (try clear hk)
        (try clear hi)
        refine hK.out _ _ ⟨(blk_cell BK354.out 0).trans rfl, (blk_cell BK354.out 1).trans rfl, (blk_cell BK347.out 0).trans rfl, (blk_cell BK347.out 1).trans rfl⟩ (fun hHeld => ?_)
        clear hK K
        refine norm_ (a' := ?_) ?_ ?_
        rotate_left
        ·show Act.put _ (some 59) _ = _
         simp only [Act.put, List.setIfInBounds_toArray, List.set_cons_zero, List.set_cons_succ, i64_w, i32_w]
         rfl
        refine pure_ (i := 11) (N := some 60) (v := ?_) (a' := ?_) #[true, true, true, true, true, true, true, true, true, true, true, true, false, false] rfl rfl (any_of HT_.out (by kernel_rfl)) (fun _ _ _ h => h) (Or.inl ⟨by rfl, ?_⟩) ?_ ?_
        rotate_left
        ·intro w'
         go_simp
         with_reducible rfl
        rotate_left
        ·simp only [Act.put, List.setIfInBounds_toArray, List.set_cons_zero, List.set_cons_succ, i64_w, i32_w]
         rfl
        refine pure_ (i := 12) (N := some 61) (v := ?_) (a' := ?_) #[true, true, true, true, true, true, true, true, true, true, true, true, true, false] rfl rfl (any_of HT_.out (by kernel_rfl)) (fun _ _ _ h => h) (Or.inl ⟨by rfl, ?_⟩) ?_ ?_
        rotate_left
        ·intro w'
         go_simp
         with_reducible rfl
        rotate_left
        ·simp only [Act.put, List.setIfInBounds_toArray, List.set_cons_zero, List.set_cons_succ, i64_w, i32_w]
         rfl
        refine pure_ (i := 13) (N := some 6) (v := ?_) (a' := ?_) #[true, true, true, true, true, true, true, true, true, true, true, true, true, true] rfl rfl (any_of HT_.out (by kernel_rfl)) (fun _ _ _ h => h) (Or.inl ⟨by rfl, ?_⟩) ?_ ?_
        rotate_left
        ·intro w'
         go_simp
         with_reducible rfl
        rotate_left
        ·simp only [Act.put, List.setIfInBounds_toArray, List.set_cons_zero, List.set_cons_succ, i64_w, i32_w]
         rfl
        refine done_ (done_of HT_.out (by kernel_rfl)) ?_
        try go_wp2
        go_ret
        exact ⟨by first | rfl | (simp [errW_none, errW_some] <;> rfl) | (simp [*, errW_none, errW_some] <;> rfl), bq HB.out⟩
       ·replace c51 := Bool.eq_false_iff.mpr c51
        subst c51
        have H1 : (none) = some r := by rw [if_neg (show ¬ (false = true) by decide)] at H; exact H
        clear H
        have H := H1
        clear H1
        exact absurd H (by simp)
      ·replace c49 := Bool.eq_false_iff.mpr c49
       subst c49
       have H1 : (none) = some r := by rw [if_neg (show ¬ (false = true) by decide)] at H; exact H
       clear H
       have H := H1
       clear H1
       exact absurd H (by simp)
 ·replace c7 := Bool.eq_false_iff.mpr c7
  subst c7
  have H1 : ((steeplelaw33_awake.f k).bind fun t356 => (if t356 = true then (if (t349 == 0 && (t350 == 0)) = true then (some (t351 == 0 && (t352 == 0))) else (none)) else (none))) = some r := by rw [if_neg (show ¬ (false = true) by decide)] at H; exact H
  clear H
  have H := H1
  clear H1
  replace H := Option.bind_eq_some_iff.mp H
  obtain ⟨t356, A590, H⟩ := H
  replace H : (if t356 = true then (if (t349 == 0 && (t350 == 0)) = true then (some (t351 == 0 && (t352 == 0))) else (none)) else (none)) = some r := H
  have A59 := Aside0.mk A590
  clear A590
  by_cases c60 : t356 = true
  ·subst c60
   have H1 : (if (t349 == 0 && (t350 == 0)) = true then (some (t351 == 0 && (t352 == 0))) else (none)) = some r := by rw [if_pos rfl] at H; exact H
   clear H
   have H := H1
   clear H1
   by_cases c61 : (t349 == 0 && (t350 == 0)) = true
   ·rw [if_pos c61] at H
    have c61b0 : (t349 == 0 && (t350 == 0)) = true := c61
    (try (have c61b1 : decide (t349 = 0 && (t350 == 0)) = true := by simpa using c61))
    (try (have c61b2 : (t349 == 0 && (t350 == 0)) = true := by simpa using c61))
    clear c61
    obtain rfl := Option.some.inj H
    go_enter Try.func6, Try.ntmps6
    try go_wp2_with (first | ((with_reducible refine gate_dst (N := 4) rfl ?_); refine box_event ?hg (N := 4) ?hd (cs := #[.int .u64 a1_0, .int .u64 a1_1]) (t := 24) ?hr ?_; (case hd => rfl); (case hg => rfl); (case hr => first | (go_simp; done) | (go_simp; rfl)); intro gb347 hg w62 hbox hb; have BK347 := Aside0.mk hbox; have GW347 := ge hg HB; have GE347 := ge hg HB; replace HB := bh HB hb; clear hb hbox hg; obtain ⟨hcz63_0, hcz63_1⟩ := zc2 BK347; obtain ⟨hfz63_0, hfz63_1⟩ := zf2 BK347) | ((with_reducible refine gate_dst (N := 7) rfl ?_); refine box_event ?hg (N := 7) ?hd (cs := #[.int .u64 0, .int .u64 0]) (t := 37) ?hr ?_; (case hd => rfl); (case hg => rfl); (case hr => first | (go_simp; done) | (go_simp; rfl)); intro gb348 hg w64 hbox hb; have BK348 := Aside0.mk hbox; have GW348 := ge hg HB; have GE348 := ge hg HB; have NB347_348 := nl hg BK347; have NB348_347 := ng hg BK347; replace BK347 := bb BK347 hb; replace HB := bh HB hb; clear hb hbox hg; have hnb65 := NB348_347.out; have hnc65 := NB347_348.out; obtain ⟨hcz66_0, hcz66_1⟩ := zc2 BK348; obtain ⟨hfz66_0, hfz66_1⟩ := zf2 BK348))
    have n0_ : Aside0 (((w64.setCell ⟨gb348, 0, none⟩ (.int .u64 a1_0)).setCell ⟨gb348, 1, none⟩ (.int .u64 a1_1)).heap[gb347]? = some (.cells #[.int .u64 a1_0, .int .u64 a1_1] 24 (0, 0))) := ⟨by (with_reducible repeat refine bl ?_); refine blk_far ?_ NB347_348.out _; (with_reducible repeat refine bl ?_); refine blk_far ?_ NB347_348.out _; (with_reducible repeat refine bl ?_); exact BK347.out⟩
    have n1_ : Aside0 (((w64.setCell ⟨gb348, 0, none⟩ (.int .u64 a1_0)).setCell ⟨gb348, 1, none⟩ (.int .u64 a1_1)).heap[gb348]? = some (.cells #[.int .u64 a1_0, .int .u64 a1_1] 37 (0, 0))) := ⟨by (with_reducible repeat refine bl ?_); refine blk_put (cs := #[.int .u64 a1_0, .int .u64 0]) ?_ 1 _ rfl; (with_reducible repeat refine bl ?_); refine blk_put (cs := #[.int .u64 0, .int .u64 0]) ?_ 0 _ rfl; (with_reducible repeat refine bl ?_); exact BK348.out⟩
    have n2_ : Aside0 (Below w.heap.size w ((w64.setCell ⟨gb348, 0, none⟩ (.int .u64 a1_0)).setCell ⟨gb348, 1, none⟩ (.int .u64 a1_1))) := ⟨bq HB.out⟩
    (try clear BK347)
    (try clear BK348)
    (try clear HB)
    generalize ((w64.setCell ⟨gb348, 0, none⟩ (.int .u64 a1_0)).setCell ⟨gb348, 1, none⟩ (.int .u64 a1_1)) = w67 at n0_ n1_ n2_ ⊢
    have BK347 := n0_
    have BK348 := n1_
    have HB := n2_
    clear n0_ n1_ n2_
    replace BK347 := Aside0.mk (blk_drew BK347.out)
    replace BK348 := Aside0.mk (blk_drew BK348.out)
    replace HB := Aside0.mk (below_drew1 HB.out)
    refine start_ (n := 11) (S := fun w' => w'.cell? ⟨gb347, 0, none⟩ = some (.int .u64 a1_0) ∧ w'.cell? ⟨gb347, 1, none⟩ = some (.int .u64 a1_1)) (ds := []) #[false, false, false, false, false, false, false, false, false, false, false] (by kernel_rfl) rfl rfl ⟨(blk_cell BK347.out 0).trans rfl, (blk_cell BK347.out 1).trans rfl⟩ (fun hHeld => ?_); refine with_tabW steeplelaw33_FrobPowers.tab2 steeplelaw33_FrobPowers.bits2 (fun HT_ HW_ => ?_)
    generalize w67.drew = w68 at BK347 BK348 HB hHeld ⊢
    refine pure_ (i := 0) (N := some 11) (v := ?_) (a' := ?_) #[true, false, false, false, false, false, false, false, false, false, false] rfl rfl (any_of HT_.out (by kernel_rfl)) (fun _ _ _ h => h) (Or.inl ⟨by rfl, ?_⟩) ?_ ?_
    rotate_left
    ·intro w'
     go_simp
     with_reducible rfl
    rotate_left
    ·simp only [Act.put, List.setIfInBounds_toArray, List.set_cons_zero, List.set_cons_succ, i64_w, i32_w]
     rfl
    refine pure_ (i := 2) (N := some 13) (v := ?_) (a' := ?_) #[true, false, true, false, false, false, false, false, false, false, false] rfl rfl (any_of HT_.out (by kernel_rfl)) (fun _ _ _ h => h) (Or.inl ⟨by rfl, ?_⟩) ?_ ?_
    rotate_left
    ·intro w'
     go_simp
     with_reducible rfl
    rotate_left
    ·simp only [Act.put, List.setIfInBounds_toArray, List.set_cons_zero, List.set_cons_succ, i64_w, i32_w]
     rfl
    refine pure_ (i := 4) (N := some 15) (v := ?_) (a' := ?_) #[true, false, true, false, true, false, false, false, false, false, false] rfl rfl (any_of HT_.out (by kernel_rfl)) (fun _ _ _ h => h) (Or.inl ⟨by rfl, ?_⟩) ?_ ?_
    rotate_left
    ·intro w'
     go_simp
     with_reducible rfl
    rotate_left
    ·simp only [Act.put, List.setIfInBounds_toArray, List.set_cons_zero, List.set_cons_succ, i64_w, i32_w]
     rfl
    refine take_ (i := 1) (N := some 12) (v := ?_) (a' := ?_) #[true, true, true, false, true, false, false, false, false, false, false] rfl rfl (take_ofW HT_.out HW_.out (by kernel_rfl)) (fun _ _ _ h => h) (Or.inl ⟨by rfl, ?_⟩) hHeld ?_ ?_
    rotate_left
    ·rintro w' ⟨s0, s1⟩
     go_simp
     with_reducible rfl
    rotate_left
    ·simp only [Act.put, List.setIfInBounds_toArray, List.set_cons_zero, List.set_cons_succ, i64_w, i32_w]
     rfl
    refine take_ (i := 5) (N := some 16) (v := ?_) (a' := ?_) #[true, true, true, false, true, true, false, false, false, false, false] rfl rfl (take_ofW HT_.out HW_.out (by kernel_rfl)) (fun _ _ _ h => h) (Or.inl ⟨by rfl, ?_⟩) hHeld ?_ ?_
    rotate_left
    ·rintro w' ⟨s0, s1⟩
     go_simp
     with_reducible rfl
    rotate_left
    ·simp only [Act.put, List.setIfInBounds_toArray, List.set_cons_zero, List.set_cons_succ, i64_w, i32_w]
     rfl
    refine join_ (σ := Nat × Nat) 2 #[true, true, true, true, true, true, true, true, true, false, false] (fun s_ => [(14, .agg #[.int .u64 t349, .int .u64 t350]), (17, .agg #[.int .u64 t351, .int .u64 t352]), (8, .pointer (some ⟨s_.1, 0, none⟩)), (9, .pointer (some ⟨s_.2, 0, none⟩))]) (fun s_ w' => (w'.cell? ⟨gb347, 0, none⟩ = some (.int .u64 a1_0) ∧ w'.cell? ⟨gb347, 1, none⟩ = some (.int .u64 a1_1)) ∧ (w'.heap[gb347]? = some (.cells #[.int .u64 a1_0, .int .u64 a1_1] 24 (0, 0))) ∧ (w'.heap[gb348]? = some (.cells #[.int .u64 a1_0, .int .u64 a1_1] 37 (0, 0))) ∧ (w'.heap[s_.1]? = some (.cells #[.int .u64 0, .int .u64 0] 24 (0, 0))) ∧ (w'.heap[s_.2]? = some (.cells #[.int .u64 0, .int .u64 0] 24 (0, 0))) ∧ (w.heap.size ≤ s_.1) ∧ (w.heap.size ≤ s_.1) ∧ (gb347 ≠ s_.1) ∧ (s_.1 ≠ gb347) ∧ (gb348 ≠ s_.1) ∧ (s_.1 ≠ gb348) ∧ (s_.2 ≠ s_.1) ∧ (s_.1 ≠ s_.2) ∧ (w.heap.size ≤ s_.2) ∧ (w.heap.size ≤ s_.2) ∧ (gb347 ≠ s_.2) ∧ (s_.2 ≠ gb347) ∧ (gb348 ≠ s_.2) ∧ (s_.2 ≠ gb348) ∧ (Below w.heap.size w w')) ?_ ?_
    rotate_left
    ·intro hJ3_6_7_8
     refine join_ (σ := Nat) 3 #[true, true, true, true, true, true, true, true, false, false, false] (fun s_ => [(14, .agg #[.int .u64 t349, .int .u64 t350]), (17, .agg #[.int .u64 t351, .int .u64 t352]), (8, .pointer (some ⟨s_, 0, none⟩))]) (fun s_ w' => (w'.cell? ⟨gb347, 0, none⟩ = some (.int .u64 a1_0) ∧ w'.cell? ⟨gb347, 1, none⟩ = some (.int .u64 a1_1)) ∧ (w'.heap[gb347]? = some (.cells #[.int .u64 a1_0, .int .u64 a1_1] 24 (0, 0))) ∧ (w'.heap[gb348]? = some (.cells #[.int .u64 a1_0, .int .u64 a1_1] 37 (0, 0))) ∧ (w'.heap[s_]? = some (.cells #[.int .u64 0, .int .u64 0] 24 (0, 0))) ∧ (w.heap.size ≤ s_) ∧ (w.heap.size ≤ s_) ∧ (gb347 ≠ s_) ∧ (s_ ≠ gb347) ∧ (gb348 ≠ s_) ∧ (s_ ≠ gb348) ∧ (Below w.heap.size w w')) ?_ ?_
     rotate_left
     ·intro hJ3_6_7
      refine join_ (σ := Nat) 3 #[true, true, true, true, true, true, true, false, true, false, false] (fun s_ => [(14, .agg #[.int .u64 t349, .int .u64 t350]), (17, .agg #[.int .u64 t351, .int .u64 t352]), (9, .pointer (some ⟨s_, 0, none⟩))]) (fun s_ w' => (w'.cell? ⟨gb347, 0, none⟩ = some (.int .u64 a1_0) ∧ w'.cell? ⟨gb347, 1, none⟩ = some (.int .u64 a1_1)) ∧ (w'.heap[gb347]? = some (.cells #[.int .u64 a1_0, .int .u64 a1_1] 24 (0, 0))) ∧ (w'.heap[gb348]? = some (.cells #[.int .u64 a1_0, .int .u64 a1_1] 37 (0, 0))) ∧ (w'.heap[s_]? = some (.cells #[.int .u64 0, .int .u64 0] 24 (0, 0))) ∧ (w.heap.size ≤ s_) ∧ (w.heap.size ≤ s_) ∧ (gb347 ≠ s_) ∧ (s_ ≠ gb347) ∧ (gb348 ≠ s_) ∧ (s_ ≠ gb348) ∧ (Below w.heap.size w w')) ?_ ?_
      rotate_left
      ·intro hJ3_6_8
       refine join_ (σ := Nat × Nat) 3 #[true, true, true, true, true, true, false, true, true, false, false] (fun s_ => [(14, .agg #[.int .u64 t349, .int .u64 t350]), (8, .pointer (some ⟨s_.1, 0, none⟩)), (9, .pointer (some ⟨s_.2, 0, none⟩))]) (fun s_ w' => (w'.cell? ⟨gb347, 0, none⟩ = some (.int .u64 a1_0) ∧ w'.cell? ⟨gb347, 1, none⟩ = some (.int .u64 a1_1)) ∧ (w'.heap[gb347]? = some (.cells #[.int .u64 a1_0, .int .u64 a1_1] 24 (0, 0))) ∧ (w'.heap[gb348]? = some (.cells #[.int .u64 a1_0, .int .u64 a1_1] 37 (0, 0))) ∧ (w'.heap[s_.1]? = some (.cells #[.int .u64 0, .int .u64 0] 24 (0, 0))) ∧ (w'.heap[s_.2]? = some (.cells #[.int .u64 0, .int .u64 0] 24 (0, 0))) ∧ (w.heap.size ≤ s_.1) ∧ (w.heap.size ≤ s_.1) ∧ (gb347 ≠ s_.1) ∧ (s_.1 ≠ gb347) ∧ (gb348 ≠ s_.1) ∧ (s_.1 ≠ gb348) ∧ (s_.2 ≠ s_.1) ∧ (s_.1 ≠ s_.2) ∧ (w.heap.size ≤ s_.2) ∧ (w.heap.size ≤ s_.2) ∧ (gb347 ≠ s_.2) ∧ (s_.2 ≠ gb347) ∧ (gb348 ≠ s_.2) ∧ (s_.2 ≠ gb348) ∧ (Below w.heap.size w w')) ?_ ?_
       rotate_left
       ·intro hJ3_7_8
        refine join_ (σ := Unit) 4 #[true, true, true, true, true, true, true, false, false, false, false] (fun s_ => [(14, .agg #[.int .u64 t349, .int .u64 t350]), (17, .agg #[.int .u64 t351, .int .u64 t352])]) (fun s_ w' => (w'.cell? ⟨gb347, 0, none⟩ = some (.int .u64 a1_0) ∧ w'.cell? ⟨gb347, 1, none⟩ = some (.int .u64 a1_1)) ∧ (w'.heap[gb347]? = some (.cells #[.int .u64 a1_0, .int .u64 a1_1] 24 (0, 0))) ∧ (w'.heap[gb348]? = some (.cells #[.int .u64 a1_0, .int .u64 a1_1] 37 (0, 0))) ∧ (Below w.heap.size w w')) ?_ ?_
        rotate_left
        ·intro hJ3_6
         refine join_ (σ := Nat) 4 #[true, true, true, true, true, true, false, true, false, false, false] (fun s_ => [(14, .agg #[.int .u64 t349, .int .u64 t350]), (8, .pointer (some ⟨s_, 0, none⟩))]) (fun s_ w' => (w'.cell? ⟨gb347, 0, none⟩ = some (.int .u64 a1_0) ∧ w'.cell? ⟨gb347, 1, none⟩ = some (.int .u64 a1_1)) ∧ (w'.heap[gb347]? = some (.cells #[.int .u64 a1_0, .int .u64 a1_1] 24 (0, 0))) ∧ (w'.heap[gb348]? = some (.cells #[.int .u64 a1_0, .int .u64 a1_1] 37 (0, 0))) ∧ (w'.heap[s_]? = some (.cells #[.int .u64 0, .int .u64 0] 24 (0, 0))) ∧ (w.heap.size ≤ s_) ∧ (w.heap.size ≤ s_) ∧ (gb347 ≠ s_) ∧ (s_ ≠ gb347) ∧ (gb348 ≠ s_) ∧ (s_ ≠ gb348) ∧ (Below w.heap.size w w')) ?_ ?_
         rotate_left
         ·intro hJ3_7
          refine join_ (σ := Nat) 4 #[true, true, true, true, true, true, false, false, true, false, false] (fun s_ => [(14, .agg #[.int .u64 t349, .int .u64 t350]), (9, .pointer (some ⟨s_, 0, none⟩))]) (fun s_ w' => (w'.cell? ⟨gb347, 0, none⟩ = some (.int .u64 a1_0) ∧ w'.cell? ⟨gb347, 1, none⟩ = some (.int .u64 a1_1)) ∧ (w'.heap[gb347]? = some (.cells #[.int .u64 a1_0, .int .u64 a1_1] 24 (0, 0))) ∧ (w'.heap[gb348]? = some (.cells #[.int .u64 a1_0, .int .u64 a1_1] 37 (0, 0))) ∧ (w'.heap[s_]? = some (.cells #[.int .u64 0, .int .u64 0] 24 (0, 0))) ∧ (w.heap.size ≤ s_) ∧ (w.heap.size ≤ s_) ∧ (gb347 ≠ s_) ∧ (s_ ≠ gb347) ∧ (gb348 ≠ s_) ∧ (s_ ≠ gb348) ∧ (Below w.heap.size w w')) ?_ ?_
          rotate_left
          ·intro hJ3_8
           refine join_ (σ := Nat × Nat) 4 #[true, true, true, false, true, true, false, true, true, false, false] (fun s_ => [(8, .pointer (some ⟨s_.1, 0, none⟩)), (9, .pointer (some ⟨s_.2, 0, none⟩))]) (fun s_ w' => (w'.cell? ⟨gb347, 0, none⟩ = some (.int .u64 a1_0) ∧ w'.cell? ⟨gb347, 1, none⟩ = some (.int .u64 a1_1)) ∧ (w'.heap[gb347]? = some (.cells #[.int .u64 a1_0, .int .u64 a1_1] 24 (0, 0))) ∧ (w'.heap[gb348]? = some (.cells #[.int .u64 a1_0, .int .u64 a1_1] 37 (0, 0))) ∧ (w'.heap[s_.1]? = some (.cells #[.int .u64 0, .int .u64 0] 24 (0, 0))) ∧ (w'.heap[s_.2]? = some (.cells #[.int .u64 0, .int .u64 0] 24 (0, 0))) ∧ (w.heap.size ≤ s_.1) ∧ (w.heap.size ≤ s_.1) ∧ (gb347 ≠ s_.1) ∧ (s_.1 ≠ gb347) ∧ (gb348 ≠ s_.1) ∧ (s_.1 ≠ gb348) ∧ (s_.2 ≠ s_.1) ∧ (s_.1 ≠ s_.2) ∧ (w.heap.size ≤ s_.2) ∧ (w.heap.size ≤ s_.2) ∧ (gb347 ≠ s_.2) ∧ (s_.2 ≠ gb347) ∧ (gb348 ≠ s_.2) ∧ (s_.2 ≠ gb348) ∧ (Below w.heap.size w w')) ?_ ?_
           rotate_left
           ·intro hJ7_8
            refine join_ (σ := Unit) 5 #[true, true, true, true, true, true, false, false, false, false, false] (fun s_ => [(14, .agg #[.int .u64 t349, .int .u64 t350])]) (fun s_ w' => (w'.cell? ⟨gb347, 0, none⟩ = some (.int .u64 a1_0) ∧ w'.cell? ⟨gb347, 1, none⟩ = some (.int .u64 a1_1)) ∧ (w'.heap[gb347]? = some (.cells #[.int .u64 a1_0, .int .u64 a1_1] 24 (0, 0))) ∧ (w'.heap[gb348]? = some (.cells #[.int .u64 a1_0, .int .u64 a1_1] 37 (0, 0))) ∧ (Below w.heap.size w w')) ?_ ?_
            rotate_left
            ·intro hJ3
             refine join_ (σ := Nat) 5 #[true, true, true, false, true, true, false, true, false, false, false] (fun s_ => [(8, .pointer (some ⟨s_, 0, none⟩))]) (fun s_ w' => (w'.cell? ⟨gb347, 0, none⟩ = some (.int .u64 a1_0) ∧ w'.cell? ⟨gb347, 1, none⟩ = some (.int .u64 a1_1)) ∧ (w'.heap[gb347]? = some (.cells #[.int .u64 a1_0, .int .u64 a1_1] 24 (0, 0))) ∧ (w'.heap[gb348]? = some (.cells #[.int .u64 a1_0, .int .u64 a1_1] 37 (0, 0))) ∧ (w'.heap[s_]? = some (.cells #[.int .u64 0, .int .u64 0] 24 (0, 0))) ∧ (w.heap.size ≤ s_) ∧ (w.heap.size ≤ s_) ∧ (gb347 ≠ s_) ∧ (s_ ≠ gb347) ∧ (gb348 ≠ s_) ∧ (s_ ≠ gb348) ∧ (Below w.heap.size w w')) ?_ ?_
             rotate_left
             ·intro hJ7
              refine join_ (σ := Nat) 5 #[true, true, true, false, true, true, false, false, true, false, false] (fun s_ => [(9, .pointer (some ⟨s_, 0, none⟩))]) (fun s_ w' => (w'.cell? ⟨gb347, 0, none⟩ = some (.int .u64 a1_0) ∧ w'.cell? ⟨gb347, 1, none⟩ = some (.int .u64 a1_1)) ∧ (w'.heap[gb347]? = some (.cells #[.int .u64 a1_0, .int .u64 a1_1] 24 (0, 0))) ∧ (w'.heap[gb348]? = some (.cells #[.int .u64 a1_0, .int .u64 a1_1] 37 (0, 0))) ∧ (w'.heap[s_]? = some (.cells #[.int .u64 0, .int .u64 0] 24 (0, 0))) ∧ (w.heap.size ≤ s_) ∧ (w.heap.size ≤ s_) ∧ (gb347 ≠ s_) ∧ (s_ ≠ gb347) ∧ (gb348 ≠ s_) ∧ (s_ ≠ gb348) ∧ (Below w.heap.size w w')) ?_ ?_
              rotate_left
              ·intro hJ8
               refine three_ (i := 3) (j := 7) (k := 8) (Ni := some 14) (Nj := some 8) (Nk := some 9) #[true, true, true, true, true, true, false, false, false, false, false] #[true, true, true, false, true, true, false, true, false, false, false] #[true, true, true, false, true, true, false, false, true, false, false] rfl rfl rfl rfl rfl rfl (three_of HT_.out (by kernel_rfl)) (by decide) (by decide) (by decide) (fun K hK => ?_) (fun K hK => ?_) (fun K hK => ?_)
               ·skip
                refine goes_ Try.func23 (by kernel_rfl) rfl #[.int .i64 a0, .agg #[.int .u64 a1_0, .int .u64 a1_1], .int .i64 a2] (by rfl) rfl rfl (by (try simp only [List.map_toArray, List.map_cons, List.map_nil]); first | done | rfl | (simp only [List.length_drop, List.length_take]; rfl)) ?_
                with_reducible refine (frob_Power.calls k a0 a1_0 a1_1 a2 t349 t350 _ A4.out).mono ?_
                rintro e w69 ⟨rfl, hb⟩
                refine ⟨_, rfl, ?_⟩
                replace BK347 := bb BK347 hb
                replace BK348 := bb BK348 hb
                replace HB := bh HB hb
                (try clear hb)
                (try clear hb2)
                (try clear hk)
                (try clear hi)
                refine hK.out _ _ ⟨(blk_cell BK347.out 0).trans rfl, (blk_cell BK347.out 1).trans rfl⟩ (fun hHeld => ?_)
                clear hK K
                refine norm_ (a' := ?_) ?_ ?_
                rotate_left
                ·show Act.put _ (some 14) _ = _
                 simp only [Act.put, List.setIfInBounds_toArray, List.set_cons_zero, List.set_cons_succ, i64_w, i32_w]
                 rfl
                exact norm_ (by first | (simp only [putAll, Act.put, List.setIfInBounds_toArray, List.set_cons_zero, List.set_cons_succ]; done) | (simp only [putAll, Act.put, List.setIfInBounds_toArray, List.set_cons_zero, List.set_cons_succ]; rfl)) (hJ3 () _ ⟨hHeld, (bk BK347.out), (bk BK348.out), (bq HB.out)⟩)
               ·skip
                refine box_step ?hg (N := 8) ?hd (cs := #[.int .u64 0, .int .u64 0]) (t := 24) ?hr ?_; (case hd => rfl); (case hg => rfl); (case hr => first | (go_simp; done) | (go_simp; rfl))
                intro gb353 hg w69 hbox hb
                have BK353 := Aside0.mk hbox
                have GW353 := ge hg HB
                have GE353 := ge hg HB
                have NB347_353 := nl hg BK347
                have NB353_347 := ng hg BK347
                have NB348_353 := nl hg BK348
                have NB353_348 := ng hg BK348
                replace BK347 := bb BK347 hb
                replace BK348 := bb BK348 hb
                replace HB := bh HB hb
                clear hb hbox hg
                refine hK.out _ _ ⟨(blk_cell BK347.out 0).trans rfl, (blk_cell BK347.out 1).trans rfl⟩ (fun hHeld => ?_)
                clear hK K
                refine norm_ (a' := ?_) ?_ ?_
                rotate_left
                ·show Act.put _ (some 8) _ = _
                 simp only [Act.put, List.setIfInBounds_toArray, List.set_cons_zero, List.set_cons_succ, i64_w, i32_w]
                 rfl
                exact norm_ (by first | (simp only [putAll, Act.put, List.setIfInBounds_toArray, List.set_cons_zero, List.set_cons_succ]; done) | (simp only [putAll, Act.put, List.setIfInBounds_toArray, List.set_cons_zero, List.set_cons_succ]; rfl)) (hJ7 (gb353) _ ⟨hHeld, (bk BK347.out), (bk BK348.out), (bk BK353.out), GW353.out, GE353.out, NB347_353.out, NB353_347.out, NB348_353.out, NB353_348.out, (bq HB.out)⟩)
               ·skip
                refine box_step ?hg (N := 9) ?hd (cs := #[.int .u64 0, .int .u64 0]) (t := 24) ?hr ?_; (case hd => rfl); (case hg => rfl); (case hr => first | (go_simp; done) | (go_simp; rfl))
                intro gb354 hg w69 hbox hb
                have BK354 := Aside0.mk hbox
                have GW354 := ge hg HB
                have GE354 := ge hg HB
                have NB347_354 := nl hg BK347
                have NB354_347 := ng hg BK347
                have NB348_354 := nl hg BK348
                have NB354_348 := ng hg BK348
                replace BK347 := bb BK347 hb
                replace BK348 := bb BK348 hb
                replace HB := bh HB hb
                clear hb hbox hg
                refine hK.out _ _ ⟨(blk_cell BK347.out 0).trans rfl, (blk_cell BK347.out 1).trans rfl⟩ (fun hHeld => ?_)
                clear hK K
                refine norm_ (a' := ?_) ?_ ?_
                rotate_left
                ·show Act.put _ (some 9) _ = _
                 simp only [Act.put, List.setIfInBounds_toArray, List.set_cons_zero, List.set_cons_succ, i64_w, i32_w]
                 rfl
                exact norm_ (by first | (simp only [putAll, Act.put, List.setIfInBounds_toArray, List.set_cons_zero, List.set_cons_succ]; done) | (simp only [putAll, Act.put, List.setIfInBounds_toArray, List.set_cons_zero, List.set_cons_succ]; rfl)) (hJ8 (gb354) _ ⟨hHeld, (bk BK347.out), (bk BK348.out), (bk BK354.out), GW354.out, GE354.out, NB347_354.out, NB354_347.out, NB348_354.out, NB354_348.out, (bq HB.out)⟩)
              ·skip
               rintro gb354 w70 ⟨hS_, h0_, h1_, h2_, h3_, h4_, h5_, h6_, h7_, h8_, h9_⟩
               have n0_ : Aside0 (w70.heap[gb347]? = some (.cells #[.int .u64 a1_0, .int .u64 a1_1] 24 (0, 0))) := ⟨h0_⟩
               have n1_ : Aside0 (w70.heap[gb348]? = some (.cells #[.int .u64 a1_0, .int .u64 a1_1] 37 (0, 0))) := ⟨h1_⟩
               have n2_ : Aside0 (w70.heap[gb354]? = some (.cells #[.int .u64 0, .int .u64 0] 24 (0, 0))) := ⟨h2_⟩
               have n3_ : Aside0 (w.heap.size ≤ gb354) := ⟨h3_⟩
               have n4_ : Aside0 (w.heap.size ≤ gb354) := ⟨h4_⟩
               have n5_ : Aside0 (gb347 ≠ gb354) := ⟨h5_⟩
               have n6_ : Aside0 (gb354 ≠ gb347) := ⟨h6_⟩
               have n7_ : Aside0 (gb348 ≠ gb354) := ⟨h7_⟩
               have n8_ : Aside0 (gb354 ≠ gb348) := ⟨h8_⟩
               have n9_ : Aside0 (Below w.heap.size w w70) := ⟨h9_⟩
               clear BK347
               clear BK348
               clear HB
               clear h0_ h1_ h2_ h3_ h4_ h5_ h6_ h7_ h8_ h9_
               have BK347 := n0_
               have BK348 := n1_
               have BK354 := n2_
               have GW354 := Aside1.mk n3_.out
               have GE354 := Aside1.mk n4_.out
               have NB347_354 := n5_
               have NB354_347 := n6_
               have NB348_354 := n7_
               have NB354_348 := n8_
               have HB := n9_
               clear n0_ n1_ n2_ n3_ n4_ n5_ n6_ n7_ n8_ n9_
               have hHeld : w70.cell? ⟨gb347, 0, none⟩ = some (.int .u64 a1_0) ∧ w70.cell? ⟨gb347, 1, none⟩ = some (.int .u64 a1_1) := hS_
               refine norm_ (a' := ?_) ?_ ?_
               rotate_left
               ·simp only [putAll, Act.put, List.setIfInBounds_toArray, List.set_cons_zero, List.set_cons_succ]
                rfl
               refine two_ (i := 3) (j := 7) (Ni := some 14) (Nj := some 8) #[true, true, true, true, true, true, false, false, true, false, false] #[true, true, true, false, true, true, false, true, true, false, false] rfl rfl rfl rfl (two_of HT_.out (by kernel_rfl)) (by decide) (by decide) (fun K hK => ?_) (fun K hK => ?_)
               ·skip
                refine goes_ Try.func23 (by kernel_rfl) rfl #[.int .i64 a0, .agg #[.int .u64 a1_0, .int .u64 a1_1], .int .i64 a2] (by rfl) rfl rfl (by (try simp only [List.map_toArray, List.map_cons, List.map_nil]); first | done | rfl | (simp only [List.length_drop, List.length_take]; rfl)) ?_
                with_reducible refine (frob_Power.calls k a0 a1_0 a1_1 a2 t349 t350 _ A4.out).mono ?_
                rintro e w71 ⟨rfl, hb⟩
                refine ⟨_, rfl, ?_⟩
                replace BK347 := bb BK347 hb
                replace BK348 := bb BK348 hb
                replace BK354 := bb BK354 hb
                replace HB := bh HB hb
                (try clear hb)
                (try clear hb2)
                (try clear hk)
                (try clear hi)
                refine hK.out _ _ ⟨(blk_cell BK347.out 0).trans rfl, (blk_cell BK347.out 1).trans rfl⟩ (fun hHeld => ?_)
                clear hK K
                refine norm_ (a' := ?_) ?_ ?_
                rotate_left
                ·show Act.put _ (some 14) _ = _
                 simp only [Act.put, List.setIfInBounds_toArray, List.set_cons_zero, List.set_cons_succ, i64_w, i32_w]
                 rfl
                exact norm_ (by first | (simp only [putAll, Act.put, List.setIfInBounds_toArray, List.set_cons_zero, List.set_cons_succ]; done) | (simp only [putAll, Act.put, List.setIfInBounds_toArray, List.set_cons_zero, List.set_cons_succ]; rfl)) (hJ3_8 (gb354) _ ⟨hHeld, (bk BK347.out), (bk BK348.out), (bk BK354.out), GW354.out, GE354.out, NB347_354.out, NB354_347.out, NB348_354.out, NB354_348.out, (bq HB.out)⟩)
               ·skip
                refine box_step ?hg (N := 8) ?hd (cs := #[.int .u64 0, .int .u64 0]) (t := 24) ?hr ?_; (case hd => rfl); (case hg => rfl); (case hr => first | (go_simp; done) | (go_simp; rfl))
                intro gb353 hg w71 hbox hb
                have BK353 := Aside0.mk hbox
                have GW353 := ge hg HB
                have GE353 := ge hg HB
                have NB347_353 := nl hg BK347
                have NB353_347 := ng hg BK347
                have NB348_353 := nl hg BK348
                have NB353_348 := ng hg BK348
                have NB354_353 := nl hg BK354
                have NB353_354 := ng hg BK354
                replace BK347 := bb BK347 hb
                replace BK348 := bb BK348 hb
                replace BK354 := bb BK354 hb
                replace HB := bh HB hb
                clear hb hbox hg
                refine hK.out _ _ ⟨(blk_cell BK347.out 0).trans rfl, (blk_cell BK347.out 1).trans rfl⟩ (fun hHeld => ?_)
                clear hK K
                refine norm_ (a' := ?_) ?_ ?_
                rotate_left
                ·show Act.put _ (some 8) _ = _
                 simp only [Act.put, List.setIfInBounds_toArray, List.set_cons_zero, List.set_cons_succ, i64_w, i32_w]
                 rfl
                exact norm_ (by first | (simp only [putAll, Act.put, List.setIfInBounds_toArray, List.set_cons_zero, List.set_cons_succ]; done) | (simp only [putAll, Act.put, List.setIfInBounds_toArray, List.set_cons_zero, List.set_cons_succ]; rfl)) (hJ7_8 (gb353, gb354) _ ⟨hHeld, (bk BK347.out), (bk BK348.out), (bk BK353.out), (bk BK354.out), GW353.out, GE353.out, NB347_353.out, NB353_347.out, NB348_353.out, NB353_348.out, NB354_353.out, NB353_354.out, GW354.out, GE354.out, NB347_354.out, NB354_347.out, NB348_354.out, NB354_348.out, (bq HB.out)⟩)
             ·skip
              rintro gb353 w70 ⟨hS_, h0_, h1_, h2_, h3_, h4_, h5_, h6_, h7_, h8_, h9_⟩
              have n0_ : Aside0 (w70.heap[gb347]? = some (.cells #[.int .u64 a1_0, .int .u64 a1_1] 24 (0, 0))) := ⟨h0_⟩
              have n1_ : Aside0 (w70.heap[gb348]? = some (.cells #[.int .u64 a1_0, .int .u64 a1_1] 37 (0, 0))) := ⟨h1_⟩
              have n2_ : Aside0 (w70.heap[gb353]? = some (.cells #[.int .u64 0, .int .u64 0] 24 (0, 0))) := ⟨h2_⟩
              have n3_ : Aside0 (w.heap.size ≤ gb353) := ⟨h3_⟩
              have n4_ : Aside0 (w.heap.size ≤ gb353) := ⟨h4_⟩
              have n5_ : Aside0 (gb347 ≠ gb353) := ⟨h5_⟩
              have n6_ : Aside0 (gb353 ≠ gb347) := ⟨h6_⟩
              have n7_ : Aside0 (gb348 ≠ gb353) := ⟨h7_⟩
              have n8_ : Aside0 (gb353 ≠ gb348) := ⟨h8_⟩
              have n9_ : Aside0 (Below w.heap.size w w70) := ⟨h9_⟩
              clear BK347
              clear BK348
              clear HB
              clear h0_ h1_ h2_ h3_ h4_ h5_ h6_ h7_ h8_ h9_
              have BK347 := n0_
              have BK348 := n1_
              have BK353 := n2_
              have GW353 := Aside1.mk n3_.out
              have GE353 := Aside1.mk n4_.out
              have NB347_353 := n5_
              have NB353_347 := n6_
              have NB348_353 := n7_
              have NB353_348 := n8_
              have HB := n9_
              clear n0_ n1_ n2_ n3_ n4_ n5_ n6_ n7_ n8_ n9_
              have hHeld : w70.cell? ⟨gb347, 0, none⟩ = some (.int .u64 a1_0) ∧ w70.cell? ⟨gb347, 1, none⟩ = some (.int .u64 a1_1) := hS_
              refine norm_ (a' := ?_) ?_ ?_
              rotate_left
              ·simp only [putAll, Act.put, List.setIfInBounds_toArray, List.set_cons_zero, List.set_cons_succ]
               rfl
              refine two_ (i := 3) (j := 8) (Ni := some 14) (Nj := some 9) #[true, true, true, true, true, true, false, true, false, false, false] #[true, true, true, false, true, true, false, true, true, false, false] rfl rfl rfl rfl (two_of HT_.out (by kernel_rfl)) (by decide) (by decide) (fun K hK => ?_) (fun K hK => ?_)
              ·skip
               refine goes_ Try.func23 (by kernel_rfl) rfl #[.int .i64 a0, .agg #[.int .u64 a1_0, .int .u64 a1_1], .int .i64 a2] (by rfl) rfl rfl (by (try simp only [List.map_toArray, List.map_cons, List.map_nil]); first | done | rfl | (simp only [List.length_drop, List.length_take]; rfl)) ?_
               with_reducible refine (frob_Power.calls k a0 a1_0 a1_1 a2 t349 t350 _ A4.out).mono ?_
               rintro e w71 ⟨rfl, hb⟩
               refine ⟨_, rfl, ?_⟩
               replace BK347 := bb BK347 hb
               replace BK348 := bb BK348 hb
               replace BK353 := bb BK353 hb
               replace HB := bh HB hb
               (try clear hb)
               (try clear hb2)
               (try clear hk)
               (try clear hi)
               refine hK.out _ _ ⟨(blk_cell BK347.out 0).trans rfl, (blk_cell BK347.out 1).trans rfl⟩ (fun hHeld => ?_)
               clear hK K
               refine norm_ (a' := ?_) ?_ ?_
               rotate_left
               ·show Act.put _ (some 14) _ = _
                simp only [Act.put, List.setIfInBounds_toArray, List.set_cons_zero, List.set_cons_succ, i64_w, i32_w]
                rfl
               exact norm_ (by first | (simp only [putAll, Act.put, List.setIfInBounds_toArray, List.set_cons_zero, List.set_cons_succ]; done) | (simp only [putAll, Act.put, List.setIfInBounds_toArray, List.set_cons_zero, List.set_cons_succ]; rfl)) (hJ3_7 (gb353) _ ⟨hHeld, (bk BK347.out), (bk BK348.out), (bk BK353.out), GW353.out, GE353.out, NB347_353.out, NB353_347.out, NB348_353.out, NB353_348.out, (bq HB.out)⟩)
              ·skip
               refine box_step ?hg (N := 9) ?hd (cs := #[.int .u64 0, .int .u64 0]) (t := 24) ?hr ?_; (case hd => rfl); (case hg => rfl); (case hr => first | (go_simp; done) | (go_simp; rfl))
               intro gb354 hg w71 hbox hb
               have BK354 := Aside0.mk hbox
               have GW354 := ge hg HB
               have GE354 := ge hg HB
               have NB347_354 := nl hg BK347
               have NB354_347 := ng hg BK347
               have NB348_354 := nl hg BK348
               have NB354_348 := ng hg BK348
               have NB353_354 := nl hg BK353
               have NB354_353 := ng hg BK353
               replace BK347 := bb BK347 hb
               replace BK348 := bb BK348 hb
               replace BK353 := bb BK353 hb
               replace HB := bh HB hb
               clear hb hbox hg
               refine hK.out _ _ ⟨(blk_cell BK347.out 0).trans rfl, (blk_cell BK347.out 1).trans rfl⟩ (fun hHeld => ?_)
               clear hK K
               refine norm_ (a' := ?_) ?_ ?_
               rotate_left
               ·show Act.put _ (some 9) _ = _
                simp only [Act.put, List.setIfInBounds_toArray, List.set_cons_zero, List.set_cons_succ, i64_w, i32_w]
                rfl
               exact norm_ (by first | (simp only [putAll, Act.put, List.setIfInBounds_toArray, List.set_cons_zero, List.set_cons_succ]; done) | (simp only [putAll, Act.put, List.setIfInBounds_toArray, List.set_cons_zero, List.set_cons_succ]; rfl)) (hJ7_8 (gb353, gb354) _ ⟨hHeld, (bk BK347.out), (bk BK348.out), (bk BK353.out), (bk BK354.out), GW353.out, GE353.out, NB347_353.out, NB353_347.out, NB348_353.out, NB353_348.out, NB354_353.out, NB353_354.out, GW354.out, GE354.out, NB347_354.out, NB354_347.out, NB348_354.out, NB354_348.out, (bq HB.out)⟩)
            ·skip
             rintro _ w70 ⟨hS_, h0_, h1_, h2_⟩
             have n0_ : Aside0 (w70.heap[gb347]? = some (.cells #[.int .u64 a1_0, .int .u64 a1_1] 24 (0, 0))) := ⟨h0_⟩
             have n1_ : Aside0 (w70.heap[gb348]? = some (.cells #[.int .u64 a1_0, .int .u64 a1_1] 37 (0, 0))) := ⟨h1_⟩
             have n2_ : Aside0 (Below w.heap.size w w70) := ⟨h2_⟩
             clear BK347
             clear BK348
             clear HB
             clear h0_ h1_ h2_
             have BK347 := n0_
             have BK348 := n1_
             have HB := n2_
             clear n0_ n1_ n2_
             have hHeld : w70.cell? ⟨gb347, 0, none⟩ = some (.int .u64 a1_0) ∧ w70.cell? ⟨gb347, 1, none⟩ = some (.int .u64 a1_1) := hS_
             refine norm_ (a' := ?_) ?_ ?_
             rotate_left
             ·simp only [putAll, Act.put, List.setIfInBounds_toArray, List.set_cons_zero, List.set_cons_succ]
              rfl
             refine three_ (i := 6) (j := 7) (k := 8) (Ni := some 17) (Nj := some 8) (Nk := some 9) #[true, true, true, true, true, true, true, false, false, false, false] #[true, true, true, true, true, true, false, true, false, false, false] #[true, true, true, true, true, true, false, false, true, false, false] rfl rfl rfl rfl rfl rfl (three_of HT_.out (by kernel_rfl)) (by decide) (by decide) (by decide) (fun K hK => ?_) (fun K hK => ?_) (fun K hK => ?_)
             ·skip
              refine goes_ Try.func24 (by kernel_rfl) rfl #[.int .i64 a0, .agg #[.int .u64 a1_0, .int .u64 a1_1]] (by rfl) rfl rfl (by (try simp only [List.map_toArray, List.map_cons, List.map_nil]); first | done | rfl | (simp only [List.length_drop, List.length_take]; rfl)) ?_
              with_reducible refine (frob_Root.calls k a0 a1_0 a1_1 t351 t352 _ A5.out).mono ?_
              rintro e w71 ⟨rfl, hb⟩
              refine ⟨_, rfl, ?_⟩
              replace BK347 := bb BK347 hb
              replace BK348 := bb BK348 hb
              replace HB := bh HB hb
              (try clear hb)
              (try clear hb2)
              (try clear hk)
              (try clear hi)
              refine hK.out _ _ ⟨(blk_cell BK347.out 0).trans rfl, (blk_cell BK347.out 1).trans rfl⟩ (fun hHeld => ?_)
              clear hK K
              refine norm_ (a' := ?_) ?_ ?_
              rotate_left
              ·show Act.put _ (some 17) _ = _
               simp only [Act.put, List.setIfInBounds_toArray, List.set_cons_zero, List.set_cons_succ, i64_w, i32_w]
               rfl
              exact norm_ (by first | (simp only [putAll, Act.put, List.setIfInBounds_toArray, List.set_cons_zero, List.set_cons_succ]; done) | (simp only [putAll, Act.put, List.setIfInBounds_toArray, List.set_cons_zero, List.set_cons_succ]; rfl)) (hJ3_6 () _ ⟨hHeld, (bk BK347.out), (bk BK348.out), (bq HB.out)⟩)
             ·skip
              refine box_step ?hg (N := 8) ?hd (cs := #[.int .u64 0, .int .u64 0]) (t := 24) ?hr ?_; (case hd => rfl); (case hg => rfl); (case hr => first | (go_simp; done) | (go_simp; rfl))
              intro gb353 hg w71 hbox hb
              have BK353 := Aside0.mk hbox
              have GW353 := ge hg HB
              have GE353 := ge hg HB
              have NB347_353 := nl hg BK347
              have NB353_347 := ng hg BK347
              have NB348_353 := nl hg BK348
              have NB353_348 := ng hg BK348
              replace BK347 := bb BK347 hb
              replace BK348 := bb BK348 hb
              replace HB := bh HB hb
              clear hb hbox hg
              refine hK.out _ _ ⟨(blk_cell BK347.out 0).trans rfl, (blk_cell BK347.out 1).trans rfl⟩ (fun hHeld => ?_)
              clear hK K
              refine norm_ (a' := ?_) ?_ ?_
              rotate_left
              ·show Act.put _ (some 8) _ = _
               simp only [Act.put, List.setIfInBounds_toArray, List.set_cons_zero, List.set_cons_succ, i64_w, i32_w]
               rfl
              exact norm_ (by first | (simp only [putAll, Act.put, List.setIfInBounds_toArray, List.set_cons_zero, List.set_cons_succ]; done) | (simp only [putAll, Act.put, List.setIfInBounds_toArray, List.set_cons_zero, List.set_cons_succ]; rfl)) (hJ3_7 (gb353) _ ⟨hHeld, (bk BK347.out), (bk BK348.out), (bk BK353.out), GW353.out, GE353.out, NB347_353.out, NB353_347.out, NB348_353.out, NB353_348.out, (bq HB.out)⟩)
             ·skip
              refine box_step ?hg (N := 9) ?hd (cs := #[.int .u64 0, .int .u64 0]) (t := 24) ?hr ?_; (case hd => rfl); (case hg => rfl); (case hr => first | (go_simp; done) | (go_simp; rfl))
              intro gb354 hg w71 hbox hb
              have BK354 := Aside0.mk hbox
              have GW354 := ge hg HB
              have GE354 := ge hg HB
              have NB347_354 := nl hg BK347
              have NB354_347 := ng hg BK347
              have NB348_354 := nl hg BK348
              have NB354_348 := ng hg BK348
              replace BK347 := bb BK347 hb
              replace BK348 := bb BK348 hb
              replace HB := bh HB hb
              clear hb hbox hg
              refine hK.out _ _ ⟨(blk_cell BK347.out 0).trans rfl, (blk_cell BK347.out 1).trans rfl⟩ (fun hHeld => ?_)
              clear hK K
              refine norm_ (a' := ?_) ?_ ?_
              rotate_left
              ·show Act.put _ (some 9) _ = _
               simp only [Act.put, List.setIfInBounds_toArray, List.set_cons_zero, List.set_cons_succ, i64_w, i32_w]
               rfl
              exact norm_ (by first | (simp only [putAll, Act.put, List.setIfInBounds_toArray, List.set_cons_zero, List.set_cons_succ]; done) | (simp only [putAll, Act.put, List.setIfInBounds_toArray, List.set_cons_zero, List.set_cons_succ]; rfl)) (hJ3_8 (gb354) _ ⟨hHeld, (bk BK347.out), (bk BK348.out), (bk BK354.out), GW354.out, GE354.out, NB347_354.out, NB354_347.out, NB348_354.out, NB354_348.out, (bq HB.out)⟩)
           ·skip
            rintro ⟨gb353, gb354⟩ w71 ⟨hS_, h0_, h1_, h2_, h3_, h4_, h5_, h6_, h7_, h8_, h9_, h10_, h11_, h12_, h13_, h14_, h15_, h16_, h17_, h18_⟩
            have n0_ : Aside0 (w71.heap[gb347]? = some (.cells #[.int .u64 a1_0, .int .u64 a1_1] 24 (0, 0))) := ⟨h0_⟩
            have n1_ : Aside0 (w71.heap[gb348]? = some (.cells #[.int .u64 a1_0, .int .u64 a1_1] 37 (0, 0))) := ⟨h1_⟩
            have n2_ : Aside0 (w71.heap[gb353]? = some (.cells #[.int .u64 0, .int .u64 0] 24 (0, 0))) := ⟨h2_⟩
            have n3_ : Aside0 (w71.heap[gb354]? = some (.cells #[.int .u64 0, .int .u64 0] 24 (0, 0))) := ⟨h3_⟩
            have n4_ : Aside0 (w.heap.size ≤ gb353) := ⟨h4_⟩
            have n5_ : Aside0 (w.heap.size ≤ gb353) := ⟨h5_⟩
            have n6_ : Aside0 (gb347 ≠ gb353) := ⟨h6_⟩
            have n7_ : Aside0 (gb353 ≠ gb347) := ⟨h7_⟩
            have n8_ : Aside0 (gb348 ≠ gb353) := ⟨h8_⟩
            have n9_ : Aside0 (gb353 ≠ gb348) := ⟨h9_⟩
            have n10_ : Aside0 (gb354 ≠ gb353) := ⟨h10_⟩
            have n11_ : Aside0 (gb353 ≠ gb354) := ⟨h11_⟩
            have n12_ : Aside0 (w.heap.size ≤ gb354) := ⟨h12_⟩
            have n13_ : Aside0 (w.heap.size ≤ gb354) := ⟨h13_⟩
            have n14_ : Aside0 (gb347 ≠ gb354) := ⟨h14_⟩
            have n15_ : Aside0 (gb354 ≠ gb347) := ⟨h15_⟩
            have n16_ : Aside0 (gb348 ≠ gb354) := ⟨h16_⟩
            have n17_ : Aside0 (gb354 ≠ gb348) := ⟨h17_⟩
            have n18_ : Aside0 (Below w.heap.size w w71) := ⟨h18_⟩
            clear BK347
            clear BK348
            clear HB
            clear h0_ h1_ h2_ h3_ h4_ h5_ h6_ h7_ h8_ h9_ h10_ h11_ h12_ h13_ h14_ h15_ h16_ h17_ h18_
            have BK347 := n0_
            have BK348 := n1_
            have BK353 := n2_
            have BK354 := n3_
            have GW353 := Aside1.mk n4_.out
            have GE353 := Aside1.mk n5_.out
            have NB347_353 := n6_
            have NB353_347 := n7_
            have NB348_353 := n8_
            have NB353_348 := n9_
            have NB354_353 := n10_
            have NB353_354 := n11_
            have GW354 := Aside1.mk n12_.out
            have GE354 := Aside1.mk n13_.out
            have NB347_354 := n14_
            have NB354_347 := n15_
            have NB348_354 := n16_
            have NB354_348 := n17_
            have HB := n18_
            clear n0_ n1_ n2_ n3_ n4_ n5_ n6_ n7_ n8_ n9_ n10_ n11_ n12_ n13_ n14_ n15_ n16_ n17_ n18_
            have hHeld : w71.cell? ⟨gb347, 0, none⟩ = some (.int .u64 a1_0) ∧ w71.cell? ⟨gb347, 1, none⟩ = some (.int .u64 a1_1) := hS_
            refine norm_ (a' := ?_) ?_ ?_
            rotate_left
            ·simp only [putAll, Act.put, List.setIfInBounds_toArray, List.set_cons_zero, List.set_cons_succ]
             rfl
            refine one_ (i := 3) (N := some 14) #[true, true, true, true, true, true, false, true, true, false, false] rfl rfl (one_of HT_.out (by kernel_rfl)) (by decide) (fun K hK => ?_)
            refine goes_ Try.func23 (by kernel_rfl) rfl #[.int .i64 a0, .agg #[.int .u64 a1_0, .int .u64 a1_1], .int .i64 a2] (by rfl) rfl rfl (by (try simp only [List.map_toArray, List.map_cons, List.map_nil]); first | done | rfl | (simp only [List.length_drop, List.length_take]; rfl)) ?_
            with_reducible refine (frob_Power.calls k a0 a1_0 a1_1 a2 t349 t350 _ A4.out).mono ?_
            rintro e w72 ⟨rfl, hb⟩
            refine ⟨_, rfl, ?_⟩
            replace BK347 := bb BK347 hb
            replace BK348 := bb BK348 hb
            replace BK353 := bb BK353 hb
            replace BK354 := bb BK354 hb
            replace HB := bh HB hb
            (try clear hb)
            (try clear hb2)
            (try clear hk)
            (try clear hi)
            refine hK.out _ _ ⟨(blk_cell BK347.out 0).trans rfl, (blk_cell BK347.out 1).trans rfl⟩ (fun hHeld => ?_)
            clear hK K
            refine norm_ (a' := ?_) ?_ ?_
            rotate_left
            ·show Act.put _ (some 14) _ = _
             simp only [Act.put, List.setIfInBounds_toArray, List.set_cons_zero, List.set_cons_succ, i64_w, i32_w]
             rfl
            exact norm_ (by first | (simp only [putAll, Act.put, List.setIfInBounds_toArray, List.set_cons_zero, List.set_cons_succ]; done) | (simp only [putAll, Act.put, List.setIfInBounds_toArray, List.set_cons_zero, List.set_cons_succ]; rfl)) (hJ3_7_8 (gb353, gb354) _ ⟨hHeld, (bk BK347.out), (bk BK348.out), (bk BK353.out), (bk BK354.out), GW353.out, GE353.out, NB347_353.out, NB353_347.out, NB348_353.out, NB353_348.out, NB354_353.out, NB353_354.out, GW354.out, GE354.out, NB347_354.out, NB354_347.out, NB348_354.out, NB354_348.out, (bq HB.out)⟩)
          ·skip
           rintro gb354 w71 ⟨hS_, h0_, h1_, h2_, h3_, h4_, h5_, h6_, h7_, h8_, h9_⟩
           have n0_ : Aside0 (w71.heap[gb347]? = some (.cells #[.int .u64 a1_0, .int .u64 a1_1] 24 (0, 0))) := ⟨h0_⟩
           have n1_ : Aside0 (w71.heap[gb348]? = some (.cells #[.int .u64 a1_0, .int .u64 a1_1] 37 (0, 0))) := ⟨h1_⟩
           have n2_ : Aside0 (w71.heap[gb354]? = some (.cells #[.int .u64 0, .int .u64 0] 24 (0, 0))) := ⟨h2_⟩
           have n3_ : Aside0 (w.heap.size ≤ gb354) := ⟨h3_⟩
           have n4_ : Aside0 (w.heap.size ≤ gb354) := ⟨h4_⟩
           have n5_ : Aside0 (gb347 ≠ gb354) := ⟨h5_⟩
           have n6_ : Aside0 (gb354 ≠ gb347) := ⟨h6_⟩
           have n7_ : Aside0 (gb348 ≠ gb354) := ⟨h7_⟩
           have n8_ : Aside0 (gb354 ≠ gb348) := ⟨h8_⟩
           have n9_ : Aside0 (Below w.heap.size w w71) := ⟨h9_⟩
           clear BK347
           clear BK348
           clear HB
           clear h0_ h1_ h2_ h3_ h4_ h5_ h6_ h7_ h8_ h9_
           have BK347 := n0_
           have BK348 := n1_
           have BK354 := n2_
           have GW354 := Aside1.mk n3_.out
           have GE354 := Aside1.mk n4_.out
           have NB347_354 := n5_
           have NB354_347 := n6_
           have NB348_354 := n7_
           have NB354_348 := n8_
           have HB := n9_
           clear n0_ n1_ n2_ n3_ n4_ n5_ n6_ n7_ n8_ n9_
           have hHeld : w71.cell? ⟨gb347, 0, none⟩ = some (.int .u64 a1_0) ∧ w71.cell? ⟨gb347, 1, none⟩ = some (.int .u64 a1_1) := hS_
           refine norm_ (a' := ?_) ?_ ?_
           rotate_left
           ·simp only [putAll, Act.put, List.setIfInBounds_toArray, List.set_cons_zero, List.set_cons_succ]
            rfl
           refine two_ (i := 6) (j := 7) (Ni := some 17) (Nj := some 8) #[true, true, true, true, true, true, true, false, true, false, false] #[true, true, true, true, true, true, false, true, true, false, false] rfl rfl rfl rfl (two_of HT_.out (by kernel_rfl)) (by decide) (by decide) (fun K hK => ?_) (fun K hK => ?_)
           ·skip
            refine goes_ Try.func24 (by kernel_rfl) rfl #[.int .i64 a0, .agg #[.int .u64 a1_0, .int .u64 a1_1]] (by rfl) rfl rfl (by (try simp only [List.map_toArray, List.map_cons, List.map_nil]); first | done | rfl | (simp only [List.length_drop, List.length_take]; rfl)) ?_
            with_reducible refine (frob_Root.calls k a0 a1_0 a1_1 t351 t352 _ A5.out).mono ?_
            rintro e w72 ⟨rfl, hb⟩
            refine ⟨_, rfl, ?_⟩
            replace BK347 := bb BK347 hb
            replace BK348 := bb BK348 hb
            replace BK354 := bb BK354 hb
            replace HB := bh HB hb
            (try clear hb)
            (try clear hb2)
            (try clear hk)
            (try clear hi)
            refine hK.out _ _ ⟨(blk_cell BK347.out 0).trans rfl, (blk_cell BK347.out 1).trans rfl⟩ (fun hHeld => ?_)
            clear hK K
            refine norm_ (a' := ?_) ?_ ?_
            rotate_left
            ·show Act.put _ (some 17) _ = _
             simp only [Act.put, List.setIfInBounds_toArray, List.set_cons_zero, List.set_cons_succ, i64_w, i32_w]
             rfl
            exact norm_ (by first | (simp only [putAll, Act.put, List.setIfInBounds_toArray, List.set_cons_zero, List.set_cons_succ]; done) | (simp only [putAll, Act.put, List.setIfInBounds_toArray, List.set_cons_zero, List.set_cons_succ]; rfl)) (hJ3_6_8 (gb354) _ ⟨hHeld, (bk BK347.out), (bk BK348.out), (bk BK354.out), GW354.out, GE354.out, NB347_354.out, NB354_347.out, NB348_354.out, NB354_348.out, (bq HB.out)⟩)
           ·skip
            refine box_step ?hg (N := 8) ?hd (cs := #[.int .u64 0, .int .u64 0]) (t := 24) ?hr ?_; (case hd => rfl); (case hg => rfl); (case hr => first | (go_simp; done) | (go_simp; rfl))
            intro gb353 hg w72 hbox hb
            have BK353 := Aside0.mk hbox
            have GW353 := ge hg HB
            have GE353 := ge hg HB
            have NB347_353 := nl hg BK347
            have NB353_347 := ng hg BK347
            have NB348_353 := nl hg BK348
            have NB353_348 := ng hg BK348
            have NB354_353 := nl hg BK354
            have NB353_354 := ng hg BK354
            replace BK347 := bb BK347 hb
            replace BK348 := bb BK348 hb
            replace BK354 := bb BK354 hb
            replace HB := bh HB hb
            clear hb hbox hg
            refine hK.out _ _ ⟨(blk_cell BK347.out 0).trans rfl, (blk_cell BK347.out 1).trans rfl⟩ (fun hHeld => ?_)
            clear hK K
            refine norm_ (a' := ?_) ?_ ?_
            rotate_left
            ·show Act.put _ (some 8) _ = _
             simp only [Act.put, List.setIfInBounds_toArray, List.set_cons_zero, List.set_cons_succ, i64_w, i32_w]
             rfl
            exact norm_ (by first | (simp only [putAll, Act.put, List.setIfInBounds_toArray, List.set_cons_zero, List.set_cons_succ]; done) | (simp only [putAll, Act.put, List.setIfInBounds_toArray, List.set_cons_zero, List.set_cons_succ]; rfl)) (hJ3_7_8 (gb353, gb354) _ ⟨hHeld, (bk BK347.out), (bk BK348.out), (bk BK353.out), (bk BK354.out), GW353.out, GE353.out, NB347_353.out, NB353_347.out, NB348_353.out, NB353_348.out, NB354_353.out, NB353_354.out, GW354.out, GE354.out, NB347_354.out, NB354_347.out, NB348_354.out, NB354_348.out, (bq HB.out)⟩)
         ·skip
          rintro gb353 w71 ⟨hS_, h0_, h1_, h2_, h3_, h4_, h5_, h6_, h7_, h8_, h9_⟩
          have n0_ : Aside0 (w71.heap[gb347]? = some (.cells #[.int .u64 a1_0, .int .u64 a1_1] 24 (0, 0))) := ⟨h0_⟩
          have n1_ : Aside0 (w71.heap[gb348]? = some (.cells #[.int .u64 a1_0, .int .u64 a1_1] 37 (0, 0))) := ⟨h1_⟩
          have n2_ : Aside0 (w71.heap[gb353]? = some (.cells #[.int .u64 0, .int .u64 0] 24 (0, 0))) := ⟨h2_⟩
          have n3_ : Aside0 (w.heap.size ≤ gb353) := ⟨h3_⟩
          have n4_ : Aside0 (w.heap.size ≤ gb353) := ⟨h4_⟩
          have n5_ : Aside0 (gb347 ≠ gb353) := ⟨h5_⟩
          have n6_ : Aside0 (gb353 ≠ gb347) := ⟨h6_⟩
          have n7_ : Aside0 (gb348 ≠ gb353) := ⟨h7_⟩
          have n8_ : Aside0 (gb353 ≠ gb348) := ⟨h8_⟩
          have n9_ : Aside0 (Below w.heap.size w w71) := ⟨h9_⟩
          clear BK347
          clear BK348
          clear HB
          clear h0_ h1_ h2_ h3_ h4_ h5_ h6_ h7_ h8_ h9_
          have BK347 := n0_
          have BK348 := n1_
          have BK353 := n2_
          have GW353 := Aside1.mk n3_.out
          have GE353 := Aside1.mk n4_.out
          have NB347_353 := n5_
          have NB353_347 := n6_
          have NB348_353 := n7_
          have NB353_348 := n8_
          have HB := n9_
          clear n0_ n1_ n2_ n3_ n4_ n5_ n6_ n7_ n8_ n9_
          have hHeld : w71.cell? ⟨gb347, 0, none⟩ = some (.int .u64 a1_0) ∧ w71.cell? ⟨gb347, 1, none⟩ = some (.int .u64 a1_1) := hS_
          refine norm_ (a' := ?_) ?_ ?_
          rotate_left
          ·simp only [putAll, Act.put, List.setIfInBounds_toArray, List.set_cons_zero, List.set_cons_succ]
           rfl
          refine two_ (i := 6) (j := 8) (Ni := some 17) (Nj := some 9) #[true, true, true, true, true, true, true, true, false, false, false] #[true, true, true, true, true, true, false, true, true, false, false] rfl rfl rfl rfl (two_of HT_.out (by kernel_rfl)) (by decide) (by decide) (fun K hK => ?_) (fun K hK => ?_)
          ·skip
           refine goes_ Try.func24 (by kernel_rfl) rfl #[.int .i64 a0, .agg #[.int .u64 a1_0, .int .u64 a1_1]] (by rfl) rfl rfl (by (try simp only [List.map_toArray, List.map_cons, List.map_nil]); first | done | rfl | (simp only [List.length_drop, List.length_take]; rfl)) ?_
           with_reducible refine (frob_Root.calls k a0 a1_0 a1_1 t351 t352 _ A5.out).mono ?_
           rintro e w72 ⟨rfl, hb⟩
           refine ⟨_, rfl, ?_⟩
           replace BK347 := bb BK347 hb
           replace BK348 := bb BK348 hb
           replace BK353 := bb BK353 hb
           replace HB := bh HB hb
           (try clear hb)
           (try clear hb2)
           (try clear hk)
           (try clear hi)
           refine hK.out _ _ ⟨(blk_cell BK347.out 0).trans rfl, (blk_cell BK347.out 1).trans rfl⟩ (fun hHeld => ?_)
           clear hK K
           refine norm_ (a' := ?_) ?_ ?_
           rotate_left
           ·show Act.put _ (some 17) _ = _
            simp only [Act.put, List.setIfInBounds_toArray, List.set_cons_zero, List.set_cons_succ, i64_w, i32_w]
            rfl
           exact norm_ (by first | (simp only [putAll, Act.put, List.setIfInBounds_toArray, List.set_cons_zero, List.set_cons_succ]; done) | (simp only [putAll, Act.put, List.setIfInBounds_toArray, List.set_cons_zero, List.set_cons_succ]; rfl)) (hJ3_6_7 (gb353) _ ⟨hHeld, (bk BK347.out), (bk BK348.out), (bk BK353.out), GW353.out, GE353.out, NB347_353.out, NB353_347.out, NB348_353.out, NB353_348.out, (bq HB.out)⟩)
          ·skip
           refine box_step ?hg (N := 9) ?hd (cs := #[.int .u64 0, .int .u64 0]) (t := 24) ?hr ?_; (case hd => rfl); (case hg => rfl); (case hr => first | (go_simp; done) | (go_simp; rfl))
           intro gb354 hg w72 hbox hb
           have BK354 := Aside0.mk hbox
           have GW354 := ge hg HB
           have GE354 := ge hg HB
           have NB347_354 := nl hg BK347
           have NB354_347 := ng hg BK347
           have NB348_354 := nl hg BK348
           have NB354_348 := ng hg BK348
           have NB353_354 := nl hg BK353
           have NB354_353 := ng hg BK353
           replace BK347 := bb BK347 hb
           replace BK348 := bb BK348 hb
           replace BK353 := bb BK353 hb
           replace HB := bh HB hb
           clear hb hbox hg
           refine hK.out _ _ ⟨(blk_cell BK347.out 0).trans rfl, (blk_cell BK347.out 1).trans rfl⟩ (fun hHeld => ?_)
           clear hK K
           refine norm_ (a' := ?_) ?_ ?_
           rotate_left
           ·show Act.put _ (some 9) _ = _
            simp only [Act.put, List.setIfInBounds_toArray, List.set_cons_zero, List.set_cons_succ, i64_w, i32_w]
            rfl
           exact norm_ (by first | (simp only [putAll, Act.put, List.setIfInBounds_toArray, List.set_cons_zero, List.set_cons_succ]; done) | (simp only [putAll, Act.put, List.setIfInBounds_toArray, List.set_cons_zero, List.set_cons_succ]; rfl)) (hJ3_7_8 (gb353, gb354) _ ⟨hHeld, (bk BK347.out), (bk BK348.out), (bk BK353.out), (bk BK354.out), GW353.out, GE353.out, NB347_353.out, NB353_347.out, NB348_353.out, NB353_348.out, NB354_353.out, NB353_354.out, GW354.out, GE354.out, NB347_354.out, NB354_347.out, NB348_354.out, NB354_348.out, (bq HB.out)⟩)
        ·skip
         rintro _ w71 ⟨hS_, h0_, h1_, h2_⟩
         have n0_ : Aside0 (w71.heap[gb347]? = some (.cells #[.int .u64 a1_0, .int .u64 a1_1] 24 (0, 0))) := ⟨h0_⟩
         have n1_ : Aside0 (w71.heap[gb348]? = some (.cells #[.int .u64 a1_0, .int .u64 a1_1] 37 (0, 0))) := ⟨h1_⟩
         have n2_ : Aside0 (Below w.heap.size w w71) := ⟨h2_⟩
         clear BK347
         clear BK348
         clear HB
         clear h0_ h1_ h2_
         have BK347 := n0_
         have BK348 := n1_
         have HB := n2_
         clear n0_ n1_ n2_
         have hHeld : w71.cell? ⟨gb347, 0, none⟩ = some (.int .u64 a1_0) ∧ w71.cell? ⟨gb347, 1, none⟩ = some (.int .u64 a1_1) := hS_
         refine norm_ (a' := ?_) ?_ ?_
         rotate_left
         ·simp only [putAll, Act.put, List.setIfInBounds_toArray, List.set_cons_zero, List.set_cons_succ]
          rfl
         refine two_ (i := 7) (j := 8) (Ni := some 8) (Nj := some 9) #[true, true, true, true, true, true, true, true, false, false, false] #[true, true, true, true, true, true, true, false, true, false, false] rfl rfl rfl rfl (two_of HT_.out (by kernel_rfl)) (by decide) (by decide) (fun K hK => ?_) (fun K hK => ?_)
         ·skip
          refine box_step ?hg (N := 8) ?hd (cs := #[.int .u64 0, .int .u64 0]) (t := 24) ?hr ?_; (case hd => rfl); (case hg => rfl); (case hr => first | (go_simp; done) | (go_simp; rfl))
          intro gb353 hg w72 hbox hb
          have BK353 := Aside0.mk hbox
          have GW353 := ge hg HB
          have GE353 := ge hg HB
          have NB347_353 := nl hg BK347
          have NB353_347 := ng hg BK347
          have NB348_353 := nl hg BK348
          have NB353_348 := ng hg BK348
          replace BK347 := bb BK347 hb
          replace BK348 := bb BK348 hb
          replace HB := bh HB hb
          clear hb hbox hg
          refine hK.out _ _ ⟨(blk_cell BK347.out 0).trans rfl, (blk_cell BK347.out 1).trans rfl⟩ (fun hHeld => ?_)
          clear hK K
          refine norm_ (a' := ?_) ?_ ?_
          rotate_left
          ·show Act.put _ (some 8) _ = _
           simp only [Act.put, List.setIfInBounds_toArray, List.set_cons_zero, List.set_cons_succ, i64_w, i32_w]
           rfl
          exact norm_ (by first | (simp only [putAll, Act.put, List.setIfInBounds_toArray, List.set_cons_zero, List.set_cons_succ]; done) | (simp only [putAll, Act.put, List.setIfInBounds_toArray, List.set_cons_zero, List.set_cons_succ]; rfl)) (hJ3_6_7 (gb353) _ ⟨hHeld, (bk BK347.out), (bk BK348.out), (bk BK353.out), GW353.out, GE353.out, NB347_353.out, NB353_347.out, NB348_353.out, NB353_348.out, (bq HB.out)⟩)
         ·skip
          refine box_step ?hg (N := 9) ?hd (cs := #[.int .u64 0, .int .u64 0]) (t := 24) ?hr ?_; (case hd => rfl); (case hg => rfl); (case hr => first | (go_simp; done) | (go_simp; rfl))
          intro gb354 hg w72 hbox hb
          have BK354 := Aside0.mk hbox
          have GW354 := ge hg HB
          have GE354 := ge hg HB
          have NB347_354 := nl hg BK347
          have NB354_347 := ng hg BK347
          have NB348_354 := nl hg BK348
          have NB354_348 := ng hg BK348
          replace BK347 := bb BK347 hb
          replace BK348 := bb BK348 hb
          replace HB := bh HB hb
          clear hb hbox hg
          refine hK.out _ _ ⟨(blk_cell BK347.out 0).trans rfl, (blk_cell BK347.out 1).trans rfl⟩ (fun hHeld => ?_)
          clear hK K
          refine norm_ (a' := ?_) ?_ ?_
          rotate_left
          ·show Act.put _ (some 9) _ = _
           simp only [Act.put, List.setIfInBounds_toArray, List.set_cons_zero, List.set_cons_succ, i64_w, i32_w]
           rfl
          exact norm_ (by first | (simp only [putAll, Act.put, List.setIfInBounds_toArray, List.set_cons_zero, List.set_cons_succ]; done) | (simp only [putAll, Act.put, List.setIfInBounds_toArray, List.set_cons_zero, List.set_cons_succ]; rfl)) (hJ3_6_8 (gb354) _ ⟨hHeld, (bk BK347.out), (bk BK348.out), (bk BK354.out), GW354.out, GE354.out, NB347_354.out, NB354_347.out, NB348_354.out, NB354_348.out, (bq HB.out)⟩)
       ·skip
        rintro ⟨gb353, gb354⟩ w72 ⟨hS_, h0_, h1_, h2_, h3_, h4_, h5_, h6_, h7_, h8_, h9_, h10_, h11_, h12_, h13_, h14_, h15_, h16_, h17_, h18_⟩
        have n0_ : Aside0 (w72.heap[gb347]? = some (.cells #[.int .u64 a1_0, .int .u64 a1_1] 24 (0, 0))) := ⟨h0_⟩
        have n1_ : Aside0 (w72.heap[gb348]? = some (.cells #[.int .u64 a1_0, .int .u64 a1_1] 37 (0, 0))) := ⟨h1_⟩
        have n2_ : Aside0 (w72.heap[gb353]? = some (.cells #[.int .u64 0, .int .u64 0] 24 (0, 0))) := ⟨h2_⟩
        have n3_ : Aside0 (w72.heap[gb354]? = some (.cells #[.int .u64 0, .int .u64 0] 24 (0, 0))) := ⟨h3_⟩
        have n4_ : Aside0 (w.heap.size ≤ gb353) := ⟨h4_⟩
        have n5_ : Aside0 (w.heap.size ≤ gb353) := ⟨h5_⟩
        have n6_ : Aside0 (gb347 ≠ gb353) := ⟨h6_⟩
        have n7_ : Aside0 (gb353 ≠ gb347) := ⟨h7_⟩
        have n8_ : Aside0 (gb348 ≠ gb353) := ⟨h8_⟩
        have n9_ : Aside0 (gb353 ≠ gb348) := ⟨h9_⟩
        have n10_ : Aside0 (gb354 ≠ gb353) := ⟨h10_⟩
        have n11_ : Aside0 (gb353 ≠ gb354) := ⟨h11_⟩
        have n12_ : Aside0 (w.heap.size ≤ gb354) := ⟨h12_⟩
        have n13_ : Aside0 (w.heap.size ≤ gb354) := ⟨h13_⟩
        have n14_ : Aside0 (gb347 ≠ gb354) := ⟨h14_⟩
        have n15_ : Aside0 (gb354 ≠ gb347) := ⟨h15_⟩
        have n16_ : Aside0 (gb348 ≠ gb354) := ⟨h16_⟩
        have n17_ : Aside0 (gb354 ≠ gb348) := ⟨h17_⟩
        have n18_ : Aside0 (Below w.heap.size w w72) := ⟨h18_⟩
        clear BK347
        clear BK348
        clear HB
        clear h0_ h1_ h2_ h3_ h4_ h5_ h6_ h7_ h8_ h9_ h10_ h11_ h12_ h13_ h14_ h15_ h16_ h17_ h18_
        have BK347 := n0_
        have BK348 := n1_
        have BK353 := n2_
        have BK354 := n3_
        have GW353 := Aside1.mk n4_.out
        have GE353 := Aside1.mk n5_.out
        have NB347_353 := n6_
        have NB353_347 := n7_
        have NB348_353 := n8_
        have NB353_348 := n9_
        have NB354_353 := n10_
        have NB353_354 := n11_
        have GW354 := Aside1.mk n12_.out
        have GE354 := Aside1.mk n13_.out
        have NB347_354 := n14_
        have NB354_347 := n15_
        have NB348_354 := n16_
        have NB354_348 := n17_
        have HB := n18_
        clear n0_ n1_ n2_ n3_ n4_ n5_ n6_ n7_ n8_ n9_ n10_ n11_ n12_ n13_ n14_ n15_ n16_ n17_ n18_
        have hHeld : w72.cell? ⟨gb347, 0, none⟩ = some (.int .u64 a1_0) ∧ w72.cell? ⟨gb347, 1, none⟩ = some (.int .u64 a1_1) := hS_
        refine norm_ (a' := ?_) ?_ ?_
        rotate_left
        ·simp only [putAll, Act.put, List.setIfInBounds_toArray, List.set_cons_zero, List.set_cons_succ]
         rfl
        refine one_ (i := 6) (N := some 17) #[true, true, true, true, true, true, true, true, true, false, false] rfl rfl (one_of HT_.out (by kernel_rfl)) (by decide) (fun K hK => ?_)
        refine goes_ Try.func24 (by kernel_rfl) rfl #[.int .i64 a0, .agg #[.int .u64 a1_0, .int .u64 a1_1]] (by rfl) rfl rfl (by (try simp only [List.map_toArray, List.map_cons, List.map_nil]); first | done | rfl | (simp only [List.length_drop, List.length_take]; rfl)) ?_
        with_reducible refine (frob_Root.calls k a0 a1_0 a1_1 t351 t352 _ A5.out).mono ?_
        rintro e w73 ⟨rfl, hb⟩
        refine ⟨_, rfl, ?_⟩
        replace BK347 := bb BK347 hb
        replace BK348 := bb BK348 hb
        replace BK353 := bb BK353 hb
        replace BK354 := bb BK354 hb
        replace HB := bh HB hb
        (try clear hb)
        (try clear hb2)
        (try clear hk)
        (try clear hi)
        refine hK.out _ _ ⟨(blk_cell BK347.out 0).trans rfl, (blk_cell BK347.out 1).trans rfl⟩ (fun hHeld => ?_)
        clear hK K
        refine norm_ (a' := ?_) ?_ ?_
        rotate_left
        ·show Act.put _ (some 17) _ = _
         simp only [Act.put, List.setIfInBounds_toArray, List.set_cons_zero, List.set_cons_succ, i64_w, i32_w]
         rfl
        exact norm_ (by first | (simp only [putAll, Act.put, List.setIfInBounds_toArray, List.set_cons_zero, List.set_cons_succ]; done) | (simp only [putAll, Act.put, List.setIfInBounds_toArray, List.set_cons_zero, List.set_cons_succ]; rfl)) (hJ3_6_7_8 (gb353, gb354) _ ⟨hHeld, (bk BK347.out), (bk BK348.out), (bk BK353.out), (bk BK354.out), GW353.out, GE353.out, NB347_353.out, NB353_347.out, NB348_353.out, NB353_348.out, NB354_353.out, NB353_354.out, GW354.out, GE354.out, NB347_354.out, NB354_347.out, NB348_354.out, NB354_348.out, (bq HB.out)⟩)
      ·skip
       rintro gb354 w72 ⟨hS_, h0_, h1_, h2_, h3_, h4_, h5_, h6_, h7_, h8_, h9_⟩
       have n0_ : Aside0 (w72.heap[gb347]? = some (.cells #[.int .u64 a1_0, .int .u64 a1_1] 24 (0, 0))) := ⟨h0_⟩
       have n1_ : Aside0 (w72.heap[gb348]? = some (.cells #[.int .u64 a1_0, .int .u64 a1_1] 37 (0, 0))) := ⟨h1_⟩
       have n2_ : Aside0 (w72.heap[gb354]? = some (.cells #[.int .u64 0, .int .u64 0] 24 (0, 0))) := ⟨h2_⟩
       have n3_ : Aside0 (w.heap.size ≤ gb354) := ⟨h3_⟩
       have n4_ : Aside0 (w.heap.size ≤ gb354) := ⟨h4_⟩
       have n5_ : Aside0 (gb347 ≠ gb354) := ⟨h5_⟩
       have n6_ : Aside0 (gb354 ≠ gb347) := ⟨h6_⟩
       have n7_ : Aside0 (gb348 ≠ gb354) := ⟨h7_⟩
       have n8_ : Aside0 (gb354 ≠ gb348) := ⟨h8_⟩
       have n9_ : Aside0 (Below w.heap.size w w72) := ⟨h9_⟩
       clear BK347
       clear BK348
       clear HB
       clear h0_ h1_ h2_ h3_ h4_ h5_ h6_ h7_ h8_ h9_
       have BK347 := n0_
       have BK348 := n1_
       have BK354 := n2_
       have GW354 := Aside1.mk n3_.out
       have GE354 := Aside1.mk n4_.out
       have NB347_354 := n5_
       have NB354_347 := n6_
       have NB348_354 := n7_
       have NB354_348 := n8_
       have HB := n9_
       clear n0_ n1_ n2_ n3_ n4_ n5_ n6_ n7_ n8_ n9_
       have hHeld : w72.cell? ⟨gb347, 0, none⟩ = some (.int .u64 a1_0) ∧ w72.cell? ⟨gb347, 1, none⟩ = some (.int .u64 a1_1) := hS_
       refine norm_ (a' := ?_) ?_ ?_
       rotate_left
       ·simp only [putAll, Act.put, List.setIfInBounds_toArray, List.set_cons_zero, List.set_cons_succ]
        rfl
       refine one_ (i := 7) (N := some 8) #[true, true, true, true, true, true, true, true, true, false, false] rfl rfl (one_of HT_.out (by kernel_rfl)) (by decide) (fun K hK => ?_)
       refine box_step ?hg (N := 8) ?hd (cs := #[.int .u64 0, .int .u64 0]) (t := 24) ?hr ?_; (case hd => rfl); (case hg => rfl); (case hr => first | (go_simp; done) | (go_simp; rfl))
       intro gb353 hg w73 hbox hb
       have BK353 := Aside0.mk hbox
       have GW353 := ge hg HB
       have GE353 := ge hg HB
       have NB347_353 := nl hg BK347
       have NB353_347 := ng hg BK347
       have NB348_353 := nl hg BK348
       have NB353_348 := ng hg BK348
       have NB354_353 := nl hg BK354
       have NB353_354 := ng hg BK354
       replace BK347 := bb BK347 hb
       replace BK348 := bb BK348 hb
       replace BK354 := bb BK354 hb
       replace HB := bh HB hb
       clear hb hbox hg
       refine hK.out _ _ ⟨(blk_cell BK347.out 0).trans rfl, (blk_cell BK347.out 1).trans rfl⟩ (fun hHeld => ?_)
       clear hK K
       refine norm_ (a' := ?_) ?_ ?_
       rotate_left
       ·show Act.put _ (some 8) _ = _
        simp only [Act.put, List.setIfInBounds_toArray, List.set_cons_zero, List.set_cons_succ, i64_w, i32_w]
        rfl
       exact norm_ (by first | (simp only [putAll, Act.put, List.setIfInBounds_toArray, List.set_cons_zero, List.set_cons_succ]; done) | (simp only [putAll, Act.put, List.setIfInBounds_toArray, List.set_cons_zero, List.set_cons_succ]; rfl)) (hJ3_6_7_8 (gb353, gb354) _ ⟨hHeld, (bk BK347.out), (bk BK348.out), (bk BK353.out), (bk BK354.out), GW353.out, GE353.out, NB347_353.out, NB353_347.out, NB348_353.out, NB353_348.out, NB354_353.out, NB353_354.out, GW354.out, GE354.out, NB347_354.out, NB354_347.out, NB348_354.out, NB354_348.out, (bq HB.out)⟩)
     ·skip
      rintro gb353 w72 ⟨hS_, h0_, h1_, h2_, h3_, h4_, h5_, h6_, h7_, h8_, h9_⟩
      have n0_ : Aside0 (w72.heap[gb347]? = some (.cells #[.int .u64 a1_0, .int .u64 a1_1] 24 (0, 0))) := ⟨h0_⟩
      have n1_ : Aside0 (w72.heap[gb348]? = some (.cells #[.int .u64 a1_0, .int .u64 a1_1] 37 (0, 0))) := ⟨h1_⟩
      have n2_ : Aside0 (w72.heap[gb353]? = some (.cells #[.int .u64 0, .int .u64 0] 24 (0, 0))) := ⟨h2_⟩
      have n3_ : Aside0 (w.heap.size ≤ gb353) := ⟨h3_⟩
      have n4_ : Aside0 (w.heap.size ≤ gb353) := ⟨h4_⟩
      have n5_ : Aside0 (gb347 ≠ gb353) := ⟨h5_⟩
      have n6_ : Aside0 (gb353 ≠ gb347) := ⟨h6_⟩
      have n7_ : Aside0 (gb348 ≠ gb353) := ⟨h7_⟩
      have n8_ : Aside0 (gb353 ≠ gb348) := ⟨h8_⟩
      have n9_ : Aside0 (Below w.heap.size w w72) := ⟨h9_⟩
      clear BK347
      clear BK348
      clear HB
      clear h0_ h1_ h2_ h3_ h4_ h5_ h6_ h7_ h8_ h9_
      have BK347 := n0_
      have BK348 := n1_
      have BK353 := n2_
      have GW353 := Aside1.mk n3_.out
      have GE353 := Aside1.mk n4_.out
      have NB347_353 := n5_
      have NB353_347 := n6_
      have NB348_353 := n7_
      have NB353_348 := n8_
      have HB := n9_
      clear n0_ n1_ n2_ n3_ n4_ n5_ n6_ n7_ n8_ n9_
      have hHeld : w72.cell? ⟨gb347, 0, none⟩ = some (.int .u64 a1_0) ∧ w72.cell? ⟨gb347, 1, none⟩ = some (.int .u64 a1_1) := hS_
      refine norm_ (a' := ?_) ?_ ?_
      rotate_left
      ·simp only [putAll, Act.put, List.setIfInBounds_toArray, List.set_cons_zero, List.set_cons_succ]
       rfl
      refine one_ (i := 8) (N := some 9) #[true, true, true, true, true, true, true, true, true, false, false] rfl rfl (one_of HT_.out (by kernel_rfl)) (by decide) (fun K hK => ?_)
      refine box_step ?hg (N := 9) ?hd (cs := #[.int .u64 0, .int .u64 0]) (t := 24) ?hr ?_; (case hd => rfl); (case hg => rfl); (case hr => first | (go_simp; done) | (go_simp; rfl))
      intro gb354 hg w73 hbox hb
      have BK354 := Aside0.mk hbox
      have GW354 := ge hg HB
      have GE354 := ge hg HB
      have NB347_354 := nl hg BK347
      have NB354_347 := ng hg BK347
      have NB348_354 := nl hg BK348
      have NB354_348 := ng hg BK348
      have NB353_354 := nl hg BK353
      have NB354_353 := ng hg BK353
      replace BK347 := bb BK347 hb
      replace BK348 := bb BK348 hb
      replace BK353 := bb BK353 hb
      replace HB := bh HB hb
      clear hb hbox hg
      refine hK.out _ _ ⟨(blk_cell BK347.out 0).trans rfl, (blk_cell BK347.out 1).trans rfl⟩ (fun hHeld => ?_)
      clear hK K
      refine norm_ (a' := ?_) ?_ ?_
      rotate_left
      ·show Act.put _ (some 9) _ = _
       simp only [Act.put, List.setIfInBounds_toArray, List.set_cons_zero, List.set_cons_succ, i64_w, i32_w]
       rfl
      exact norm_ (by first | (simp only [putAll, Act.put, List.setIfInBounds_toArray, List.set_cons_zero, List.set_cons_succ]; done) | (simp only [putAll, Act.put, List.setIfInBounds_toArray, List.set_cons_zero, List.set_cons_succ]; rfl)) (hJ3_6_7_8 (gb353, gb354) _ ⟨hHeld, (bk BK347.out), (bk BK348.out), (bk BK353.out), (bk BK354.out), GW353.out, GE353.out, NB347_353.out, NB353_347.out, NB348_353.out, NB353_348.out, NB354_353.out, NB353_354.out, GW354.out, GE354.out, NB347_354.out, NB354_347.out, NB348_354.out, NB354_348.out, (bq HB.out)⟩)
    rintro ⟨gb353, gb354⟩ w73 ⟨hS_, h0_, h1_, h2_, h3_, h4_, h5_, h6_, h7_, h8_, h9_, h10_, h11_, h12_, h13_, h14_, h15_, h16_, h17_, h18_⟩
    have n0_ : Aside0 (w73.heap[gb347]? = some (.cells #[.int .u64 a1_0, .int .u64 a1_1] 24 (0, 0))) := ⟨h0_⟩
    have n1_ : Aside0 (w73.heap[gb348]? = some (.cells #[.int .u64 a1_0, .int .u64 a1_1] 37 (0, 0))) := ⟨h1_⟩
    have n2_ : Aside0 (w73.heap[gb353]? = some (.cells #[.int .u64 0, .int .u64 0] 24 (0, 0))) := ⟨h2_⟩
    have n3_ : Aside0 (w73.heap[gb354]? = some (.cells #[.int .u64 0, .int .u64 0] 24 (0, 0))) := ⟨h3_⟩
    have n4_ : Aside0 (w.heap.size ≤ gb353) := ⟨h4_⟩
    have n5_ : Aside0 (w.heap.size ≤ gb353) := ⟨h5_⟩
    have n6_ : Aside0 (gb347 ≠ gb353) := ⟨h6_⟩
    have n7_ : Aside0 (gb353 ≠ gb347) := ⟨h7_⟩
    have n8_ : Aside0 (gb348 ≠ gb353) := ⟨h8_⟩
    have n9_ : Aside0 (gb353 ≠ gb348) := ⟨h9_⟩
    have n10_ : Aside0 (gb354 ≠ gb353) := ⟨h10_⟩
    have n11_ : Aside0 (gb353 ≠ gb354) := ⟨h11_⟩
    have n12_ : Aside0 (w.heap.size ≤ gb354) := ⟨h12_⟩
    have n13_ : Aside0 (w.heap.size ≤ gb354) := ⟨h13_⟩
    have n14_ : Aside0 (gb347 ≠ gb354) := ⟨h14_⟩
    have n15_ : Aside0 (gb354 ≠ gb347) := ⟨h15_⟩
    have n16_ : Aside0 (gb348 ≠ gb354) := ⟨h16_⟩
    have n17_ : Aside0 (gb354 ≠ gb348) := ⟨h17_⟩
    have n18_ : Aside0 (Below w.heap.size w w73) := ⟨h18_⟩
    clear BK347
    clear BK348
    clear HB
    clear h0_ h1_ h2_ h3_ h4_ h5_ h6_ h7_ h8_ h9_ h10_ h11_ h12_ h13_ h14_ h15_ h16_ h17_ h18_
    have BK347 := n0_
    have BK348 := n1_
    have BK353 := n2_
    have BK354 := n3_
    have GW353 := Aside1.mk n4_.out
    have GE353 := Aside1.mk n5_.out
    have NB347_353 := n6_
    have NB353_347 := n7_
    have NB348_353 := n8_
    have NB353_348 := n9_
    have NB354_353 := n10_
    have NB353_354 := n11_
    have GW354 := Aside1.mk n12_.out
    have GE354 := Aside1.mk n13_.out
    have NB347_354 := n14_
    have NB354_347 := n15_
    have NB348_354 := n16_
    have NB354_348 := n17_
    have HB := n18_
    clear n0_ n1_ n2_ n3_ n4_ n5_ n6_ n7_ n8_ n9_ n10_ n11_ n12_ n13_ n14_ n15_ n16_ n17_ n18_
    have hHeld : w73.cell? ⟨gb347, 0, none⟩ = some (.int .u64 a1_0) ∧ w73.cell? ⟨gb347, 1, none⟩ = some (.int .u64 a1_1) := hS_
    refine norm_ (a' := ?_) ?_ ?_
    rotate_left
    ·simp only [putAll, Act.put, List.setIfInBounds_toArray, List.set_cons_zero, List.set_cons_succ]
     rfl
    refine one_ (i := 9) (N := none) #[true, true, true, true, true, true, true, true, true, true, false] rfl rfl (one_of HT_.out (by kernel_rfl)) (by decide) (fun K hK => ?_)
    have hs74 : w73.cell? ⟨gb353, 0, none⟩ = some (.int .u64 0) := (blk_cell BK353.out 0).trans rfl
    have hfs74 := blk_frozen BK353.out 0
    have hns74_0 := NB347_353.out
    have hns74_1 := NB348_353.out
    have hns74_3 := NB354_353.out
    have hms74_0 := NB353_347.out
    have hms74_1 := NB353_348.out
    have hms74_3 := NB353_354.out
    have hs75 : w73.cell? ⟨gb353, 1, none⟩ = some (.int .u64 0) := (blk_cell BK353.out 1).trans rfl
    have hfs75 := blk_frozen BK353.out 1
    have hns75_0 := NB347_353.out
    have hns75_1 := NB348_353.out
    have hns75_3 := NB354_353.out
    have hms75_0 := NB353_347.out
    have hms75_1 := NB353_348.out
    have hms75_3 := NB353_354.out
    refine skip_ (w1 := ?_) (by rfl) rfl ?_ ?_
    rotate_left
    ·go_simp
     rfl
    refine hK.out _ _ ⟨((cell_far (p := ⟨gb353, _, none⟩) NB347_353.out _).trans (((cell_far (p := ⟨gb353, _, none⟩) NB347_353.out _).trans (hHeld.1)))), ((cell_far (p := ⟨gb353, _, none⟩) NB347_353.out _).trans (((cell_far (p := ⟨gb353, _, none⟩) NB347_353.out _).trans (hHeld.2))))⟩ (fun hHeld => ?_)
    clear hK K
    refine one_ (i := 10) (N := none) #[true, true, true, true, true, true, true, true, true, true, true] rfl rfl (one_of HT_.out (by kernel_rfl)) (by decide) (fun K hK => ?_)
    have hs76 : w73.cell? ⟨gb354, 0, none⟩ = some (.int .u64 0) := (blk_cell BK354.out 0).trans rfl
    have hfs76 := blk_frozen BK354.out 0
    have hns76_0 := NB347_354.out
    have hns76_1 := NB348_354.out
    have hns76_2 := NB353_354.out
    have hms76_0 := NB354_347.out
    have hms76_1 := NB354_348.out
    have hms76_2 := NB354_353.out
    have hs77 : w73.cell? ⟨gb354, 1, none⟩ = some (.int .u64 0) := (blk_cell BK354.out 1).trans rfl
    have hfs77 := blk_frozen BK354.out 1
    have hns77_0 := NB347_354.out
    have hns77_1 := NB348_354.out
    have hns77_2 := NB353_354.out
    have hms77_0 := NB354_347.out
    have hms77_1 := NB354_348.out
    have hms77_2 := NB354_353.out
    refine skip_ (w1 := ?_) (by rfl) rfl ?_ ?_
    rotate_left
    ·go_simp
     rfl
    refine hK.out _ _ ⟨((cell_far (p := ⟨gb354, _, none⟩) NB347_354.out _).trans (((cell_far (p := ⟨gb354, _, none⟩) NB347_354.out _).trans (hHeld.1)))), ((cell_far (p := ⟨gb354, _, none⟩) NB347_354.out _).trans (((cell_far (p := ⟨gb354, _, none⟩) NB347_354.out _).trans (hHeld.2))))⟩ (fun hHeld => ?_)
    clear hK K
    refine done_ (done_of HT_.out (by kernel_rfl)) ?_
    have hnb78 := NB348_353.out
    have hnc78 := NB353_348.out
    have hnb79 := NB348_354.out
    have hnc79 := NB354_348.out
    obtain ⟨hcz80_0, hcz80_1⟩ := zc2 BK348
    obtain ⟨hfz80_0, hfz80_1⟩ := zf2 BK348
    try go_wp2_with (first | ((with_reducible refine gate_callee (f := 17) rfl ?_); refine goesL_ (some 20) rfl rfl Try.func17 (by kernel_rfl) rfl #[.int .i64 a0, .agg #[.int .u64 a1_0, .int .u64 a1_1]] rfl (by (try simp only [List.map_toArray, List.map_cons, List.map_nil]); first | done | rfl | (simp only [List.length_drop, List.length_take]; rfl)) ?_; (with_reducible refine (steepleref01_Of.calls k a0 a1_0 a1_1 false _ A6.out).mono ?_); rintro e w81 ⟨rfl, hb⟩; refine ⟨_, rfl, ?_⟩; replace BK347 := Aside0.mk (blk_below (g := gb347) (o := .cells #[.int .u64 a1_0, .int .u64 a1_1] 24 (0, 0)) (by (with_reducible repeat refine bl ?_); refine blk_far ?_ NB347_354.out _; (with_reducible repeat refine bl ?_); refine blk_far ?_ NB347_354.out _; (with_reducible repeat refine bl ?_); refine blk_far ?_ NB347_353.out _; (with_reducible repeat refine bl ?_); refine blk_far ?_ NB347_353.out _; (with_reducible repeat refine bl ?_); exact BK347.out) hb); replace BK348 := Aside0.mk (blk_below (g := gb348) (o := .cells #[.int .u64 a1_0, .int .u64 a1_1] 37 (0, 0)) (by (with_reducible repeat refine bl ?_); refine blk_far ?_ NB348_354.out _; (with_reducible repeat refine bl ?_); refine blk_far ?_ NB348_354.out _; (with_reducible repeat refine bl ?_); refine blk_far ?_ NB348_353.out _; (with_reducible repeat refine bl ?_); refine blk_far ?_ NB348_353.out _; (with_reducible repeat refine bl ?_); exact BK348.out) hb); replace BK353 := Aside0.mk (blk_below (g := gb353) (o := .cells #[.int .u64 t349, .int .u64 t350] 24 (0, 0)) (by (with_reducible repeat refine bl ?_); refine blk_far ?_ NB353_354.out _; (with_reducible repeat refine bl ?_); refine blk_far ?_ NB353_354.out _; (with_reducible repeat refine bl ?_); refine blk_put (cs := #[.int .u64 t349, .int .u64 0]) ?_ 1 _ rfl; (with_reducible repeat refine bl ?_); refine blk_put (cs := #[.int .u64 0, .int .u64 0]) ?_ 0 _ rfl; (with_reducible repeat refine bl ?_); exact BK353.out) hb); replace BK354 := Aside0.mk (blk_below (g := gb354) (o := .cells #[.int .u64 t351, .int .u64 t352] 24 (0, 0)) (by (with_reducible repeat refine bl ?_); refine blk_put (cs := #[.int .u64 t351, .int .u64 0]) ?_ 1 _ rfl; (with_reducible repeat refine bl ?_); refine blk_put (cs := #[.int .u64 0, .int .u64 0]) ?_ 0 _ rfl; (with_reducible repeat refine bl ?_); refine blk_far ?_ NB354_353.out _; (with_reducible repeat refine bl ?_); refine blk_far ?_ NB354_353.out _; (with_reducible repeat refine bl ?_); exact BK354.out) hb); replace HB := bh HB hb; (try clear hb); (try clear hb2); (try clear hk); (try clear hi)) | ((with_reducible refine gate_callee (f := 14) rfl ?_); refine goesL_ (some 22) rfl rfl Try.func14 (by kernel_rfl) rfl #[] rfl (by (try simp only [List.map_toArray, List.map_cons, List.map_nil]); first | done | rfl | (simp only [List.length_drop, List.length_take]; rfl)) ?_; (with_reducible refine (steeplelaw33_awake.calls k  true _ A59.out).mono ?_); rintro e w82 ⟨rfl, hb⟩; refine ⟨_, rfl, ?_⟩; replace BK347 := bb BK347 hb; replace BK348 := bb BK348 hb; replace BK353 := bb BK353 hb; replace BK354 := bb BK354 hb; replace HB := bh HB hb; (try clear hb); (try clear hb2); (try clear hk); (try clear hi); have hnb83 := NB353_347.out; have hnc83 := NB347_353.out; have hnb84 := NB353_354.out; have hnc84 := NB354_353.out; obtain ⟨hcz85_0, hcz85_1⟩ := zc2 BK353; obtain ⟨hfz85_0, hfz85_1⟩ := zf2 BK353; have hnb86 := NB354_347.out; have hnc86 := NB347_354.out; obtain ⟨hcz87_0, hcz87_1⟩ := zc2 BK354; obtain ⟨hfz87_0, hfz87_1⟩ := zf2 BK354))
    go_ret
    exact ⟨by first | rfl | (simp [errW_none, errW_some] <;> rfl) | (simp [*, errW_none, errW_some] <;> rfl), bq HB.out⟩
   ·rw [if_neg c61] at H
    exact absurd H (by simp)
  ·replace c60 := Bool.eq_false_iff.mpr c60
   subst c60
   have H1 : (none) = some r := by rw [if_neg (show ¬ (false = true) by decide)] at H; exact H
   clear H
   have H := H1
   clear H1
   exact absurd H (by simp)

/-- THE ONE PURE STATEMENT of steeplelaw33_FrobPowers. -/
def steeplelaw33_FrobPowers.Pure : Prop := ∀ (x0 : Int) (x1 : S24) (x2 : Int), (Lit.int .i64 x0).wf = true → ((Lit.int .u64 x1.f0).wf = true ∧ (Lit.int .u64 x1.f1).wf = true) → (Lit.int .i64 x2).wf = true → ∃ k, steeplelaw33_FrobPowers.f k x0 x1.f0 x1.f1 x2 = some true

end Go.Proofs.Ytlegcabfgkccmaa.P
