/- Written by a program of this session: functions that the law reaches, as Lean functions, and that the code comes to their answers. Conditions: those that each theorem names. -/
import Derived.Test.YtceneggampgboaaPx0
import Derived.Test.YtceneggampgboaaPx6
import Derived.Test.YtceneggampgboaaPx12
namespace Go.Proofs.Ytceneggampgboaa.P
open Go.RowKit Go.Proofs.YtceneggampgboaaX Go.Proofs.YtceneggampgboaaW.PrintWords Go.Proofs.YtceneggampgboaaW.PrintLast Go.Proofs.YtceneggampgboaaW.PrintMore
attribute [local go_sem] max2_int min2_int max_two min_two max_three min_three max_four min_four   -- for this text's walks alone
set_option linter.unusedVariables false
set_option linter.unusedSimpArgs false

/-! ### steepleref02_Times: function 53 -/
def steepleref02_Times.f (k : Nat) (a0 : Int) (a1_0 : Int) (a1_1 : Int) : Option (Int × Int) := if a0 < 6 then ((steepleref02_timesWord.f k a0 a1_0).bind fun t350 => ((steepleref02_timesWord.f k a0 a1_1).bind fun t351 => (some (t350, t351)))) else ((steepleref02_timesWord.f k 5 a1_0).bind fun t352 => (some (Go.bits .xor .u64 a1_1 t352, a1_0)))
theorem steepleref02_Times.mono : ∀ a0 a1 a2 k, LeO (steepleref02_Times.f k a0 a1 a2) (steepleref02_Times.f (k + 1) a0 a1 a2) := by
 intro a0 a1 a2 k
 unfold steepleref02_Times.f
 repeat' first
   | (with_reducible exact steepleref02_timesWord.mono _ _ _)
   | (with_reducible exact LeO.refl _)
   | (with_reducible exact LeO.none _)
   | (with_reducible refine LeO.ite ?_ ?_)
   | (with_reducible refine LeO.bind ?_ (fun _ => ?_))
   | exact steepleref02_timesWord.mono _ _ _
   | exact LeO.none _
   | refine LeO.ite ?_ ?_
   | refine LeO.bind ?_ (fun _ => ?_)
def steepleref02_Times.T2 : Bool × List (List Nat × List Nat) := (true, [([], []), ([], []), ([1], [1]), ([0, 2], [0, 2]), ([], []), ([], []), ([5], [5]), ([4, 6, 3], [4, 6]), ([3, 7], [3, 7]), ([8, 7, 0, 1, 2, 3, 4, 5, 6, 7, 8], [8])])
def steepleref02_Times.B2 : List Nat := [0, 0, 2, 7, 0, 0, 32, 127, 255, 511]
theorem steepleref02_Times.tab2 : rtab .any (opsOf Try.f53 2) = steepleref02_Times.T2 := by kernel_rfl
theorem steepleref02_Times.bits2 : waitsOk steepleref02_Times.T2.2 steepleref02_Times.B2 = true := by kernel_rfl
def steepleref02_Times.T3 : Bool × List (List Nat × List Nat) := (true, [([], []), ([0], [0]), ([], []), ([2], [2]), ([3], [3]), ([1, 4], [1, 4]), ([], []), ([6], [6]), ([5, 7], [5, 7]), ([8, 4, 0, 1, 2, 3, 4, 5, 6, 7, 8], [8])])
def steepleref02_Times.B3 : List Nat := [0, 1, 0, 4, 12, 31, 0, 64, 255, 511]
theorem steepleref02_Times.tab3 : rtab .any (opsOf Try.f53 3) = steepleref02_Times.T3 := by kernel_rfl
theorem steepleref02_Times.bits3 : waitsOk steepleref02_Times.T3.2 steepleref02_Times.B3 = true := by kernel_rfl
set_option maxHeartbeats 8000000 in
set_option maxRecDepth 100000 in
theorem steepleref02_Times.calls (k : Nat) (a0 : Int) (a1_0 : Int) (a1_1 : Int) (r1 : Int) (r2 : Int) (w : World) (h : steepleref02_Times.f k a0 a1_0 a1_1 = some (r1, r2)) :
  Calls Try.prog 53 #[.int .i64 a0, .agg #[.int .u64 a1_0, .int .u64 a1_1]] w fun e w' => e = .returned (.agg #[.int .u64 r1, .int .u64 r2]) ∧ Below w.heap.size w w' := by
 have hu44 := Try.underlying44
 have HB := Aside0.mk (Below.refl w.heap.size w)
 have H : (if a0 < 6 then ((steepleref02_timesWord.f k a0 a1_0).bind fun t350 => ((steepleref02_timesWord.f k a0 a1_1).bind fun t351 => (some (t350, t351)))) else ((steepleref02_timesWord.f k 5 a1_0).bind fun t352 => (some (Go.bits .xor .u64 a1_1 t352, a1_0)))) = some (r1, r2) := h
 clear h
 by_cases c3 : a0 < 6
 ·rw [if_pos c3] at H
  have c3b0 : decide (a0 < 6) = true := decide_eq_true c3
  clear c3
  replace H := Option.bind_eq_some_iff.mp H
  obtain ⟨t350, A40, H⟩ := H
  replace H : ((steepleref02_timesWord.f k a0 a1_1).bind fun t351 => (some (t350, t351))) = some (r1, r2) := H
  have A4 := Aside0.mk A40
  clear A40
  replace H := Option.bind_eq_some_iff.mp H
  obtain ⟨t351, A50, H⟩ := H
  replace H : (some (t350, t351)) = some (r1, r2) := H
  have A5 := Aside0.mk A50
  clear A50
  simp only [Option.some.injEq, Prod.mk.injEq] at H
  obtain ⟨rfl, rfl⟩ := H
  go_enter Try.func53, Try.ntmps53
  try go_wp2_with (first | ((with_reducible refine gate_dst (N := 3) rfl ?_); refine box_event ?hg (N := 3) ?hd (cs := #[.int .u64 a1_0, .int .u64 a1_1]) (t := 44) ?hr ?_; (case hd => rfl); (case hg => rfl); (case hr => first | (go_simp; done) | (go_simp; rfl)); intro gb348 hg w6 hbox hb; have BK348 := Aside0.mk hbox; have GW348 := ge hg HB; have GE348 := ge hg HB; replace HB := bh HB hb; clear hb hbox hg) | ((with_reducible refine gate_dst (N := 4) rfl ?_); refine box_event ?hg (N := 4) ?hd (cs := #[.int .u64 0, .int .u64 0]) (t := 44) ?hr ?_; (case hd => rfl); (case hg => rfl); (case hr => first | (go_simp; done) | (go_simp; rfl)); intro gb349 hg w7 hbox hb; have BK349 := Aside0.mk hbox; have GW349 := ge hg HB; have GE349 := ge hg HB; have NB348_349 := nl hg BK348; have NB349_348 := ng hg BK348; replace BK348 := bb BK348 hb; replace HB := bh HB hb; clear hb hbox hg))
  replace BK348 := Aside0.mk (blk_drew BK348.out)
  replace BK349 := Aside0.mk (blk_drew BK349.out)
  replace HB := Aside0.mk (below_drew1 HB.out)
  refine start_ (n := 10) (S := fun w' => w'.cell? ⟨gb348, 0, none⟩ = some (.int .u64 a1_0) ∧ w'.cell? ⟨gb348, 1, none⟩ = some (.int .u64 a1_1)) (ds := []) #[false, false, false, false, false, false, false, false, false, false] (by kernel_rfl) rfl rfl ⟨(blk_cell BK348.out 0).trans rfl, (blk_cell BK348.out 1).trans rfl⟩ (fun hHeld => ?_); refine with_tabW steepleref02_Times.tab2 steepleref02_Times.bits2 (fun HT_ HW_ => ?_)
  generalize w7.drew = w8 at BK348 BK349 HB hHeld ⊢
  refine pure_ (i := 0) (N := some 7) (v := ?_) (a' := ?_) #[true, false, false, false, false, false, false, false, false, false] rfl rfl (any_of HT_.out (by kernel_rfl)) (fun _ _ _ h => h) (Or.inl ⟨by rfl, ?_⟩) ?_ ?_
  rotate_left
  ·intro w'
   go_simp
   with_reducible rfl
  rotate_left
  ·simp only [Act.put, List.setIfInBounds_toArray, List.set_cons_zero, List.set_cons_succ, i64_w, i32_w]
   rfl
  refine pure_ (i := 1) (N := some 8) (v := ?_) (a' := ?_) #[true, true, false, false, false, false, false, false, false, false] rfl rfl (any_of HT_.out (by kernel_rfl)) (fun _ _ _ h => h) (Or.inl ⟨by rfl, ?_⟩) ?_ ?_
  rotate_left
  ·intro w'
   go_simp
   with_reducible rfl
  rotate_left
  ·simp only [Act.put, List.setIfInBounds_toArray, List.set_cons_zero, List.set_cons_succ, i64_w, i32_w]
   rfl
  refine pure_ (i := 4) (N := some 11) (v := ?_) (a' := ?_) #[true, true, false, false, true, false, false, false, false, false] rfl rfl (any_of HT_.out (by kernel_rfl)) (fun _ _ _ h => h) (Or.inl ⟨by rfl, ?_⟩) ?_ ?_
  rotate_left
  ·intro w'
   go_simp
   with_reducible rfl
  rotate_left
  ·simp only [Act.put, List.setIfInBounds_toArray, List.set_cons_zero, List.set_cons_succ, i64_w, i32_w]
   rfl
  refine pure_ (i := 5) (N := some 12) (v := ?_) (a' := ?_) #[true, true, false, false, true, true, false, false, false, false] rfl rfl (any_of HT_.out (by kernel_rfl)) (fun _ _ _ h => h) (Or.inl ⟨by rfl, ?_⟩) ?_ ?_
  rotate_left
  ·intro w'
   go_simp
   with_reducible rfl
  rotate_left
  ·simp only [Act.put, List.setIfInBounds_toArray, List.set_cons_zero, List.set_cons_succ, i64_w, i32_w]
   rfl
  refine take_ (i := 2) (N := some 9) (v := ?_) (a' := ?_) #[true, true, true, false, true, true, false, false, false, false] rfl rfl (take_ofW HT_.out HW_.out (by kernel_rfl)) (fun _ _ _ h => h) (Or.inl ⟨by rfl, ?_⟩) hHeld ?_ ?_
  rotate_left
  ·rintro w' ⟨s0, s1⟩
   go_simp
   with_reducible rfl
  rotate_left
  ·simp only [Act.put, List.setIfInBounds_toArray, List.set_cons_zero, List.set_cons_succ, i64_w, i32_w]
   rfl
  refine take_ (i := 6) (N := some 13) (v := ?_) (a' := ?_) #[true, true, true, false, true, true, true, false, false, false] rfl rfl (take_ofW HT_.out HW_.out (by kernel_rfl)) (fun _ _ _ h => h) (Or.inl ⟨by rfl, ?_⟩) hHeld ?_ ?_
  rotate_left
  ·rintro w' ⟨s0, s1⟩
   go_simp
   with_reducible rfl
  rotate_left
  ·simp only [Act.put, List.setIfInBounds_toArray, List.set_cons_zero, List.set_cons_succ, i64_w, i32_w]
   rfl
  refine one_ (i := 3) (N := some 10) #[true, true, true, true, true, true, true, false, false, false] rfl rfl (one_of HT_.out (by kernel_rfl)) (by decide) (fun K hK => ?_)
  refine goes_ Try.func58 (by kernel_rfl) rfl #[.int .i64 a0, .int .u64 a1_0] (by rfl) rfl rfl (by (try simp only [List.map_toArray, List.map_cons, List.map_nil]); first | done | rfl | (simp only [List.length_drop, List.length_take]; rfl)) ?_
  with_reducible refine (steepleref02_timesWord.calls k a0 a1_0 t350 _ A4.out).mono ?_
  rintro e w9 ⟨rfl, hb⟩
  refine ⟨_, rfl, ?_⟩
  replace BK348 := bb BK348 hb
  replace BK349 := bb BK349 hb
  replace HB := bh HB hb
  (try clear hb)
  (try clear hb2)
  (try clear hk)
  (try clear hi)
  refine hK.out _ _ ⟨(blk_cell BK348.out 0).trans rfl, (blk_cell BK348.out 1).trans rfl⟩ (fun hHeld => ?_)
  clear hK K
  refine norm_ (a' := ?_) ?_ ?_
  rotate_left
  ·show Act.put _ (some 10) _ = _
   simp only [Act.put, List.setIfInBounds_toArray, List.set_cons_zero, List.set_cons_succ, i64_w, i32_w]
   rfl
  refine one_ (i := 7) (N := some 14) #[true, true, true, true, true, true, true, true, false, false] rfl rfl (one_of HT_.out (by kernel_rfl)) (by decide) (fun K hK => ?_)
  refine goes_ Try.func58 (by kernel_rfl) rfl #[.int .i64 a0, .int .u64 a1_1] (by rfl) rfl rfl (by (try simp only [List.map_toArray, List.map_cons, List.map_nil]); first | done | rfl | (simp only [List.length_drop, List.length_take]; rfl)) ?_
  with_reducible refine (steepleref02_timesWord.calls k a0 a1_1 t351 _ A5.out).mono ?_
  rintro e w10 ⟨rfl, hb⟩
  refine ⟨_, rfl, ?_⟩
  replace BK348 := bb BK348 hb
  replace BK349 := bb BK349 hb
  replace HB := bh HB hb
  (try clear hb)
  (try clear hb2)
  (try clear hk)
  (try clear hi)
  refine hK.out _ _ ⟨(blk_cell BK348.out 0).trans rfl, (blk_cell BK348.out 1).trans rfl⟩ (fun hHeld => ?_)
  clear hK K
  refine norm_ (a' := ?_) ?_ ?_
  rotate_left
  ·show Act.put _ (some 14) _ = _
   simp only [Act.put, List.setIfInBounds_toArray, List.set_cons_zero, List.set_cons_succ, i64_w, i32_w]
   rfl
  refine pure_ (i := 8) (N := some 15) (v := ?_) (a' := ?_) #[true, true, true, true, true, true, true, true, true, false] rfl rfl (any_of HT_.out (by kernel_rfl)) (fun _ _ _ h => h) (Or.inl ⟨by rfl, ?_⟩) ?_ ?_
  rotate_left
  ·intro w'
   go_simp
   with_reducible rfl
  rotate_left
  ·simp only [Act.put, List.setIfInBounds_toArray, List.set_cons_zero, List.set_cons_succ, i64_w, i32_w]
   rfl
  refine one_ (i := 9) (N := none) #[true, true, true, true, true, true, true, true, true, true] rfl rfl (one_of HT_.out (by kernel_rfl)) (by decide) (fun K hK => ?_)
  have hs11 : w10.cell? ⟨gb349, 0, none⟩ = some (.int .u64 0) := (blk_cell BK349.out 0).trans rfl
  have hfs11 := blk_frozen BK349.out 0
  have hns11_0 := NB348_349.out
  have hms11_0 := NB349_348.out
  have hs12 : w10.cell? ⟨gb349, 1, none⟩ = some (.int .u64 0) := (blk_cell BK349.out 1).trans rfl
  have hfs12 := blk_frozen BK349.out 1
  have hns12_0 := NB348_349.out
  have hms12_0 := NB349_348.out
  refine skip_ (w1 := ?_) (by rfl) rfl ?_ ?_
  rotate_left
  ·go_simp
   rfl
  refine hK.out _ _ ⟨((cell_far (p := ⟨gb349, _, none⟩) NB348_349.out _).trans (((cell_far (p := ⟨gb349, _, none⟩) NB348_349.out _).trans (hHeld.1)))), ((cell_far (p := ⟨gb349, _, none⟩) NB348_349.out _).trans (((cell_far (p := ⟨gb349, _, none⟩) NB348_349.out _).trans (hHeld.2))))⟩ (fun hHeld => ?_)
  clear hK K
  refine done_ (done_of HT_.out (by kernel_rfl)) ?_
  try go_wp2
  refine bodyPost_ret (results_cell_row rfl _ _ gb349 44 #[.int .u64 t350, .int .u64 t351] (0, 0) _ rfl (by (with_reducible repeat refine bl ?_); refine blk_put (cs := #[.int .u64 t350, .int .u64 0]) ?_ 1 _ rfl; (with_reducible repeat refine bl ?_); refine blk_put (cs := #[.int .u64 0, .int .u64 0]) ?_ 0 _ rfl; (with_reducible repeat refine bl ?_); exact BK349.out) Try.underlying44 rfl (by kernel_rfl)) rfl ?_
  exact ⟨by first | rfl | (simp [errW_none, errW_some] <;> rfl) | (simp [*, errW_none, errW_some] <;> rfl), bq HB.out⟩
 ·rw [if_neg c3] at H
  have c3b0 : decide (a0 < 6) = false := decide_eq_false c3
  clear c3
  replace H := Option.bind_eq_some_iff.mp H
  obtain ⟨t352, A130, H⟩ := H
  replace H : (some (Go.bits .xor .u64 a1_1 t352, a1_0)) = some (r1, r2) := H
  have A13 := Aside0.mk A130
  clear A130
  simp only [Option.some.injEq, Prod.mk.injEq] at H
  obtain ⟨rfl, rfl⟩ := H
  go_enter Try.func53, Try.ntmps53
  try go_wp2_with (first | ((with_reducible refine gate_dst (N := 3) rfl ?_); refine box_event ?hg (N := 3) ?hd (cs := #[.int .u64 a1_0, .int .u64 a1_1]) (t := 44) ?hr ?_; (case hd => rfl); (case hg => rfl); (case hr => first | (go_simp; done) | (go_simp; rfl)); intro gb348 hg w14 hbox hb; have BK348 := Aside0.mk hbox; have GW348 := ge hg HB; have GE348 := ge hg HB; replace HB := bh HB hb; clear hb hbox hg) | ((with_reducible refine gate_dst (N := 4) rfl ?_); refine box_event ?hg (N := 4) ?hd (cs := #[.int .u64 0, .int .u64 0]) (t := 44) ?hr ?_; (case hd => rfl); (case hg => rfl); (case hr => first | (go_simp; done) | (go_simp; rfl)); intro gb349 hg w15 hbox hb; have BK349 := Aside0.mk hbox; have GW349 := ge hg HB; have GE349 := ge hg HB; have NB348_349 := nl hg BK348; have NB349_348 := ng hg BK348; replace BK348 := bb BK348 hb; replace HB := bh HB hb; clear hb hbox hg))
  replace BK348 := Aside0.mk (blk_drew BK348.out)
  replace BK349 := Aside0.mk (blk_drew BK349.out)
  replace HB := Aside0.mk (below_drew1 HB.out)
  refine start_ (n := 10) (S := fun w' => w'.cell? ⟨gb348, 0, none⟩ = some (.int .u64 a1_0) ∧ w'.cell? ⟨gb348, 1, none⟩ = some (.int .u64 a1_1)) (ds := []) #[false, false, false, false, false, false, false, false, false, false] (by kernel_rfl) rfl rfl ⟨(blk_cell BK348.out 0).trans rfl, (blk_cell BK348.out 1).trans rfl⟩ (fun hHeld => ?_); refine with_tabW steepleref02_Times.tab3 steepleref02_Times.bits3 (fun HT_ HW_ => ?_)
  generalize w15.drew = w16 at BK348 BK349 HB hHeld ⊢
  refine pure_ (i := 0) (N := some 16) (v := ?_) (a' := ?_) #[true, false, false, false, false, false, false, false, false, false] rfl rfl (any_of HT_.out (by kernel_rfl)) (fun _ _ _ h => h) (Or.inl ⟨by rfl, ?_⟩) ?_ ?_
  rotate_left
  ·intro w'
   go_simp
   with_reducible rfl
  rotate_left
  ·simp only [Act.put, List.setIfInBounds_toArray, List.set_cons_zero, List.set_cons_succ, i64_w, i32_w]
   rfl
  refine pure_ (i := 2) (N := some 18) (v := ?_) (a' := ?_) #[true, false, true, false, false, false, false, false, false, false] rfl rfl (any_of HT_.out (by kernel_rfl)) (fun _ _ _ h => h) (Or.inl ⟨by rfl, ?_⟩) ?_ ?_
  rotate_left
  ·intro w'
   go_simp
   with_reducible rfl
  rotate_left
  ·simp only [Act.put, List.setIfInBounds_toArray, List.set_cons_zero, List.set_cons_succ, i64_w, i32_w]
   rfl
  refine pure_ (i := 6) (N := some 22) (v := ?_) (a' := ?_) #[true, false, true, false, false, false, true, false, false, false] rfl rfl (any_of HT_.out (by kernel_rfl)) (fun _ _ _ h => h) (Or.inl ⟨by rfl, ?_⟩) ?_ ?_
  rotate_left
  ·intro w'
   go_simp
   with_reducible rfl
  rotate_left
  ·simp only [Act.put, List.setIfInBounds_toArray, List.set_cons_zero, List.set_cons_succ, i64_w, i32_w]
   rfl
  refine take_ (i := 1) (N := some 17) (v := ?_) (a' := ?_) #[true, true, true, false, false, false, true, false, false, false] rfl rfl (take_ofW HT_.out HW_.out (by kernel_rfl)) (fun _ _ _ h => h) (Or.inl ⟨by rfl, ?_⟩) hHeld ?_ ?_
  rotate_left
  ·rintro w' ⟨s0, s1⟩
   go_simp
   with_reducible rfl
  rotate_left
  ·simp only [Act.put, List.setIfInBounds_toArray, List.set_cons_zero, List.set_cons_succ, i64_w, i32_w]
   rfl
  refine take_ (i := 3) (N := some 19) (v := ?_) (a' := ?_) #[true, true, true, true, false, false, true, false, false, false] rfl rfl (take_ofW HT_.out HW_.out (by kernel_rfl)) (fun _ _ _ h => h) (Or.inl ⟨by rfl, ?_⟩) hHeld ?_ ?_
  rotate_left
  ·rintro w' ⟨s0, s1⟩
   go_simp
   with_reducible rfl
  rotate_left
  ·simp only [Act.put, List.setIfInBounds_toArray, List.set_cons_zero, List.set_cons_succ, i64_w, i32_w]
   rfl
  refine take_ (i := 7) (N := some 23) (v := ?_) (a' := ?_) #[true, true, true, true, false, false, true, true, false, false] rfl rfl (take_ofW HT_.out HW_.out (by kernel_rfl)) (fun _ _ _ h => h) (Or.inl ⟨by rfl, ?_⟩) hHeld ?_ ?_
  rotate_left
  ·rintro w' ⟨s0, s1⟩
   go_simp
   with_reducible rfl
  rotate_left
  ·simp only [Act.put, List.setIfInBounds_toArray, List.set_cons_zero, List.set_cons_succ, i64_w, i32_w]
   rfl
  refine one_ (i := 4) (N := some 20) #[true, true, true, true, true, false, true, true, false, false] rfl rfl (one_of HT_.out (by kernel_rfl)) (by decide) (fun K hK => ?_)
  refine goes_ Try.func58 (by kernel_rfl) rfl #[.int .i64 5, .int .u64 a1_0] (by rfl) rfl rfl (by (try simp only [List.map_toArray, List.map_cons, List.map_nil]); first | done | rfl | (simp only [List.length_drop, List.length_take]; rfl)) ?_
  with_reducible refine (steepleref02_timesWord.calls k 5 a1_0 t352 _ A13.out).mono ?_
  rintro e w17 ⟨rfl, hb⟩
  refine ⟨_, rfl, ?_⟩
  replace BK348 := bb BK348 hb
  replace BK349 := bb BK349 hb
  replace HB := bh HB hb
  (try clear hb)
  (try clear hb2)
  (try clear hk)
  (try clear hi)
  refine hK.out _ _ ⟨(blk_cell BK348.out 0).trans rfl, (blk_cell BK348.out 1).trans rfl⟩ (fun hHeld => ?_)
  clear hK K
  refine norm_ (a' := ?_) ?_ ?_
  rotate_left
  ·show Act.put _ (some 20) _ = _
   simp only [Act.put, List.setIfInBounds_toArray, List.set_cons_zero, List.set_cons_succ, i64_w, i32_w]
   rfl
  refine pure_ (i := 5) (N := some 21) (v := ?_) (a' := ?_) #[true, true, true, true, true, true, true, true, false, false] rfl rfl (any_of HT_.out (by kernel_rfl)) (fun _ _ _ h => h) (Or.inl ⟨by rfl, ?_⟩) ?_ ?_
  rotate_left
  ·intro w'
   go_simp
   with_reducible rfl
  rotate_left
  ·simp only [Act.put, List.setIfInBounds_toArray, List.set_cons_zero, List.set_cons_succ, i64_w, i32_w]
   rfl
  refine pure_ (i := 8) (N := some 24) (v := ?_) (a' := ?_) #[true, true, true, true, true, true, true, true, true, false] rfl rfl (any_of HT_.out (by kernel_rfl)) (fun _ _ _ h => h) (Or.inl ⟨by rfl, ?_⟩) ?_ ?_
  rotate_left
  ·intro w'
   go_simp
   with_reducible rfl
  rotate_left
  ·simp only [Act.put, List.setIfInBounds_toArray, List.set_cons_zero, List.set_cons_succ, i64_w, i32_w]
   rfl
  refine one_ (i := 9) (N := none) #[true, true, true, true, true, true, true, true, true, true] rfl rfl (one_of HT_.out (by kernel_rfl)) (by decide) (fun K hK => ?_)
  have hs18 : w17.cell? ⟨gb349, 0, none⟩ = some (.int .u64 0) := (blk_cell BK349.out 0).trans rfl
  have hfs18 := blk_frozen BK349.out 0
  have hns18_0 := NB348_349.out
  have hms18_0 := NB349_348.out
  have hs19 : w17.cell? ⟨gb349, 1, none⟩ = some (.int .u64 0) := (blk_cell BK349.out 1).trans rfl
  have hfs19 := blk_frozen BK349.out 1
  have hns19_0 := NB348_349.out
  have hms19_0 := NB349_348.out
  refine skip_ (w1 := ?_) (by rfl) rfl ?_ ?_
  rotate_left
  ·go_simp
   rfl
  refine hK.out _ _ ⟨((cell_far (p := ⟨gb349, _, none⟩) NB348_349.out _).trans (((cell_far (p := ⟨gb349, _, none⟩) NB348_349.out _).trans (hHeld.1)))), ((cell_far (p := ⟨gb349, _, none⟩) NB348_349.out _).trans (((cell_far (p := ⟨gb349, _, none⟩) NB348_349.out _).trans (hHeld.2))))⟩ (fun hHeld => ?_)
  clear hK K
  refine done_ (done_of HT_.out (by kernel_rfl)) ?_
  try go_wp2
  refine bodyPost_ret (results_cell_row rfl _ _ gb349 44 #[.int .u64 (Go.bits .xor .u64 a1_1 t352), .int .u64 a1_0] (0, 0) _ rfl (by (with_reducible repeat refine bl ?_); refine blk_put (cs := #[.int .u64 (Go.bits .xor .u64 a1_1 t352), .int .u64 0]) ?_ 1 _ rfl; (with_reducible repeat refine bl ?_); refine blk_put (cs := #[.int .u64 0, .int .u64 0]) ?_ 0 _ rfl; (with_reducible repeat refine bl ?_); exact BK349.out) Try.underlying44 rfl (by kernel_rfl)) rfl ?_
  exact ⟨by first | rfl | (simp [errW_none, errW_some] <;> rfl) | (simp [*, errW_none, errW_some] <;> rfl), bq HB.out⟩

/-! ### steepleref02_Product: function 33 -/
mutual
def steepleref02_Product.l0 : Nat → Int → Int → Int → Int → Int → Int → Int → Option (Int × Int)
 | 0, _, _, _, _, _, _, _ => none
 | k + 1, x6, x354000, x354001, x355000, x355001, x357000, x357001 => if x6 < 128 then ((steepleref02_Has.f k x355000 x355001 x6).bind fun t357 => (if t357 = true then (steepleref02_Product.l1 k x6 0 x354000 x354001 x355000 x355001 x357000 x357001 x354000 x354001) else (steepleref02_Product.l0 k (wrap64 (x6 + 1)) x354000 x354001 x355000 x355001 x357000 x357001))) else (some (x357000, x357001))
def steepleref02_Product.l1 : Nat → Int → Int → Int → Int → Int → Int → Int → Int → Int → Int → Option (Int × Int)
 | 0, _, _, _, _, _, _, _, _, _, _ => none
 | k + 1, x6, x8, x354000, x354001, x355000, x355001, x357000, x357001, x359000, x359001 => if x8 < 7 then (if 0 ≤ (IntKind.u64.wrap (x8)) then (if (Go.bits .and .i64 (shr .i64 x6 (IntKind.u64.wrap (x8))) 1) = 1 then ((steepleref02_Times.f k x8 x359000 x359001).bind fun bt359 => (steepleref02_Product.l1 k x6 (wrap64 (x8 + 1)) x354000 x354001 x355000 x355001 x357000 x357001 bt359.1 bt359.2)) else (steepleref02_Product.l1 k x6 (wrap64 (x8 + 1)) x354000 x354001 x355000 x355001 x357000 x357001 x359000 x359001)) else (none)) else ((steepleref02_Add.f x357000 x357001 x359000 x359001).bind fun bt361 => (steepleref02_Product.l0 k (wrap64 (x6 + 1)) x354000 x354001 x355000 x355001 bt361.1 bt361.2))
end
def steepleref02_Product.f (k : Nat) (a0_0 : Int) (a0_1 : Int) (a1_0 : Int) (a1_1 : Int) : Option (Int × Int) := steepleref02_Product.l0 k 0 a0_0 a0_1 a1_0 a1_1 0 0
theorem steepleref02_Product.mono_l : ∀ k, (∀ y0 y1 y2 y3 y4 y5 y6, LeO (steepleref02_Product.l0 k y0 y1 y2 y3 y4 y5 y6) (steepleref02_Product.l0 (k + 1) y0 y1 y2 y3 y4 y5 y6)) ∧ (∀ y0 y1 y2 y3 y4 y5 y6 y7 y8 y9, LeO (steepleref02_Product.l1 k y0 y1 y2 y3 y4 y5 y6 y7 y8 y9) (steepleref02_Product.l1 (k + 1) y0 y1 y2 y3 y4 y5 y6 y7 y8 y9))
 | 0 => ⟨fun _ _ _ _ _ _ _ r h => by simp [steepleref02_Product.l0] at h, fun _ _ _ _ _ _ _ _ _ _ r h => by simp [steepleref02_Product.l1] at h⟩
 | k + 1 => by
  obtain ⟨ih0, ih1⟩ := steepleref02_Product.mono_l k
  refine ⟨?_, ?_⟩
  ·intro y0 y1 y2 y3 y4 y5 y6
   unfold steepleref02_Product.l0
   repeat' first
   | (with_reducible exact ih0 _ _ _ _ _ _ _)
   | (with_reducible exact ih1 _ _ _ _ _ _ _ _ _ _)
   | (with_reducible exact steepleref02_Has.mono _ _ _ _)
   | (with_reducible exact steepleref02_Times.mono _ _ _ _)
   | (with_reducible exact LeO.refl _)
   | (with_reducible exact LeO.none _)
   | (with_reducible refine LeO.ite ?_ ?_)
   | (with_reducible refine LeO.bind ?_ (fun _ => ?_))
   | exact ih0 _ _ _ _ _ _ _
   | exact ih1 _ _ _ _ _ _ _ _ _ _
   | exact steepleref02_Has.mono _ _ _ _
   | exact steepleref02_Times.mono _ _ _ _
   | exact LeO.none _
   | refine LeO.ite ?_ ?_
   | refine LeO.bind ?_ (fun _ => ?_)
  ·intro y0 y1 y2 y3 y4 y5 y6 y7 y8 y9
   unfold steepleref02_Product.l1
   repeat' first
   | (with_reducible exact ih0 _ _ _ _ _ _ _)
   | (with_reducible exact ih1 _ _ _ _ _ _ _ _ _ _)
   | (with_reducible exact steepleref02_Has.mono _ _ _ _)
   | (with_reducible exact steepleref02_Times.mono _ _ _ _)
   | (with_reducible exact LeO.refl _)
   | (with_reducible exact LeO.none _)
   | (with_reducible refine LeO.ite ?_ ?_)
   | (with_reducible refine LeO.bind ?_ (fun _ => ?_))
   | exact ih0 _ _ _ _ _ _ _
   | exact ih1 _ _ _ _ _ _ _ _ _ _
   | exact steepleref02_Has.mono _ _ _ _
   | exact steepleref02_Times.mono _ _ _ _
   | exact LeO.none _
   | refine LeO.ite ?_ ?_
   | refine LeO.bind ?_ (fun _ => ?_)
theorem steepleref02_Product.mono : ∀ a0 a1 a2 a3 k, LeO (steepleref02_Product.f k a0 a1 a2 a3) (steepleref02_Product.f (k + 1) a0 a1 a2 a3) := by
 intro a0 a1 a2 a3 k
 obtain ⟨ih0, ih1⟩ := steepleref02_Product.mono_l k
 unfold steepleref02_Product.f
 repeat' first
   | (with_reducible exact ih0 _ _ _ _ _ _ _)
   | (with_reducible exact ih1 _ _ _ _ _ _ _ _ _ _)
   | (with_reducible exact steepleref02_Has.mono _ _ _ _)
   | (with_reducible exact steepleref02_Times.mono _ _ _ _)
   | (with_reducible exact LeO.refl _)
   | (with_reducible exact LeO.none _)
   | (with_reducible refine LeO.ite ?_ ?_)
   | (with_reducible refine LeO.bind ?_ (fun _ => ?_))
   | exact ih0 _ _ _ _ _ _ _
   | exact ih1 _ _ _ _ _ _ _ _ _ _
   | exact steepleref02_Has.mono _ _ _ _
   | exact steepleref02_Times.mono _ _ _ _
   | exact LeO.none _
   | refine LeO.ite ?_ ?_
   | refine LeO.bind ?_ (fun _ => ?_)
set_option maxHeartbeats 8000000 in
set_option maxRecDepth 100000 in
theorem steepleref02_Product.calls (k : Nat) (a0_0 : Int) (a0_1 : Int) (a1_0 : Int) (a1_1 : Int) (r1 : Int) (r2 : Int) (w : World) (h : steepleref02_Product.f k a0_0 a0_1 a1_0 a1_1 = some (r1, r2)) :
  Calls Try.prog 33 #[.agg #[.int .u64 a0_0, .int .u64 a0_1], .agg #[.int .u64 a1_0, .int .u64 a1_1]] w fun e w' => e = .returned (.agg #[.int .u64 r1, .int .u64 r2]) ∧ Below w.heap.size w w' := by
 have hu44 := Try.underlying44
 have HB := Aside0.mk (Below.refl w.heap.size w)
 have H : (steepleref02_Product.l0 k 0 a0_0 a0_1 a1_0 a1_1 0 0) = some (r1, r2) := h
 clear h
 have H' := Aside0.mk H
 clear H
 go_enter Try.func33, Try.ntmps33
 go_wp2_with (first | ((with_reducible refine gate_dst (N := 2) rfl ?_); refine box_event ?hg (N := 2) ?hd (cs := #[.int .u64 a0_0, .int .u64 a0_1]) (t := 44) ?hr ?_; (case hd => rfl); (case hg => rfl); (case hr => first | (go_simp; done) | (go_simp; rfl)); intro gb353 hg w3 hbox hb; have BK353 := Aside0.mk hbox; have GW353 := ge hg HB; have GE353 := ge hg HB; replace HB := bh HB hb; clear hb hbox hg) | ((with_reducible refine gate_dst (N := 3) rfl ?_); refine box_event ?hg (N := 3) ?hd (cs := #[.int .u64 a1_0, .int .u64 a1_1]) (t := 44) ?hr ?_; (case hd => rfl); (case hg => rfl); (case hr => first | (go_simp; done) | (go_simp; rfl)); intro gb354 hg w4 hbox hb; have BK354 := Aside0.mk hbox; have GW354 := ge hg HB; have GE354 := ge hg HB; have NB353_354 := nl hg BK353; have NB354_353 := ng hg BK353; replace BK353 := bb BK353 hb; replace HB := bh HB hb; clear hb hbox hg) | ((with_reducible refine gate_dst (N := 4) rfl ?_); refine box_event ?hg (N := 4) ?hd (cs := #[.int .u64 0, .int .u64 0]) (t := 44) ?hr ?_; (case hd => rfl); (case hg => rfl); (case hr => first | (go_simp; done) | (go_simp; rfl)); intro gb355 hg w5 hbox hb; have BK355 := Aside0.mk hbox; have GW355 := ge hg HB; have GE355 := ge hg HB; have NB353_355 := nl hg BK353; have NB355_353 := ng hg BK353; have NB354_355 := nl hg BK354; have NB355_354 := ng hg BK354; replace BK353 := bb BK353 hb; replace BK354 := bb BK354 hb; replace HB := bh HB hb; clear hb hbox hg) | ((with_reducible refine gate_dst (N := 5) rfl ?_); refine box_event ?hg (N := 5) ?hd (cs := #[.int .u64 0, .int .u64 0]) (t := 44) ?hr ?_; (case hd => rfl); (case hg => rfl); (case hr => first | (go_simp; done) | (go_simp; rfl)); intro gb356 hg w6 hbox hb; have BK356 := Aside0.mk hbox; have GW356 := ge hg HB; have GE356 := ge hg HB; have NB353_356 := nl hg BK353; have NB356_353 := ng hg BK353; have NB354_356 := nl hg BK354; have NB356_354 := ng hg BK354; have NB355_356 := nl hg BK355; have NB356_355 := ng hg BK355; replace BK353 := bb BK353 hb; replace BK354 := bb BK354 hb; replace BK355 := bb BK355 hb; replace HB := bh HB hb; clear hb hbox hg))
 go_loopg [6] k (fun kq v6 w' => ∃ (x6_1 : Int) (x357000_1 : Int) (x357001_1 : Int), v6 = .int .i64 x6_1 ∧ Aside0 (steepleref02_Product.l0 kq x6_1 a0_0 a0_1 a1_0 a1_1 x357000_1 x357001_1 = some (r1, r2)) ∧ Aside0 (kq ≤ k) ∧ Aside0 (w'.heap[gb353]? = some (.cells #[.int .u64 a0_0, .int .u64 a0_1] 44 (0, 0))) ∧ Aside0 (w'.heap[gb354]? = some (.cells #[.int .u64 a1_0, .int .u64 a1_1] 44 (0, 0))) ∧ Aside0 (w'.heap[gb355]? = some (.cells #[.int .u64 0, .int .u64 0] 44 (0, 0))) ∧ Aside0 (w'.heap[gb356]? = some (.cells #[.int .u64 x357000_1, .int .u64 x357001_1] 44 (0, 0))) ∧ Aside0 (Below w.heap.size w w'))
 case atStart => exact ⟨(0), (0), (0), (by first | rfl | (simp; done) | (simp [*]; done)), H', ⟨Nat.le_refl _⟩, ⟨bk BK353.out⟩, ⟨bk BK354.out⟩, ⟨bk BK355.out⟩, ⟨bk BK356.out⟩, ⟨bq HB.out⟩⟩
 case round =>
  clear H'
  try clear p2
  try clear c3
  obtain ⟨x6_1, x357000_1, x357001_1, rfl, HA, HK1, BK353, BK354, BK355, BK356, HB⟩ := hrel
  cases gk with
  | zero => exact absurd HA.out (by simp [steepleref02_Product.l0])
  | succ k1 =>
   have H := HA.out
   clear HA
   simp only [steepleref02_Product.l0] at H
   by_cases c7 : x6_1 < 128
   ·rw [if_pos c7] at H
    have c7b0 : decide (x6_1 < 128) = true := decide_eq_true c7
    clear c7
    replace H := Option.bind_eq_some_iff.mp H
    obtain ⟨t357, A80, H⟩ := H
    replace H : (if t357 = true then (steepleref02_Product.l1 k1 x6_1 0 a0_0 a0_1 a1_0 a1_1 x357000_1 x357001_1 a0_0 a0_1) else (steepleref02_Product.l0 k1 (wrap64 (x6_1 + 1)) a0_0 a0_1 a1_0 a1_1 x357000_1 x357001_1)) = some (r1, r2) := H
    have A8 := Aside0.mk A80
    clear A80
    by_cases c9 : t357 = true
    ·subst c9
     have H1 : (steepleref02_Product.l1 k1 x6_1 0 a0_0 a0_1 a1_0 a1_1 x357000_1 x357001_1 a0_0 a0_1) = some (r1, r2) := by rw [if_pos rfl] at H; exact H
     clear H
     have H := H1
     clear H1
     have H' := Aside0.mk H
     clear H
     have hnb10 := NB354_353.out
     have hnc10 := NB353_354.out
     have hnb11 := NB354_355.out
     have hnc11 := NB355_354.out
     have hnb12 := NB354_356.out
     have hnc12 := NB356_354.out
     obtain ⟨hcz13_0, hcz13_1⟩ := zc2 BK354
     obtain ⟨hfz13_0, hfz13_1⟩ := zf2 BK354
     go_wp2_with (first | ((with_reducible refine gate_callee (f := 46) rfl ?_); refine goesL_ (some 15) rfl rfl Try.func46 (by kernel_rfl) rfl #[.agg #[.int .u64 a1_0, .int .u64 a1_1], .int .i64 x6_1] rfl (by (try simp only [List.map_toArray, List.map_cons, List.map_nil]); first | done | rfl | (simp only [List.length_drop, List.length_take]; rfl)) ?_; (with_reducible refine (steepleref02_Has.calls k1 a1_0 a1_1 x6_1 true _ A8.out).mono ?_); rintro e w14 ⟨rfl, hb⟩; refine ⟨_, rfl, ?_⟩; replace BK353 := bb BK353 hb; replace BK354 := bb BK354 hb; replace BK355 := bb BK355 hb; replace BK356 := bb BK356 hb; replace HB := bh HB hb; (try clear hb); (try clear hb2); (try clear hk); (try clear hi); have hnb15 := NB353_355.out; have hnc15 := NB355_353.out; have hnb16 := NB353_356.out; have hnc16 := NB356_353.out; obtain ⟨hcz17_0, hcz17_1⟩ := zc2 BK353; obtain ⟨hfz17_0, hfz17_1⟩ := zf2 BK353) | ((with_reducible refine gate_dst (N := 7) rfl ?_); refine box_event ?hg (N := 7) ?hd (cs := #[.int .u64 0, .int .u64 0]) (t := 44) ?hr ?_; (case hd => rfl); (case hg => rfl); (case hr => first | (go_simp; done) | (go_simp; rfl)); intro gb358 hg w18 hbox hb; have BK358 := Aside0.mk hbox; have GW358 := ge hg HB; have GE358 := ge hg HB; have NB353_358 := nl hg BK353; have NB358_353 := ng hg BK353; have NB354_358 := nl hg BK354; have NB358_354 := ng hg BK354; have NB355_358 := nl hg BK355; have NB358_355 := ng hg BK355; have NB356_358 := nl hg BK356; have NB358_356 := ng hg BK356; replace BK353 := bb BK353 hb; replace BK354 := bb BK354 hb; replace BK355 := bb BK355 hb; replace BK356 := bb BK356 hb; replace HB := bh HB hb; clear hb hbox hg; have hnb19 := NB358_353.out; have hnc19 := NB353_358.out; have hnb20 := NB358_354.out; have hnc20 := NB354_358.out; have hnb21 := NB358_355.out; have hnc21 := NB355_358.out; have hnb22 := NB358_356.out; have hnc22 := NB356_358.out; obtain ⟨hcz23_0, hcz23_1⟩ := zc2 BK358; obtain ⟨hfz23_0, hfz23_1⟩ := zf2 BK358))
     go_loopg [8] k1 (fun kq v8 w' => ∃ (x8_2 : Int) (x359000_2 : Int) (x359001_2 : Int), v8 = .int .i64 x8_2 ∧ Aside0 (steepleref02_Product.l1 kq x6_1 x8_2 a0_0 a0_1 a1_0 a1_1 x357000_1 x357001_1 x359000_2 x359001_2 = some (r1, r2)) ∧ Aside0 (kq ≤ k1) ∧ Aside0 (w'.heap[gb353]? = some (.cells #[.int .u64 a0_0, .int .u64 a0_1] 44 (0, 0))) ∧ Aside0 (w'.heap[gb354]? = some (.cells #[.int .u64 a1_0, .int .u64 a1_1] 44 (0, 0))) ∧ Aside0 (w'.heap[gb355]? = some (.cells #[.int .u64 0, .int .u64 0] 44 (0, 0))) ∧ Aside0 (w'.heap[gb356]? = some (.cells #[.int .u64 x357000_1, .int .u64 x357001_1] 44 (0, 0))) ∧ Aside0 (w'.heap[gb358]? = some (.cells #[.int .u64 x359000_2, .int .u64 x359001_2] 44 (0, 0))) ∧ Aside0 (Below w.heap.size w w'))
     case atStart => exact ⟨(0), (a0_0), (a0_1), (by first | rfl | (simp; done) | (simp [*]; done)), H', ⟨Nat.le_refl _⟩, ⟨by (with_reducible repeat refine bl ?_); refine blk_far ?_ NB353_358.out _; (with_reducible repeat refine bl ?_); refine blk_far ?_ NB353_358.out _; (with_reducible repeat refine bl ?_); exact BK353.out⟩, ⟨by (with_reducible repeat refine bl ?_); refine blk_far ?_ NB354_358.out _; (with_reducible repeat refine bl ?_); refine blk_far ?_ NB354_358.out _; (with_reducible repeat refine bl ?_); exact BK354.out⟩, ⟨by (with_reducible repeat refine bl ?_); refine blk_far ?_ NB355_358.out _; (with_reducible repeat refine bl ?_); refine blk_far ?_ NB355_358.out _; (with_reducible repeat refine bl ?_); exact BK355.out⟩, ⟨by (with_reducible repeat refine bl ?_); refine blk_far ?_ NB356_358.out _; (with_reducible repeat refine bl ?_); refine blk_far ?_ NB356_358.out _; (with_reducible repeat refine bl ?_); exact BK356.out⟩, ⟨by (with_reducible repeat refine bl ?_); refine blk_put (cs := #[.int .u64 a0_0, .int .u64 0]) ?_ 1 _ rfl; (with_reducible repeat refine bl ?_); refine blk_put (cs := #[.int .u64 0, .int .u64 0]) ?_ 0 _ rfl; (with_reducible repeat refine bl ?_); exact BK358.out⟩, ⟨bq HB.out⟩⟩
     case round =>
      clear H'
      try clear c1
      try clear c2
      try clear p2
      try clear c3
      try clear c4
      try clear p6
      try clear c7
      try clear c7b0
      try clear c9
      try clear c10
      try clear c11
      try clear c12
      try clear c15
      try clear c16
      try clear c19
      try clear c20
      try clear c21
      try clear c22
      try clear hcz13_0
      try clear hcz13_1
      try clear hcz17_0
      try clear hcz17_1
      try clear hcz23_0
      try clear hcz23_1
      try clear hfz13_0
      try clear hfz13_1
      try clear hfz17_0
      try clear hfz17_1
      try clear hfz23_0
      try clear hfz23_1
      try clear p2
      obtain ⟨x8_2, x359000_2, x359001_2, rfl, HA, HK2, BK353, BK354, BK355, BK356, BK358, HB⟩ := hrel
      cases gk with
      | zero => exact absurd HA.out (by simp [steepleref02_Product.l1])
      | succ k2 =>
       have H := HA.out
       clear HA
       simp only [steepleref02_Product.l1] at H
       by_cases c24 : x8_2 < 7
       ·rw [if_pos c24] at H
        have c24b0 : decide (x8_2 < 7) = true := decide_eq_true c24
        clear c24
        obtain ⟨ji25, hji25⟩ : ∃ j_ : Int, (IntKind.u64.wrap (x8_2)) = j_ := ⟨_, rfl⟩
        replace H : (if 0 ≤ (ji25) then (if (Go.bits .and .i64 (shr .i64 x6_1 (ji25)) 1) = 1 then ((steepleref02_Times.f k2 x8_2 x359000_2 x359001_2).bind fun bt359 => (steepleref02_Product.l1 k2 x6_1 (wrap64 (x8_2 + 1)) a0_0 a0_1 a1_0 a1_1 x357000_1 x357001_1 bt359.1 bt359.2)) else (steepleref02_Product.l1 k2 x6_1 (wrap64 (x8_2 + 1)) a0_0 a0_1 a1_0 a1_1 x357000_1 x357001_1 x359000_2 x359001_2)) else (none)) = some (r1, r2) := by first | (rw [hji25] at H; exact H) | (simp only [hji25] at H ⊢; exact H)
        by_cases c26 : 0 ≤ (ji25)
        ·rw [if_pos c26] at H
         have c26b0 := eq_true c26
         have c26b1 : decide (0 ≤ (ji25)) = true := decide_eq_true c26
         clear c26
         obtain ⟨ji27, hji27⟩ : ∃ j_ : Int, (shr .i64 x6_1 (ji25)) = j_ := ⟨_, rfl⟩
         replace H : (if (Go.bits .and .i64 (ji27) 1) = 1 then ((steepleref02_Times.f k2 x8_2 x359000_2 x359001_2).bind fun bt359 => (steepleref02_Product.l1 k2 x6_1 (wrap64 (x8_2 + 1)) a0_0 a0_1 a1_0 a1_1 x357000_1 x357001_1 bt359.1 bt359.2)) else (steepleref02_Product.l1 k2 x6_1 (wrap64 (x8_2 + 1)) a0_0 a0_1 a1_0 a1_1 x357000_1 x357001_1 x359000_2 x359001_2)) = some (r1, r2) := by first | (rw [hji27] at H; exact H) | (simp only [hji27] at H ⊢; exact H)
         have hji27_ : (x6_1 / 2 ^ min (ji25).toNat 64) = ji27 := hji27
         have hji27z : (ji25) ≤ 64 → (x6_1 / 2 ^ (ji25).toNat) = ji27 := shr_small hji27
         by_cases c28 : (Go.bits .and .i64 (ji27) 1) = 1
         ·rw [if_pos c28] at H
          have c28b0 : ((Go.bits .and .i64 (ji27) 1) == 1) = true := beq_iff_eq.mpr c28
          have c28b1 : ((Go.bits .and .i64 (ji27) 1) != 1) = false := bne_eq_false_iff_eq.mpr c28
          clear c28
          replace H := Option.bind_eq_some_iff.mp H
          obtain ⟨⟨t359, t360⟩, A290, H⟩ := H
          replace H : (steepleref02_Product.l1 k2 x6_1 (wrap64 (x8_2 + 1)) a0_0 a0_1 a1_0 a1_1 x357000_1 x357001_1 t359 t360) = some (r1, r2) := H
          have A29 := Aside0.mk A290
          clear A290
          have H' := Aside0.mk H
          clear H
          have hnb30 := NB358_353.out
          have hnc30 := NB353_358.out
          have hnb31 := NB358_354.out
          have hnc31 := NB354_358.out
          have hnb32 := NB358_355.out
          have hnc32 := NB355_358.out
          have hnb33 := NB358_356.out
          have hnc33 := NB356_358.out
          obtain ⟨hcz34_0, hcz34_1⟩ := zc2 BK358
          obtain ⟨hfz34_0, hfz34_1⟩ := zf2 BK358
          go_wp2_with (first | ((with_reducible refine gate_callee (f := 53) rfl ?_); refine goesL_ (some 30) rfl rfl Try.func53 (by kernel_rfl) rfl #[.int .i64 x8_2, .agg #[.int .u64 x359000_2, .int .u64 x359001_2]] rfl (by (try simp only [List.map_toArray, List.map_cons, List.map_nil]); first | done | rfl | (simp only [List.length_drop, List.length_take]; rfl)) ?_; (with_reducible refine (steepleref02_Times.calls k2 x8_2 x359000_2 x359001_2 t359 t360 _ A29.out).mono ?_); rintro e w35 ⟨rfl, hb⟩; refine ⟨_, rfl, ?_⟩; replace BK353 := bb BK353 hb; replace BK354 := bb BK354 hb; replace BK355 := bb BK355 hb; replace BK356 := bb BK356 hb; replace BK358 := bb BK358 hb; replace HB := bh HB hb; (try clear hb); (try clear hb2); (try clear hk); (try clear hi); obtain ⟨hcz36_0, hcz36_1⟩ := zc2 BK358; obtain ⟨hfz36_0, hfz36_1⟩ := zf2 BK358))
          go_roundg k2
          case measure => have := HK1.out; have := HK2.out; omega
          case rel => exact ⟨(wrap64 (x8_2 + 1)), (t359), (t360), (by first | rfl | (simp; done) | (simp [*]; done)), H', ⟨by have := HK1.out; have := HK2.out; omega⟩, ⟨by (with_reducible repeat refine bl ?_); refine blk_far ?_ NB353_358.out _; (with_reducible repeat refine bl ?_); refine blk_far ?_ NB353_358.out _; (with_reducible repeat refine bl ?_); exact BK353.out⟩, ⟨by (with_reducible repeat refine bl ?_); refine blk_far ?_ NB354_358.out _; (with_reducible repeat refine bl ?_); refine blk_far ?_ NB354_358.out _; (with_reducible repeat refine bl ?_); exact BK354.out⟩, ⟨by (with_reducible repeat refine bl ?_); refine blk_far ?_ NB355_358.out _; (with_reducible repeat refine bl ?_); refine blk_far ?_ NB355_358.out _; (with_reducible repeat refine bl ?_); exact BK355.out⟩, ⟨by (with_reducible repeat refine bl ?_); refine blk_far ?_ NB356_358.out _; (with_reducible repeat refine bl ?_); refine blk_far ?_ NB356_358.out _; (with_reducible repeat refine bl ?_); exact BK356.out⟩, ⟨by (with_reducible repeat refine bl ?_); refine blk_put (cs := #[.int .u64 t359, .int .u64 x359001_2]) ?_ 1 _ rfl; (with_reducible repeat refine bl ?_); refine blk_put (cs := #[.int .u64 x359000_2, .int .u64 x359001_2]) ?_ 0 _ rfl; (with_reducible repeat refine bl ?_); exact BK358.out⟩, ⟨bq HB.out⟩⟩
         ·rw [if_neg c28] at H
          have c28b0 : ((Go.bits .and .i64 (ji27) 1) == 1) = false := beq_eq_false_iff_ne.mpr c28
          have c28b1 : ((Go.bits .and .i64 (ji27) 1) != 1) = true := bne_iff_ne.mpr c28
          have H' := Aside0.mk H
          clear H
          go_wp2
          go_roundg k2
          case measure => have := HK1.out; have := HK2.out; omega
          case rel => exact ⟨(wrap64 (x8_2 + 1)), (x359000_2), (x359001_2), (by first | rfl | (simp; done) | (simp [*]; done)), H', ⟨by have := HK1.out; have := HK2.out; omega⟩, ⟨bk BK353.out⟩, ⟨bk BK354.out⟩, ⟨bk BK355.out⟩, ⟨bk BK356.out⟩, ⟨bk BK358.out⟩, ⟨bq HB.out⟩⟩
        ·rw [if_neg c26] at H
         exact absurd H (by simp)
       ·rw [if_neg c24] at H
        have c24b0 : decide (x8_2 < 7) = false := decide_eq_false c24
        clear c24
        replace H := Option.bind_eq_some_iff.mp H
        obtain ⟨⟨t361, t362⟩, A370, H⟩ := H
        replace H : (steepleref02_Product.l0 k2 (wrap64 (x6_1 + 1)) a0_0 a0_1 a1_0 a1_1 t361 t362) = some (r1, r2) := H
        have A37 := Aside0.mk A370
        clear A370
        have H' := Aside0.mk H
        clear H
        have hnb38 := NB356_353.out
        have hnc38 := NB353_356.out
        have hnb39 := NB356_354.out
        have hnc39 := NB354_356.out
        have hnb40 := NB356_355.out
        have hnc40 := NB355_356.out
        have hnb41 := NB356_358.out
        have hnc41 := NB358_356.out
        obtain ⟨hcz42_0, hcz42_1⟩ := zc2 BK356
        obtain ⟨hfz42_0, hfz42_1⟩ := zf2 BK356
        have hnb43 := NB358_353.out
        have hnc43 := NB353_358.out
        have hnb44 := NB358_354.out
        have hnc44 := NB354_358.out
        have hnb45 := NB358_355.out
        have hnc45 := NB355_358.out
        obtain ⟨hcz46_0, hcz46_1⟩ := zc2 BK358
        obtain ⟨hfz46_0, hfz46_1⟩ := zf2 BK358
        go_wp2_with (first | ((with_reducible refine gate_callee (f := 31) rfl ?_); refine goesL_ (some 33) rfl rfl Try.func31 (by kernel_rfl) rfl #[.agg #[.int .u64 x357000_1, .int .u64 x357001_1], .agg #[.int .u64 x359000_2, .int .u64 x359001_2]] rfl (by (try simp only [List.map_toArray, List.map_cons, List.map_nil]); first | done | rfl | (simp only [List.length_drop, List.length_take]; rfl)) ?_; (with_reducible refine (steepleref02_Add.calls x357000_1 x357001_1 x359000_2 x359001_2 t361 t362 _ A37.out).mono ?_); rintro e w47 ⟨rfl, hb⟩; refine ⟨_, rfl, ?_⟩; replace BK353 := bb BK353 hb; replace BK354 := bb BK354 hb; replace BK355 := bb BK355 hb; replace BK356 := bb BK356 hb; replace BK358 := bb BK358 hb; replace HB := bh HB hb; (try clear hb); (try clear hb2); (try clear hk); (try clear hi); obtain ⟨hcz48_0, hcz48_1⟩ := zc2 BK356; obtain ⟨hfz48_0, hfz48_1⟩ := zf2 BK356))
        go_roundg k2
        case measure => have := HK1.out; have := HK2.out; omega
        case rel => exact ⟨(wrap64 (x6_1 + 1)), (t361), (t362), (by first | rfl | (simp; done) | (simp [*]; done)), H', ⟨by have := HK1.out; have := HK2.out; omega⟩, ⟨by (with_reducible repeat refine bl ?_); refine blk_far ?_ NB353_356.out _; (with_reducible repeat refine bl ?_); refine blk_far ?_ NB353_356.out _; (with_reducible repeat refine bl ?_); exact BK353.out⟩, ⟨by (with_reducible repeat refine bl ?_); refine blk_far ?_ NB354_356.out _; (with_reducible repeat refine bl ?_); refine blk_far ?_ NB354_356.out _; (with_reducible repeat refine bl ?_); exact BK354.out⟩, ⟨by (with_reducible repeat refine bl ?_); refine blk_far ?_ NB355_356.out _; (with_reducible repeat refine bl ?_); refine blk_far ?_ NB355_356.out _; (with_reducible repeat refine bl ?_); exact BK355.out⟩, ⟨by (with_reducible repeat refine bl ?_); refine blk_put (cs := #[.int .u64 t361, .int .u64 x357001_1]) ?_ 1 _ rfl; (with_reducible repeat refine bl ?_); refine blk_put (cs := #[.int .u64 x357000_1, .int .u64 x357001_1]) ?_ 0 _ rfl; (with_reducible repeat refine bl ?_); exact BK356.out⟩, ⟨bq HB.out⟩⟩
    ·replace c9 := Bool.eq_false_iff.mpr c9
     subst c9
     have H1 : (steepleref02_Product.l0 k1 (wrap64 (x6_1 + 1)) a0_0 a0_1 a1_0 a1_1 x357000_1 x357001_1) = some (r1, r2) := by rw [if_neg (show ¬ (false = true) by decide)] at H; exact H
     clear H
     have H := H1
     clear H1
     have H' := Aside0.mk H
     clear H
     have hnb49 := NB354_353.out
     have hnc49 := NB353_354.out
     have hnb50 := NB354_355.out
     have hnc50 := NB355_354.out
     have hnb51 := NB354_356.out
     have hnc51 := NB356_354.out
     obtain ⟨hcz52_0, hcz52_1⟩ := zc2 BK354
     obtain ⟨hfz52_0, hfz52_1⟩ := zf2 BK354
     go_wp2_with (first | ((with_reducible refine gate_callee (f := 46) rfl ?_); refine goesL_ (some 15) rfl rfl Try.func46 (by kernel_rfl) rfl #[.agg #[.int .u64 a1_0, .int .u64 a1_1], .int .i64 x6_1] rfl (by (try simp only [List.map_toArray, List.map_cons, List.map_nil]); first | done | rfl | (simp only [List.length_drop, List.length_take]; rfl)) ?_; (with_reducible refine (steepleref02_Has.calls k1 a1_0 a1_1 x6_1 false _ A8.out).mono ?_); rintro e w53 ⟨rfl, hb⟩; refine ⟨_, rfl, ?_⟩; replace BK353 := bb BK353 hb; replace BK354 := bb BK354 hb; replace BK355 := bb BK355 hb; replace BK356 := bb BK356 hb; replace HB := bh HB hb; (try clear hb); (try clear hb2); (try clear hk); (try clear hi)))
     go_roundg k1
     case measure => have := HK1.out; omega
     case rel => exact ⟨(wrap64 (x6_1 + 1)), (x357000_1), (x357001_1), (by first | rfl | (simp; done) | (simp [*]; done)), H', ⟨by have := HK1.out; omega⟩, ⟨bk BK353.out⟩, ⟨bk BK354.out⟩, ⟨bk BK355.out⟩, ⟨bk BK356.out⟩, ⟨bq HB.out⟩⟩
   ·rw [if_neg c7] at H
    have c7b0 : decide (x6_1 < 128) = false := decide_eq_false c7
    clear c7
    simp only [Option.some.injEq, Prod.mk.injEq] at H
    obtain ⟨rfl, rfl⟩ := H
    have hnb54 := NB356_353.out
    have hnc54 := NB353_356.out
    have hnb55 := NB356_354.out
    have hnc55 := NB354_356.out
    have hnb56 := NB356_355.out
    have hnc56 := NB355_356.out
    obtain ⟨hcz57_0, hcz57_1⟩ := zc2 BK356
    obtain ⟨hfz57_0, hfz57_1⟩ := zf2 BK356
    have hnb58 := NB355_353.out
    have hnc58 := NB353_355.out
    have hnb59 := NB355_354.out
    have hnc59 := NB354_355.out
    obtain ⟨hcz60_0, hcz60_1⟩ := zc2 BK355
    obtain ⟨hfz60_0, hfz60_1⟩ := zf2 BK355
    go_wp2
    refine bodyPost_ret (results_cell_row rfl _ _ gb355 44 #[.int .u64 x357000_1, .int .u64 x357001_1] (0, 0) _ rfl (by (with_reducible repeat refine bl ?_); refine blk_put (cs := #[.int .u64 x357000_1, .int .u64 0]) ?_ 1 _ rfl; (with_reducible repeat refine bl ?_); refine blk_put (cs := #[.int .u64 0, .int .u64 0]) ?_ 0 _ rfl; (with_reducible repeat refine bl ?_); exact BK355.out) Try.underlying44 rfl (by kernel_rfl)) rfl ?_
    exact ⟨by first | rfl | (simp [errW_none, errW_some] <;> rfl) | (simp [*, errW_none, errW_some] <;> rfl), bq HB.out⟩

/-! ### steepleref02_X: function 44 -/
def steepleref02_X.f (k : Nat) (a0 : Int) : Option (Int × Int) := (some (([0, 1, 2, 4, 8, 16, 32, 64] : List Int) : List Int)).bind fun y364 => (if a0 < 0 then (some (0, 0)) else (if a0 > 7 then (some (0, 0)) else (if 0 ≤ a0 then (if a0 < (y364.length : Int) then ((steepleref02_Bit.f k (rd y364 a0)).bind fun bt368 => (some (bt368.1, bt368.2))) else (none)) else (none))))
theorem steepleref02_X.mono : ∀ a0 k, LeO (steepleref02_X.f k a0) (steepleref02_X.f (k + 1) a0) := by
 intro a0 k
 unfold steepleref02_X.f
 repeat' first
   | (with_reducible exact steepleref02_Bit.mono _ _)
   | (with_reducible exact LeO.refl _)
   | (with_reducible exact LeO.none _)
   | (with_reducible refine LeO.ite ?_ ?_)
   | (with_reducible refine LeO.bind ?_ (fun _ => ?_))
   | exact steepleref02_Bit.mono _ _
   | exact LeO.none _
   | refine LeO.ite ?_ ?_
   | refine LeO.bind ?_ (fun _ => ?_)
set_option maxHeartbeats 8000000 in
set_option maxRecDepth 100000 in
theorem steepleref02_X.calls (k : Nat) (a0 : Int) (r1 : Int) (r2 : Int) (w : World) (h : steepleref02_X.f k a0 = some (r1, r2)) :
  Calls Try.prog 44 #[.int .i64 a0] w fun e w' => e = .returned (.agg #[.int .u64 r1, .int .u64 r2]) ∧ Below w.heap.size w w' := by
 have hu44 := Try.underlying44
 have HB := Aside0.mk (Below.refl w.heap.size w)
 have H : ((some (([0, 1, 2, 4, 8, 16, 32, 64] : List Int) : List Int)).bind fun y364 => (if a0 < 0 then (some (0, 0)) else (if a0 > 7 then (some (0, 0)) else (if 0 ≤ a0 then (if a0 < (y364.length : Int) then ((steepleref02_Bit.f k (rd y364 a0)).bind fun bt368 => (some (bt368.1, bt368.2))) else (none)) else (none))))) = some (r1, r2) := h
 clear h
 obtain ⟨y364, hy364⟩ : ∃ y_ : List Int, y_ = (([0, 1, 2, 4, 8, 16, 32, 64] : List Int)) := ⟨_, rfl⟩
 replace H : (if a0 < 0 then (some (0, 0)) else (if a0 > 7 then (some (0, 0)) else (if 0 ≤ a0 then (if a0 < (y364.length : Int) then ((steepleref02_Bit.f k (rd y364 a0)).bind fun bt368 => (some (bt368.1, bt368.2))) else (none)) else (none)))) = some (r1, r2) := by first | (rw [hy364]; with_reducible exact H) | (have H2_ := (Option.bind_some _ _).symm.trans H; rw [hy364]; with_reducible exact H2_) | (have H2_ := (Option.bind_some _ _).symm.trans H; with_reducible exact H2_) | with_reducible exact H | (rw [hy364]; exact H) | exact H
 have Ny364 := Aside0.mk hy364
 clear hy364
 by_cases c2 : a0 < 0
 ·rw [if_pos c2] at H
  have c2b0 : decide (a0 < 0) = true := decide_eq_true c2
  clear c2
  simp only [Option.some.injEq, Prod.mk.injEq] at H
  obtain ⟨rfl, rfl⟩ := H
  go_enter Try.func44, Try.ntmps44
  go_wp2_with (first | ((with_reducible refine gate_dst (N := 2) rfl ?_); refine box_event ?hg (N := 2) ?hd (cs := #[.int .u64 0, .int .u64 0]) (t := 44) ?hr ?_; (case hd => rfl); (case hg => rfl); (case hr => first | (go_simp; done) | (go_simp; rfl)); intro gb363 hg w3 hbox hb; have BK363 := Aside0.mk hbox; have GW363 := ge hg HB; have GE363 := ge hg HB; replace HB := bh HB hb; clear hb hbox hg) | ((with_reducible refine gate_dst (N := 4) rfl ?_); refine Kd.R_lit (Kd.int .i64) _ 3 ?hg (N := 4) ?hd (xs := ([0, 1, 2, 4, 8, 16, 32, 64] : List Int)) (inner := [.int .i64 0, .int .i64 1, .int .i64 2, .int .i64 4, .int .i64 8, .int .i64 16, .int .i64 32, .int .i64 64]) (ok := fun _ => True) (okp := fun _ => True) ?hr ?hp (fun _ hk => hk) trivial (Below.refl _ _) (Nat.le_refl _) (by simp) ?_; (case hd => rfl); (case hg => rfl); (case hr => first | (go_simp; done) | (go_simp; rfl)); (case hp => exact (Reps.one (show Kd.M (Kd.int .i64) _ _ _ 0 [.int .i64 0] from rfl) (Reps.one (show Kd.M (Kd.int .i64) _ _ _ 1 [.int .i64 1] from rfl) (Reps.one (show Kd.M (Kd.int .i64) _ _ _ 2 [.int .i64 2] from rfl) (Reps.one (show Kd.M (Kd.int .i64) _ _ _ 4 [.int .i64 4] from rfl) (Reps.one (show Kd.M (Kd.int .i64) _ _ _ 8 [.int .i64 8] from rfl) (Reps.one (show Kd.M (Kd.int .i64) _ _ _ 16 [.int .i64 16] from rfl) (Reps.one (show Kd.M (Kd.int .i64) _ _ _ 32 [.int .i64 32] from rfl) (Reps.one (show Kd.M (Kd.int .i64) _ _ _ 64 [.int .i64 64] from rfl) (Reps.none _ _)))))))))); intro v365 w4 ho5 hb hg_ hnew_; clear hg_ hnew_; (first | rw [← Ny364.out] at ho5 | (simp only [Int.reduceToNat] at ho5; rw [← Ny364.out] at ho5)); have HO366 := kw ho5 HB; replace BK363 := bb BK363 hb; replace HB := bh HB hb; clear hb ho5; obtain ⟨hcz6_0, hcz6_1⟩ := zc2 BK363; obtain ⟨hfz6_0, hfz6_1⟩ := zf2 BK363))
  refine bodyPost_ret (results_cell_row rfl _ _ gb363 44 #[.int .u64 0, .int .u64 0] (0, 0) _ rfl (by (with_reducible repeat refine bl ?_); refine blk_put (cs := #[.int .u64 0, .int .u64 0]) ?_ 1 _ rfl; (with_reducible repeat refine bl ?_); refine blk_put (cs := #[.int .u64 0, .int .u64 0]) ?_ 0 _ rfl; (with_reducible repeat refine bl ?_); exact BK363.out) Try.underlying44 rfl (by kernel_rfl)) rfl ?_
  exact ⟨by first | rfl | (simp [errW_none, errW_some] <;> rfl) | (simp [*, errW_none, errW_some] <;> rfl), bq HB.out⟩
 ·rw [if_neg c2] at H
  have c2b0 : decide (a0 < 0) = false := decide_eq_false c2
  clear c2
  by_cases c7 : a0 > 7
  ·rw [if_pos c7] at H
   have c7b0 : decide (7 < a0) = true := decide_eq_true c7
   clear c7
   simp only [Option.some.injEq, Prod.mk.injEq] at H
   obtain ⟨rfl, rfl⟩ := H
   go_enter Try.func44, Try.ntmps44
   go_wp2_with (first | ((with_reducible refine gate_dst (N := 2) rfl ?_); refine box_event ?hg (N := 2) ?hd (cs := #[.int .u64 0, .int .u64 0]) (t := 44) ?hr ?_; (case hd => rfl); (case hg => rfl); (case hr => first | (go_simp; done) | (go_simp; rfl)); intro gb363 hg w8 hbox hb; have BK363 := Aside0.mk hbox; have GW363 := ge hg HB; have GE363 := ge hg HB; replace HB := bh HB hb; clear hb hbox hg) | ((with_reducible refine gate_dst (N := 4) rfl ?_); refine Kd.R_lit (Kd.int .i64) _ 3 ?hg (N := 4) ?hd (xs := ([0, 1, 2, 4, 8, 16, 32, 64] : List Int)) (inner := [.int .i64 0, .int .i64 1, .int .i64 2, .int .i64 4, .int .i64 8, .int .i64 16, .int .i64 32, .int .i64 64]) (ok := fun _ => True) (okp := fun _ => True) ?hr ?hp (fun _ hk => hk) trivial (Below.refl _ _) (Nat.le_refl _) (by simp) ?_; (case hd => rfl); (case hg => rfl); (case hr => first | (go_simp; done) | (go_simp; rfl)); (case hp => exact (Reps.one (show Kd.M (Kd.int .i64) _ _ _ 0 [.int .i64 0] from rfl) (Reps.one (show Kd.M (Kd.int .i64) _ _ _ 1 [.int .i64 1] from rfl) (Reps.one (show Kd.M (Kd.int .i64) _ _ _ 2 [.int .i64 2] from rfl) (Reps.one (show Kd.M (Kd.int .i64) _ _ _ 4 [.int .i64 4] from rfl) (Reps.one (show Kd.M (Kd.int .i64) _ _ _ 8 [.int .i64 8] from rfl) (Reps.one (show Kd.M (Kd.int .i64) _ _ _ 16 [.int .i64 16] from rfl) (Reps.one (show Kd.M (Kd.int .i64) _ _ _ 32 [.int .i64 32] from rfl) (Reps.one (show Kd.M (Kd.int .i64) _ _ _ 64 [.int .i64 64] from rfl) (Reps.none _ _)))))))))); intro v365 w9 ho10 hb hg_ hnew_; clear hg_ hnew_; (first | rw [← Ny364.out] at ho10 | (simp only [Int.reduceToNat] at ho10; rw [← Ny364.out] at ho10)); have HO366 := kw ho10 HB; replace BK363 := bb BK363 hb; replace HB := bh HB hb; clear hb ho10; obtain ⟨hcz11_0, hcz11_1⟩ := zc2 BK363; obtain ⟨hfz11_0, hfz11_1⟩ := zf2 BK363))
   refine bodyPost_ret (results_cell_row rfl _ _ gb363 44 #[.int .u64 0, .int .u64 0] (0, 0) _ rfl (by (with_reducible repeat refine bl ?_); refine blk_put (cs := #[.int .u64 0, .int .u64 0]) ?_ 1 _ rfl; (with_reducible repeat refine bl ?_); refine blk_put (cs := #[.int .u64 0, .int .u64 0]) ?_ 0 _ rfl; (with_reducible repeat refine bl ?_); exact BK363.out) Try.underlying44 rfl (by kernel_rfl)) rfl ?_
   exact ⟨by first | rfl | (simp [errW_none, errW_some] <;> rfl) | (simp [*, errW_none, errW_some] <;> rfl), bq HB.out⟩
  ·rw [if_neg c7] at H
   have c7b0 : decide (7 < a0) = false := decide_eq_false c7
   clear c7
   by_cases c12 : 0 ≤ a0
   ·rw [if_pos c12] at H
    have c12b0 : decide (0 ≤ a0) = true := decide_eq_true c12
    clear c12
    by_cases c13 : a0 < (y364.length : Int)
    ·rw [if_pos c13] at H
     have c13b0 : decide (a0 < (y364.length : Int)) = true := decide_eq_true c13
     clear c13
     replace H := Option.bind_eq_some_iff.mp H
     obtain ⟨⟨t368, t369⟩, A140, H⟩ := H
     replace H : (some (t368, t369)) = some (r1, r2) := H
     have A14 := Aside0.mk A140
     clear A140
     simp only [Option.some.injEq, Prod.mk.injEq] at H
     obtain ⟨rfl, rfl⟩ := H
     go_enter Try.func44, Try.ntmps44
     go_wp2_with (first | ((with_reducible refine gate_dst (N := 2) rfl ?_); refine box_event ?hg (N := 2) ?hd (cs := #[.int .u64 0, .int .u64 0]) (t := 44) ?hr ?_; (case hd => rfl); (case hg => rfl); (case hr => first | (go_simp; done) | (go_simp; rfl)); intro gb363 hg w15 hbox hb; have BK363 := Aside0.mk hbox; have GW363 := ge hg HB; have GE363 := ge hg HB; replace HB := bh HB hb; clear hb hbox hg) | ((with_reducible refine gate_dst (N := 4) rfl ?_); refine Kd.R_lit (Kd.int .i64) _ 3 ?hg (N := 4) ?hd (xs := ([0, 1, 2, 4, 8, 16, 32, 64] : List Int)) (inner := [.int .i64 0, .int .i64 1, .int .i64 2, .int .i64 4, .int .i64 8, .int .i64 16, .int .i64 32, .int .i64 64]) (ok := fun _ => True) (okp := fun _ => True) ?hr ?hp (fun _ hk => hk) trivial (Below.refl _ _) (Nat.le_refl _) (by simp) ?_; (case hd => rfl); (case hg => rfl); (case hr => first | (go_simp; done) | (go_simp; rfl)); (case hp => exact (Reps.one (show Kd.M (Kd.int .i64) _ _ _ 0 [.int .i64 0] from rfl) (Reps.one (show Kd.M (Kd.int .i64) _ _ _ 1 [.int .i64 1] from rfl) (Reps.one (show Kd.M (Kd.int .i64) _ _ _ 2 [.int .i64 2] from rfl) (Reps.one (show Kd.M (Kd.int .i64) _ _ _ 4 [.int .i64 4] from rfl) (Reps.one (show Kd.M (Kd.int .i64) _ _ _ 8 [.int .i64 8] from rfl) (Reps.one (show Kd.M (Kd.int .i64) _ _ _ 16 [.int .i64 16] from rfl) (Reps.one (show Kd.M (Kd.int .i64) _ _ _ 32 [.int .i64 32] from rfl) (Reps.one (show Kd.M (Kd.int .i64) _ _ _ 64 [.int .i64 64] from rfl) (Reps.none _ _)))))))))); intro v365 w16 ho17 hb hg_ hnew_; clear hg_ hnew_; (first | rw [← Ny364.out] at ho17 | (simp only [Int.reduceToNat] at ho17; rw [← Ny364.out] at ho17)); have HO366 := kw ho17 HB; replace BK363 := bb BK363 hb; replace HB := bh HB hb; clear hb ho17; obtain ⟨Ao18, co18, eo18⟩ := Kd.R_slice HO366.out; subst eo18; have p367 : 0 ≤ (a0 : Int) := of_decide_eq_true (by first | (with_reducible assumption) | assumption); have q367 : a0 < (y364.length : Int) := of_decide_eq_true (by first | (with_reducible assumption) | assumption); obtain ⟨ad367, e367, hx367_0⟩ := Kd.at_int (Kd.R_reads' HO366.out).2.2 a0 p367 q367; cases e367; replace p367 := eq_true p367; replace q367 := eq_true q367) | ((with_reducible refine gate_callee (f := 47) rfl ?_); refine goesL_ (some 16) rfl rfl Try.func47 (by kernel_rfl) rfl #[.int .i64 (rd y364 a0)] rfl (by (try simp only [List.map_toArray, List.map_cons, List.map_nil]); first | done | rfl | (simp only [List.length_drop, List.length_take]; rfl)) ?_; (with_reducible refine (steepleref02_Bit.calls k (rd y364 a0) t368 t369 _ A14.out).mono ?_); rintro e w19 ⟨rfl, hb⟩; refine ⟨_, rfl, ?_⟩; replace HO366 := kb HO366 hb; replace BK363 := bb BK363 hb; replace HB := bh HB hb; (try clear hb); (try clear hb2); (try clear hk); (try clear hi); obtain ⟨hcz20_0, hcz20_1⟩ := zc2 BK363; obtain ⟨hfz20_0, hfz20_1⟩ := zf2 BK363))
     refine bodyPost_ret (results_cell_row rfl _ _ gb363 44 #[.int .u64 t368, .int .u64 t369] (0, 0) _ rfl (by (with_reducible repeat refine bl ?_); refine blk_put (cs := #[.int .u64 t368, .int .u64 0]) ?_ 1 _ rfl; (with_reducible repeat refine bl ?_); refine blk_put (cs := #[.int .u64 0, .int .u64 0]) ?_ 0 _ rfl; (with_reducible repeat refine bl ?_); exact BK363.out) Try.underlying44 rfl (by kernel_rfl)) rfl ?_
     exact ⟨by first | rfl | (simp [errW_none, errW_some] <;> rfl) | (simp [*, errW_none, errW_some] <;> rfl), bq HB.out⟩
    ·rw [if_neg c13] at H
     exact absurd H (by simp)
   ·rw [if_neg c12] at H
    exact absurd H (by simp)

end Go.Proofs.Ytceneggampgboaa.P
