/- Written by a program of this session: functions that the law reaches, as Lean functions, and that the code comes to their answers. Conditions: those that each theorem names. -/
import Derived.Test.YtlegcabfgkccmaaPx0
import Derived.Test.YtlegcabfgkccmaaPx6
namespace Go.Proofs.Ytlegcabfgkccmaa.P
open Go.RowKit Go.Proofs.YtlegcabfgkccmaaX Go.Proofs.YtlegcabfgkccmaaW.PrintWords Go.Proofs.YtlegcabfgkccmaaW.PrintLast Go.Proofs.YtlegcabfgkccmaaW.PrintMore
attribute [local go_sem] max2_int min2_int max_two min_two max_three min_three max_four min_four   -- for this text's walks alone
set_option linter.unusedVariables false
set_option linter.unusedSimpArgs false

/-! ### steepleref02_Times: function 44 -/
def steepleref02_Times.f (k : Nat) (a0 : Int) (a1_0 : Int) (a1_1 : Int) : Option (Int × Int) := if a0 < 6 then ((steepleref02_timesWord.f k a0 a1_0).bind fun t184 => ((steepleref02_timesWord.f k a0 a1_1).bind fun t185 => (some (t184, t185)))) else ((steepleref02_timesWord.f k 5 a1_0).bind fun t186 => (some (Go.bits .xor .u64 a1_1 t186, a1_0)))
theorem steepleref02_Times.mono : ∀ a0 a1 a2 k, LeO (steepleref02_Times.f k a0 a1 a2) (steepleref02_Times.f (k + 1) a0 a1 a2) := by
 intro a0 a1 a2 k
 unfold steepleref02_Times.f
 repeat' first
   | (with_reducible exact steepleref02_timesWord.mono _ _ _)
   | (with_reducible exact LeO.refl _)
   | (with_reducible exact LeO.none _)
   | (with_reducible refine LeO.ite ?_ ?_)
   | (with_reducible refine LeO.bind ?_ (fun _ => ?_))
   | exact steepleref02_timesWord.mono _ _ _
   | exact LeO.none _
   | refine LeO.ite ?_ ?_
   | refine LeO.bind ?_ (fun _ => ?_)
def steepleref02_Times.T2 : Bool × List (List Nat × List Nat) := (true, [([], []), ([], []), ([1], [1]), ([0, 2], [0, 2]), ([], []), ([], []), ([5], [5]), ([4, 6, 3], [4, 6]), ([3, 7], [3, 7]), ([8, 7, 0, 1, 2, 3, 4, 5, 6, 7, 8], [8])])
def steepleref02_Times.B2 : List Nat := [0, 0, 2, 7, 0, 0, 32, 127, 255, 511]
theorem steepleref02_Times.tab2 : rtab .any (opsOf Try.f44 2) = steepleref02_Times.T2 := by kernel_rfl
theorem steepleref02_Times.bits2 : waitsOk steepleref02_Times.T2.2 steepleref02_Times.B2 = true := by kernel_rfl
def steepleref02_Times.T3 : Bool × List (List Nat × List Nat) := (true, [([], []), ([0], [0]), ([], []), ([2], [2]), ([3], [3]), ([1, 4], [1, 4]), ([], []), ([6], [6]), ([5, 7], [5, 7]), ([8, 4, 0, 1, 2, 3, 4, 5, 6, 7, 8], [8])])
def steepleref02_Times.B3 : List Nat := [0, 1, 0, 4, 12, 31, 0, 64, 255, 511]
theorem steepleref02_Times.tab3 : rtab .any (opsOf Try.f44 3) = steepleref02_Times.T3 := by kernel_rfl
theorem steepleref02_Times.bits3 : waitsOk steepleref02_Times.T3.2 steepleref02_Times.B3 = true := by kernel_rfl
set_option maxHeartbeats 8000000 in
set_option maxRecDepth 100000 in
theorem steepleref02_Times.calls (k : Nat) (a0 : Int) (a1_0 : Int) (a1_1 : Int) (r1 : Int) (r2 : Int) (w : World) (h : steepleref02_Times.f k a0 a1_0 a1_1 = some (r1, r2)) :
  Calls Try.prog 44 #[.int .i64 a0, .agg #[.int .u64 a1_0, .int .u64 a1_1]] w fun e w' => e = .returned (.agg #[.int .u64 r1, .int .u64 r2]) ∧ Below w.heap.size w w' := by
 have hu37 := Try.underlying37
 have HB := Aside0.mk (Below.refl w.heap.size w)
 have H : (if a0 < 6 then ((steepleref02_timesWord.f k a0 a1_0).bind fun t184 => ((steepleref02_timesWord.f k a0 a1_1).bind fun t185 => (some (t184, t185)))) else ((steepleref02_timesWord.f k 5 a1_0).bind fun t186 => (some (Go.bits .xor .u64 a1_1 t186, a1_0)))) = some (r1, r2) := h
 clear h
 by_cases c3 : a0 < 6
 ·rw [if_pos c3] at H
  have c3b0 : decide (a0 < 6) = true := decide_eq_true c3
  clear c3
  replace H := Option.bind_eq_some_iff.mp H
  obtain ⟨t184, A40, H⟩ := H
  replace H : ((steepleref02_timesWord.f k a0 a1_1).bind fun t185 => (some (t184, t185))) = some (r1, r2) := H
  have A4 := Aside0.mk A40
  clear A40
  replace H := Option.bind_eq_some_iff.mp H
  obtain ⟨t185, A50, H⟩ := H
  replace H : (some (t184, t185)) = some (r1, r2) := H
  have A5 := Aside0.mk A50
  clear A50
  simp only [Option.some.injEq, Prod.mk.injEq] at H
  obtain ⟨rfl, rfl⟩ := H
  go_enter Try.func44, Try.ntmps44
  try go_wp2_with (first | ((with_reducible refine gate_dst (N := 3) rfl ?_); refine box_event ?hg (N := 3) ?hd (cs := #[.int .u64 a1_0, .int .u64 a1_1]) (t := 37) ?hr ?_; (case hd => rfl); (case hg => rfl); (case hr => first | (go_simp; done) | (go_simp; rfl)); intro gb182 hg w6 hbox hb; have BK182 := Aside0.mk hbox; have GW182 := ge hg HB; have GE182 := ge hg HB; replace HB := bh HB hb; clear hb hbox hg) | ((with_reducible refine gate_dst (N := 4) rfl ?_); refine box_event ?hg (N := 4) ?hd (cs := #[.int .u64 0, .int .u64 0]) (t := 37) ?hr ?_; (case hd => rfl); (case hg => rfl); (case hr => first | (go_simp; done) | (go_simp; rfl)); intro gb183 hg w7 hbox hb; have BK183 := Aside0.mk hbox; have GW183 := ge hg HB; have GE183 := ge hg HB; have NB182_183 := nl hg BK182; have NB183_182 := ng hg BK182; replace BK182 := bb BK182 hb; replace HB := bh HB hb; clear hb hbox hg))
  replace BK182 := Aside0.mk (blk_drew BK182.out)
  replace BK183 := Aside0.mk (blk_drew BK183.out)
  replace HB := Aside0.mk (below_drew1 HB.out)
  refine start_ (n := 10) (S := fun w' => w'.cell? ⟨gb182, 0, none⟩ = some (.int .u64 a1_0) ∧ w'.cell? ⟨gb182, 1, none⟩ = some (.int .u64 a1_1)) (ds := []) #[false, false, false, false, false, false, false, false, false, false] (by kernel_rfl) rfl rfl ⟨(blk_cell BK182.out 0).trans rfl, (blk_cell BK182.out 1).trans rfl⟩ (fun hHeld => ?_); refine with_tabW steepleref02_Times.tab2 steepleref02_Times.bits2 (fun HT_ HW_ => ?_)
  generalize w7.drew = w8 at BK182 BK183 HB hHeld ⊢
  refine pure_ (i := 0) (N := some 7) (v := ?_) (a' := ?_) #[true, false, false, false, false, false, false, false, false, false] rfl rfl (any_of HT_.out (by kernel_rfl)) (fun _ _ _ h => h) (Or.inl ⟨by rfl, ?_⟩) ?_ ?_
  rotate_left
  ·intro w'
   go_simp
   with_reducible rfl
  rotate_left
  ·simp only [Act.put, List.setIfInBounds_toArray, List.set_cons_zero, List.set_cons_succ, i64_w, i32_w]
   rfl
  refine pure_ (i := 1) (N := some 8) (v := ?_) (a' := ?_) #[true, true, false, false, false, false, false, false, false, false] rfl rfl (any_of HT_.out (by kernel_rfl)) (fun _ _ _ h => h) (Or.inl ⟨by rfl, ?_⟩) ?_ ?_
  rotate_left
  ·intro w'
   go_simp
   with_reducible rfl
  rotate_left
  ·simp only [Act.put, List.setIfInBounds_toArray, List.set_cons_zero, List.set_cons_succ, i64_w, i32_w]
   rfl
  refine pure_ (i := 4) (N := some 11) (v := ?_) (a' := ?_) #[true, true, false, false, true, false, false, false, false, false] rfl rfl (any_of HT_.out (by kernel_rfl)) (fun _ _ _ h => h) (Or.inl ⟨by rfl, ?_⟩) ?_ ?_
  rotate_left
  ·intro w'
   go_simp
   with_reducible rfl
  rotate_left
  ·simp only [Act.put, List.setIfInBounds_toArray, List.set_cons_zero, List.set_cons_succ, i64_w, i32_w]
   rfl
  refine pure_ (i := 5) (N := some 12) (v := ?_) (a' := ?_) #[true, true, false, false, true, true, false, false, false, false] rfl rfl (any_of HT_.out (by kernel_rfl)) (fun _ _ _ h => h) (Or.inl ⟨by rfl, ?_⟩) ?_ ?_
  rotate_left
  ·intro w'
   go_simp
   with_reducible rfl
  rotate_left
  ·simp only [Act.put, List.setIfInBounds_toArray, List.set_cons_zero, List.set_cons_succ, i64_w, i32_w]
   rfl
  refine take_ (i := 2) (N := some 9) (v := ?_) (a' := ?_) #[true, true, true, false, true, true, false, false, false, false] rfl rfl (take_ofW HT_.out HW_.out (by kernel_rfl)) (fun _ _ _ h => h) (Or.inl ⟨by rfl, ?_⟩) hHeld ?_ ?_
  rotate_left
  ·rintro w' ⟨s0, s1⟩
   go_simp
   with_reducible rfl
  rotate_left
  ·simp only [Act.put, List.setIfInBounds_toArray, List.set_cons_zero, List.set_cons_succ, i64_w, i32_w]
   rfl
  refine take_ (i := 6) (N := some 13) (v := ?_) (a' := ?_) #[true, true, true, false, true, true, true, false, false, false] rfl rfl (take_ofW HT_.out HW_.out (by kernel_rfl)) (fun _ _ _ h => h) (Or.inl ⟨by rfl, ?_⟩) hHeld ?_ ?_
  rotate_left
  ·rintro w' ⟨s0, s1⟩
   go_simp
   with_reducible rfl
  rotate_left
  ·simp only [Act.put, List.setIfInBounds_toArray, List.set_cons_zero, List.set_cons_succ, i64_w, i32_w]
   rfl
  refine one_ (i := 3) (N := some 10) #[true, true, true, true, true, true, true, false, false, false] rfl rfl (one_of HT_.out (by kernel_rfl)) (by decide) (fun K hK => ?_)
  refine goes_ Try.func55 (by kernel_rfl) rfl #[.int .i64 a0, .int .u64 a1_0] (by rfl) rfl rfl (by (try simp only [List.map_toArray, List.map_cons, List.map_nil]); first | done | rfl | (simp only [List.length_drop, List.length_take]; rfl)) ?_
  with_reducible refine (steepleref02_timesWord.calls k a0 a1_0 t184 _ A4.out).mono ?_
  rintro e w9 ⟨rfl, hb⟩
  refine ⟨_, rfl, ?_⟩
  replace BK182 := bb BK182 hb
  replace BK183 := bb BK183 hb
  replace HB := bh HB hb
  (try clear hb)
  (try clear hb2)
  (try clear hk)
  (try clear hi)
  refine hK.out _ _ ⟨(blk_cell BK182.out 0).trans rfl, (blk_cell BK182.out 1).trans rfl⟩ (fun hHeld => ?_)
  clear hK K
  refine norm_ (a' := ?_) ?_ ?_
  rotate_left
  ·show Act.put _ (some 10) _ = _
   simp only [Act.put, List.setIfInBounds_toArray, List.set_cons_zero, List.set_cons_succ, i64_w, i32_w]
   rfl
  refine one_ (i := 7) (N := some 14) #[true, true, true, true, true, true, true, true, false, false] rfl rfl (one_of HT_.out (by kernel_rfl)) (by decide) (fun K hK => ?_)
  refine goes_ Try.func55 (by kernel_rfl) rfl #[.int .i64 a0, .int .u64 a1_1] (by rfl) rfl rfl (by (try simp only [List.map_toArray, List.map_cons, List.map_nil]); first | done | rfl | (simp only [List.length_drop, List.length_take]; rfl)) ?_
  with_reducible refine (steepleref02_timesWord.calls k a0 a1_1 t185 _ A5.out).mono ?_
  rintro e w10 ⟨rfl, hb⟩
  refine ⟨_, rfl, ?_⟩
  replace BK182 := bb BK182 hb
  replace BK183 := bb BK183 hb
  replace HB := bh HB hb
  (try clear hb)
  (try clear hb2)
  (try clear hk)
  (try clear hi)
  refine hK.out _ _ ⟨(blk_cell BK182.out 0).trans rfl, (blk_cell BK182.out 1).trans rfl⟩ (fun hHeld => ?_)
  clear hK K
  refine norm_ (a' := ?_) ?_ ?_
  rotate_left
  ·show Act.put _ (some 14) _ = _
   simp only [Act.put, List.setIfInBounds_toArray, List.set_cons_zero, List.set_cons_succ, i64_w, i32_w]
   rfl
  refine pure_ (i := 8) (N := some 15) (v := ?_) (a' := ?_) #[true, true, true, true, true, true, true, true, true, false] rfl rfl (any_of HT_.out (by kernel_rfl)) (fun _ _ _ h => h) (Or.inl ⟨by rfl, ?_⟩) ?_ ?_
  rotate_left
  ·intro w'
   go_simp
   with_reducible rfl
  rotate_left
  ·simp only [Act.put, List.setIfInBounds_toArray, List.set_cons_zero, List.set_cons_succ, i64_w, i32_w]
   rfl
  refine one_ (i := 9) (N := none) #[true, true, true, true, true, true, true, true, true, true] rfl rfl (one_of HT_.out (by kernel_rfl)) (by decide) (fun K hK => ?_)
  have hs11 : w10.cell? ⟨gb183, 0, none⟩ = some (.int .u64 0) := (blk_cell BK183.out 0).trans rfl
  have hfs11 := blk_frozen BK183.out 0
  have hns11_0 := NB182_183.out
  have hms11_0 := NB183_182.out
  have hs12 : w10.cell? ⟨gb183, 1, none⟩ = some (.int .u64 0) := (blk_cell BK183.out 1).trans rfl
  have hfs12 := blk_frozen BK183.out 1
  have hns12_0 := NB182_183.out
  have hms12_0 := NB183_182.out
  refine skip_ (w1 := ?_) (by rfl) rfl ?_ ?_
  rotate_left
  ·go_simp
   rfl
  refine hK.out _ _ ⟨((cell_far (p := ⟨gb183, _, none⟩) NB182_183.out _).trans (((cell_far (p := ⟨gb183, _, none⟩) NB182_183.out _).trans (hHeld.1)))), ((cell_far (p := ⟨gb183, _, none⟩) NB182_183.out _).trans (((cell_far (p := ⟨gb183, _, none⟩) NB182_183.out _).trans (hHeld.2))))⟩ (fun hHeld => ?_)
  clear hK K
  refine done_ (done_of HT_.out (by kernel_rfl)) ?_
  try go_wp2
  refine bodyPost_ret (results_cell_row rfl _ _ gb183 37 #[.int .u64 t184, .int .u64 t185] (0, 0) _ rfl (by (with_reducible repeat refine bl ?_); refine blk_put (cs := #[.int .u64 t184, .int .u64 0]) ?_ 1 _ rfl; (with_reducible repeat refine bl ?_); refine blk_put (cs := #[.int .u64 0, .int .u64 0]) ?_ 0 _ rfl; (with_reducible repeat refine bl ?_); exact BK183.out) Try.underlying37 rfl (by kernel_rfl)) rfl ?_
  exact ⟨by first | rfl | (simp [errW_none, errW_some] <;> rfl) | (simp [*, errW_none, errW_some] <;> rfl), bq HB.out⟩
 ·rw [if_neg c3] at H
  have c3b0 : decide (a0 < 6) = false := decide_eq_false c3
  clear c3
  replace H := Option.bind_eq_some_iff.mp H
  obtain ⟨t186, A130, H⟩ := H
  replace H : (some (Go.bits .xor .u64 a1_1 t186, a1_0)) = some (r1, r2) := H
  have A13 := Aside0.mk A130
  clear A130
  simp only [Option.some.injEq, Prod.mk.injEq] at H
  obtain ⟨rfl, rfl⟩ := H
  go_enter Try.func44, Try.ntmps44
  try go_wp2_with (first | ((with_reducible refine gate_dst (N := 3) rfl ?_); refine box_event ?hg (N := 3) ?hd (cs := #[.int .u64 a1_0, .int .u64 a1_1]) (t := 37) ?hr ?_; (case hd => rfl); (case hg => rfl); (case hr => first | (go_simp; done) | (go_simp; rfl)); intro gb182 hg w14 hbox hb; have BK182 := Aside0.mk hbox; have GW182 := ge hg HB; have GE182 := ge hg HB; replace HB := bh HB hb; clear hb hbox hg) | ((with_reducible refine gate_dst (N := 4) rfl ?_); refine box_event ?hg (N := 4) ?hd (cs := #[.int .u64 0, .int .u64 0]) (t := 37) ?hr ?_; (case hd => rfl); (case hg => rfl); (case hr => first | (go_simp; done) | (go_simp; rfl)); intro gb183 hg w15 hbox hb; have BK183 := Aside0.mk hbox; have GW183 := ge hg HB; have GE183 := ge hg HB; have NB182_183 := nl hg BK182; have NB183_182 := ng hg BK182; replace BK182 := bb BK182 hb; replace HB := bh HB hb; clear hb hbox hg))
  replace BK182 := Aside0.mk (blk_drew BK182.out)
  replace BK183 := Aside0.mk (blk_drew BK183.out)
  replace HB := Aside0.mk (below_drew1 HB.out)
  refine start_ (n := 10) (S := fun w' => w'.cell? ⟨gb182, 0, none⟩ = some (.int .u64 a1_0) ∧ w'.cell? ⟨gb182, 1, none⟩ = some (.int .u64 a1_1)) (ds := []) #[false, false, false, false, false, false, false, false, false, false] (by kernel_rfl) rfl rfl ⟨(blk_cell BK182.out 0).trans rfl, (blk_cell BK182.out 1).trans rfl⟩ (fun hHeld => ?_); refine with_tabW steepleref02_Times.tab3 steepleref02_Times.bits3 (fun HT_ HW_ => ?_)
  generalize w15.drew = w16 at BK182 BK183 HB hHeld ⊢
  refine pure_ (i := 0) (N := some 16) (v := ?_) (a' := ?_) #[true, false, false, false, false, false, false, false, false, false] rfl rfl (any_of HT_.out (by kernel_rfl)) (fun _ _ _ h => h) (Or.inl ⟨by rfl, ?_⟩) ?_ ?_
  rotate_left
  ·intro w'
   go_simp
   with_reducible rfl
  rotate_left
  ·simp only [Act.put, List.setIfInBounds_toArray, List.set_cons_zero, List.set_cons_succ, i64_w, i32_w]
   rfl
  refine pure_ (i := 2) (N := some 18) (v := ?_) (a' := ?_) #[true, false, true, false, false, false, false, false, false, false] rfl rfl (any_of HT_.out (by kernel_rfl)) (fun _ _ _ h => h) (Or.inl ⟨by rfl, ?_⟩) ?_ ?_
  rotate_left
  ·intro w'
   go_simp
   with_reducible rfl
  rotate_left
  ·simp only [Act.put, List.setIfInBounds_toArray, List.set_cons_zero, List.set_cons_succ, i64_w, i32_w]
   rfl
  refine pure_ (i := 6) (N := some 22) (v := ?_) (a' := ?_) #[true, false, true, false, false, false, true, false, false, false] rfl rfl (any_of HT_.out (by kernel_rfl)) (fun _ _ _ h => h) (Or.inl ⟨by rfl, ?_⟩) ?_ ?_
  rotate_left
  ·intro w'
   go_simp
   with_reducible rfl
  rotate_left
  ·simp only [Act.put, List.setIfInBounds_toArray, List.set_cons_zero, List.set_cons_succ, i64_w, i32_w]
   rfl
  refine take_ (i := 1) (N := some 17) (v := ?_) (a' := ?_) #[true, true, true, false, false, false, true, false, false, false] rfl rfl (take_ofW HT_.out HW_.out (by kernel_rfl)) (fun _ _ _ h => h) (Or.inl ⟨by rfl, ?_⟩) hHeld ?_ ?_
  rotate_left
  ·rintro w' ⟨s0, s1⟩
   go_simp
   with_reducible rfl
  rotate_left
  ·simp only [Act.put, List.setIfInBounds_toArray, List.set_cons_zero, List.set_cons_succ, i64_w, i32_w]
   rfl
  refine take_ (i := 3) (N := some 19) (v := ?_) (a' := ?_) #[true, true, true, true, false, false, true, false, false, false] rfl rfl (take_ofW HT_.out HW_.out (by kernel_rfl)) (fun _ _ _ h => h) (Or.inl ⟨by rfl, ?_⟩) hHeld ?_ ?_
  rotate_left
  ·rintro w' ⟨s0, s1⟩
   go_simp
   with_reducible rfl
  rotate_left
  ·simp only [Act.put, List.setIfInBounds_toArray, List.set_cons_zero, List.set_cons_succ, i64_w, i32_w]
   rfl
  refine take_ (i := 7) (N := some 23) (v := ?_) (a' := ?_) #[true, true, true, true, false, false, true, true, false, false] rfl rfl (take_ofW HT_.out HW_.out (by kernel_rfl)) (fun _ _ _ h => h) (Or.inl ⟨by rfl, ?_⟩) hHeld ?_ ?_
  rotate_left
  ·rintro w' ⟨s0, s1⟩
   go_simp
   with_reducible rfl
  rotate_left
  ·simp only [Act.put, List.setIfInBounds_toArray, List.set_cons_zero, List.set_cons_succ, i64_w, i32_w]
   rfl
  refine one_ (i := 4) (N := some 20) #[true, true, true, true, true, false, true, true, false, false] rfl rfl (one_of HT_.out (by kernel_rfl)) (by decide) (fun K hK => ?_)
  refine goes_ Try.func55 (by kernel_rfl) rfl #[.int .i64 5, .int .u64 a1_0] (by rfl) rfl rfl (by (try simp only [List.map_toArray, List.map_cons, List.map_nil]); first | done | rfl | (simp only [List.length_drop, List.length_take]; rfl)) ?_
  with_reducible refine (steepleref02_timesWord.calls k 5 a1_0 t186 _ A13.out).mono ?_
  rintro e w17 ⟨rfl, hb⟩
  refine ⟨_, rfl, ?_⟩
  replace BK182 := bb BK182 hb
  replace BK183 := bb BK183 hb
  replace HB := bh HB hb
  (try clear hb)
  (try clear hb2)
  (try clear hk)
  (try clear hi)
  refine hK.out _ _ ⟨(blk_cell BK182.out 0).trans rfl, (blk_cell BK182.out 1).trans rfl⟩ (fun hHeld => ?_)
  clear hK K
  refine norm_ (a' := ?_) ?_ ?_
  rotate_left
  ·show Act.put _ (some 20) _ = _
   simp only [Act.put, List.setIfInBounds_toArray, List.set_cons_zero, List.set_cons_succ, i64_w, i32_w]
   rfl
  refine pure_ (i := 5) (N := some 21) (v := ?_) (a' := ?_) #[true, true, true, true, true, true, true, true, false, false] rfl rfl (any_of HT_.out (by kernel_rfl)) (fun _ _ _ h => h) (Or.inl ⟨by rfl, ?_⟩) ?_ ?_
  rotate_left
  ·intro w'
   go_simp
   with_reducible rfl
  rotate_left
  ·simp only [Act.put, List.setIfInBounds_toArray, List.set_cons_zero, List.set_cons_succ, i64_w, i32_w]
   rfl
  refine pure_ (i := 8) (N := some 24) (v := ?_) (a' := ?_) #[true, true, true, true, true, true, true, true, true, false] rfl rfl (any_of HT_.out (by kernel_rfl)) (fun _ _ _ h => h) (Or.inl ⟨by rfl, ?_⟩) ?_ ?_
  rotate_left
  ·intro w'
   go_simp
   with_reducible rfl
  rotate_left
  ·simp only [Act.put, List.setIfInBounds_toArray, List.set_cons_zero, List.set_cons_succ, i64_w, i32_w]
   rfl
  refine one_ (i := 9) (N := none) #[true, true, true, true, true, true, true, true, true, true] rfl rfl (one_of HT_.out (by kernel_rfl)) (by decide) (fun K hK => ?_)
  have hs18 : w17.cell? ⟨gb183, 0, none⟩ = some (.int .u64 0) := (blk_cell BK183.out 0).trans rfl
  have hfs18 := blk_frozen BK183.out 0
  have hns18_0 := NB182_183.out
  have hms18_0 := NB183_182.out
  have hs19 : w17.cell? ⟨gb183, 1, none⟩ = some (.int .u64 0) := (blk_cell BK183.out 1).trans rfl
  have hfs19 := blk_frozen BK183.out 1
  have hns19_0 := NB182_183.out
  have hms19_0 := NB183_182.out
  refine skip_ (w1 := ?_) (by rfl) rfl ?_ ?_
  rotate_left
  ·go_simp
   rfl
  refine hK.out _ _ ⟨((cell_far (p := ⟨gb183, _, none⟩) NB182_183.out _).trans (((cell_far (p := ⟨gb183, _, none⟩) NB182_183.out _).trans (hHeld.1)))), ((cell_far (p := ⟨gb183, _, none⟩) NB182_183.out _).trans (((cell_far (p := ⟨gb183, _, none⟩) NB182_183.out _).trans (hHeld.2))))⟩ (fun hHeld => ?_)
  clear hK K
  refine done_ (done_of HT_.out (by kernel_rfl)) ?_
  try go_wp2
  refine bodyPost_ret (results_cell_row rfl _ _ gb183 37 #[.int .u64 (Go.bits .xor .u64 a1_1 t186), .int .u64 a1_0] (0, 0) _ rfl (by (with_reducible repeat refine bl ?_); refine blk_put (cs := #[.int .u64 (Go.bits .xor .u64 a1_1 t186), .int .u64 0]) ?_ 1 _ rfl; (with_reducible repeat refine bl ?_); refine blk_put (cs := #[.int .u64 0, .int .u64 0]) ?_ 0 _ rfl; (with_reducible repeat refine bl ?_); exact BK183.out) Try.underlying37 rfl (by kernel_rfl)) rfl ?_
  exact ⟨by first | rfl | (simp [errW_none, errW_some] <;> rfl) | (simp [*, errW_none, errW_some] <;> rfl), bq HB.out⟩

/-! ### steepleref02_Product: function 22 -/
mutual
def steepleref02_Product.l0 : Nat → Int → Int → Int → Int → Int → Int → Int → Option (Int × Int)
 | 0, _, _, _, _, _, _, _ => none
 | k + 1, x6, x188000, x188001, x189000, x189001, x191000, x191001 => if x6 < 128 then ((steepleref02_Has.f k x189000 x189001 x6).bind fun t191 => (if t191 = true then (steepleref02_Product.l1 k x6 0 x188000 x188001 x189000 x189001 x191000 x191001 x188000 x188001) else (steepleref02_Product.l0 k (wrap64 (x6 + 1)) x188000 x188001 x189000 x189001 x191000 x191001))) else (some (x191000, x191001))
def steepleref02_Product.l1 : Nat → Int → Int → Int → Int → Int → Int → Int → Int → Int → Int → Option (Int × Int)
 | 0, _, _, _, _, _, _, _, _, _, _ => none
 | k + 1, x6, x8, x188000, x188001, x189000, x189001, x191000, x191001, x193000, x193001 => if x8 < 7 then (if 0 ≤ (IntKind.u64.wrap (x8)) then (if (Go.bits .and .i64 (shr .i64 x6 (IntKind.u64.wrap (x8))) 1) = 1 then ((steepleref02_Times.f k x8 x193000 x193001).bind fun bt193 => (steepleref02_Product.l1 k x6 (wrap64 (x8 + 1)) x188000 x188001 x189000 x189001 x191000 x191001 bt193.1 bt193.2)) else (steepleref02_Product.l1 k x6 (wrap64 (x8 + 1)) x188000 x188001 x189000 x189001 x191000 x191001 x193000 x193001)) else (none)) else ((steepleref02_Add.f x191000 x191001 x193000 x193001).bind fun bt195 => (steepleref02_Product.l0 k (wrap64 (x6 + 1)) x188000 x188001 x189000 x189001 bt195.1 bt195.2))
end
def steepleref02_Product.f (k : Nat) (a0_0 : Int) (a0_1 : Int) (a1_0 : Int) (a1_1 : Int) : Option (Int × Int) := steepleref02_Product.l0 k 0 a0_0 a0_1 a1_0 a1_1 0 0
theorem steepleref02_Product.mono_l : ∀ k, (∀ y0 y1 y2 y3 y4 y5 y6, LeO (steepleref02_Product.l0 k y0 y1 y2 y3 y4 y5 y6) (steepleref02_Product.l0 (k + 1) y0 y1 y2 y3 y4 y5 y6)) ∧ (∀ y0 y1 y2 y3 y4 y5 y6 y7 y8 y9, LeO (steepleref02_Product.l1 k y0 y1 y2 y3 y4 y5 y6 y7 y8 y9) (steepleref02_Product.l1 (k + 1) y0 y1 y2 y3 y4 y5 y6 y7 y8 y9))
 | 0 => ⟨fun _ _ _ _ _ _ _ r h => by simp [steepleref02_Product.l0] at h, fun _ _ _ _ _ _ _ _ _ _ r h => by simp [steepleref02_Product.l1] at h⟩
 | k + 1 => by
  obtain ⟨ih0, ih1⟩ := steepleref02_Product.mono_l k
  refine ⟨?_, ?_⟩
  ·intro y0 y1 y2 y3 y4 y5 y6
   unfold steepleref02_Product.l0
   repeat' first
   | (with_reducible exact ih0 _ _ _ _ _ _ _)
   | (with_reducible exact ih1 _ _ _ _ _ _ _ _ _ _)
   | (with_reducible exact steepleref02_Has.mono _ _ _ _)
   | (with_reducible exact steepleref02_Times.mono _ _ _ _)
   | (with_reducible exact LeO.refl _)
   | (with_reducible exact LeO.none _)
   | (with_reducible refine LeO.ite ?_ ?_)
   | (with_reducible refine LeO.bind ?_ (fun _ => ?_))
   | exact ih0 _ _ _ _ _ _ _
   | exact ih1 _ _ _ _ _ _ _ _ _ _
   | exact steepleref02_Has.mono _ _ _ _
   | exact steepleref02_Times.mono _ _ _ _
   | exact LeO.none _
   | refine LeO.ite ?_ ?_
   | refine LeO.bind ?_ (fun _ => ?_)
  ·intro y0 y1 y2 y3 y4 y5 y6 y7 y8 y9
   unfold steepleref02_Product.l1
   repeat' first
   | (with_reducible exact ih0 _ _ _ _ _ _ _)
   | (with_reducible exact ih1 _ _ _ _ _ _ _ _ _ _)
   | (with_reducible exact steepleref02_Has.mono _ _ _ _)
   | (with_reducible exact steepleref02_Times.mono _ _ _ _)
   | (with_reducible exact LeO.refl _)
   | (with_reducible exact LeO.none _)
   | (with_reducible refine LeO.ite ?_ ?_)
   | (with_reducible refine LeO.bind ?_ (fun _ => ?_))
   | exact ih0 _ _ _ _ _ _ _
   | exact ih1 _ _ _ _ _ _ _ _ _ _
   | exact steepleref02_Has.mono _ _ _ _
   | exact steepleref02_Times.mono _ _ _ _
   | exact LeO.none _
   | refine LeO.ite ?_ ?_
   | refine LeO.bind ?_ (fun _ => ?_)
theorem steepleref02_Product.mono : ∀ a0 a1 a2 a3 k, LeO (steepleref02_Product.f k a0 a1 a2 a3) (steepleref02_Product.f (k + 1) a0 a1 a2 a3) := by
 intro a0 a1 a2 a3 k
 obtain ⟨ih0, ih1⟩ := steepleref02_Product.mono_l k
 unfold steepleref02_Product.f
 repeat' first
   | (with_reducible exact ih0 _ _ _ _ _ _ _)
   | (with_reducible exact ih1 _ _ _ _ _ _ _ _ _ _)
   | (with_reducible exact steepleref02_Has.mono _ _ _ _)
   | (with_reducible exact steepleref02_Times.mono _ _ _ _)
   | (with_reducible exact LeO.refl _)
   | (with_reducible exact LeO.none _)
   | (with_reducible refine LeO.ite ?_ ?_)
   | (with_reducible refine LeO.bind ?_ (fun _ => ?_))
   | exact ih0 _ _ _ _ _ _ _
   | exact ih1 _ _ _ _ _ _ _ _ _ _
   | exact steepleref02_Has.mono _ _ _ _
   | exact steepleref02_Times.mono _ _ _ _
   | exact LeO.none _
   | refine LeO.ite ?_ ?_
   | refine LeO.bind ?_ (fun _ => ?_)
set_option maxHeartbeats 8000000 in
set_option maxRecDepth 100000 in
theorem steepleref02_Product.calls (k : Nat) (a0_0 : Int) (a0_1 : Int) (a1_0 : Int) (a1_1 : Int) (r1 : Int) (r2 : Int) (w : World) (h : steepleref02_Product.f k a0_0 a0_1 a1_0 a1_1 = some (r1, r2)) :
  Calls Try.prog 22 #[.agg #[.int .u64 a0_0, .int .u64 a0_1], .agg #[.int .u64 a1_0, .int .u64 a1_1]] w fun e w' => e = .returned (.agg #[.int .u64 r1, .int .u64 r2]) ∧ Below w.heap.size w w' := by
 have hu37 := Try.underlying37
 have HB := Aside0.mk (Below.refl w.heap.size w)
 have H : (steepleref02_Product.l0 k 0 a0_0 a0_1 a1_0 a1_1 0 0) = some (r1, r2) := h
 clear h
 have H' := Aside0.mk H
 clear H
 go_enter Try.func22, Try.ntmps22
 go_wp2_with (first | ((with_reducible refine gate_dst (N := 2) rfl ?_); refine box_event ?hg (N := 2) ?hd (cs := #[.int .u64 a0_0, .int .u64 a0_1]) (t := 37) ?hr ?_; (case hd => rfl); (case hg => rfl); (case hr => first | (go_simp; done) | (go_simp; rfl)); intro gb187 hg w3 hbox hb; have BK187 := Aside0.mk hbox; have GW187 := ge hg HB; have GE187 := ge hg HB; replace HB := bh HB hb; clear hb hbox hg) | ((with_reducible refine gate_dst (N := 3) rfl ?_); refine box_event ?hg (N := 3) ?hd (cs := #[.int .u64 a1_0, .int .u64 a1_1]) (t := 37) ?hr ?_; (case hd => rfl); (case hg => rfl); (case hr => first | (go_simp; done) | (go_simp; rfl)); intro gb188 hg w4 hbox hb; have BK188 := Aside0.mk hbox; have GW188 := ge hg HB; have GE188 := ge hg HB; have NB187_188 := nl hg BK187; have NB188_187 := ng hg BK187; replace BK187 := bb BK187 hb; replace HB := bh HB hb; clear hb hbox hg) | ((with_reducible refine gate_dst (N := 4) rfl ?_); refine box_event ?hg (N := 4) ?hd (cs := #[.int .u64 0, .int .u64 0]) (t := 37) ?hr ?_; (case hd => rfl); (case hg => rfl); (case hr => first | (go_simp; done) | (go_simp; rfl)); intro gb189 hg w5 hbox hb; have BK189 := Aside0.mk hbox; have GW189 := ge hg HB; have GE189 := ge hg HB; have NB187_189 := nl hg BK187; have NB189_187 := ng hg BK187; have NB188_189 := nl hg BK188; have NB189_188 := ng hg BK188; replace BK187 := bb BK187 hb; replace BK188 := bb BK188 hb; replace HB := bh HB hb; clear hb hbox hg) | ((with_reducible refine gate_dst (N := 5) rfl ?_); refine box_event ?hg (N := 5) ?hd (cs := #[.int .u64 0, .int .u64 0]) (t := 37) ?hr ?_; (case hd => rfl); (case hg => rfl); (case hr => first | (go_simp; done) | (go_simp; rfl)); intro gb190 hg w6 hbox hb; have BK190 := Aside0.mk hbox; have GW190 := ge hg HB; have GE190 := ge hg HB; have NB187_190 := nl hg BK187; have NB190_187 := ng hg BK187; have NB188_190 := nl hg BK188; have NB190_188 := ng hg BK188; have NB189_190 := nl hg BK189; have NB190_189 := ng hg BK189; replace BK187 := bb BK187 hb; replace BK188 := bb BK188 hb; replace BK189 := bb BK189 hb; replace HB := bh HB hb; clear hb hbox hg))
 go_loopg [6] k (fun kq v6 w' => ∃ (x6_1 : Int) (x191000_1 : Int) (x191001_1 : Int), v6 = .int .i64 x6_1 ∧ Aside0 (steepleref02_Product.l0 kq x6_1 a0_0 a0_1 a1_0 a1_1 x191000_1 x191001_1 = some (r1, r2)) ∧ Aside0 (kq ≤ k) ∧ Aside0 (w'.heap[gb187]? = some (.cells #[.int .u64 a0_0, .int .u64 a0_1] 37 (0, 0))) ∧ Aside0 (w'.heap[gb188]? = some (.cells #[.int .u64 a1_0, .int .u64 a1_1] 37 (0, 0))) ∧ Aside0 (w'.heap[gb189]? = some (.cells #[.int .u64 0, .int .u64 0] 37 (0, 0))) ∧ Aside0 (w'.heap[gb190]? = some (.cells #[.int .u64 x191000_1, .int .u64 x191001_1] 37 (0, 0))) ∧ Aside0 (Below w.heap.size w w'))
 case atStart => exact ⟨(0), (0), (0), (by first | rfl | (simp; done) | (simp [*]; done)), H', ⟨Nat.le_refl _⟩, ⟨bk BK187.out⟩, ⟨bk BK188.out⟩, ⟨bk BK189.out⟩, ⟨bk BK190.out⟩, ⟨bq HB.out⟩⟩
 case round =>
  clear H'
  try clear c2
  try clear p2
  obtain ⟨x6_1, x191000_1, x191001_1, rfl, HA, HK1, BK187, BK188, BK189, BK190, HB⟩ := hrel
  cases gk with
  | zero => exact absurd HA.out (by simp [steepleref02_Product.l0])
  | succ k1 =>
   have H := HA.out
   clear HA
   simp only [steepleref02_Product.l0] at H
   by_cases c7 : x6_1 < 128
   ·rw [if_pos c7] at H
    have c7b0 : decide (x6_1 < 128) = true := decide_eq_true c7
    clear c7
    replace H := Option.bind_eq_some_iff.mp H
    obtain ⟨t191, A80, H⟩ := H
    replace H : (if t191 = true then (steepleref02_Product.l1 k1 x6_1 0 a0_0 a0_1 a1_0 a1_1 x191000_1 x191001_1 a0_0 a0_1) else (steepleref02_Product.l0 k1 (wrap64 (x6_1 + 1)) a0_0 a0_1 a1_0 a1_1 x191000_1 x191001_1)) = some (r1, r2) := H
    have A8 := Aside0.mk A80
    clear A80
    by_cases c9 : t191 = true
    ·subst c9
     have H1 : (steepleref02_Product.l1 k1 x6_1 0 a0_0 a0_1 a1_0 a1_1 x191000_1 x191001_1 a0_0 a0_1) = some (r1, r2) := by rw [if_pos rfl] at H; exact H
     clear H
     have H := H1
     clear H1
     have H' := Aside0.mk H
     clear H
     have hnb10 := NB188_187.out
     have hnc10 := NB187_188.out
     have hnb11 := NB188_189.out
     have hnc11 := NB189_188.out
     have hnb12 := NB188_190.out
     have hnc12 := NB190_188.out
     obtain ⟨hcz13_0, hcz13_1⟩ := zc2 BK188
     obtain ⟨hfz13_0, hfz13_1⟩ := zf2 BK188
     go_wp2_with (first | ((with_reducible refine gate_callee (f := 35) rfl ?_); refine goesL_ (some 15) rfl rfl Try.func35 (by kernel_rfl) rfl #[.agg #[.int .u64 a1_0, .int .u64 a1_1], .int .i64 x6_1] rfl (by (try simp only [List.map_toArray, List.map_cons, List.map_nil]); first | done | rfl | (simp only [List.length_drop, List.length_take]; rfl)) ?_; (with_reducible refine (steepleref02_Has.calls k1 a1_0 a1_1 x6_1 true _ A8.out).mono ?_); rintro e w14 ⟨rfl, hb⟩; refine ⟨_, rfl, ?_⟩; replace BK187 := bb BK187 hb; replace BK188 := bb BK188 hb; replace BK189 := bb BK189 hb; replace BK190 := bb BK190 hb; replace HB := bh HB hb; (try clear hb); (try clear hb2); (try clear hk); (try clear hi); have hnb15 := NB187_189.out; have hnc15 := NB189_187.out; have hnb16 := NB187_190.out; have hnc16 := NB190_187.out; obtain ⟨hcz17_0, hcz17_1⟩ := zc2 BK187; obtain ⟨hfz17_0, hfz17_1⟩ := zf2 BK187) | ((with_reducible refine gate_dst (N := 7) rfl ?_); refine box_event ?hg (N := 7) ?hd (cs := #[.int .u64 0, .int .u64 0]) (t := 37) ?hr ?_; (case hd => rfl); (case hg => rfl); (case hr => first | (go_simp; done) | (go_simp; rfl)); intro gb192 hg w18 hbox hb; have BK192 := Aside0.mk hbox; have GW192 := ge hg HB; have GE192 := ge hg HB; have NB187_192 := nl hg BK187; have NB192_187 := ng hg BK187; have NB188_192 := nl hg BK188; have NB192_188 := ng hg BK188; have NB189_192 := nl hg BK189; have NB192_189 := ng hg BK189; have NB190_192 := nl hg BK190; have NB192_190 := ng hg BK190; replace BK187 := bb BK187 hb; replace BK188 := bb BK188 hb; replace BK189 := bb BK189 hb; replace BK190 := bb BK190 hb; replace HB := bh HB hb; clear hb hbox hg; have hnb19 := NB192_187.out; have hnc19 := NB187_192.out; have hnb20 := NB192_188.out; have hnc20 := NB188_192.out; have hnb21 := NB192_189.out; have hnc21 := NB189_192.out; have hnb22 := NB192_190.out; have hnc22 := NB190_192.out; obtain ⟨hcz23_0, hcz23_1⟩ := zc2 BK192; obtain ⟨hfz23_0, hfz23_1⟩ := zf2 BK192))
     go_loopg [8] k1 (fun kq v8 w' => ∃ (x8_2 : Int) (x193000_2 : Int) (x193001_2 : Int), v8 = .int .i64 x8_2 ∧ Aside0 (steepleref02_Product.l1 kq x6_1 x8_2 a0_0 a0_1 a1_0 a1_1 x191000_1 x191001_1 x193000_2 x193001_2 = some (r1, r2)) ∧ Aside0 (kq ≤ k1) ∧ Aside0 (w'.heap[gb187]? = some (.cells #[.int .u64 a0_0, .int .u64 a0_1] 37 (0, 0))) ∧ Aside0 (w'.heap[gb188]? = some (.cells #[.int .u64 a1_0, .int .u64 a1_1] 37 (0, 0))) ∧ Aside0 (w'.heap[gb189]? = some (.cells #[.int .u64 0, .int .u64 0] 37 (0, 0))) ∧ Aside0 (w'.heap[gb190]? = some (.cells #[.int .u64 x191000_1, .int .u64 x191001_1] 37 (0, 0))) ∧ Aside0 (w'.heap[gb192]? = some (.cells #[.int .u64 x193000_2, .int .u64 x193001_2] 37 (0, 0))) ∧ Aside0 (Below w.heap.size w w'))
     case atStart => exact ⟨(0), (a0_0), (a0_1), (by first | rfl | (simp; done) | (simp [*]; done)), H', ⟨Nat.le_refl _⟩, ⟨by (with_reducible repeat refine bl ?_); refine blk_far ?_ NB187_192.out _; (with_reducible repeat refine bl ?_); refine blk_far ?_ NB187_192.out _; (with_reducible repeat refine bl ?_); exact BK187.out⟩, ⟨by (with_reducible repeat refine bl ?_); refine blk_far ?_ NB188_192.out _; (with_reducible repeat refine bl ?_); refine blk_far ?_ NB188_192.out _; (with_reducible repeat refine bl ?_); exact BK188.out⟩, ⟨by (with_reducible repeat refine bl ?_); refine blk_far ?_ NB189_192.out _; (with_reducible repeat refine bl ?_); refine blk_far ?_ NB189_192.out _; (with_reducible repeat refine bl ?_); exact BK189.out⟩, ⟨by (with_reducible repeat refine bl ?_); refine blk_far ?_ NB190_192.out _; (with_reducible repeat refine bl ?_); refine blk_far ?_ NB190_192.out _; (with_reducible repeat refine bl ?_); exact BK190.out⟩, ⟨by (with_reducible repeat refine bl ?_); refine blk_put (cs := #[.int .u64 a0_0, .int .u64 0]) ?_ 1 _ rfl; (with_reducible repeat refine bl ?_); refine blk_put (cs := #[.int .u64 0, .int .u64 0]) ?_ 0 _ rfl; (with_reducible repeat refine bl ?_); exact BK192.out⟩, ⟨bq HB.out⟩⟩
     case round =>
      clear H'
      try clear c1
      try clear c2
      try clear p2
      try clear c3
      try clear p6
      try clear c7
      try clear c7b0
      try clear c9
      try clear c10
      try clear c11
      try clear c12
      try clear c15
      try clear c16
      try clear c19
      try clear c20
      try clear c21
      try clear c22
      try clear hcz13_0
      try clear hcz13_1
      try clear hcz17_0
      try clear hcz17_1
      try clear hcz23_0
      try clear hcz23_1
      try clear hfz13_0
      try clear hfz13_1
      try clear hfz17_0
      try clear hfz17_1
      try clear hfz23_0
      try clear hfz23_1
      try clear p2
      obtain ⟨x8_2, x193000_2, x193001_2, rfl, HA, HK2, BK187, BK188, BK189, BK190, BK192, HB⟩ := hrel
      cases gk with
      | zero => exact absurd HA.out (by simp [steepleref02_Product.l1])
      | succ k2 =>
       have H := HA.out
       clear HA
       simp only [steepleref02_Product.l1] at H
       by_cases c24 : x8_2 < 7
       ·rw [if_pos c24] at H
        have c24b0 : decide (x8_2 < 7) = true := decide_eq_true c24
        clear c24
        obtain ⟨ji25, hji25⟩ : ∃ j_ : Int, (IntKind.u64.wrap (x8_2)) = j_ := ⟨_, rfl⟩
        replace H : (if 0 ≤ (ji25) then (if (Go.bits .and .i64 (shr .i64 x6_1 (ji25)) 1) = 1 then ((steepleref02_Times.f k2 x8_2 x193000_2 x193001_2).bind fun bt193 => (steepleref02_Product.l1 k2 x6_1 (wrap64 (x8_2 + 1)) a0_0 a0_1 a1_0 a1_1 x191000_1 x191001_1 bt193.1 bt193.2)) else (steepleref02_Product.l1 k2 x6_1 (wrap64 (x8_2 + 1)) a0_0 a0_1 a1_0 a1_1 x191000_1 x191001_1 x193000_2 x193001_2)) else (none)) = some (r1, r2) := by first | (rw [hji25] at H; exact H) | (simp only [hji25] at H ⊢; exact H)
        by_cases c26 : 0 ≤ (ji25)
        ·rw [if_pos c26] at H
         have c26b0 := eq_true c26
         have c26b1 : decide (0 ≤ (ji25)) = true := decide_eq_true c26
         clear c26
         obtain ⟨ji27, hji27⟩ : ∃ j_ : Int, (shr .i64 x6_1 (ji25)) = j_ := ⟨_, rfl⟩
         replace H : (if (Go.bits .and .i64 (ji27) 1) = 1 then ((steepleref02_Times.f k2 x8_2 x193000_2 x193001_2).bind fun bt193 => (steepleref02_Product.l1 k2 x6_1 (wrap64 (x8_2 + 1)) a0_0 a0_1 a1_0 a1_1 x191000_1 x191001_1 bt193.1 bt193.2)) else (steepleref02_Product.l1 k2 x6_1 (wrap64 (x8_2 + 1)) a0_0 a0_1 a1_0 a1_1 x191000_1 x191001_1 x193000_2 x193001_2)) = some (r1, r2) := by first | (rw [hji27] at H; exact H) | (simp only [hji27] at H ⊢; exact H)
         have hji27_ : (x6_1 / 2 ^ min (ji25).toNat 64) = ji27 := hji27
         have hji27z : (ji25) ≤ 64 → (x6_1 / 2 ^ (ji25).toNat) = ji27 := shr_small hji27
         by_cases c28 : (Go.bits .and .i64 (ji27) 1) = 1
         ·rw [if_pos c28] at H
          have c28b0 : ((Go.bits .and .i64 (ji27) 1) == 1) = true := beq_iff_eq.mpr c28
          have c28b1 : ((Go.bits .and .i64 (ji27) 1) != 1) = false := bne_eq_false_iff_eq.mpr c28
          clear c28
          replace H := Option.bind_eq_some_iff.mp H
          obtain ⟨⟨t193, t194⟩, A290, H⟩ := H
          replace H : (steepleref02_Product.l1 k2 x6_1 (wrap64 (x8_2 + 1)) a0_0 a0_1 a1_0 a1_1 x191000_1 x191001_1 t193 t194) = some (r1, r2) := H
          have A29 := Aside0.mk A290
          clear A290
          have H' := Aside0.mk H
          clear H
          have hnb30 := NB192_187.out
          have hnc30 := NB187_192.out
          have hnb31 := NB192_188.out
          have hnc31 := NB188_192.out
          have hnb32 := NB192_189.out
          have hnc32 := NB189_192.out
          have hnb33 := NB192_190.out
          have hnc33 := NB190_192.out
          obtain ⟨hcz34_0, hcz34_1⟩ := zc2 BK192
          obtain ⟨hfz34_0, hfz34_1⟩ := zf2 BK192
          go_wp2_with (first | ((with_reducible refine gate_callee (f := 44) rfl ?_); refine goesL_ (some 30) rfl rfl Try.func44 (by kernel_rfl) rfl #[.int .i64 x8_2, .agg #[.int .u64 x193000_2, .int .u64 x193001_2]] rfl (by (try simp only [List.map_toArray, List.map_cons, List.map_nil]); first | done | rfl | (simp only [List.length_drop, List.length_take]; rfl)) ?_; (with_reducible refine (steepleref02_Times.calls k2 x8_2 x193000_2 x193001_2 t193 t194 _ A29.out).mono ?_); rintro e w35 ⟨rfl, hb⟩; refine ⟨_, rfl, ?_⟩; replace BK187 := bb BK187 hb; replace BK188 := bb BK188 hb; replace BK189 := bb BK189 hb; replace BK190 := bb BK190 hb; replace BK192 := bb BK192 hb; replace HB := bh HB hb; (try clear hb); (try clear hb2); (try clear hk); (try clear hi); obtain ⟨hcz36_0, hcz36_1⟩ := zc2 BK192; obtain ⟨hfz36_0, hfz36_1⟩ := zf2 BK192))
          go_roundg k2
          case measure => have := HK1.out; have := HK2.out; omega
          case rel => exact ⟨(wrap64 (x8_2 + 1)), (t193), (t194), (by first | rfl | (simp; done) | (simp [*]; done)), H', ⟨by have := HK1.out; have := HK2.out; omega⟩, ⟨by (with_reducible repeat refine bl ?_); refine blk_far ?_ NB187_192.out _; (with_reducible repeat refine bl ?_); refine blk_far ?_ NB187_192.out _; (with_reducible repeat refine bl ?_); exact BK187.out⟩, ⟨by (with_reducible repeat refine bl ?_); refine blk_far ?_ NB188_192.out _; (with_reducible repeat refine bl ?_); refine blk_far ?_ NB188_192.out _; (with_reducible repeat refine bl ?_); exact BK188.out⟩, ⟨by (with_reducible repeat refine bl ?_); refine blk_far ?_ NB189_192.out _; (with_reducible repeat refine bl ?_); refine blk_far ?_ NB189_192.out _; (with_reducible repeat refine bl ?_); exact BK189.out⟩, ⟨by (with_reducible repeat refine bl ?_); refine blk_far ?_ NB190_192.out _; (with_reducible repeat refine bl ?_); refine blk_far ?_ NB190_192.out _; (with_reducible repeat refine bl ?_); exact BK190.out⟩, ⟨by (with_reducible repeat refine bl ?_); refine blk_put (cs := #[.int .u64 t193, .int .u64 x193001_2]) ?_ 1 _ rfl; (with_reducible repeat refine bl ?_); refine blk_put (cs := #[.int .u64 x193000_2, .int .u64 x193001_2]) ?_ 0 _ rfl; (with_reducible repeat refine bl ?_); exact BK192.out⟩, ⟨bq HB.out⟩⟩
         ·rw [if_neg c28] at H
          have c28b0 : ((Go.bits .and .i64 (ji27) 1) == 1) = false := beq_eq_false_iff_ne.mpr c28
          have c28b1 : ((Go.bits .and .i64 (ji27) 1) != 1) = true := bne_iff_ne.mpr c28
          have H' := Aside0.mk H
          clear H
          go_wp2
          go_roundg k2
          case measure => have := HK1.out; have := HK2.out; omega
          case rel => exact ⟨(wrap64 (x8_2 + 1)), (x193000_2), (x193001_2), (by first | rfl | (simp; done) | (simp [*]; done)), H', ⟨by have := HK1.out; have := HK2.out; omega⟩, ⟨bk BK187.out⟩, ⟨bk BK188.out⟩, ⟨bk BK189.out⟩, ⟨bk BK190.out⟩, ⟨bk BK192.out⟩, ⟨bq HB.out⟩⟩
        ·rw [if_neg c26] at H
         exact absurd H (by simp)
       ·rw [if_neg c24] at H
        have c24b0 : decide (x8_2 < 7) = false := decide_eq_false c24
        clear c24
        replace H := Option.bind_eq_some_iff.mp H
        obtain ⟨⟨t195, t196⟩, A370, H⟩ := H
        replace H : (steepleref02_Product.l0 k2 (wrap64 (x6_1 + 1)) a0_0 a0_1 a1_0 a1_1 t195 t196) = some (r1, r2) := H
        have A37 := Aside0.mk A370
        clear A370
        have H' := Aside0.mk H
        clear H
        have hnb38 := NB190_187.out
        have hnc38 := NB187_190.out
        have hnb39 := NB190_188.out
        have hnc39 := NB188_190.out
        have hnb40 := NB190_189.out
        have hnc40 := NB189_190.out
        have hnb41 := NB190_192.out
        have hnc41 := NB192_190.out
        obtain ⟨hcz42_0, hcz42_1⟩ := zc2 BK190
        obtain ⟨hfz42_0, hfz42_1⟩ := zf2 BK190
        have hnb43 := NB192_187.out
        have hnc43 := NB187_192.out
        have hnb44 := NB192_188.out
        have hnc44 := NB188_192.out
        have hnb45 := NB192_189.out
        have hnc45 := NB189_192.out
        obtain ⟨hcz46_0, hcz46_1⟩ := zc2 BK192
        obtain ⟨hfz46_0, hfz46_1⟩ := zf2 BK192
        go_wp2_with (first | ((with_reducible refine gate_callee (f := 21) rfl ?_); refine goesL_ (some 33) rfl rfl Try.func21 (by kernel_rfl) rfl #[.agg #[.int .u64 x191000_1, .int .u64 x191001_1], .agg #[.int .u64 x193000_2, .int .u64 x193001_2]] rfl (by (try simp only [List.map_toArray, List.map_cons, List.map_nil]); first | done | rfl | (simp only [List.length_drop, List.length_take]; rfl)) ?_; (with_reducible refine (steepleref02_Add.calls x191000_1 x191001_1 x193000_2 x193001_2 t195 t196 _ A37.out).mono ?_); rintro e w47 ⟨rfl, hb⟩; refine ⟨_, rfl, ?_⟩; replace BK187 := bb BK187 hb; replace BK188 := bb BK188 hb; replace BK189 := bb BK189 hb; replace BK190 := bb BK190 hb; replace BK192 := bb BK192 hb; replace HB := bh HB hb; (try clear hb); (try clear hb2); (try clear hk); (try clear hi); obtain ⟨hcz48_0, hcz48_1⟩ := zc2 BK190; obtain ⟨hfz48_0, hfz48_1⟩ := zf2 BK190))
        go_roundg k2
        case measure => have := HK1.out; have := HK2.out; omega
        case rel => exact ⟨(wrap64 (x6_1 + 1)), (t195), (t196), (by first | rfl | (simp; done) | (simp [*]; done)), H', ⟨by have := HK1.out; have := HK2.out; omega⟩, ⟨by (with_reducible repeat refine bl ?_); refine blk_far ?_ NB187_190.out _; (with_reducible repeat refine bl ?_); refine blk_far ?_ NB187_190.out _; (with_reducible repeat refine bl ?_); exact BK187.out⟩, ⟨by (with_reducible repeat refine bl ?_); refine blk_far ?_ NB188_190.out _; (with_reducible repeat refine bl ?_); refine blk_far ?_ NB188_190.out _; (with_reducible repeat refine bl ?_); exact BK188.out⟩, ⟨by (with_reducible repeat refine bl ?_); refine blk_far ?_ NB189_190.out _; (with_reducible repeat refine bl ?_); refine blk_far ?_ NB189_190.out _; (with_reducible repeat refine bl ?_); exact BK189.out⟩, ⟨by (with_reducible repeat refine bl ?_); refine blk_put (cs := #[.int .u64 t195, .int .u64 x191001_1]) ?_ 1 _ rfl; (with_reducible repeat refine bl ?_); refine blk_put (cs := #[.int .u64 x191000_1, .int .u64 x191001_1]) ?_ 0 _ rfl; (with_reducible repeat refine bl ?_); exact BK190.out⟩, ⟨bq HB.out⟩⟩
    ·replace c9 := Bool.eq_false_iff.mpr c9
     subst c9
     have H1 : (steepleref02_Product.l0 k1 (wrap64 (x6_1 + 1)) a0_0 a0_1 a1_0 a1_1 x191000_1 x191001_1) = some (r1, r2) := by rw [if_neg (show ¬ (false = true) by decide)] at H; exact H
     clear H
     have H := H1
     clear H1
     have H' := Aside0.mk H
     clear H
     have hnb49 := NB188_187.out
     have hnc49 := NB187_188.out
     have hnb50 := NB188_189.out
     have hnc50 := NB189_188.out
     have hnb51 := NB188_190.out
     have hnc51 := NB190_188.out
     obtain ⟨hcz52_0, hcz52_1⟩ := zc2 BK188
     obtain ⟨hfz52_0, hfz52_1⟩ := zf2 BK188
     go_wp2_with (first | ((with_reducible refine gate_callee (f := 35) rfl ?_); refine goesL_ (some 15) rfl rfl Try.func35 (by kernel_rfl) rfl #[.agg #[.int .u64 a1_0, .int .u64 a1_1], .int .i64 x6_1] rfl (by (try simp only [List.map_toArray, List.map_cons, List.map_nil]); first | done | rfl | (simp only [List.length_drop, List.length_take]; rfl)) ?_; (with_reducible refine (steepleref02_Has.calls k1 a1_0 a1_1 x6_1 false _ A8.out).mono ?_); rintro e w53 ⟨rfl, hb⟩; refine ⟨_, rfl, ?_⟩; replace BK187 := bb BK187 hb; replace BK188 := bb BK188 hb; replace BK189 := bb BK189 hb; replace BK190 := bb BK190 hb; replace HB := bh HB hb; (try clear hb); (try clear hb2); (try clear hk); (try clear hi)))
     go_roundg k1
     case measure => have := HK1.out; omega
     case rel => exact ⟨(wrap64 (x6_1 + 1)), (x191000_1), (x191001_1), (by first | rfl | (simp; done) | (simp [*]; done)), H', ⟨by have := HK1.out; omega⟩, ⟨bk BK187.out⟩, ⟨bk BK188.out⟩, ⟨bk BK189.out⟩, ⟨bk BK190.out⟩, ⟨bq HB.out⟩⟩
   ·rw [if_neg c7] at H
    have c7b0 : decide (x6_1 < 128) = false := decide_eq_false c7
    clear c7
    simp only [Option.some.injEq, Prod.mk.injEq] at H
    obtain ⟨rfl, rfl⟩ := H
    have hnb54 := NB190_187.out
    have hnc54 := NB187_190.out
    have hnb55 := NB190_188.out
    have hnc55 := NB188_190.out
    have hnb56 := NB190_189.out
    have hnc56 := NB189_190.out
    obtain ⟨hcz57_0, hcz57_1⟩ := zc2 BK190
    obtain ⟨hfz57_0, hfz57_1⟩ := zf2 BK190
    have hnb58 := NB189_187.out
    have hnc58 := NB187_189.out
    have hnb59 := NB189_188.out
    have hnc59 := NB188_189.out
    obtain ⟨hcz60_0, hcz60_1⟩ := zc2 BK189
    obtain ⟨hfz60_0, hfz60_1⟩ := zf2 BK189
    go_wp2
    refine bodyPost_ret (results_cell_row rfl _ _ gb189 37 #[.int .u64 x191000_1, .int .u64 x191001_1] (0, 0) _ rfl (by (with_reducible repeat refine bl ?_); refine blk_put (cs := #[.int .u64 x191000_1, .int .u64 0]) ?_ 1 _ rfl; (with_reducible repeat refine bl ?_); refine blk_put (cs := #[.int .u64 0, .int .u64 0]) ?_ 0 _ rfl; (with_reducible repeat refine bl ?_); exact BK189.out) Try.underlying37 rfl (by kernel_rfl)) rfl ?_
    exact ⟨by first | rfl | (simp [errW_none, errW_some] <;> rfl) | (simp [*, errW_none, errW_some] <;> rfl), bq HB.out⟩

/-! ### steepleref15_Two: function 19 -/
def steepleref15_Two.l0 : Nat → Int → Int → Int → Option (Int)
 | 0, _, _, _ => none
 | k + 1, x0, x3, x4 => if x4 < x0 then (steepleref15_Two.l0 k x0 (wrap64 (2 * x3)) (wrap64 (x4 + 1))) else (some x3)
def steepleref15_Two.f (k : Nat) (a0 : Int) : Option (Int) := steepleref15_Two.l0 k a0 1 0
theorem steepleref15_Two.mono_l : ∀ k, (∀ y0 y1 y2, LeO (steepleref15_Two.l0 k y0 y1 y2) (steepleref15_Two.l0 (k + 1) y0 y1 y2))
 | 0 => fun _ _ _ r h => by simp [steepleref15_Two.l0] at h
 | k + 1 => by
  have ih0 := steepleref15_Two.mono_l k
  ·intro y0 y1 y2
   unfold steepleref15_Two.l0
   repeat' first
   | (with_reducible exact ih0 _ _ _)
   | (with_reducible exact LeO.refl _)
   | (with_reducible exact LeO.none _)
   | (with_reducible refine LeO.ite ?_ ?_)
   | (with_reducible refine LeO.bind ?_ (fun _ => ?_))
   | exact ih0 _ _ _
   | exact LeO.none _
   | refine LeO.ite ?_ ?_
   | refine LeO.bind ?_ (fun _ => ?_)
theorem steepleref15_Two.mono : ∀ a0 k, LeO (steepleref15_Two.f k a0) (steepleref15_Two.f (k + 1) a0) := by
 intro a0 k
 have ih0 := steepleref15_Two.mono_l k
 unfold steepleref15_Two.f
 repeat' first
   | (with_reducible exact ih0 _ _ _)
   | (with_reducible exact LeO.refl _)
   | (with_reducible exact LeO.none _)
   | (with_reducible refine LeO.ite ?_ ?_)
   | (with_reducible refine LeO.bind ?_ (fun _ => ?_))
   | exact ih0 _ _ _
   | exact LeO.none _
   | refine LeO.ite ?_ ?_
   | refine LeO.bind ?_ (fun _ => ?_)
set_option maxHeartbeats 8000000 in
set_option maxRecDepth 100000 in
theorem steepleref15_Two.calls (k : Nat) (a0 : Int) (r : Int) (w : World) (h : steepleref15_Two.f k a0 = some r) :
  Calls Try.prog 19 #[.int .i64 a0] w fun e w' => e = .returned (.int .i64 r) ∧ Drawn0 w w' := by
 have H : (steepleref15_Two.l0 k a0 1 0) = some r := h
 clear h
 have H' := Aside0.mk H
 clear H
 go_enter Try.func19, Try.ntmps19
 go_wp2
 go_loopg [3, 4] k (fun kq v3 v4 w' => ∃ (x3_1 : Int) (x4_1 : Int), v3 = .int .i64 x3_1 ∧ v4 = .int .i64 x4_1 ∧ Aside0 (steepleref15_Two.l0 kq a0 x3_1 x4_1 = some r) ∧ Aside0 (kq ≤ k) ∧ Drawn0 w w')
 case atStart => exact ⟨(1), (0), (by first | rfl | (simp; done) | (simp [*]; done)), (by first | rfl | (simp; done) | (simp [*]; done)), H', ⟨Nat.le_refl _⟩, by repeat (first | exact Drawn0.refl _ | apply Drawn0.step)⟩
 case round =>
  clear H'
  try clear c1
  obtain ⟨x3_1, x4_1, rfl, rfl, HA, HK1, ⟨m1, rfl⟩⟩ := hrel
  cases gk with
  | zero => exact absurd HA.out (by simp [steepleref15_Two.l0])
  | succ k1 =>
   have H := HA.out
   clear HA
   simp only [steepleref15_Two.l0] at H
   by_cases c2 : x4_1 < a0
   ·rw [if_pos c2] at H
    have c2b0 : decide (x4_1 < a0) = true := decide_eq_true c2
    clear c2
    have H' := Aside0.mk H
    clear H
    go_wp2
    go_roundg k1
    case measure => have := HK1.out; omega
    case rel => exact ⟨(wrap64 (2 * x3_1)), (wrap64 (x4_1 + 1)), (by first | rfl | (simp; done) | (simp [*]; done)), (by first | rfl | (simp; done) | (simp [*]; done)), H', ⟨by have := HK1.out; omega⟩, by repeat (first | exact Drawn0.refl _ | apply Drawn0.step)⟩
   ·rw [if_neg c2] at H
    have c2b0 : decide (x4_1 < a0) = false := decide_eq_false c2
    clear c2
    obtain rfl := Option.some.inj H
    go_wp2
    go_ret
    exact ⟨by first | rfl | (simp; done) | (simp [*]; done), by repeat (first | exact Drawn0.refl _ | apply Drawn0.step)⟩

/-! ### steepleref33_Power: function 25 -/
def steepleref33_Power.l0 : Nat → Int → Int → Int → Int → Option (Int × Int)
 | 0, _, _, _, _ => none
 | k + 1, x1, x6, x200000, x200001 => if x6 < x1 then ((steepleref02_Product.f k x200000 x200001 x200000 x200001).bind fun bt200 => (steepleref33_Power.l0 k x1 (wrap64 (x6 + 1)) bt200.1 bt200.2)) else (some (x200000, x200001))
def steepleref33_Power.f (k : Nat) (a0_0 : Int) (a0_1 : Int) (a1 : Int) : Option (Int × Int) := steepleref33_Power.l0 k a1 0 a0_0 a0_1
theorem steepleref33_Power.mono_l : ∀ k, (∀ y0 y1 y2 y3, LeO (steepleref33_Power.l0 k y0 y1 y2 y3) (steepleref33_Power.l0 (k + 1) y0 y1 y2 y3))
 | 0 => fun _ _ _ _ r h => by simp [steepleref33_Power.l0] at h
 | k + 1 => by
  have ih0 := steepleref33_Power.mono_l k
  ·intro y0 y1 y2 y3
   unfold steepleref33_Power.l0
   repeat' first
   | (with_reducible exact ih0 _ _ _ _)
   | (with_reducible exact steepleref02_Product.mono _ _ _ _ _)
   | (with_reducible exact LeO.refl _)
   | (with_reducible exact LeO.none _)
   | (with_reducible refine LeO.ite ?_ ?_)
   | (with_reducible refine LeO.bind ?_ (fun _ => ?_))
   | exact ih0 _ _ _ _
   | exact steepleref02_Product.mono _ _ _ _ _
   | exact LeO.none _
   | refine LeO.ite ?_ ?_
   | refine LeO.bind ?_ (fun _ => ?_)
theorem steepleref33_Power.mono : ∀ a0 a1 a2 k, LeO (steepleref33_Power.f k a0 a1 a2) (steepleref33_Power.f (k + 1) a0 a1 a2) := by
 intro a0 a1 a2 k
 have ih0 := steepleref33_Power.mono_l k
 unfold steepleref33_Power.f
 repeat' first
   | (with_reducible exact ih0 _ _ _ _)
   | (with_reducible exact steepleref02_Product.mono _ _ _ _ _)
   | (with_reducible exact LeO.refl _)
   | (with_reducible exact LeO.none _)
   | (with_reducible refine LeO.ite ?_ ?_)
   | (with_reducible refine LeO.bind ?_ (fun _ => ?_))
   | exact ih0 _ _ _ _
   | exact steepleref02_Product.mono _ _ _ _ _
   | exact LeO.none _
   | refine LeO.ite ?_ ?_
   | refine LeO.bind ?_ (fun _ => ?_)
set_option maxHeartbeats 8000000 in
set_option maxRecDepth 100000 in
theorem steepleref33_Power.calls (k : Nat) (a0_0 : Int) (a0_1 : Int) (a1 : Int) (r1 : Int) (r2 : Int) (w : World) (h : steepleref33_Power.f k a0_0 a0_1 a1 = some (r1, r2)) :
  Calls Try.prog 25 #[.agg #[.int .u64 a0_0, .int .u64 a0_1], .int .i64 a1] w fun e w' => e = .returned (.agg #[.int .u64 r1, .int .u64 r2]) ∧ Below w.heap.size w w' := by
 have hu37 := Try.underlying37
 have HB := Aside0.mk (Below.refl w.heap.size w)
 have H : (steepleref33_Power.l0 k a1 0 a0_0 a0_1) = some (r1, r2) := h
 clear h
 have H' := Aside0.mk H
 clear H
 go_enter Try.func25, Try.ntmps25
 go_wp2_with (first | ((with_reducible refine gate_dst (N := 2) rfl ?_); refine box_event ?hg (N := 2) ?hd (cs := #[.int .u64 a0_0, .int .u64 a0_1]) (t := 37) ?hr ?_; (case hd => rfl); (case hg => rfl); (case hr => first | (go_simp; done) | (go_simp; rfl)); intro gb197 hg w3 hbox hb; have BK197 := Aside0.mk hbox; have GW197 := ge hg HB; have GE197 := ge hg HB; replace HB := bh HB hb; clear hb hbox hg) | ((with_reducible refine gate_dst (N := 4) rfl ?_); refine box_event ?hg (N := 4) ?hd (cs := #[.int .u64 0, .int .u64 0]) (t := 37) ?hr ?_; (case hd => rfl); (case hg => rfl); (case hr => first | (go_simp; done) | (go_simp; rfl)); intro gb198 hg w4 hbox hb; have BK198 := Aside0.mk hbox; have GW198 := ge hg HB; have GE198 := ge hg HB; have NB197_198 := nl hg BK197; have NB198_197 := ng hg BK197; replace BK197 := bb BK197 hb; replace HB := bh HB hb; clear hb hbox hg; have hnb5 := NB197_198.out; have hnc5 := NB198_197.out; obtain ⟨hcz6_0, hcz6_1⟩ := zc2 BK197; obtain ⟨hfz6_0, hfz6_1⟩ := zf2 BK197) | ((with_reducible refine gate_dst (N := 5) rfl ?_); refine box_event ?hg (N := 5) ?hd (cs := #[.int .u64 0, .int .u64 0]) (t := 37) ?hr ?_; (case hd => rfl); (case hg => rfl); (case hr => first | (go_simp; done) | (go_simp; rfl)); intro gb199 hg w7 hbox hb; have BK199 := Aside0.mk hbox; have GW199 := ge hg HB; have GE199 := ge hg HB; have NB197_199 := nl hg BK197; have NB199_197 := ng hg BK197; have NB198_199 := nl hg BK198; have NB199_198 := ng hg BK198; replace BK197 := bb BK197 hb; replace BK198 := bb BK198 hb; replace HB := bh HB hb; clear hb hbox hg; have hnb8 := NB199_197.out; have hnc8 := NB197_199.out; have hnb9 := NB199_198.out; have hnc9 := NB198_199.out; obtain ⟨hcz10_0, hcz10_1⟩ := zc2 BK199; obtain ⟨hfz10_0, hfz10_1⟩ := zf2 BK199))
 go_loopg [6] k (fun kq v6 w' => ∃ (x6_1 : Int) (x200000_1 : Int) (x200001_1 : Int), v6 = .int .i64 x6_1 ∧ Aside0 (steepleref33_Power.l0 kq a1 x6_1 x200000_1 x200001_1 = some (r1, r2)) ∧ Aside0 (kq ≤ k) ∧ Aside0 (w'.heap[gb197]? = some (.cells #[.int .u64 a0_0, .int .u64 a0_1] 37 (0, 0))) ∧ Aside0 (w'.heap[gb198]? = some (.cells #[.int .u64 0, .int .u64 0] 37 (0, 0))) ∧ Aside0 (w'.heap[gb199]? = some (.cells #[.int .u64 x200000_1, .int .u64 x200001_1] 37 (0, 0))) ∧ Aside0 (Below w.heap.size w w'))
 case atStart => exact ⟨(0), (a0_0), (a0_1), (by first | rfl | (simp; done) | (simp [*]; done)), H', ⟨Nat.le_refl _⟩, ⟨by (with_reducible repeat refine bl ?_); refine blk_far ?_ NB197_199.out _; (with_reducible repeat refine bl ?_); refine blk_far ?_ NB197_199.out _; (with_reducible repeat refine bl ?_); exact BK197.out⟩, ⟨by (with_reducible repeat refine bl ?_); refine blk_far ?_ NB198_199.out _; (with_reducible repeat refine bl ?_); refine blk_far ?_ NB198_199.out _; (with_reducible repeat refine bl ?_); exact BK198.out⟩, ⟨by (with_reducible repeat refine bl ?_); refine blk_put (cs := #[.int .u64 a0_0, .int .u64 0]) ?_ 1 _ rfl; (with_reducible repeat refine bl ?_); refine blk_put (cs := #[.int .u64 0, .int .u64 0]) ?_ 0 _ rfl; (with_reducible repeat refine bl ?_); exact BK199.out⟩, ⟨bq HB.out⟩⟩
 case round =>
  clear H'
  try clear c2
  try clear p2
  try clear c5
  try clear c8
  try clear c9
  try clear hcz10_0
  try clear hcz10_1
  try clear hcz6_0
  try clear hcz6_1
  try clear hfz10_0
  try clear hfz10_1
  try clear hfz6_0
  try clear hfz6_1
  obtain ⟨x6_1, x200000_1, x200001_1, rfl, HA, HK1, BK197, BK198, BK199, HB⟩ := hrel
  cases gk with
  | zero => exact absurd HA.out (by simp [steepleref33_Power.l0])
  | succ k1 =>
   have H := HA.out
   clear HA
   simp only [steepleref33_Power.l0] at H
   by_cases c11 : x6_1 < a1
   ·rw [if_pos c11] at H
    have c11b0 : decide (x6_1 < a1) = true := decide_eq_true c11
    clear c11
    replace H := Option.bind_eq_some_iff.mp H
    obtain ⟨⟨t200, t201⟩, A120, H⟩ := H
    replace H : (steepleref33_Power.l0 k1 a1 (wrap64 (x6_1 + 1)) t200 t201) = some (r1, r2) := H
    have A12 := Aside0.mk A120
    clear A120
    have H' := Aside0.mk H
    clear H
    have hnb13 := NB199_197.out
    have hnc13 := NB197_199.out
    have hnb14 := NB199_198.out
    have hnc14 := NB198_199.out
    obtain ⟨hcz15_0, hcz15_1⟩ := zc2 BK199
    obtain ⟨hfz15_0, hfz15_1⟩ := zf2 BK199
    go_wp2_with (first | ((with_reducible refine gate_callee (f := 22) rfl ?_); refine goesL_ (some 15) rfl rfl Try.func22 (by kernel_rfl) rfl #[.agg #[.int .u64 x200000_1, .int .u64 x200001_1], .agg #[.int .u64 x200000_1, .int .u64 x200001_1]] rfl (by (try simp only [List.map_toArray, List.map_cons, List.map_nil]); first | done | rfl | (simp only [List.length_drop, List.length_take]; rfl)) ?_; (with_reducible refine (steepleref02_Product.calls k1 x200000_1 x200001_1 x200000_1 x200001_1 t200 t201 _ A12.out).mono ?_); rintro e w16 ⟨rfl, hb⟩; refine ⟨_, rfl, ?_⟩; replace BK197 := bb BK197 hb; replace BK198 := bb BK198 hb; replace BK199 := bb BK199 hb; replace HB := bh HB hb; (try clear hb); (try clear hb2); (try clear hk); (try clear hi); obtain ⟨hcz17_0, hcz17_1⟩ := zc2 BK199; obtain ⟨hfz17_0, hfz17_1⟩ := zf2 BK199))
    go_roundg k1
    case measure => have := HK1.out; omega
    case rel => exact ⟨(wrap64 (x6_1 + 1)), (t200), (t201), (by first | rfl | (simp; done) | (simp [*]; done)), H', ⟨by have := HK1.out; omega⟩, ⟨by (with_reducible repeat refine bl ?_); refine blk_far ?_ NB197_199.out _; (with_reducible repeat refine bl ?_); refine blk_far ?_ NB197_199.out _; (with_reducible repeat refine bl ?_); exact BK197.out⟩, ⟨by (with_reducible repeat refine bl ?_); refine blk_far ?_ NB198_199.out _; (with_reducible repeat refine bl ?_); refine blk_far ?_ NB198_199.out _; (with_reducible repeat refine bl ?_); exact BK198.out⟩, ⟨by (with_reducible repeat refine bl ?_); refine blk_put (cs := #[.int .u64 t200, .int .u64 x200001_1]) ?_ 1 _ rfl; (with_reducible repeat refine bl ?_); refine blk_put (cs := #[.int .u64 x200000_1, .int .u64 x200001_1]) ?_ 0 _ rfl; (with_reducible repeat refine bl ?_); exact BK199.out⟩, ⟨bq HB.out⟩⟩
   ·rw [if_neg c11] at H
    have c11b0 : decide (x6_1 < a1) = false := decide_eq_false c11
    clear c11
    simp only [Option.some.injEq, Prod.mk.injEq] at H
    obtain ⟨rfl, rfl⟩ := H
    have hnb18 := NB199_197.out
    have hnc18 := NB197_199.out
    have hnb19 := NB199_198.out
    have hnc19 := NB198_199.out
    obtain ⟨hcz20_0, hcz20_1⟩ := zc2 BK199
    obtain ⟨hfz20_0, hfz20_1⟩ := zf2 BK199
    have hnb21 := NB198_197.out
    have hnc21 := NB197_198.out
    obtain ⟨hcz22_0, hcz22_1⟩ := zc2 BK198
    obtain ⟨hfz22_0, hfz22_1⟩ := zf2 BK198
    go_wp2
    refine bodyPost_ret (results_cell_row rfl _ _ gb198 37 #[.int .u64 x200000_1, .int .u64 x200001_1] (0, 0) _ rfl (by (with_reducible repeat refine bl ?_); refine blk_put (cs := #[.int .u64 x200000_1, .int .u64 0]) ?_ 1 _ rfl; (with_reducible repeat refine bl ?_); refine blk_put (cs := #[.int .u64 0, .int .u64 0]) ?_ 0 _ rfl; (with_reducible repeat refine bl ?_); exact BK198.out) Try.underlying37 rfl (by kernel_rfl)) rfl ?_
    exact ⟨by first | rfl | (simp [errW_none, errW_some] <;> rfl) | (simp [*, errW_none, errW_some] <;> rfl), bq HB.out⟩

end Go.Proofs.Ytlegcabfgkccmaa.P
