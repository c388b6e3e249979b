/- Written by a program of this session: functions that the law reaches, as Lean functions, and that the code comes to their answers. Conditions: those that each theorem names. -/
import Derived.Test.YthgiifakcgjlaaaPx0
import Derived.Test.YthgiifakcgjlaaaPx1
import Derived.Test.YthgiifakcgjlaaaPx2
import Derived.Test.YthgiifakcgjlaaaPx3
namespace Go.Proofs.Ythgiifakcgjlaaa.P
open Go.RowKit Go.Proofs.YthgiifakcgjlaaaX Go.Proofs.YthgiifakcgjlaaaW.PrintWords Go.Proofs.YthgiifakcgjlaaaW.PrintLast Go.Proofs.YthgiifakcgjlaaaW.PrintMore
attribute [local go_sem] max2_int min2_int max_two min_two max_three min_three max_four min_four   -- for this text's walks alone
set_option linter.unusedVariables false
set_option linter.unusedSimpArgs false

attribute [local go_sem high] eqA23
/-! ### steepleref29_Params_Bytes: function 14 -/
def steepleref29_Params_Bytes.f (a0_0 : Int) (a0_1 : Int) (a0_2 : Int) (a0_3 : Int) : Option (ByteArray) := (steepleref01_Num.f a0_0).bind fun t163 => ((steepleref01_Num.f a0_1).bind fun t164 => (if t163.size + t164.size ≤ 9223372036854775807 then ((steepleref01_Num.f a0_2).bind fun t165 => (if (t163 ++ t164).size + t165.size ≤ 9223372036854775807 then ((steepleref01_Num.f a0_3).bind fun t166 => (if ((t163 ++ t164) ++ t165).size + t166.size ≤ 9223372036854775807 then (some (((t163 ++ t164) ++ t165) ++ t166)) else (none))) else (none))) else (none)))
def steepleref29_Params_Bytes.T1 : Bool × List (List Nat × List Nat) := (true, [([], []), ([0], [0]), ([1], [1]), ([], []), ([3], [3]), ([4, 2], [4]), ([2, 5], [2, 5]), ([], []), ([7], [7]), ([8, 5], [8]), ([6, 9], [6, 9]), ([], []), ([11], [11]), ([12, 9], [12]), ([10, 13], [10, 13]), ([14, 13, 0, 1, 2, 3, 4, 5, 6, 7, 8, 9, 10, 11, 12, 13, 14], [14])])
def steepleref29_Params_Bytes.B1 : List Nat := [0, 1, 3, 0, 8, 31, 63, 0, 128, 447, 1023, 0, 2048, 7103, 16383, 32767]
theorem steepleref29_Params_Bytes.tab1 : rtab .any (opsOf Try.f14 1) = steepleref29_Params_Bytes.T1 := by kernel_rfl
theorem steepleref29_Params_Bytes.bits1 : waitsOk steepleref29_Params_Bytes.T1.2 steepleref29_Params_Bytes.B1 = true := by kernel_rfl
set_option maxHeartbeats 8000000 in
set_option maxRecDepth 100000 in
theorem steepleref29_Params_Bytes.calls (a0_0 : Int) (a0_1 : Int) (a0_2 : Int) (a0_3 : Int) (r : ByteArray) (w : World) (h : steepleref29_Params_Bytes.f a0_0 a0_1 a0_2 a0_3 = some r) :
  Calls Try.prog 14 #[.agg #[.int .i64 a0_0, .int .i64 a0_1, .int .i64 a0_2, .int .i64 a0_3]] w fun e w' => e = .returned (.string r) ∧ Below w.heap.size w w' := by
 have hu30 := Try.underlying30
 have HB := Aside0.mk (Below.refl w.heap.size w)
 have H : ((steepleref01_Num.f a0_0).bind fun t163 => ((steepleref01_Num.f a0_1).bind fun t164 => (if t163.size + t164.size ≤ 9223372036854775807 then ((steepleref01_Num.f a0_2).bind fun t165 => (if (t163 ++ t164).size + t165.size ≤ 9223372036854775807 then ((steepleref01_Num.f a0_3).bind fun t166 => (if ((t163 ++ t164) ++ t165).size + t166.size ≤ 9223372036854775807 then (some (((t163 ++ t164) ++ t165) ++ t166)) else (none))) else (none))) else (none)))) = some r := h
 clear h
 replace H := Option.bind_eq_some_iff.mp H
 obtain ⟨t163, A20, H⟩ := H
 replace H : ((steepleref01_Num.f a0_1).bind fun t164 => (if t163.size + t164.size ≤ 9223372036854775807 then ((steepleref01_Num.f a0_2).bind fun t165 => (if (t163 ++ t164).size + t165.size ≤ 9223372036854775807 then ((steepleref01_Num.f a0_3).bind fun t166 => (if ((t163 ++ t164) ++ t165).size + t166.size ≤ 9223372036854775807 then (some (((t163 ++ t164) ++ t165) ++ t166)) else (none))) else (none))) else (none))) = some r := H
 have A2 := Aside0.mk A20
 clear A20
 replace H := Option.bind_eq_some_iff.mp H
 obtain ⟨t164, A30, H⟩ := H
 replace H : (if t163.size + t164.size ≤ 9223372036854775807 then ((steepleref01_Num.f a0_2).bind fun t165 => (if (t163 ++ t164).size + t165.size ≤ 9223372036854775807 then ((steepleref01_Num.f a0_3).bind fun t166 => (if ((t163 ++ t164) ++ t165).size + t166.size ≤ 9223372036854775807 then (some (((t163 ++ t164) ++ t165) ++ t166)) else (none))) else (none))) else (none)) = some r := H
 have A3 := Aside0.mk A30
 clear A30
 by_cases c4 : t163.size + t164.size ≤ 9223372036854775807
 ·rw [if_pos c4] at H
  have c4b0 := eq_true c4
  have c4b1 : decide (t163.size + t164.size ≤ 9223372036854775807) = true := decide_eq_true c4
  try have c4b2 : (9223372036854775807 < t163.size + t164.size) = False := eq_false (Nat.not_lt.2 c4)
  replace H := Option.bind_eq_some_iff.mp H
  obtain ⟨t165, A50, H⟩ := H
  replace H : (if (t163 ++ t164).size + t165.size ≤ 9223372036854775807 then ((steepleref01_Num.f a0_3).bind fun t166 => (if ((t163 ++ t164) ++ t165).size + t166.size ≤ 9223372036854775807 then (some (((t163 ++ t164) ++ t165) ++ t166)) else (none))) else (none)) = some r := H
  have A5 := Aside0.mk A50
  clear A50
  by_cases c6 : (t163 ++ t164).size + t165.size ≤ 9223372036854775807
  ·rw [if_pos c6] at H
   have c6b0 := eq_true c6
   have c6b1 : decide ((t163 ++ t164).size + t165.size ≤ 9223372036854775807) = true := decide_eq_true c6
   try have c6b2 : (9223372036854775807 < (t163 ++ t164).size + t165.size) = False := eq_false (Nat.not_lt.2 c6)
   try have c6b3 : (9223372036854775807 < t163.size + t164.size + t165.size) = False := by have h_ := c6; simp only [ByteArray.size_append] at h_; exact eq_false (Nat.not_lt.2 h_)
   replace H := Option.bind_eq_some_iff.mp H
   obtain ⟨t166, A70, H⟩ := H
   replace H : (if ((t163 ++ t164) ++ t165).size + t166.size ≤ 9223372036854775807 then (some (((t163 ++ t164) ++ t165) ++ t166)) else (none)) = some r := H
   have A7 := Aside0.mk A70
   clear A70
   by_cases c8 : ((t163 ++ t164) ++ t165).size + t166.size ≤ 9223372036854775807
   ·rw [if_pos c8] at H
    have c8b0 := eq_true c8
    have c8b1 : decide (((t163 ++ t164) ++ t165).size + t166.size ≤ 9223372036854775807) = true := decide_eq_true c8
    try have c8b2 : (9223372036854775807 < ((t163 ++ t164) ++ t165).size + t166.size) = False := eq_false (Nat.not_lt.2 c8)
    try have c8b3 : (9223372036854775807 < t163.size + t164.size + t165.size + t166.size) = False := by have h_ := c8; simp only [ByteArray.size_append] at h_; exact eq_false (Nat.not_lt.2 h_)
    obtain rfl := Option.some.inj H
    go_enter Try.func14, Try.ntmps14
    try go_wp2_with (first | ((with_reducible refine gate_dst (N := 1) rfl ?_); refine box_event ?hg (N := 1) ?hd (cs := #[.int .i64 a0_0, .int .i64 a0_1, .int .i64 a0_2, .int .i64 a0_3]) (t := 30) ?hr ?_; (case hd => rfl); (case hg => rfl); (case hr => first | (go_simp; done) | (go_simp; rfl)); intro gb162 hg w9 hbox hb; have BK162 := Aside0.mk hbox; have GW162 := ge hg HB; have GE162 := ge hg HB; replace HB := bh HB hb; clear hb hbox hg))
    replace BK162 := Aside0.mk (blk_drew BK162.out)
    replace HB := Aside0.mk (below_drew1 HB.out)
    refine start_ (n := 16) (S := fun w' => w'.cell? ⟨gb162, 0, none⟩ = some (.int .i64 a0_0) ∧ w'.cell? ⟨gb162, 1, none⟩ = some (.int .i64 a0_1) ∧ w'.cell? ⟨gb162, 2, none⟩ = some (.int .i64 a0_2) ∧ w'.cell? ⟨gb162, 3, none⟩ = some (.int .i64 a0_3)) (ds := []) #[false, false, false, false, false, false, false, false, false, false, false, false, false, false, false, false] (by kernel_rfl) rfl rfl ⟨(blk_cell BK162.out 0).trans rfl, (blk_cell BK162.out 1).trans rfl, (blk_cell BK162.out 2).trans rfl, (blk_cell BK162.out 3).trans rfl⟩ (fun hHeld => ?_); refine with_tabW steepleref29_Params_Bytes.tab1 steepleref29_Params_Bytes.bits1 (fun HT_ HW_ => ?_)
    generalize w9.drew = w10 at BK162 HB hHeld ⊢
    refine pure_ (i := 0) (N := some 3) (v := ?_) (a' := ?_) #[true, false, false, false, false, false, false, false, false, false, false, false, false, false, false, false] rfl rfl (any_of HT_.out (by kernel_rfl)) (fun _ _ _ h => h) (Or.inl ⟨by rfl, ?_⟩) ?_ ?_
    rotate_left
    ·intro w'
     go_simp
     with_reducible rfl
    rotate_left
    ·simp only [Act.put, List.setIfInBounds_toArray, List.set_cons_zero, List.set_cons_succ, i64_w, i32_w]
     rfl
    refine pure_ (i := 3) (N := some 6) (v := ?_) (a' := ?_) #[true, false, false, true, false, false, false, false, false, false, false, false, false, false, false, false] rfl rfl (any_of HT_.out (by kernel_rfl)) (fun _ _ _ h => h) (Or.inl ⟨by rfl, ?_⟩) ?_ ?_
    rotate_left
    ·intro w'
     go_simp
     with_reducible rfl
    rotate_left
    ·simp only [Act.put, List.setIfInBounds_toArray, List.set_cons_zero, List.set_cons_succ, i64_w, i32_w]
     rfl
    refine pure_ (i := 7) (N := some 10) (v := ?_) (a' := ?_) #[true, false, false, true, false, false, false, true, false, false, false, false, false, false, false, false] rfl rfl (any_of HT_.out (by kernel_rfl)) (fun _ _ _ h => h) (Or.inl ⟨by rfl, ?_⟩) ?_ ?_
    rotate_left
    ·intro w'
     go_simp
     with_reducible rfl
    rotate_left
    ·simp only [Act.put, List.setIfInBounds_toArray, List.set_cons_zero, List.set_cons_succ, i64_w, i32_w]
     rfl
    refine pure_ (i := 11) (N := some 14) (v := ?_) (a' := ?_) #[true, false, false, true, false, false, false, true, false, false, false, true, false, false, false, false] rfl rfl (any_of HT_.out (by kernel_rfl)) (fun _ _ _ h => h) (Or.inl ⟨by rfl, ?_⟩) ?_ ?_
    rotate_left
    ·intro w'
     go_simp
     with_reducible rfl
    rotate_left
    ·simp only [Act.put, List.setIfInBounds_toArray, List.set_cons_zero, List.set_cons_succ, i64_w, i32_w]
     rfl
    refine take_ (i := 1) (N := some 4) (v := ?_) (a' := ?_) #[true, true, false, true, false, false, false, true, false, false, false, true, false, false, false, false] rfl rfl (take_ofW HT_.out HW_.out (by kernel_rfl)) (fun _ _ _ h => h) (Or.inl ⟨by rfl, ?_⟩) hHeld ?_ ?_
    rotate_left
    ·rintro w' ⟨s0, s1, s2, s3⟩
     go_simp
     with_reducible rfl
    rotate_left
    ·simp only [Act.put, List.setIfInBounds_toArray, List.set_cons_zero, List.set_cons_succ, i64_w, i32_w]
     rfl
    refine take_ (i := 4) (N := some 7) (v := ?_) (a' := ?_) #[true, true, false, true, true, false, false, true, false, false, false, true, false, false, false, false] rfl rfl (take_ofW HT_.out HW_.out (by kernel_rfl)) (fun _ _ _ h => h) (Or.inl ⟨by rfl, ?_⟩) hHeld ?_ ?_
    rotate_left
    ·rintro w' ⟨s0, s1, s2, s3⟩
     go_simp
     with_reducible rfl
    rotate_left
    ·simp only [Act.put, List.setIfInBounds_toArray, List.set_cons_zero, List.set_cons_succ, i64_w, i32_w]
     rfl
    refine take_ (i := 8) (N := some 11) (v := ?_) (a' := ?_) #[true, true, false, true, true, false, false, true, true, false, false, true, false, false, false, false] rfl rfl (take_ofW HT_.out HW_.out (by kernel_rfl)) (fun _ _ _ h => h) (Or.inl ⟨by rfl, ?_⟩) hHeld ?_ ?_
    rotate_left
    ·rintro w' ⟨s0, s1, s2, s3⟩
     go_simp
     with_reducible rfl
    rotate_left
    ·simp only [Act.put, List.setIfInBounds_toArray, List.set_cons_zero, List.set_cons_succ, i64_w, i32_w]
     rfl
    refine take_ (i := 12) (N := some 15) (v := ?_) (a' := ?_) #[true, true, false, true, true, false, false, true, true, false, false, true, true, false, false, false] rfl rfl (take_ofW HT_.out HW_.out (by kernel_rfl)) (fun _ _ _ h => h) (Or.inl ⟨by rfl, ?_⟩) hHeld ?_ ?_
    rotate_left
    ·rintro w' ⟨s0, s1, s2, s3⟩
     go_simp
     with_reducible rfl
    rotate_left
    ·simp only [Act.put, List.setIfInBounds_toArray, List.set_cons_zero, List.set_cons_succ, i64_w, i32_w]
     rfl
    refine one_ (i := 2) (N := some 5) #[true, true, true, true, true, false, false, true, true, false, false, true, true, false, false, false] rfl rfl (one_of HT_.out (by kernel_rfl)) (by decide) (fun K hK => ?_)
    refine goes_ Try.func37 (by kernel_rfl) rfl #[.int .i64 a0_0] (by rfl) rfl rfl (by (try simp only [List.map_toArray, List.map_cons, List.map_nil]); first | done | rfl | (simp only [List.length_drop, List.length_take]; rfl)) ?_
    with_reducible refine (steepleref01_Num.calls a0_0 t163 _ A2.out).mono ?_
    rintro e w11 ⟨rfl, hb⟩
    refine ⟨_, rfl, ?_⟩
    replace BK162 := bb BK162 hb
    replace HB := bh HB hb
    (try clear hb)
    (try clear hb2)
    (try clear hk)
    (try clear hi)
    refine hK.out _ _ ⟨(blk_cell BK162.out 0).trans rfl, (blk_cell BK162.out 1).trans rfl, (blk_cell BK162.out 2).trans rfl, (blk_cell BK162.out 3).trans rfl⟩ (fun hHeld => ?_)
    clear hK K
    refine norm_ (a' := ?_) ?_ ?_
    rotate_left
    ·show Act.put _ (some 5) _ = _
     simp only [Act.put, List.setIfInBounds_toArray, List.set_cons_zero, List.set_cons_succ, i64_w, i32_w]
     rfl
    refine one_ (i := 5) (N := some 8) #[true, true, true, true, true, true, false, true, true, false, false, true, true, false, false, false] rfl rfl (one_of HT_.out (by kernel_rfl)) (by decide) (fun K hK => ?_)
    refine goes_ Try.func37 (by kernel_rfl) rfl #[.int .i64 a0_1] (by rfl) rfl rfl (by (try simp only [List.map_toArray, List.map_cons, List.map_nil]); first | done | rfl | (simp only [List.length_drop, List.length_take]; rfl)) ?_
    with_reducible refine (steepleref01_Num.calls a0_1 t164 _ A3.out).mono ?_
    rintro e w12 ⟨rfl, hb⟩
    refine ⟨_, rfl, ?_⟩
    replace BK162 := bb BK162 hb
    replace HB := bh HB hb
    (try clear hb)
    (try clear hb2)
    (try clear hk)
    (try clear hi)
    refine hK.out _ _ ⟨(blk_cell BK162.out 0).trans rfl, (blk_cell BK162.out 1).trans rfl, (blk_cell BK162.out 2).trans rfl, (blk_cell BK162.out 3).trans rfl⟩ (fun hHeld => ?_)
    clear hK K
    refine norm_ (a' := ?_) ?_ ?_
    rotate_left
    ·show Act.put _ (some 8) _ = _
     simp only [Act.put, List.setIfInBounds_toArray, List.set_cons_zero, List.set_cons_succ, i64_w, i32_w]
     rfl
    refine pure_ (i := 6) (N := some 9) (v := ?_) (a' := ?_) #[true, true, true, true, true, true, true, true, true, false, false, true, true, false, false, false] rfl rfl (any_of HT_.out (by kernel_rfl)) (fun _ _ _ h => h) (Or.inl ⟨by rfl, ?_⟩) ?_ ?_
    rotate_left
    ·intro w'
     go_simp
     with_reducible rfl
    rotate_left
    ·simp only [Act.put, List.setIfInBounds_toArray, List.set_cons_zero, List.set_cons_succ, i64_w, i32_w]
     rfl
    refine one_ (i := 9) (N := some 12) #[true, true, true, true, true, true, true, true, true, true, false, true, true, false, false, false] rfl rfl (one_of HT_.out (by kernel_rfl)) (by decide) (fun K hK => ?_)
    refine goes_ Try.func37 (by kernel_rfl) rfl #[.int .i64 a0_2] (by rfl) rfl rfl (by (try simp only [List.map_toArray, List.map_cons, List.map_nil]); first | done | rfl | (simp only [List.length_drop, List.length_take]; rfl)) ?_
    with_reducible refine (steepleref01_Num.calls a0_2 t165 _ A5.out).mono ?_
    rintro e w13 ⟨rfl, hb⟩
    refine ⟨_, rfl, ?_⟩
    replace BK162 := bb BK162 hb
    replace HB := bh HB hb
    (try clear hb)
    (try clear hb2)
    (try clear hk)
    (try clear hi)
    refine hK.out _ _ ⟨(blk_cell BK162.out 0).trans rfl, (blk_cell BK162.out 1).trans rfl, (blk_cell BK162.out 2).trans rfl, (blk_cell BK162.out 3).trans rfl⟩ (fun hHeld => ?_)
    clear hK K
    refine norm_ (a' := ?_) ?_ ?_
    rotate_left
    ·show Act.put _ (some 12) _ = _
     simp only [Act.put, List.setIfInBounds_toArray, List.set_cons_zero, List.set_cons_succ, i64_w, i32_w]
     rfl
    refine pure_ (i := 10) (N := some 13) (v := ?_) (a' := ?_) #[true, true, true, true, true, true, true, true, true, true, true, true, true, false, false, false] rfl rfl (any_of HT_.out (by kernel_rfl)) (fun _ _ _ h => h) (Or.inl ⟨by rfl, ?_⟩) ?_ ?_
    rotate_left
    ·intro w'
     go_simp
     with_reducible rfl
    rotate_left
    ·simp only [Act.put, List.setIfInBounds_toArray, List.set_cons_zero, List.set_cons_succ, i64_w, i32_w]
     rfl
    refine one_ (i := 13) (N := some 16) #[true, true, true, true, true, true, true, true, true, true, true, true, true, true, false, false] rfl rfl (one_of HT_.out (by kernel_rfl)) (by decide) (fun K hK => ?_)
    refine goes_ Try.func37 (by kernel_rfl) rfl #[.int .i64 a0_3] (by rfl) rfl rfl (by (try simp only [List.map_toArray, List.map_cons, List.map_nil]); first | done | rfl | (simp only [List.length_drop, List.length_take]; rfl)) ?_
    with_reducible refine (steepleref01_Num.calls a0_3 t166 _ A7.out).mono ?_
    rintro e w14 ⟨rfl, hb⟩
    refine ⟨_, rfl, ?_⟩
    replace BK162 := bb BK162 hb
    replace HB := bh HB hb
    (try clear hb)
    (try clear hb2)
    (try clear hk)
    (try clear hi)
    refine hK.out _ _ ⟨(blk_cell BK162.out 0).trans rfl, (blk_cell BK162.out 1).trans rfl, (blk_cell BK162.out 2).trans rfl, (blk_cell BK162.out 3).trans rfl⟩ (fun hHeld => ?_)
    clear hK K
    refine norm_ (a' := ?_) ?_ ?_
    rotate_left
    ·show Act.put _ (some 16) _ = _
     simp only [Act.put, List.setIfInBounds_toArray, List.set_cons_zero, List.set_cons_succ, i64_w, i32_w]
     rfl
    refine pure_ (i := 14) (N := some 17) (v := ?_) (a' := ?_) #[true, true, true, true, true, true, true, true, true, true, true, true, true, true, true, false] rfl rfl (any_of HT_.out (by kernel_rfl)) (fun _ _ _ h => h) (Or.inl ⟨by rfl, ?_⟩) ?_ ?_
    rotate_left
    ·intro w'
     go_simp
     with_reducible rfl
    rotate_left
    ·simp only [Act.put, List.setIfInBounds_toArray, List.set_cons_zero, List.set_cons_succ, i64_w, i32_w]
     rfl
    refine pure_ (i := 15) (N := some 2) (v := ?_) (a' := ?_) #[true, true, true, true, true, true, true, true, true, true, true, true, true, true, true, true] rfl rfl (any_of HT_.out (by kernel_rfl)) (fun _ _ _ h => h) (Or.inl ⟨by rfl, ?_⟩) ?_ ?_
    rotate_left
    ·intro w'
     go_simp
     with_reducible rfl
    rotate_left
    ·simp only [Act.put, List.setIfInBounds_toArray, List.set_cons_zero, List.set_cons_succ, i64_w, i32_w]
     rfl
    refine done_ (done_of HT_.out (by kernel_rfl)) ?_
    try go_wp2
    go_ret
    exact ⟨by first | rfl | (simp [errW_none, errW_some] <;> rfl) | (simp [*, errW_none, errW_some] <;> rfl), bq HB.out⟩
   ·rw [if_neg c8] at H
    exact absurd H (by simp)
  ·rw [if_neg c6] at H
   exact absurd H (by simp)
 ·rw [if_neg c4] at H
  exact absurd H (by simp)

/-! ### steeplelaw29_ProofParams: function 3 -/
def steeplelaw29_ProofParams.j0 : Nat → ByteArray → Int → Bool → Int → Int → Int → Int → Option (Bool)
 | 0, _, _, _, _, _, _, _ => none
 | k + 1, x1, x8, x62, x177000, x177001, x177002, x177003 => if x62 = true then (none) else (if x8 = 0 then ((steeplelaw29_awake.f k).bind fun t182 => (if t182 = true then ((steepleref29_Fits.f x177000 x177001 x177002 x177003).bind fun t183 => (if t183 = true then ((steepleref29_Params_Bytes.f x177000 x177001 x177002 x177003).bind fun t184 => (some (t184.toList == x1.toList))) else (none))) else (none))) else ((steeplelaw29_awake.f k).bind fun t185 => (if t185 = true then (if x8 = 3 then (some (x177000 == 0 && (x177001 == 0 && (x177002 == 0 && (x177003 == 0))))) else (none)) else (none))))
def steeplelaw29_ProofParams.f (k : Nat) (a0_0 : Int) (a0_1 : Int) (a0_2 : Int) (a0_3 : Int) (a1 : ByteArray) : Option (Bool) := if (a1.size : Int) > 60 then ((steeplelaw29_awake.f k).bind fun t168 => (some t168)) else ((proof_Params.f k a0_0 a0_1 a0_2 a0_3).bind fun bt169 => ((proof_ReadParams.f a1).bind fun bt171 => ((steepleref29_Fits.f a0_0 a0_1 a0_2 a0_3).bind fun t178 => ((proof_Fits.f a0_0 a0_1 a0_2 a0_3).bind fun t179 => (if (t179 != t178) = true then (none) else (if ((bt169.2 == 0) != t178) = true then (none) else (if bt169.2 = 0 then (if t178 = true then ((steepleref29_Params_Bytes.f a0_0 a0_1 a0_2 a0_3).bind fun t180 => (if bt169.1.toList = t180.toList then (steeplelaw29_ProofParams.j0 k a1 bt171.2.2.2.2 false bt171.1 bt171.2.1 bt171.2.2.1 bt171.2.2.2.1) else (none))) else (steeplelaw29_ProofParams.j0 k a1 bt171.2.2.2.2 (bt169.1.toList != ([] : List UInt8)) bt171.1 bt171.2.1 bt171.2.2.1 bt171.2.2.2.1)) else (if bt169.2 = 1 then (if t178 = true then ((steepleref29_Params_Bytes.f a0_0 a0_1 a0_2 a0_3).bind fun t181 => (if bt169.1.toList = t181.toList then (steeplelaw29_ProofParams.j0 k a1 bt171.2.2.2.2 false bt171.1 bt171.2.1 bt171.2.2.1 bt171.2.2.2.1) else (none))) else (steeplelaw29_ProofParams.j0 k a1 bt171.2.2.2.2 (bt169.1.toList != ([] : List UInt8)) bt171.1 bt171.2.1 bt171.2.2.1 bt171.2.2.2.1)) else (none)))))))))
theorem steeplelaw29_ProofParams.mono_l : ∀ k, (∀ y0 y1 y2 y3 y4 y5 y6, LeO (steeplelaw29_ProofParams.j0 k y0 y1 y2 y3 y4 y5 y6) (steeplelaw29_ProofParams.j0 (k + 1) y0 y1 y2 y3 y4 y5 y6))
 | 0 => fun _ _ _ _ _ _ _ r h => by simp [steeplelaw29_ProofParams.j0] at h
 | k + 1 => by
  have ih0 := steeplelaw29_ProofParams.mono_l k
  ·intro y0 y1 y2 y3 y4 y5 y6
   unfold steeplelaw29_ProofParams.j0
   repeat' first
   | (with_reducible exact ih0 _ _ _ _ _ _ _)
   | (with_reducible exact proof_Params.mono _ _ _ _ _)
   | (with_reducible exact steeplelaw29_awake.mono _)
   | (with_reducible exact LeO.refl _)
   | (with_reducible exact LeO.none _)
   | (with_reducible refine LeO.ite ?_ ?_)
   | (with_reducible refine LeO.bind ?_ (fun _ => ?_))
   | exact ih0 _ _ _ _ _ _ _
   | exact proof_Params.mono _ _ _ _ _
   | exact steeplelaw29_awake.mono _
   | exact LeO.none _
   | refine LeO.ite ?_ ?_
   | refine LeO.bind ?_ (fun _ => ?_)
theorem steeplelaw29_ProofParams.mono : ∀ a0 a1 a2 a3 a4 k, LeO (steeplelaw29_ProofParams.f k a0 a1 a2 a3 a4) (steeplelaw29_ProofParams.f (k + 1) a0 a1 a2 a3 a4) := by
 intro a0 a1 a2 a3 a4 k
 have ih0 := steeplelaw29_ProofParams.mono_l k
 unfold steeplelaw29_ProofParams.f
 repeat' first
   | (with_reducible exact ih0 _ _ _ _ _ _ _)
   | (with_reducible exact proof_Params.mono _ _ _ _ _)
   | (with_reducible exact steeplelaw29_awake.mono _)
   | (with_reducible exact LeO.refl _)
   | (with_reducible exact LeO.none _)
   | (with_reducible refine LeO.ite ?_ ?_)
   | (with_reducible refine LeO.bind ?_ (fun _ => ?_))
   | exact ih0 _ _ _ _ _ _ _
   | exact proof_Params.mono _ _ _ _ _
   | exact steeplelaw29_awake.mono _
   | exact LeO.none _
   | refine LeO.ite ?_ ?_
   | refine LeO.bind ?_ (fun _ => ?_)
set_option maxHeartbeats 8000000 in
set_option maxRecDepth 100000 in
theorem steeplelaw29_ProofParams.calls (k : Nat) (a0_0 : Int) (a0_1 : Int) (a0_2 : Int) (a0_3 : Int) (a1 : ByteArray) (r : Bool) (w : World) (h : steeplelaw29_ProofParams.f k a0_0 a0_1 a0_2 a0_3 a1 = some r) :
  Calls Try.prog 3 #[.agg #[.int .i64 a0_0, .int .i64 a0_1, .int .i64 a0_2, .int .i64 a0_3], .string a1] w fun e w' => e = .returned (.bool r) ∧ Below w.heap.size w w' := by
 have hu23 := Try.underlying23
 have hu30 := Try.underlying30
 have HB := Aside0.mk (Below.refl w.heap.size w)
 have H : (if (a1.size : Int) > 60 then ((steeplelaw29_awake.f k).bind fun t168 => (some t168)) else ((proof_Params.f k a0_0 a0_1 a0_2 a0_3).bind fun bt169 => ((proof_ReadParams.f a1).bind fun bt171 => ((steepleref29_Fits.f a0_0 a0_1 a0_2 a0_3).bind fun t178 => ((proof_Fits.f a0_0 a0_1 a0_2 a0_3).bind fun t179 => (if (t179 != t178) = true then (none) else (if ((bt169.2 == 0) != t178) = true then (none) else (if bt169.2 = 0 then (if t178 = true then ((steepleref29_Params_Bytes.f a0_0 a0_1 a0_2 a0_3).bind fun t180 => (if bt169.1.toList = t180.toList then (steeplelaw29_ProofParams.j0 k a1 bt171.2.2.2.2 false bt171.1 bt171.2.1 bt171.2.2.1 bt171.2.2.2.1) else (none))) else (steeplelaw29_ProofParams.j0 k a1 bt171.2.2.2.2 (bt169.1.toList != ([] : List UInt8)) bt171.1 bt171.2.1 bt171.2.2.1 bt171.2.2.2.1)) else (if bt169.2 = 1 then (if t178 = true then ((steepleref29_Params_Bytes.f a0_0 a0_1 a0_2 a0_3).bind fun t181 => (if bt169.1.toList = t181.toList then (steeplelaw29_ProofParams.j0 k a1 bt171.2.2.2.2 false bt171.1 bt171.2.1 bt171.2.2.1 bt171.2.2.2.1) else (none))) else (steeplelaw29_ProofParams.j0 k a1 bt171.2.2.2.2 (bt169.1.toList != ([] : List UInt8)) bt171.1 bt171.2.1 bt171.2.2.1 bt171.2.2.2.1)) else (none)))))))))) = some r := h
 clear h
 by_cases c3 : (a1.size : Int) > 60
 ·rw [if_pos c3] at H
  have c3b0 : decide (60 < (a1.size : Int)) = true := decide_eq_true c3
  have c3b1 : decide (60 < a1.size) = true := decide_eq_true (by omega)
  clear c3
  replace H := Option.bind_eq_some_iff.mp H
  obtain ⟨t168, A40, H⟩ := H
  replace H : (some t168) = some r := H
  have A4 := Aside0.mk A40
  clear A40
  obtain rfl := Option.some.inj H
  go_enter Try.func3, Try.ntmps3
  go_wp2_with (first | ((with_reducible refine gate_dst (N := 2) rfl ?_); refine box_event ?hg (N := 2) ?hd (cs := #[.int .i64 a0_0, .int .i64 a0_1, .int .i64 a0_2, .int .i64 a0_3]) (t := 23) ?hr ?_; (case hd => rfl); (case hg => rfl); (case hr => first | (go_simp; done) | (go_simp; rfl)); intro gb167 hg w5 hbox hb; have BK167 := Aside0.mk hbox; have GW167 := ge hg HB; have GE167 := ge hg HB; replace HB := bh HB hb; clear hb hbox hg) | ((with_reducible refine gate_callee (f := 9) rfl ?_); refine goesL_ (some 14) rfl rfl Try.func9 (by kernel_rfl) rfl #[] rfl (by (try simp only [List.map_toArray, List.map_cons, List.map_nil]); first | done | rfl | (simp only [List.length_drop, List.length_take]; rfl)) ?_; (with_reducible refine (steeplelaw29_awake.calls k  t168 _ A4.out).mono ?_); rintro e w6 ⟨rfl, hb⟩; refine ⟨_, rfl, ?_⟩; replace BK167 := bb BK167 hb; replace HB := bh HB hb; (try clear hb); (try clear hb2); (try clear hk); (try clear hi)))
  go_ret
  exact ⟨by first | rfl | (simp [errW_none, errW_some] <;> rfl) | (simp [*, errW_none, errW_some] <;> rfl), bq HB.out⟩
 ·rw [if_neg c3] at H
  have c3b0 : decide (60 < (a1.size : Int)) = false := decide_eq_false c3
  have c3b1 : decide (60 < a1.size) = false := decide_eq_false (by omega)
  clear c3
  replace H := Option.bind_eq_some_iff.mp H
  obtain ⟨⟨t169, t170⟩, A70, H⟩ := H
  replace H : ((proof_ReadParams.f a1).bind fun bt171 => ((steepleref29_Fits.f a0_0 a0_1 a0_2 a0_3).bind fun t178 => ((proof_Fits.f a0_0 a0_1 a0_2 a0_3).bind fun t179 => (if (t179 != t178) = true then (none) else (if ((t170 == 0) != t178) = true then (none) else (if t170 = 0 then (if t178 = true then ((steepleref29_Params_Bytes.f a0_0 a0_1 a0_2 a0_3).bind fun t180 => (if t169.toList = t180.toList then (steeplelaw29_ProofParams.j0 k a1 bt171.2.2.2.2 false bt171.1 bt171.2.1 bt171.2.2.1 bt171.2.2.2.1) else (none))) else (steeplelaw29_ProofParams.j0 k a1 bt171.2.2.2.2 (t169.toList != ([] : List UInt8)) bt171.1 bt171.2.1 bt171.2.2.1 bt171.2.2.2.1)) else (if t170 = 1 then (if t178 = true then ((steepleref29_Params_Bytes.f a0_0 a0_1 a0_2 a0_3).bind fun t181 => (if t169.toList = t181.toList then (steeplelaw29_ProofParams.j0 k a1 bt171.2.2.2.2 false bt171.1 bt171.2.1 bt171.2.2.1 bt171.2.2.2.1) else (none))) else (steeplelaw29_ProofParams.j0 k a1 bt171.2.2.2.2 (t169.toList != ([] : List UInt8)) bt171.1 bt171.2.1 bt171.2.2.1 bt171.2.2.2.1)) else (none)))))))) = some r := H
  have A7 := Aside0.mk A70
  clear A70
  replace H := Option.bind_eq_some_iff.mp H
  obtain ⟨⟨t171, t172, t173, t174, t175⟩, A80, H⟩ := H
  replace H : ((steepleref29_Fits.f a0_0 a0_1 a0_2 a0_3).bind fun t178 => ((proof_Fits.f a0_0 a0_1 a0_2 a0_3).bind fun t179 => (if (t179 != t178) = true then (none) else (if ((t170 == 0) != t178) = true then (none) else (if t170 = 0 then (if t178 = true then ((steepleref29_Params_Bytes.f a0_0 a0_1 a0_2 a0_3).bind fun t180 => (if t169.toList = t180.toList then (steeplelaw29_ProofParams.j0 k a1 t175 false t171 t172 t173 t174) else (none))) else (steeplelaw29_ProofParams.j0 k a1 t175 (t169.toList != ([] : List UInt8)) t171 t172 t173 t174)) else (if t170 = 1 then (if t178 = true then ((steepleref29_Params_Bytes.f a0_0 a0_1 a0_2 a0_3).bind fun t181 => (if t169.toList = t181.toList then (steeplelaw29_ProofParams.j0 k a1 t175 false t171 t172 t173 t174) else (none))) else (steeplelaw29_ProofParams.j0 k a1 t175 (t169.toList != ([] : List UInt8)) t171 t172 t173 t174)) else (none))))))) = some r := H
  have A8 := Aside0.mk A80
  clear A80
  replace H := Option.bind_eq_some_iff.mp H
  obtain ⟨t178, A90, H⟩ := H
  replace H : ((proof_Fits.f a0_0 a0_1 a0_2 a0_3).bind fun t179 => (if (t179 != t178) = true then (none) else (if ((t170 == 0) != t178) = true then (none) else (if t170 = 0 then (if t178 = true then ((steepleref29_Params_Bytes.f a0_0 a0_1 a0_2 a0_3).bind fun t180 => (if t169.toList = t180.toList then (steeplelaw29_ProofParams.j0 k a1 t175 false t171 t172 t173 t174) else (none))) else (steeplelaw29_ProofParams.j0 k a1 t175 (t169.toList != ([] : List UInt8)) t171 t172 t173 t174)) else (if t170 = 1 then (if t178 = true then ((steepleref29_Params_Bytes.f a0_0 a0_1 a0_2 a0_3).bind fun t181 => (if t169.toList = t181.toList then (steeplelaw29_ProofParams.j0 k a1 t175 false t171 t172 t173 t174) else (none))) else (steeplelaw29_ProofParams.j0 k a1 t175 (t169.toList != ([] : List UInt8)) t171 t172 t173 t174)) else (none)))))) = some r := H
  have A9 := Aside0.mk A90
  clear A90
  have HC10 := Aside0.mk H
  clear H
  go_enter Try.func3, Try.ntmps3
  go_upto_region 7 with (first | ((with_reducible refine gate_dst (N := 2) rfl ?_); refine box_event ?hg (N := 2) ?hd (cs := #[.int .i64 a0_0, .int .i64 a0_1, .int .i64 a0_2, .int .i64 a0_3]) (t := 23) ?hr ?_; (case hd => rfl); (case hg => rfl); (case hr => first | (go_simp; done) | (go_simp; rfl)); intro gb167 hg w11 hbox hb; have BK167 := Aside0.mk hbox; have GW167 := ge hg HB; have GE167 := ge hg HB; replace HB := bh HB hb; clear hb hbox hg; obtain ⟨hcz12_0, hcz12_1, hcz12_2, hcz12_3⟩ := zc4 BK167; obtain ⟨hfz12_0, hfz12_1, hfz12_2, hfz12_3⟩ := zf4 BK167) | ((with_reducible refine gate_callee (f := 10) rfl ?_); refine goesL_ (some 17) rfl rfl Try.func10 (by kernel_rfl) rfl #[.agg #[.int .i64 a0_0, .int .i64 a0_1, .int .i64 a0_2, .int .i64 a0_3]] rfl (by (try simp only [List.map_toArray, List.map_cons, List.map_nil]); first | done | rfl | (simp only [List.length_drop, List.length_take]; rfl)) ?_; (with_reducible refine (proof_Params.calls k a0_0 a0_1 a0_2 a0_3 t169 t170 _ A7.out).mono ?_); rintro e w13 ⟨rfl, hb⟩; refine ⟨_, rfl, ?_⟩; replace BK167 := bb BK167 hb; replace HB := bh HB hb; (try clear hb); (try clear hb2); (try clear hk); (try clear hi)) | ((with_reducible refine gate_callee (f := 11) rfl ?_); refine goesL_ (some 22) rfl rfl Try.func11 (by kernel_rfl) rfl #[.string a1] rfl (by (try simp only [List.map_toArray, List.map_cons, List.map_nil]); first | done | rfl | (simp only [List.length_drop, List.length_take]; rfl)) ?_; (with_reducible refine (proof_ReadParams.calls a1 t171 t172 t173 t174 t175 _ A8.out).mono ?_); rintro e w14 ⟨rfl, hb⟩; refine ⟨_, rfl, ?_⟩; replace BK167 := bb BK167 hb; replace HB := bh HB hb; (try clear hb); (try clear hb2); (try clear hk); (try clear hi)) | ((with_reducible refine gate_dst (N := 7) rfl ?_); refine box_event ?hg (N := 7) ?hd (cs := #[.int .i64 0, .int .i64 0, .int .i64 0, .int .i64 0]) (t := 23) ?hr ?_; (case hd => rfl); (case hg => rfl); (case hr => first | (go_simp; done) | (go_simp; rfl)); intro gb176 hg w15 hbox hb; have BK176 := Aside0.mk hbox; have GW176 := ge hg HB; have GE176 := ge hg HB; have NB167_176 := nl hg BK167; have NB176_167 := ng hg BK167; replace BK167 := bb BK167 hb; replace HB := bh HB hb; clear hb hbox hg; have hnb16 := NB176_167.out; have hnc16 := NB167_176.out; obtain ⟨hcz17_0, hcz17_1, hcz17_2, hcz17_3⟩ := zc4 BK176; obtain ⟨hfz17_0, hfz17_1, hfz17_2, hfz17_3⟩ := zf4 BK176; obtain ⟨hcz18_0, hcz18_1, hcz18_2, hcz18_3⟩ := zc4 BK167; obtain ⟨hfz18_0, hfz18_1, hfz18_2, hfz18_3⟩ := zf4 BK167) | ((with_reducible refine gate_dst (N := 9) rfl ?_); refine box_event ?hg (N := 9) ?hd (cs := #[.int .i64 0, .int .i64 0, .int .i64 0, .int .i64 0]) (t := 30) ?hr ?_; (case hd => rfl); (case hg => rfl); (case hr => first | (go_simp; done) | (go_simp; rfl)); intro gb177 hg w19 hbox hb; have BK177 := Aside0.mk hbox; have GW177 := ge hg HB; have GE177 := ge hg HB; have NB167_177 := Aside0.mk ((by rw [hg]; exact Nat.ne_of_lt (blk_lt (g := gb167) (o := .cells #[.int .i64 a0_0, .int .i64 a0_1, .int .i64 a0_2, .int .i64 a0_3] 23 (0, 0)) (by (with_reducible repeat refine bl ?_); refine blk_far ?_ NB167_176.out _; (with_reducible repeat refine bl ?_); refine blk_far ?_ NB167_176.out _; (with_reducible repeat refine bl ?_); refine blk_far ?_ NB167_176.out _; (with_reducible repeat refine bl ?_); refine blk_far ?_ NB167_176.out _; (with_reducible repeat refine bl ?_); exact BK167.out)) : gb167 ≠ gb177)); have NB177_167 := Aside0.mk ((by rw [hg]; exact Nat.ne_of_gt (blk_lt (g := gb167) (o := .cells #[.int .i64 a0_0, .int .i64 a0_1, .int .i64 a0_2, .int .i64 a0_3] 23 (0, 0)) (by (with_reducible repeat refine bl ?_); refine blk_far ?_ NB167_176.out _; (with_reducible repeat refine bl ?_); refine blk_far ?_ NB167_176.out _; (with_reducible repeat refine bl ?_); refine blk_far ?_ NB167_176.out _; (with_reducible repeat refine bl ?_); refine blk_far ?_ NB167_176.out _; (with_reducible repeat refine bl ?_); exact BK167.out)) : gb177 ≠ gb167)); have NB176_177 := Aside0.mk ((by rw [hg]; exact Nat.ne_of_lt (blk_lt (g := gb176) (o := .cells #[.int .i64 t171, .int .i64 t172, .int .i64 t173, .int .i64 t174] 23 (0, 0)) (by (with_reducible repeat refine bl ?_); refine blk_put (cs := #[.int .i64 t171, .int .i64 t172, .int .i64 t173, .int .i64 0]) ?_ 3 _ rfl; (with_reducible repeat refine bl ?_); refine blk_put (cs := #[.int .i64 t171, .int .i64 t172, .int .i64 0, .int .i64 0]) ?_ 2 _ rfl; (with_reducible repeat refine bl ?_); refine blk_put (cs := #[.int .i64 t171, .int .i64 0, .int .i64 0, .int .i64 0]) ?_ 1 _ rfl; (with_reducible repeat refine bl ?_); refine blk_put (cs := #[.int .i64 0, .int .i64 0, .int .i64 0, .int .i64 0]) ?_ 0 _ rfl; (with_reducible repeat refine bl ?_); exact BK176.out)) : gb176 ≠ gb177)); have NB177_176 := Aside0.mk ((by rw [hg]; exact Nat.ne_of_gt (blk_lt (g := gb176) (o := .cells #[.int .i64 t171, .int .i64 t172, .int .i64 t173, .int .i64 t174] 23 (0, 0)) (by (with_reducible repeat refine bl ?_); refine blk_put (cs := #[.int .i64 t171, .int .i64 t172, .int .i64 t173, .int .i64 0]) ?_ 3 _ rfl; (with_reducible repeat refine bl ?_); refine blk_put (cs := #[.int .i64 t171, .int .i64 t172, .int .i64 0, .int .i64 0]) ?_ 2 _ rfl; (with_reducible repeat refine bl ?_); refine blk_put (cs := #[.int .i64 t171, .int .i64 0, .int .i64 0, .int .i64 0]) ?_ 1 _ rfl; (with_reducible repeat refine bl ?_); refine blk_put (cs := #[.int .i64 0, .int .i64 0, .int .i64 0, .int .i64 0]) ?_ 0 _ rfl; (with_reducible repeat refine bl ?_); exact BK176.out)) : gb177 ≠ gb176)); replace BK167 := Aside0.mk (blk_below (g := gb167) (o := .cells #[.int .i64 a0_0, .int .i64 a0_1, .int .i64 a0_2, .int .i64 a0_3] 23 (0, 0)) (by (with_reducible repeat refine bl ?_); refine blk_far ?_ NB167_176.out _; (with_reducible repeat refine bl ?_); refine blk_far ?_ NB167_176.out _; (with_reducible repeat refine bl ?_); refine blk_far ?_ NB167_176.out _; (with_reducible repeat refine bl ?_); refine blk_far ?_ NB167_176.out _; (with_reducible repeat refine bl ?_); exact BK167.out) hb); replace BK176 := Aside0.mk (blk_below (g := gb176) (o := .cells #[.int .i64 t171, .int .i64 t172, .int .i64 t173, .int .i64 t174] 23 (0, 0)) (by (with_reducible repeat refine bl ?_); refine blk_put (cs := #[.int .i64 t171, .int .i64 t172, .int .i64 t173, .int .i64 0]) ?_ 3 _ rfl; (with_reducible repeat refine bl ?_); refine blk_put (cs := #[.int .i64 t171, .int .i64 t172, .int .i64 0, .int .i64 0]) ?_ 2 _ rfl; (with_reducible repeat refine bl ?_); refine blk_put (cs := #[.int .i64 t171, .int .i64 0, .int .i64 0, .int .i64 0]) ?_ 1 _ rfl; (with_reducible repeat refine bl ?_); refine blk_put (cs := #[.int .i64 0, .int .i64 0, .int .i64 0, .int .i64 0]) ?_ 0 _ rfl; (with_reducible repeat refine bl ?_); exact BK176.out) hb); replace HB := bh HB hb; clear hb hbox hg; have hnb20 := NB177_167.out; have hnc20 := NB167_177.out; have hnb21 := NB177_176.out; have hnc21 := NB176_177.out; obtain ⟨hcz22_0, hcz22_1, hcz22_2, hcz22_3⟩ := zc4 BK177; obtain ⟨hfz22_0, hfz22_1, hfz22_2, hfz22_3⟩ := zf4 BK177) | ((with_reducible refine gate_callee (f := 12) rfl ?_); refine goesL_ (some 27) rfl rfl Try.func12 (by kernel_rfl) rfl #[.agg #[.int .i64 a0_0, .int .i64 a0_1, .int .i64 a0_2, .int .i64 a0_3]] rfl (by (try simp only [List.map_toArray, List.map_cons, List.map_nil]); first | done | rfl | (simp only [List.length_drop, List.length_take]; rfl)) ?_; (with_reducible refine (steepleref29_Fits.calls a0_0 a0_1 a0_2 a0_3 t178 _ A9.out).mono ?_); rintro e w23 ⟨rfl, hb⟩; refine ⟨_, rfl, ?_⟩; replace BK167 := Aside0.mk (blk_below (g := gb167) (o := .cells #[.int .i64 a0_0, .int .i64 a0_1, .int .i64 a0_2, .int .i64 a0_3] 23 (0, 0)) (by (with_reducible repeat refine bl ?_); refine blk_far ?_ NB167_177.out _; (with_reducible repeat refine bl ?_); refine blk_far ?_ NB167_177.out _; (with_reducible repeat refine bl ?_); refine blk_far ?_ NB167_177.out _; (with_reducible repeat refine bl ?_); refine blk_far ?_ NB167_177.out _; (with_reducible repeat refine bl ?_); exact BK167.out) hb); replace BK176 := Aside0.mk (blk_below (g := gb176) (o := .cells #[.int .i64 t171, .int .i64 t172, .int .i64 t173, .int .i64 t174] 23 (0, 0)) (by (with_reducible repeat refine bl ?_); refine blk_far ?_ NB176_177.out _; (with_reducible repeat refine bl ?_); refine blk_far ?_ NB176_177.out _; (with_reducible repeat refine bl ?_); refine blk_far ?_ NB176_177.out _; (with_reducible repeat refine bl ?_); refine blk_far ?_ NB176_177.out _; (with_reducible repeat refine bl ?_); exact BK176.out) hb); replace BK177 := Aside0.mk (blk_below (g := gb177) (o := .cells #[.int .i64 a0_0, .int .i64 a0_1, .int .i64 a0_2, .int .i64 a0_3] 30 (0, 0)) (by (with_reducible repeat refine bl ?_); refine blk_put (cs := #[.int .i64 a0_0, .int .i64 a0_1, .int .i64 a0_2, .int .i64 0]) ?_ 3 _ rfl; (with_reducible repeat refine bl ?_); refine blk_put (cs := #[.int .i64 a0_0, .int .i64 a0_1, .int .i64 0, .int .i64 0]) ?_ 2 _ rfl; (with_reducible repeat refine bl ?_); refine blk_put (cs := #[.int .i64 a0_0, .int .i64 0, .int .i64 0, .int .i64 0]) ?_ 1 _ rfl; (with_reducible repeat refine bl ?_); refine blk_put (cs := #[.int .i64 0, .int .i64 0, .int .i64 0, .int .i64 0]) ?_ 0 _ rfl; (with_reducible repeat refine bl ?_); exact BK177.out) hb); replace HB := bh HB hb; (try clear hb); (try clear hb2); (try clear hk); (try clear hi)))
  (try simp only [Act.put, List.setIfInBounds_toArray, List.set_cons_zero, List.set_cons_succ])
  go_cut [62] (fun v62 wc => ∃ (kq : Nat) (x62_9 : Bool), v62 = .bool x62_9 ∧ Aside0 (steeplelaw29_ProofParams.j0 kq a1 t175 x62_9 t171 t172 t173 t174 = some r) ∧ Aside0 (kq ≤ k) ∧ Aside0 (wc.heap[gb167]? = some (.cells #[.int .i64 a0_0, .int .i64 a0_1, .int .i64 a0_2, .int .i64 a0_3] 23 (0, 0))) ∧ Aside0 (wc.heap[gb176]? = some (.cells #[.int .i64 t171, .int .i64 t172, .int .i64 t173, .int .i64 t174] 23 (0, 0))) ∧ Aside0 (wc.heap[gb177]? = some (.cells #[.int .i64 a0_0, .int .i64 a0_1, .int .i64 a0_2, .int .i64 a0_3] 30 (0, 0))) ∧ Aside0 (Below w.heap.size w wc))
  case first =>
   have H := HC10.out
   clear HC10
   replace H := Option.bind_eq_some_iff.mp H
   obtain ⟨t179, A240, H⟩ := H
   replace H : (if (t179 != t178) = true then (none) else (if ((t170 == 0) != t178) = true then (none) else (if t170 = 0 then (if t178 = true then ((steepleref29_Params_Bytes.f a0_0 a0_1 a0_2 a0_3).bind fun t180 => (if t169.toList = t180.toList then (steeplelaw29_ProofParams.j0 k a1 t175 false t171 t172 t173 t174) else (none))) else (steeplelaw29_ProofParams.j0 k a1 t175 (t169.toList != ([] : List UInt8)) t171 t172 t173 t174)) else (if t170 = 1 then (if t178 = true then ((steepleref29_Params_Bytes.f a0_0 a0_1 a0_2 a0_3).bind fun t181 => (if t169.toList = t181.toList then (steeplelaw29_ProofParams.j0 k a1 t175 false t171 t172 t173 t174) else (none))) else (steeplelaw29_ProofParams.j0 k a1 t175 (t169.toList != ([] : List UInt8)) t171 t172 t173 t174)) else (none))))) = some r := H
   have A24 := Aside0.mk A240
   clear A240
   by_cases c25 : (t179 != t178) = true
   ·rw [if_pos c25] at H
    exact absurd H (by simp)
   ·rw [if_neg c25] at H
    have c25b0 : (t179 != t178) = false := by simpa using c25
    (try (have c25b1 : decide (t179 = t178) = true := by simpa using c25))
    (try (have c25b2 : (t179 == t178) = true := by simpa using c25))
    clear c25
    (first | rw [c25b0] | (simp only [i64_w, i32_w]; rw [c25b0]) | skip)
    by_cases c26 : ((t170 == 0) != t178) = true
    ·rw [if_pos c26] at H
     exact absurd H (by simp)
    ·rw [if_neg c26] at H
     have c26b0 : ((t170 == 0) != t178) = false := by simpa using c26
     (try (have c26b1 : decide ((t170 == 0) = t178) = true := by simpa using c26))
     (try (have c26b2 : ((t170 == 0) == t178) = true := by simpa using c26))
     clear c26
     by_cases c27 : t170 = 0
     ·rw [if_pos c27] at H
      have c27b0 : (t170 == 0) = true := beq_iff_eq.mpr c27
      have c27b1 : (t170 != 0) = false := bne_eq_false_iff_eq.mpr c27
      clear c27
      by_cases c28 : t178 = true
      ·subst c28
       have H1 : ((steepleref29_Params_Bytes.f a0_0 a0_1 a0_2 a0_3).bind fun t180 => (if t169.toList = t180.toList then (steeplelaw29_ProofParams.j0 k a1 t175 false t171 t172 t173 t174) else (none))) = some r := by rw [if_pos rfl] at H; exact H
       clear H
       have H := H1
       clear H1
       replace H := Option.bind_eq_some_iff.mp H
       obtain ⟨t180, A290, H⟩ := H
       replace H : (if t169.toList = t180.toList then (steeplelaw29_ProofParams.j0 k a1 t175 false t171 t172 t173 t174) else (none)) = some r := H
       have A29 := Aside0.mk A290
       clear A290
       by_cases c30 : t169.toList = t180.toList
       ·rw [if_pos c30] at H
        have c30b0 : (t169.toList == t180.toList) = true := beq_iff_eq.mpr c30
        have c30b1 : (t169.toList != t180.toList) = false := bne_eq_false_iff_eq.mpr c30
        clear c30
        have H' := Aside0.mk H
        clear H
        have hnb31 := NB167_176.out
        have hnc31 := NB176_167.out
        have hnb32 := NB167_177.out
        have hnc32 := NB177_167.out
        obtain ⟨hcz33_0, hcz33_1, hcz33_2, hcz33_3⟩ := zc4 BK167
        obtain ⟨hfz33_0, hfz33_1, hfz33_2, hfz33_3⟩ := zf4 BK167
        go_wp2_with (first | ((with_reducible refine gate_callee (f := 13) rfl ?_); refine goesL_ (some 29) rfl rfl Try.func13 (by kernel_rfl) rfl #[.agg #[.int .i64 a0_0, .int .i64 a0_1, .int .i64 a0_2, .int .i64 a0_3]] rfl (by (try simp only [List.map_toArray, List.map_cons, List.map_nil]); first | done | rfl | (simp only [List.length_drop, List.length_take]; rfl)) ?_; (with_reducible refine (proof_Fits.calls a0_0 a0_1 a0_2 a0_3 t179 _ A24.out).mono ?_); rintro e w34 ⟨rfl, hb⟩; refine ⟨_, rfl, ?_⟩; replace BK167 := bb BK167 hb; replace BK176 := bb BK176 hb; replace BK177 := bb BK177 hb; replace HB := bh HB hb; (try clear hb); (try clear hb2); (try clear hk); (try clear hi); have hnb35 := NB177_176.out; have hnc35 := NB176_177.out; obtain ⟨hcz36_0, hcz36_1, hcz36_2, hcz36_3⟩ := zc4 BK177; obtain ⟨hfz36_0, hfz36_1, hfz36_2, hfz36_3⟩ := zf4 BK177) | (go_at_call 14; (with_reducible refine (steepleref29_Params_Bytes.calls a0_0 a0_1 a0_2 a0_3 t180 _ A29.out).mono ?_); rintro e w37 ⟨rfl, hb⟩; replace BK167 := bb BK167 hb; replace BK176 := bb BK176 hb; replace BK177 := bb BK177 hb; replace HB := bh HB hb; (try clear hb); (try clear hb2); (try clear hk); (try clear hi)))
        go_meet
        case rel => exact ⟨_, (false), (by first | rfl | (exfalso; rw [c27b0] at c26b0; exact absurd c26b0 (by decide)) | (generalize t169.toList = z_; cases z_ <;> rfl) | (simp; done) | (simp [*]; done)), H', ⟨by first | omega | exact Nat.le_refl _⟩, ⟨bk BK167.out⟩, ⟨bk BK176.out⟩, ⟨bk BK177.out⟩, ⟨bq HB.out⟩⟩
       ·rw [if_neg c30] at H
        exact absurd H (by simp)
      ·replace c28 := Bool.eq_false_iff.mpr c28
       subst c28
       have H1 : (steeplelaw29_ProofParams.j0 k a1 t175 (t169.toList != ([] : List UInt8)) t171 t172 t173 t174) = some r := by rw [if_neg (show ¬ (false = true) by decide)] at H; exact H
       clear H
       have H := H1
       clear H1
       have H' := Aside0.mk H
       clear H
       have hnb38 := NB167_176.out
       have hnc38 := NB176_167.out
       have hnb39 := NB167_177.out
       have hnc39 := NB177_167.out
       obtain ⟨hcz40_0, hcz40_1, hcz40_2, hcz40_3⟩ := zc4 BK167
       obtain ⟨hfz40_0, hfz40_1, hfz40_2, hfz40_3⟩ := zf4 BK167
       go_wp2_with (first | ((with_reducible refine gate_callee (f := 13) rfl ?_); refine goesL_ (some 29) rfl rfl Try.func13 (by kernel_rfl) rfl #[.agg #[.int .i64 a0_0, .int .i64 a0_1, .int .i64 a0_2, .int .i64 a0_3]] rfl (by (try simp only [List.map_toArray, List.map_cons, List.map_nil]); first | done | rfl | (simp only [List.length_drop, List.length_take]; rfl)) ?_; (with_reducible refine (proof_Fits.calls a0_0 a0_1 a0_2 a0_3 t179 _ A24.out).mono ?_); rintro e w41 ⟨rfl, hb⟩; refine ⟨_, rfl, ?_⟩; replace BK167 := bb BK167 hb; replace BK176 := bb BK176 hb; replace BK177 := bb BK177 hb; replace HB := bh HB hb; (try clear hb); (try clear hb2); (try clear hk); (try clear hi)))
       go_meet
       case rel => exact ⟨_, ((t169.toList != ([] : List UInt8))), (by first | rfl | (exfalso; rw [c27b0] at c26b0; exact absurd c26b0 (by decide)) | (generalize t169.toList = z_; cases z_ <;> rfl) | (simp; done) | (simp [*]; done)), H', ⟨by first | omega | exact Nat.le_refl _⟩, ⟨bk BK167.out⟩, ⟨bk BK176.out⟩, ⟨bk BK177.out⟩, ⟨bq HB.out⟩⟩
     ·rw [if_neg c27] at H
      have c27b0 : (t170 == 0) = false := beq_eq_false_iff_ne.mpr c27
      have c27b1 : (t170 != 0) = true := bne_iff_ne.mpr c27
      by_cases c42 : t170 = 1
      ·rw [if_pos c42] at H
       have c42b0 : (t170 == 1) = true := beq_iff_eq.mpr c42
       have c42b1 : (t170 != 1) = false := bne_eq_false_iff_eq.mpr c42
       clear c42
       by_cases c43 : t178 = true
       ·subst c43
        have H1 : ((steepleref29_Params_Bytes.f a0_0 a0_1 a0_2 a0_3).bind fun t181 => (if t169.toList = t181.toList then (steeplelaw29_ProofParams.j0 k a1 t175 false t171 t172 t173 t174) else (none))) = some r := by rw [if_pos rfl] at H; exact H
        clear H
        have H := H1
        clear H1
        replace H := Option.bind_eq_some_iff.mp H
        obtain ⟨t181, A440, H⟩ := H
        replace H : (if t169.toList = t181.toList then (steeplelaw29_ProofParams.j0 k a1 t175 false t171 t172 t173 t174) else (none)) = some r := H
        have A44 := Aside0.mk A440
        clear A440
        by_cases c45 : t169.toList = t181.toList
        ·rw [if_pos c45] at H
         have c45b0 : (t169.toList == t181.toList) = true := beq_iff_eq.mpr c45
         have c45b1 : (t169.toList != t181.toList) = false := bne_eq_false_iff_eq.mpr c45
         clear c45
         have H' := Aside0.mk H
         clear H
         have hnb46 := NB167_176.out
         have hnc46 := NB176_167.out
         have hnb47 := NB167_177.out
         have hnc47 := NB177_167.out
         obtain ⟨hcz48_0, hcz48_1, hcz48_2, hcz48_3⟩ := zc4 BK167
         obtain ⟨hfz48_0, hfz48_1, hfz48_2, hfz48_3⟩ := zf4 BK167
         go_wp2_with (first | ((with_reducible refine gate_callee (f := 13) rfl ?_); refine goesL_ (some 29) rfl rfl Try.func13 (by kernel_rfl) rfl #[.agg #[.int .i64 a0_0, .int .i64 a0_1, .int .i64 a0_2, .int .i64 a0_3]] rfl (by (try simp only [List.map_toArray, List.map_cons, List.map_nil]); first | done | rfl | (simp only [List.length_drop, List.length_take]; rfl)) ?_; (with_reducible refine (proof_Fits.calls a0_0 a0_1 a0_2 a0_3 t179 _ A24.out).mono ?_); rintro e w49 ⟨rfl, hb⟩; refine ⟨_, rfl, ?_⟩; replace BK167 := bb BK167 hb; replace BK176 := bb BK176 hb; replace BK177 := bb BK177 hb; replace HB := bh HB hb; (try clear hb); (try clear hb2); (try clear hk); (try clear hi); have hnb50 := NB177_176.out; have hnc50 := NB176_177.out; obtain ⟨hcz51_0, hcz51_1, hcz51_2, hcz51_3⟩ := zc4 BK177; obtain ⟨hfz51_0, hfz51_1, hfz51_2, hfz51_3⟩ := zf4 BK177) | (go_at_call 14; (with_reducible refine (steepleref29_Params_Bytes.calls a0_0 a0_1 a0_2 a0_3 t181 _ A44.out).mono ?_); rintro e w52 ⟨rfl, hb⟩; replace BK167 := bb BK167 hb; replace BK176 := bb BK176 hb; replace BK177 := bb BK177 hb; replace HB := bh HB hb; (try clear hb); (try clear hb2); (try clear hk); (try clear hi)))
         go_meet
         case rel => exact ⟨_, (false), (by first | rfl | (exfalso; rw [c27b0] at c26b0; exact absurd c26b0 (by decide)) | (generalize t169.toList = z_; cases z_ <;> rfl) | (simp; done) | (simp [*]; done)), H', ⟨by first | omega | exact Nat.le_refl _⟩, ⟨bk BK167.out⟩, ⟨bk BK176.out⟩, ⟨bk BK177.out⟩, ⟨bq HB.out⟩⟩
        ·rw [if_neg c45] at H
         exact absurd H (by simp)
       ·replace c43 := Bool.eq_false_iff.mpr c43
        subst c43
        have H1 : (steeplelaw29_ProofParams.j0 k a1 t175 (t169.toList != ([] : List UInt8)) t171 t172 t173 t174) = some r := by rw [if_neg (show ¬ (false = true) by decide)] at H; exact H
        clear H
        have H := H1
        clear H1
        have H' := Aside0.mk H
        clear H
        have hnb53 := NB167_176.out
        have hnc53 := NB176_167.out
        have hnb54 := NB167_177.out
        have hnc54 := NB177_167.out
        obtain ⟨hcz55_0, hcz55_1, hcz55_2, hcz55_3⟩ := zc4 BK167
        obtain ⟨hfz55_0, hfz55_1, hfz55_2, hfz55_3⟩ := zf4 BK167
        go_wp2_with (first | ((with_reducible refine gate_callee (f := 13) rfl ?_); refine goesL_ (some 29) rfl rfl Try.func13 (by kernel_rfl) rfl #[.agg #[.int .i64 a0_0, .int .i64 a0_1, .int .i64 a0_2, .int .i64 a0_3]] rfl (by (try simp only [List.map_toArray, List.map_cons, List.map_nil]); first | done | rfl | (simp only [List.length_drop, List.length_take]; rfl)) ?_; (with_reducible refine (proof_Fits.calls a0_0 a0_1 a0_2 a0_3 t179 _ A24.out).mono ?_); rintro e w56 ⟨rfl, hb⟩; refine ⟨_, rfl, ?_⟩; replace BK167 := bb BK167 hb; replace BK176 := bb BK176 hb; replace BK177 := bb BK177 hb; replace HB := bh HB hb; (try clear hb); (try clear hb2); (try clear hk); (try clear hi)))
        go_meet
        case rel => exact ⟨_, ((t169.toList != ([] : List UInt8))), (by first | rfl | (exfalso; rw [c27b0] at c26b0; exact absurd c26b0 (by decide)) | (generalize t169.toList = z_; cases z_ <;> rfl) | (simp; done) | (simp [*]; done)), H', ⟨by first | omega | exact Nat.le_refl _⟩, ⟨bk BK167.out⟩, ⟨bk BK176.out⟩, ⟨bk BK177.out⟩, ⟨bq HB.out⟩⟩
      ·rw [if_neg c42] at H
       exact absurd H (by simp)
  case rest =>
   clear HC10
   try clear c1
   try clear c2
   try clear p2
   try clear c3
   try clear c3b0
   try clear c3b1
   try clear c4
   try clear c5
   try clear c9
   try clear c10
   try clear c11
   try clear c12
   try clear c13
   try clear c16
   try clear c20
   try clear c21
   try clear c25
   try clear c25b0
   try clear c25b1
   try clear c25b2
   try clear c26
   try clear c26b0
   try clear c26b1
   try clear c26b2
   try clear c27
   try clear c27b0
   try clear c27b1
   try clear c28
   try clear c30
   try clear c30b0
   try clear c30b1
   try clear c31
   try clear c32
   try clear c35
   try clear c38
   try clear c39
   try clear c42
   try clear c42b0
   try clear c42b1
   try clear c43
   try clear c45
   try clear c45b0
   try clear c45b1
   try clear c46
   try clear c47
   try clear c50
   try clear c53
   try clear c54
   try clear hcz12_0
   try clear hcz12_1
   try clear hcz12_2
   try clear hcz12_3
   try clear hcz17_0
   try clear hcz17_1
   try clear hcz17_2
   try clear hcz17_3
   try clear hcz18_0
   try clear hcz18_1
   try clear hcz18_2
   try clear hcz18_3
   try clear hcz22_0
   try clear hcz22_1
   try clear hcz22_2
   try clear hcz22_3
   try clear hcz33_0
   try clear hcz33_1
   try clear hcz33_2
   try clear hcz33_3
   try clear hcz36_0
   try clear hcz36_1
   try clear hcz36_2
   try clear hcz36_3
   try clear hcz40_0
   try clear hcz40_1
   try clear hcz40_2
   try clear hcz40_3
   try clear hcz48_0
   try clear hcz48_1
   try clear hcz48_2
   try clear hcz48_3
   try clear hcz51_0
   try clear hcz51_1
   try clear hcz51_2
   try clear hcz51_3
   try clear hcz55_0
   try clear hcz55_1
   try clear hcz55_2
   try clear hcz55_3
   try clear hfz12_0
   try clear hfz12_1
   try clear hfz12_2
   try clear hfz12_3
   try clear hfz17_0
   try clear hfz17_1
   try clear hfz17_2
   try clear hfz17_3
   try clear hfz18_0
   try clear hfz18_1
   try clear hfz18_2
   try clear hfz18_3
   try clear hfz22_0
   try clear hfz22_1
   try clear hfz22_2
   try clear hfz22_3
   try clear hfz33_0
   try clear hfz33_1
   try clear hfz33_2
   try clear hfz33_3
   try clear hfz36_0
   try clear hfz36_1
   try clear hfz36_2
   try clear hfz36_3
   try clear hfz40_0
   try clear hfz40_1
   try clear hfz40_2
   try clear hfz40_3
   try clear hfz48_0
   try clear hfz48_1
   try clear hfz48_2
   try clear hfz48_3
   try clear hfz51_0
   try clear hfz51_1
   try clear hfz51_2
   try clear hfz51_3
   try clear hfz55_0
   try clear hfz55_1
   try clear hfz55_2
   try clear hfz55_3
   obtain ⟨kq, x62_9, rfl, HA, HJ9, BK167, BK176, BK177, HB⟩ := hcut
   cases kq with
   | zero => exact absurd HA.out (by simp [steeplelaw29_ProofParams.j0])
   | succ kj9 =>
    have H := HA.out
    clear HA
    simp only [steeplelaw29_ProofParams.j0] at H
    by_cases c57 : x62_9 = true
    ·subst c57
     have H1 : (none) = some r := by rw [if_pos rfl] at H; exact H
     clear H
     have H := H1
     clear H1
     exact absurd H (by simp)
    ·replace c57 := Bool.eq_false_iff.mpr c57
     subst c57
     have H1 : (if t175 = 0 then ((steeplelaw29_awake.f kj9).bind fun t182 => (if t182 = true then ((steepleref29_Fits.f t171 t172 t173 t174).bind fun t183 => (if t183 = true then ((steepleref29_Params_Bytes.f t171 t172 t173 t174).bind fun t184 => (some (t184.toList == a1.toList))) else (none))) else (none))) else ((steeplelaw29_awake.f kj9).bind fun t185 => (if t185 = true then (if t175 = 3 then (some (t171 == 0 && (t172 == 0 && (t173 == 0 && (t174 == 0))))) else (none)) else (none)))) = some r := by rw [if_neg (show ¬ (false = true) by decide)] at H; exact H
     clear H
     have H := H1
     clear H1
     by_cases c58 : t175 = 0
     ·rw [if_pos c58] at H
      have c58b0 : (t175 == 0) = true := beq_iff_eq.mpr c58
      have c58b1 : (t175 != 0) = false := bne_eq_false_iff_eq.mpr c58
      clear c58
      replace H := Option.bind_eq_some_iff.mp H
      obtain ⟨t182, A590, H⟩ := H
      replace H : (if t182 = true then ((steepleref29_Fits.f t171 t172 t173 t174).bind fun t183 => (if t183 = true then ((steepleref29_Params_Bytes.f t171 t172 t173 t174).bind fun t184 => (some (t184.toList == a1.toList))) else (none))) else (none)) = some r := H
      have A59 := Aside0.mk A590
      clear A590
      by_cases c60 : t182 = true
      ·subst c60
       have H1 : ((steepleref29_Fits.f t171 t172 t173 t174).bind fun t183 => (if t183 = true then ((steepleref29_Params_Bytes.f t171 t172 t173 t174).bind fun t184 => (some (t184.toList == a1.toList))) else (none))) = some r := by rw [if_pos rfl] at H; exact H
       clear H
       have H := H1
       clear H1
       replace H := Option.bind_eq_some_iff.mp H
       obtain ⟨t183, A610, H⟩ := H
       replace H : (if t183 = true then ((steepleref29_Params_Bytes.f t171 t172 t173 t174).bind fun t184 => (some (t184.toList == a1.toList))) else (none)) = some r := H
       have A61 := Aside0.mk A610
       clear A610
       by_cases c62 : t183 = true
       ·subst c62
        have H1 : ((steepleref29_Params_Bytes.f t171 t172 t173 t174).bind fun t184 => (some (t184.toList == a1.toList))) = some r := by rw [if_pos rfl] at H; exact H
        clear H
        have H := H1
        clear H1
        replace H := Option.bind_eq_some_iff.mp H
        obtain ⟨t184, A630, H⟩ := H
        replace H : (some (t184.toList == a1.toList)) = some r := H
        have A63 := Aside0.mk A630
        clear A630
        obtain rfl := Option.some.inj H
        go_wp2_with (first | ((with_reducible refine gate_callee (f := 9) rfl ?_); refine goesL_ (some 75) rfl rfl Try.func9 (by kernel_rfl) rfl #[] rfl (by (try simp only [List.map_toArray, List.map_cons, List.map_nil]); first | done | rfl | (simp only [List.length_drop, List.length_take]; rfl)) ?_; (with_reducible refine (steeplelaw29_awake.calls kj9  true _ A59.out).mono ?_); rintro e w64 ⟨rfl, hb⟩; refine ⟨_, rfl, ?_⟩; replace BK167 := bb BK167 hb; replace BK176 := bb BK176 hb; replace BK177 := bb BK177 hb; replace HB := bh HB hb; (try clear hb); (try clear hb2); (try clear hk); (try clear hi); have hnb65 := NB176_167.out; have hnc65 := NB167_176.out; have hnb66 := NB176_177.out; have hnc66 := NB177_176.out; obtain ⟨hcz67_0, hcz67_1, hcz67_2, hcz67_3⟩ := zc4 BK176; obtain ⟨hfz67_0, hfz67_1, hfz67_2, hfz67_3⟩ := zf4 BK176) | (go_at_call 12; (with_reducible refine (steepleref29_Fits.calls t171 t172 t173 t174 true _ A61.out).mono ?_); rintro e w68 ⟨rfl, hb⟩; replace BK167 := bb BK167 hb; replace BK176 := bb BK176 hb; replace BK177 := bb BK177 hb; replace HB := bh HB hb; (try clear hb); (try clear hb2); (try clear hk); (try clear hi); obtain ⟨hcz69_0, hcz69_1, hcz69_2, hcz69_3⟩ := zc4 BK176; obtain ⟨hfz69_0, hfz69_1, hfz69_2, hfz69_3⟩ := zf4 BK176) | (go_at_call 14; (with_reducible refine (steepleref29_Params_Bytes.calls t171 t172 t173 t174 t184 _ A63.out).mono ?_); rintro e w70 ⟨rfl, hb⟩; replace BK167 := bb BK167 hb; replace BK176 := bb BK176 hb; replace BK177 := bb BK177 hb; replace HB := bh HB hb; (try clear hb); (try clear hb2); (try clear hk); (try clear hi)))
        go_ret
        exact ⟨by first | rfl | (simp [errW_none, errW_some] <;> rfl) | (simp [*, errW_none, errW_some] <;> rfl), bq HB.out⟩
       ·replace c62 := Bool.eq_false_iff.mpr c62
        subst c62
        have H1 : (none) = some r := by rw [if_neg (show ¬ (false = true) by decide)] at H; exact H
        clear H
        have H := H1
        clear H1
        exact absurd H (by simp)
      ·replace c60 := Bool.eq_false_iff.mpr c60
       subst c60
       have H1 : (none) = some r := by rw [if_neg (show ¬ (false = true) by decide)] at H; exact H
       clear H
       have H := H1
       clear H1
       exact absurd H (by simp)
     ·rw [if_neg c58] at H
      have c58b0 : (t175 == 0) = false := beq_eq_false_iff_ne.mpr c58
      have c58b1 : (t175 != 0) = true := bne_iff_ne.mpr c58
      replace H := Option.bind_eq_some_iff.mp H
      obtain ⟨t185, A710, H⟩ := H
      replace H : (if t185 = true then (if t175 = 3 then (some (t171 == 0 && (t172 == 0 && (t173 == 0 && (t174 == 0))))) else (none)) else (none)) = some r := H
      have A71 := Aside0.mk A710
      clear A710
      by_cases c72 : t185 = true
      ·subst c72
       have H1 : (if t175 = 3 then (some (t171 == 0 && (t172 == 0 && (t173 == 0 && (t174 == 0))))) else (none)) = some r := by rw [if_pos rfl] at H; exact H
       clear H
       have H := H1
       clear H1
       by_cases c73 : t175 = 3
       ·rw [if_pos c73] at H
        have c73b0 : (t175 == 3) = true := beq_iff_eq.mpr c73
        have c73b1 : (t175 != 3) = false := bne_eq_false_iff_eq.mpr c73
        clear c73
        obtain rfl := Option.some.inj H
        go_wp2_with (first | ((with_reducible refine gate_callee (f := 9) rfl ?_); refine goesL_ (some 65) rfl rfl Try.func9 (by kernel_rfl) rfl #[] rfl (by (try simp only [List.map_toArray, List.map_cons, List.map_nil]); first | done | rfl | (simp only [List.length_drop, List.length_take]; rfl)) ?_; (with_reducible refine (steeplelaw29_awake.calls kj9  true _ A71.out).mono ?_); rintro e w74 ⟨rfl, hb⟩; refine ⟨_, rfl, ?_⟩; replace BK167 := bb BK167 hb; replace BK176 := bb BK176 hb; replace BK177 := bb BK177 hb; replace HB := bh HB hb; (try clear hb); (try clear hb2); (try clear hk); (try clear hi); have hnb75 := NB176_167.out; have hnc75 := NB167_176.out; have hnb76 := NB176_177.out; have hnc76 := NB177_176.out; obtain ⟨hcz77_0, hcz77_1, hcz77_2, hcz77_3⟩ := zc4 BK176; obtain ⟨hfz77_0, hfz77_1, hfz77_2, hfz77_3⟩ := zf4 BK176))
        go_ret
        exact ⟨by first | rfl | (simp [errW_none, errW_some] <;> rfl) | (simp [*, errW_none, errW_some] <;> rfl), bq HB.out⟩
       ·rw [if_neg c73] at H
        exact absurd H (by simp)
      ·replace c72 := Bool.eq_false_iff.mpr c72
       subst c72
       have H1 : (none) = some r := by rw [if_neg (show ¬ (false = true) by decide)] at H; exact H
       clear H
       have H := H1
       clear H1
       exact absurd H (by simp)

/-- THE ONE PURE STATEMENT of steeplelaw29_ProofParams. -/
def steeplelaw29_ProofParams.Pure : Prop := ∀ (x0 : S23) (x1 : ByteArray), ((Lit.int .i64 x0.f0).wf = true ∧ (Lit.int .i64 x0.f1).wf = true ∧ (Lit.int .i64 x0.f2).wf = true ∧ (Lit.int .i64 x0.f3).wf = true) → x1.size ≤ 140737488351232 → ∃ k, steeplelaw29_ProofParams.f k x0.f0 x0.f1 x0.f2 x0.f3 x1 = some true

end Go.Proofs.Ythgiifakcgjlaaa.P
