/- Written by a program of this session: functions that the law reaches, as Lean functions, and that the code comes to their answers. Conditions: those that each theorem names. -/
import Derived.Test.YtmibjgjgfombaaaPx0
import Derived.Test.YtmibjgjgfombaaaPx6
namespace Go.Proofs.Ytmibjgjgfombaaa.P
open Go.RowKit Go.Proofs.YtmibjgjgfombaaaX Go.Proofs.YtmibjgjgfombaaaW.PrintWords Go.Proofs.YtmibjgjgfombaaaW.PrintLast Go.Proofs.YtmibjgjgfombaaaW.PrintMore
attribute [local go_sem] max2_int min2_int max_two min_two max_three min_three max_four min_four   -- for this text's walks alone
set_option linter.unusedVariables false
set_option linter.unusedSimpArgs false
set_option maxRecDepth 100000 in
theorem fld_lo7b (w : World) (a b : Int) : Sem.run Try.prog (Instr.field 91 (Value.agg #[Value.int IntKind.u64 a, Value.int IntKind.u64 b]) 1) w = Result.ok (Value.int IntKind.u64 b) w := by
  have hu := Try.underlying91
  go_simp
  rfl
attribute [local go_sem] fld_lo7b
set_option maxRecDepth 100000 in
theorem fld_lo7a (w : World) (a b : Int) : Sem.run Try.prog (Instr.field 87 (Value.agg #[Value.int IntKind.u64 a, Value.int IntKind.u64 b]) 1) w = Result.ok (Value.int IntKind.u64 b) w := by
  have hu := Try.underlying87
  go_simp
  rfl
attribute [local go_sem] fld_lo7a

/-! ### steepleref02_timesWord: function 94 -/
def steepleref02_timesWord.f : Nat → Int → Int → Option (Int)
 | 0, _, _ => none
 | k + 1, a0, a1 => if a0 < 0 then (some a1) else (if 0 ≤ (IntKind.u64.wrap (a0)) then ((steepleref02_mask.f a0).bind fun t214 => ((steepleref02_mask.f a0).bind fun t215 => ((steepleref02_timesWord.f k (wrap64 (a0 - 1)) (Go.bits .and .u64 (shr .u64 a1 (shl .u64 1 (IntKind.u64.wrap (a0)))) t214)).bind fun t216 => (some (Go.bits .or .u64 (shl .u64 (Go.bits .xor .u64 (Go.bits .and .u64 a1 t215) t216) (shl .u64 1 (IntKind.u64.wrap (a0)))) (Go.bits .and .u64 (shr .u64 a1 (shl .u64 1 (IntKind.u64.wrap (a0)))) t214)))))) else (none))
set_option maxHeartbeats 8000000 in
set_option maxRecDepth 100000 in
theorem steepleref02_timesWord.calls (k : Nat) : ∀ (a0 : Int) (a1 : Int) (r : Int) (w : World) (h : steepleref02_timesWord.f k a0 a1 = some r),
  Calls Try.prog 94 #[.int .i64 a0, .int .u64 a1] w fun e w' => e = .returned (.int .u64 r) ∧ Below w.heap.size w w' := by
 induction k using Nat.strongRecOn with
 | _ k ih =>
 intro a0 a1 r w h
 cases k with
 | zero => exact absurd h (by simp [steepleref02_timesWord.f])
 | succ k =>
 simp only [steepleref02_timesWord.f] at h
 have HB := Aside0.mk (Below.refl w.heap.size w)
 have H : (if a0 < 0 then (some a1) else (if 0 ≤ (IntKind.u64.wrap (a0)) then ((steepleref02_mask.f a0).bind fun t214 => ((steepleref02_mask.f a0).bind fun t215 => ((steepleref02_timesWord.f k (wrap64 (a0 - 1)) (Go.bits .and .u64 (shr .u64 a1 (shl .u64 1 (IntKind.u64.wrap (a0)))) t214)).bind fun t216 => (some (Go.bits .or .u64 (shl .u64 (Go.bits .xor .u64 (Go.bits .and .u64 a1 t215) t216) (shl .u64 1 (IntKind.u64.wrap (a0)))) (Go.bits .and .u64 (shr .u64 a1 (shl .u64 1 (IntKind.u64.wrap (a0)))) t214)))))) else (none))) = some r := h
 clear h
 by_cases c3 : a0 < 0
 ·rw [if_pos c3] at H
  have c3b0 : decide (a0 < 0) = true := decide_eq_true c3
  clear c3
  obtain rfl := Option.some.inj H
  go_enter Try.func94, Try.ntmps94
  go_wp2
  go_ret
  exact ⟨by first | rfl | (simp [errW_none, errW_some] <;> rfl) | (simp [*, errW_none, errW_some] <;> rfl), bq HB.out⟩
 ·rw [if_neg c3] at H
  have c3b0 : decide (a0 < 0) = false := decide_eq_false c3
  clear c3
  obtain ⟨ji4, hji4⟩ : ∃ j_ : Int, (IntKind.u64.wrap (a0)) = j_ := ⟨_, rfl⟩
  replace H : (if 0 ≤ (ji4) then ((steepleref02_mask.f a0).bind fun t214 => ((steepleref02_mask.f a0).bind fun t215 => ((steepleref02_timesWord.f k (wrap64 (a0 - 1)) (Go.bits .and .u64 (shr .u64 a1 (shl .u64 1 (ji4))) t214)).bind fun t216 => (some (Go.bits .or .u64 (shl .u64 (Go.bits .xor .u64 (Go.bits .and .u64 a1 t215) t216) (shl .u64 1 (ji4))) (Go.bits .and .u64 (shr .u64 a1 (shl .u64 1 (ji4))) t214)))))) else (none)) = some r := by first | (rw [hji4] at H; exact H) | (simp only [hji4] at H ⊢; exact H)
  by_cases c5 : 0 ≤ (ji4)
  ·rw [if_pos c5] at H
   have c5b0 := eq_true c5
   have c5b1 : decide (0 ≤ (ji4)) = true := decide_eq_true c5
   clear c5
   obtain ⟨ji6, hji6⟩ : ∃ j_ : Int, (shl .u64 1 (ji4)) = j_ := ⟨_, rfl⟩
   replace H : ((steepleref02_mask.f a0).bind fun t214 => ((steepleref02_mask.f a0).bind fun t215 => ((steepleref02_timesWord.f k (wrap64 (a0 - 1)) (Go.bits .and .u64 (shr .u64 a1 (ji6)) t214)).bind fun t216 => (some (Go.bits .or .u64 (shl .u64 (Go.bits .xor .u64 (Go.bits .and .u64 a1 t215) t216) (ji6)) (Go.bits .and .u64 (shr .u64 a1 (ji6)) t214)))))) = some r := by first | (rw [hji6] at H; exact H) | (simp only [hji6] at H ⊢; exact H)
   have hji6_ : (IntKind.u64.wrap (1 * 2 ^ min (ji4).toNat 64)) = ji6 := hji6
   have hji6z : (ji4) ≤ 64 → (IntKind.u64.wrap (1 * 2 ^ (ji4).toNat)) = ji6 := shl_small hji6
   have hji6p0 := eq_true (show (0 : Int) ≤ ji6 by rw [← hji6_]; exact wrap_u64_nonneg _)
   have hji6p1 : decide (0 ≤ (ji6 : Int)) = true := decide_eq_true (of_eq_true hji6p0)
   have hji6u : (IntKind.u64.wrap (2 ^ min (ji4).toNat 64)) = ji6 := by have h_ := hji6_; rw [Int.one_mul] at h_; exact h_
   have hji6v : (ji4) ≤ 64 → (IntKind.u64.wrap (2 ^ (ji4).toNat)) = ji6 := fun hle_ => by have h_ := hji6z hle_; rw [Int.one_mul] at h_; exact h_
   obtain ⟨ji7, hji7⟩ : ∃ j_ : Int, (shr .u64 a1 (ji6)) = j_ := ⟨_, rfl⟩
   replace H : ((steepleref02_mask.f a0).bind fun t214 => ((steepleref02_mask.f a0).bind fun t215 => ((steepleref02_timesWord.f k (wrap64 (a0 - 1)) (Go.bits .and .u64 (ji7) t214)).bind fun t216 => (some (Go.bits .or .u64 (shl .u64 (Go.bits .xor .u64 (Go.bits .and .u64 a1 t215) t216) (ji6)) (Go.bits .and .u64 (ji7) t214)))))) = some r := by first | (rw [hji7] at H; exact H) | (simp only [hji7] at H ⊢; exact H)
   have hji7_ : (a1 / 2 ^ min (ji6).toNat 64) = ji7 := hji7
   have hji7z : (ji6) ≤ 64 → (a1 / 2 ^ (ji6).toNat) = ji7 := shr_small hji7
   replace H := Option.bind_eq_some_iff.mp H
   obtain ⟨t214, A80, H⟩ := H
   replace H : ((steepleref02_mask.f a0).bind fun t215 => ((steepleref02_timesWord.f k (wrap64 (a0 - 1)) (Go.bits .and .u64 (ji7) t214)).bind fun t216 => (some (Go.bits .or .u64 (shl .u64 (Go.bits .xor .u64 (Go.bits .and .u64 a1 t215) t216) (ji6)) (Go.bits .and .u64 (ji7) t214))))) = some r := H
   have A8 := Aside0.mk A80
   clear A80
   replace H := Option.bind_eq_some_iff.mp H
   obtain ⟨t215, A90, H⟩ := H
   replace H : ((steepleref02_timesWord.f k (wrap64 (a0 - 1)) (Go.bits .and .u64 (ji7) t214)).bind fun t216 => (some (Go.bits .or .u64 (shl .u64 (Go.bits .xor .u64 (Go.bits .and .u64 a1 t215) t216) (ji6)) (Go.bits .and .u64 (ji7) t214)))) = some r := H
   have A9 := Aside0.mk A90
   clear A90
   replace H := Option.bind_eq_some_iff.mp H
   obtain ⟨t216, A100, H⟩ := H
   replace H : (some (Go.bits .or .u64 (shl .u64 (Go.bits .xor .u64 (Go.bits .and .u64 a1 t215) t216) (ji6)) (Go.bits .and .u64 (ji7) t214))) = some r := H
   have A10 := Aside0.mk A100
   clear A100
   obtain ⟨ji11, hji11⟩ : ∃ j_ : Int, (shl .u64 (Go.bits .xor .u64 (Go.bits .and .u64 a1 t215) t216) (ji6)) = j_ := ⟨_, rfl⟩
   replace H : (some (Go.bits .or .u64 (ji11) (Go.bits .and .u64 (ji7) t214))) = some r := by first | (rw [hji11] at H; exact H) | (simp only [hji11] at H ⊢; exact H)
   (try rw [hji11] at A8)
   (try rw [hji11] at A9)
   (try rw [hji11] at A10)
   have hji11_ : (IntKind.u64.wrap ((Go.bits .xor .u64 (Go.bits .and .u64 a1 t215) t216) * 2 ^ min (ji6).toNat 64)) = ji11 := hji11
   have hji11z : (ji6) ≤ 64 → (IntKind.u64.wrap ((Go.bits .xor .u64 (Go.bits .and .u64 a1 t215) t216) * 2 ^ (ji6).toNat)) = ji11 := shl_small hji11
   have hji11p0 := eq_true (show (0 : Int) ≤ ji11 by rw [← hji11_]; exact wrap_u64_nonneg _)
   have hji11p1 : decide (0 ≤ (ji11 : Int)) = true := decide_eq_true (of_eq_true hji11p0)
   obtain rfl := Option.some.inj H
   go_enter Try.func94, Try.ntmps94
   go_wp2_with (first | ((with_reducible refine gate_callee (f := 106) rfl ?_); refine goesL_ (some 18) rfl rfl Try.func106 (by kernel_rfl) rfl #[.int .i64 a0] rfl (by (try simp only [List.map_toArray, List.map_cons, List.map_nil]); first | done | rfl | (simp only [List.length_drop, List.length_take]; rfl)) ?_; (with_reducible refine (steepleref02_mask.calls a0 t214 _ A8.out).mono ?_); rintro e w12 ⟨rfl, hb⟩; refine ⟨_, rfl, ?_⟩; replace HB := bh HB hb; (try clear hb); (try clear hb2); (try clear hk); (try clear hi)) | ((with_reducible refine gate_callee (f := 106) rfl ?_); refine goesL_ (some 22) rfl rfl Try.func106 (by kernel_rfl) rfl #[.int .i64 a0] rfl (by (try simp only [List.map_toArray, List.map_cons, List.map_nil]); first | done | rfl | (simp only [List.length_drop, List.length_take]; rfl)) ?_; (with_reducible refine (steepleref02_mask.calls a0 t215 _ A9.out).mono ?_); rintro e w13 ⟨rfl, hb⟩; refine ⟨_, rfl, ?_⟩; replace HB := bh HB hb; (try clear hb); (try clear hb2); (try clear hk); (try clear hi)) | ((with_reducible refine gate_callee (f := 94) rfl ?_); refine goesL_ (some 28) rfl rfl Try.func94 (by kernel_rfl) rfl #[.int .i64 (wrap64 (a0 - 1)), .int .u64 (Go.bits .and .u64 (ji7) t214)] rfl (by (try simp only [List.map_toArray, List.map_cons, List.map_nil]); first | done | (simp only [hji7]; rfl) | rfl | (simp only [List.length_drop, List.length_take]; rfl)) ?_; (with_reducible refine (ih k (by omega) (wrap64 (a0 - 1)) (Go.bits .and .u64 (ji7) t214) t216 _ A10.out).mono ?_); rintro e w14 ⟨rfl, hb⟩; refine ⟨_, rfl, ?_⟩; replace HB := bh HB hb; (try clear hb); (try clear hb2); (try clear hk); (try clear hi)))
   go_ret
   exact ⟨by first | rfl | (simp [errW_none, errW_some] <;> rfl) | (simp only [← hji4, ← hji6, ← hji7, ← hji11]; first | rfl | (simp [errW_none, errW_some] <;> rfl)) | (simp [*, errW_none, errW_some] <;> rfl), bq HB.out⟩
  ·rw [if_neg c5] at H
   exact absurd H (by simp)

/-! ### steepleref02_Times: function 78 -/
def steepleref02_Times.f (k : Nat) (a0 : Int) (a1_0 : Int) (a1_1 : Int) : Option (Int × Int) := if a0 < 6 then ((steepleref02_timesWord.f k a0 a1_0).bind fun t219 => ((steepleref02_timesWord.f k a0 a1_1).bind fun t220 => (some (t219, t220)))) else ((steepleref02_timesWord.f k 5 a1_0).bind fun t221 => (some (Go.bits .xor .u64 a1_1 t221, a1_0)))
def steepleref02_Times.T2 : Bool × List (List Nat × List Nat) := (true, [([], []), ([], []), ([1], [1]), ([0, 2], [0, 2]), ([], []), ([], []), ([5], [5]), ([4, 6, 3], [4, 6]), ([3, 7], [3, 7]), ([8, 7, 0, 1, 2, 3, 4, 5, 6, 7, 8], [8])])
def steepleref02_Times.B2 : List Nat := [0, 0, 2, 7, 0, 0, 32, 127, 255, 511]
theorem steepleref02_Times.tab2 : rtab .any (opsOf Try.f78 2) = steepleref02_Times.T2 := by kernel_rfl
theorem steepleref02_Times.bits2 : waitsOk steepleref02_Times.T2.2 steepleref02_Times.B2 = true := by kernel_rfl
def steepleref02_Times.T3 : Bool × List (List Nat × List Nat) := (true, [([], []), ([0], [0]), ([], []), ([2], [2]), ([3], [3]), ([1, 4], [1, 4]), ([], []), ([6], [6]), ([5, 7], [5, 7]), ([8, 4, 0, 1, 2, 3, 4, 5, 6, 7, 8], [8])])
def steepleref02_Times.B3 : List Nat := [0, 1, 0, 4, 12, 31, 0, 64, 255, 511]
theorem steepleref02_Times.tab3 : rtab .any (opsOf Try.f78 3) = steepleref02_Times.T3 := by kernel_rfl
theorem steepleref02_Times.bits3 : waitsOk steepleref02_Times.T3.2 steepleref02_Times.B3 = true := by kernel_rfl
set_option maxHeartbeats 8000000 in
set_option maxRecDepth 100000 in
theorem steepleref02_Times.calls (k : Nat) (a0 : Int) (a1_0 : Int) (a1_1 : Int) (r1 : Int) (r2 : Int) (w : World) (h : steepleref02_Times.f k a0 a1_0 a1_1 = some (r1, r2)) :
  Calls Try.prog 78 #[.int .i64 a0, .agg #[.int .u64 a1_0, .int .u64 a1_1]] w fun e w' => e = .returned (.agg #[.int .u64 r1, .int .u64 r2]) ∧ Below w.heap.size w w' := by
 have hu91 := Try.underlying91
 have HB := Aside0.mk (Below.refl w.heap.size w)
 have H : (if a0 < 6 then ((steepleref02_timesWord.f k a0 a1_0).bind fun t219 => ((steepleref02_timesWord.f k a0 a1_1).bind fun t220 => (some (t219, t220)))) else ((steepleref02_timesWord.f k 5 a1_0).bind fun t221 => (some (Go.bits .xor .u64 a1_1 t221, a1_0)))) = some (r1, r2) := h
 clear h
 by_cases c3 : a0 < 6
 ·rw [if_pos c3] at H
  have c3b0 : decide (a0 < 6) = true := decide_eq_true c3
  clear c3
  replace H := Option.bind_eq_some_iff.mp H
  obtain ⟨t219, A40, H⟩ := H
  replace H : ((steepleref02_timesWord.f k a0 a1_1).bind fun t220 => (some (t219, t220))) = some (r1, r2) := H
  have A4 := Aside0.mk A40
  clear A40
  replace H := Option.bind_eq_some_iff.mp H
  obtain ⟨t220, A50, H⟩ := H
  replace H : (some (t219, t220)) = some (r1, r2) := H
  have A5 := Aside0.mk A50
  clear A50
  simp only [Option.some.injEq, Prod.mk.injEq] at H
  obtain ⟨rfl, rfl⟩ := H
  go_enter Try.func78, Try.ntmps78
  try go_wp2_with (first | ((with_reducible refine gate_dst (N := 3) rfl ?_); refine box_event ?hg (N := 3) ?hd (cs := #[.int .u64 a1_0, .int .u64 a1_1]) (t := 91) ?hr ?_; (case hd => rfl); (case hg => rfl); (case hr => first | (go_simp; done) | (go_simp; rfl)); intro gb217 hg w6 hbox hb; have BK217 := Aside0.mk hbox; have GW217 := ge hg HB; have GE217 := ge hg HB; replace HB := bh HB hb; clear hb hbox hg) | ((with_reducible refine gate_dst (N := 4) rfl ?_); refine box_event ?hg (N := 4) ?hd (cs := #[.int .u64 0, .int .u64 0]) (t := 91) ?hr ?_; (case hd => rfl); (case hg => rfl); (case hr => first | (go_simp; done) | (go_simp; rfl)); intro gb218 hg w7 hbox hb; have BK218 := Aside0.mk hbox; have GW218 := ge hg HB; have GE218 := ge hg HB; have NB217_218 := nl hg BK217; have NB218_217 := ng hg BK217; replace BK217 := bb BK217 hb; replace HB := bh HB hb; clear hb hbox hg))
  replace BK217 := Aside0.mk (blk_drew BK217.out)
  replace BK218 := Aside0.mk (blk_drew BK218.out)
  replace HB := Aside0.mk (below_drew1 HB.out)
  refine start_ (n := 10) (S := fun w' => w'.cell? ⟨gb217, 0, none⟩ = some (.int .u64 a1_0) ∧ w'.cell? ⟨gb217, 1, none⟩ = some (.int .u64 a1_1)) (ds := []) #[false, false, false, false, false, false, false, false, false, false] (by kernel_rfl) rfl rfl ⟨(blk_cell BK217.out 0).trans rfl, (blk_cell BK217.out 1).trans rfl⟩ (fun hHeld => ?_); refine with_tabW steepleref02_Times.tab2 steepleref02_Times.bits2 (fun HT_ HW_ => ?_)
  generalize w7.drew = w8 at BK217 BK218 HB hHeld ⊢
  refine pure_ (i := 0) (N := some 7) (v := ?_) (a' := ?_) #[true, false, false, false, false, false, false, false, false, false] rfl rfl (any_of HT_.out (by kernel_rfl)) (fun _ _ _ h => h) (Or.inl ⟨by rfl, ?_⟩) ?_ ?_
  rotate_left
  ·intro w'
   go_simp
   with_reducible rfl
  rotate_left
  ·simp only [Act.put, List.setIfInBounds_toArray, List.set_cons_zero, List.set_cons_succ, i64_w, i32_w]
   rfl
  refine pure_ (i := 1) (N := some 8) (v := ?_) (a' := ?_) #[true, true, false, false, false, false, false, false, false, false] rfl rfl (any_of HT_.out (by kernel_rfl)) (fun _ _ _ h => h) (Or.inl ⟨by rfl, ?_⟩) ?_ ?_
  rotate_left
  ·intro w'
   go_simp
   with_reducible rfl
  rotate_left
  ·simp only [Act.put, List.setIfInBounds_toArray, List.set_cons_zero, List.set_cons_succ, i64_w, i32_w]
   rfl
  refine pure_ (i := 4) (N := some 11) (v := ?_) (a' := ?_) #[true, true, false, false, true, false, false, false, false, false] rfl rfl (any_of HT_.out (by kernel_rfl)) (fun _ _ _ h => h) (Or.inl ⟨by rfl, ?_⟩) ?_ ?_
  rotate_left
  ·intro w'
   go_simp
   with_reducible rfl
  rotate_left
  ·simp only [Act.put, List.setIfInBounds_toArray, List.set_cons_zero, List.set_cons_succ, i64_w, i32_w]
   rfl
  refine pure_ (i := 5) (N := some 12) (v := ?_) (a' := ?_) #[true, true, false, false, true, true, false, false, false, false] rfl rfl (any_of HT_.out (by kernel_rfl)) (fun _ _ _ h => h) (Or.inl ⟨by rfl, ?_⟩) ?_ ?_
  rotate_left
  ·intro w'
   go_simp
   with_reducible rfl
  rotate_left
  ·simp only [Act.put, List.setIfInBounds_toArray, List.set_cons_zero, List.set_cons_succ, i64_w, i32_w]
   rfl
  refine take_ (i := 2) (N := some 9) (v := ?_) (a' := ?_) #[true, true, true, false, true, true, false, false, false, false] rfl rfl (take_ofW HT_.out HW_.out (by kernel_rfl)) (fun _ _ _ h => h) (Or.inl ⟨by rfl, ?_⟩) hHeld ?_ ?_
  rotate_left
  ·rintro w' ⟨s0, s1⟩
   go_simp
   with_reducible rfl
  rotate_left
  ·simp only [Act.put, List.setIfInBounds_toArray, List.set_cons_zero, List.set_cons_succ, i64_w, i32_w]
   rfl
  refine take_ (i := 6) (N := some 13) (v := ?_) (a' := ?_) #[true, true, true, false, true, true, true, false, false, false] rfl rfl (take_ofW HT_.out HW_.out (by kernel_rfl)) (fun _ _ _ h => h) (Or.inl ⟨by rfl, ?_⟩) hHeld ?_ ?_
  rotate_left
  ·rintro w' ⟨s0, s1⟩
   go_simp
   with_reducible rfl
  rotate_left
  ·simp only [Act.put, List.setIfInBounds_toArray, List.set_cons_zero, List.set_cons_succ, i64_w, i32_w]
   rfl
  refine one_ (i := 3) (N := some 10) #[true, true, true, true, true, true, true, false, false, false] rfl rfl (one_of HT_.out (by kernel_rfl)) (by decide) (fun K hK => ?_)
  refine goes_ Try.func94 (by kernel_rfl) rfl #[.int .i64 a0, .int .u64 a1_0] (by rfl) rfl rfl (by (try simp only [List.map_toArray, List.map_cons, List.map_nil]); first | done | rfl | (simp only [List.length_drop, List.length_take]; rfl)) ?_
  with_reducible refine (steepleref02_timesWord.calls k a0 a1_0 t219 _ A4.out).mono ?_
  rintro e w9 ⟨rfl, hb⟩
  refine ⟨_, rfl, ?_⟩
  replace BK217 := bb BK217 hb
  replace BK218 := bb BK218 hb
  replace HB := bh HB hb
  (try clear hb)
  (try clear hb2)
  (try clear hk)
  (try clear hi)
  refine hK.out _ _ ⟨(blk_cell BK217.out 0).trans rfl, (blk_cell BK217.out 1).trans rfl⟩ (fun hHeld => ?_)
  clear hK K
  refine norm_ (a' := ?_) ?_ ?_
  rotate_left
  ·show Act.put _ (some 10) _ = _
   simp only [Act.put, List.setIfInBounds_toArray, List.set_cons_zero, List.set_cons_succ, i64_w, i32_w]
   rfl
  refine one_ (i := 7) (N := some 14) #[true, true, true, true, true, true, true, true, false, false] rfl rfl (one_of HT_.out (by kernel_rfl)) (by decide) (fun K hK => ?_)
  refine goes_ Try.func94 (by kernel_rfl) rfl #[.int .i64 a0, .int .u64 a1_1] (by rfl) rfl rfl (by (try simp only [List.map_toArray, List.map_cons, List.map_nil]); first | done | rfl | (simp only [List.length_drop, List.length_take]; rfl)) ?_
  with_reducible refine (steepleref02_timesWord.calls k a0 a1_1 t220 _ A5.out).mono ?_
  rintro e w10 ⟨rfl, hb⟩
  refine ⟨_, rfl, ?_⟩
  replace BK217 := bb BK217 hb
  replace BK218 := bb BK218 hb
  replace HB := bh HB hb
  (try clear hb)
  (try clear hb2)
  (try clear hk)
  (try clear hi)
  refine hK.out _ _ ⟨(blk_cell BK217.out 0).trans rfl, (blk_cell BK217.out 1).trans rfl⟩ (fun hHeld => ?_)
  clear hK K
  refine norm_ (a' := ?_) ?_ ?_
  rotate_left
  ·show Act.put _ (some 14) _ = _
   simp only [Act.put, List.setIfInBounds_toArray, List.set_cons_zero, List.set_cons_succ, i64_w, i32_w]
   rfl
  refine pure_ (i := 8) (N := some 15) (v := ?_) (a' := ?_) #[true, true, true, true, true, true, true, true, true, false] rfl rfl (any_of HT_.out (by kernel_rfl)) (fun _ _ _ h => h) (Or.inl ⟨by rfl, ?_⟩) ?_ ?_
  rotate_left
  ·intro w'
   go_simp
   with_reducible rfl
  rotate_left
  ·simp only [Act.put, List.setIfInBounds_toArray, List.set_cons_zero, List.set_cons_succ, i64_w, i32_w]
   rfl
  refine one_ (i := 9) (N := none) #[true, true, true, true, true, true, true, true, true, true] rfl rfl (one_of HT_.out (by kernel_rfl)) (by decide) (fun K hK => ?_)
  have hs11 : w10.cell? ⟨gb218, 0, none⟩ = some (.int .u64 0) := (blk_cell BK218.out 0).trans rfl
  have hfs11 := blk_frozen BK218.out 0
  have hns11_0 := NB217_218.out
  have hms11_0 := NB218_217.out
  have hs12 : w10.cell? ⟨gb218, 1, none⟩ = some (.int .u64 0) := (blk_cell BK218.out 1).trans rfl
  have hfs12 := blk_frozen BK218.out 1
  have hns12_0 := NB217_218.out
  have hms12_0 := NB218_217.out
  refine skip_ (w1 := ?_) (by rfl) rfl ?_ ?_
  rotate_left
  ·go_simp
   rfl
  refine hK.out _ _ ⟨((cell_far (p := ⟨gb218, _, none⟩) NB217_218.out _).trans (((cell_far (p := ⟨gb218, _, none⟩) NB217_218.out _).trans (hHeld.1)))), ((cell_far (p := ⟨gb218, _, none⟩) NB217_218.out _).trans (((cell_far (p := ⟨gb218, _, none⟩) NB217_218.out _).trans (hHeld.2))))⟩ (fun hHeld => ?_)
  clear hK K
  refine done_ (done_of HT_.out (by kernel_rfl)) ?_
  try go_wp2
  refine bodyPost_ret (results_cell_row rfl _ _ gb218 91 #[.int .u64 t219, .int .u64 t220] (0, 0) _ rfl (by (with_reducible repeat refine bl ?_); refine blk_put (cs := #[.int .u64 t219, .int .u64 0]) ?_ 1 _ rfl; (with_reducible repeat refine bl ?_); refine blk_put (cs := #[.int .u64 0, .int .u64 0]) ?_ 0 _ rfl; (with_reducible repeat refine bl ?_); exact BK218.out) Try.underlying91 rfl (by kernel_rfl)) rfl ?_
  exact ⟨by first | rfl | (simp [errW_none, errW_some] <;> rfl) | (simp [*, errW_none, errW_some] <;> rfl), bq HB.out⟩
 ·rw [if_neg c3] at H
  have c3b0 : decide (a0 < 6) = false := decide_eq_false c3
  clear c3
  replace H := Option.bind_eq_some_iff.mp H
  obtain ⟨t221, A130, H⟩ := H
  replace H : (some (Go.bits .xor .u64 a1_1 t221, a1_0)) = some (r1, r2) := H
  have A13 := Aside0.mk A130
  clear A130
  simp only [Option.some.injEq, Prod.mk.injEq] at H
  obtain ⟨rfl, rfl⟩ := H
  go_enter Try.func78, Try.ntmps78
  try go_wp2_with (first | ((with_reducible refine gate_dst (N := 3) rfl ?_); refine box_event ?hg (N := 3) ?hd (cs := #[.int .u64 a1_0, .int .u64 a1_1]) (t := 91) ?hr ?_; (case hd => rfl); (case hg => rfl); (case hr => first | (go_simp; done) | (go_simp; rfl)); intro gb217 hg w14 hbox hb; have BK217 := Aside0.mk hbox; have GW217 := ge hg HB; have GE217 := ge hg HB; replace HB := bh HB hb; clear hb hbox hg) | ((with_reducible refine gate_dst (N := 4) rfl ?_); refine box_event ?hg (N := 4) ?hd (cs := #[.int .u64 0, .int .u64 0]) (t := 91) ?hr ?_; (case hd => rfl); (case hg => rfl); (case hr => first | (go_simp; done) | (go_simp; rfl)); intro gb218 hg w15 hbox hb; have BK218 := Aside0.mk hbox; have GW218 := ge hg HB; have GE218 := ge hg HB; have NB217_218 := nl hg BK217; have NB218_217 := ng hg BK217; replace BK217 := bb BK217 hb; replace HB := bh HB hb; clear hb hbox hg))
  replace BK217 := Aside0.mk (blk_drew BK217.out)
  replace BK218 := Aside0.mk (blk_drew BK218.out)
  replace HB := Aside0.mk (below_drew1 HB.out)
  refine start_ (n := 10) (S := fun w' => w'.cell? ⟨gb217, 0, none⟩ = some (.int .u64 a1_0) ∧ w'.cell? ⟨gb217, 1, none⟩ = some (.int .u64 a1_1)) (ds := []) #[false, false, false, false, false, false, false, false, false, false] (by kernel_rfl) rfl rfl ⟨(blk_cell BK217.out 0).trans rfl, (blk_cell BK217.out 1).trans rfl⟩ (fun hHeld => ?_); refine with_tabW steepleref02_Times.tab3 steepleref02_Times.bits3 (fun HT_ HW_ => ?_)
  generalize w15.drew = w16 at BK217 BK218 HB hHeld ⊢
  refine pure_ (i := 0) (N := some 16) (v := ?_) (a' := ?_) #[true, false, false, false, false, false, false, false, false, false] rfl rfl (any_of HT_.out (by kernel_rfl)) (fun _ _ _ h => h) (Or.inl ⟨by rfl, ?_⟩) ?_ ?_
  rotate_left
  ·intro w'
   go_simp
   with_reducible rfl
  rotate_left
  ·simp only [Act.put, List.setIfInBounds_toArray, List.set_cons_zero, List.set_cons_succ, i64_w, i32_w]
   rfl
  refine pure_ (i := 2) (N := some 18) (v := ?_) (a' := ?_) #[true, false, true, false, false, false, false, false, false, false] rfl rfl (any_of HT_.out (by kernel_rfl)) (fun _ _ _ h => h) (Or.inl ⟨by rfl, ?_⟩) ?_ ?_
  rotate_left
  ·intro w'
   go_simp
   with_reducible rfl
  rotate_left
  ·simp only [Act.put, List.setIfInBounds_toArray, List.set_cons_zero, List.set_cons_succ, i64_w, i32_w]
   rfl
  refine pure_ (i := 6) (N := some 22) (v := ?_) (a' := ?_) #[true, false, true, false, false, false, true, false, false, false] rfl rfl (any_of HT_.out (by kernel_rfl)) (fun _ _ _ h => h) (Or.inl ⟨by rfl, ?_⟩) ?_ ?_
  rotate_left
  ·intro w'
   go_simp
   with_reducible rfl
  rotate_left
  ·simp only [Act.put, List.setIfInBounds_toArray, List.set_cons_zero, List.set_cons_succ, i64_w, i32_w]
   rfl
  refine take_ (i := 1) (N := some 17) (v := ?_) (a' := ?_) #[true, true, true, false, false, false, true, false, false, false] rfl rfl (take_ofW HT_.out HW_.out (by kernel_rfl)) (fun _ _ _ h => h) (Or.inl ⟨by rfl, ?_⟩) hHeld ?_ ?_
  rotate_left
  ·rintro w' ⟨s0, s1⟩
   go_simp
   with_reducible rfl
  rotate_left
  ·simp only [Act.put, List.setIfInBounds_toArray, List.set_cons_zero, List.set_cons_succ, i64_w, i32_w]
   rfl
  refine take_ (i := 3) (N := some 19) (v := ?_) (a' := ?_) #[true, true, true, true, false, false, true, false, false, false] rfl rfl (take_ofW HT_.out HW_.out (by kernel_rfl)) (fun _ _ _ h => h) (Or.inl ⟨by rfl, ?_⟩) hHeld ?_ ?_
  rotate_left
  ·rintro w' ⟨s0, s1⟩
   go_simp
   with_reducible rfl
  rotate_left
  ·simp only [Act.put, List.setIfInBounds_toArray, List.set_cons_zero, List.set_cons_succ, i64_w, i32_w]
   rfl
  refine take_ (i := 7) (N := some 23) (v := ?_) (a' := ?_) #[true, true, true, true, false, false, true, true, false, false] rfl rfl (take_ofW HT_.out HW_.out (by kernel_rfl)) (fun _ _ _ h => h) (Or.inl ⟨by rfl, ?_⟩) hHeld ?_ ?_
  rotate_left
  ·rintro w' ⟨s0, s1⟩
   go_simp
   with_reducible rfl
  rotate_left
  ·simp only [Act.put, List.setIfInBounds_toArray, List.set_cons_zero, List.set_cons_succ, i64_w, i32_w]
   rfl
  refine one_ (i := 4) (N := some 20) #[true, true, true, true, true, false, true, true, false, false] rfl rfl (one_of HT_.out (by kernel_rfl)) (by decide) (fun K hK => ?_)
  refine goes_ Try.func94 (by kernel_rfl) rfl #[.int .i64 5, .int .u64 a1_0] (by rfl) rfl rfl (by (try simp only [List.map_toArray, List.map_cons, List.map_nil]); first | done | rfl | (simp only [List.length_drop, List.length_take]; rfl)) ?_
  with_reducible refine (steepleref02_timesWord.calls k 5 a1_0 t221 _ A13.out).mono ?_
  rintro e w17 ⟨rfl, hb⟩
  refine ⟨_, rfl, ?_⟩
  replace BK217 := bb BK217 hb
  replace BK218 := bb BK218 hb
  replace HB := bh HB hb
  (try clear hb)
  (try clear hb2)
  (try clear hk)
  (try clear hi)
  refine hK.out _ _ ⟨(blk_cell BK217.out 0).trans rfl, (blk_cell BK217.out 1).trans rfl⟩ (fun hHeld => ?_)
  clear hK K
  refine norm_ (a' := ?_) ?_ ?_
  rotate_left
  ·show Act.put _ (some 20) _ = _
   simp only [Act.put, List.setIfInBounds_toArray, List.set_cons_zero, List.set_cons_succ, i64_w, i32_w]
   rfl
  refine pure_ (i := 5) (N := some 21) (v := ?_) (a' := ?_) #[true, true, true, true, true, true, true, true, false, false] rfl rfl (any_of HT_.out (by kernel_rfl)) (fun _ _ _ h => h) (Or.inl ⟨by rfl, ?_⟩) ?_ ?_
  rotate_left
  ·intro w'
   go_simp
   with_reducible rfl
  rotate_left
  ·simp only [Act.put, List.setIfInBounds_toArray, List.set_cons_zero, List.set_cons_succ, i64_w, i32_w]
   rfl
  refine pure_ (i := 8) (N := some 24) (v := ?_) (a' := ?_) #[true, true, true, true, true, true, true, true, true, false] rfl rfl (any_of HT_.out (by kernel_rfl)) (fun _ _ _ h => h) (Or.inl ⟨by rfl, ?_⟩) ?_ ?_
  rotate_left
  ·intro w'
   go_simp
   with_reducible rfl
  rotate_left
  ·simp only [Act.put, List.setIfInBounds_toArray, List.set_cons_zero, List.set_cons_succ, i64_w, i32_w]
   rfl
  refine one_ (i := 9) (N := none) #[true, true, true, true, true, true, true, true, true, true] rfl rfl (one_of HT_.out (by kernel_rfl)) (by decide) (fun K hK => ?_)
  have hs18 : w17.cell? ⟨gb218, 0, none⟩ = some (.int .u64 0) := (blk_cell BK218.out 0).trans rfl
  have hfs18 := blk_frozen BK218.out 0
  have hns18_0 := NB217_218.out
  have hms18_0 := NB218_217.out
  have hs19 : w17.cell? ⟨gb218, 1, none⟩ = some (.int .u64 0) := (blk_cell BK218.out 1).trans rfl
  have hfs19 := blk_frozen BK218.out 1
  have hns19_0 := NB217_218.out
  have hms19_0 := NB218_217.out
  refine skip_ (w1 := ?_) (by rfl) rfl ?_ ?_
  rotate_left
  ·go_simp
   rfl
  refine hK.out _ _ ⟨((cell_far (p := ⟨gb218, _, none⟩) NB217_218.out _).trans (((cell_far (p := ⟨gb218, _, none⟩) NB217_218.out _).trans (hHeld.1)))), ((cell_far (p := ⟨gb218, _, none⟩) NB217_218.out _).trans (((cell_far (p := ⟨gb218, _, none⟩) NB217_218.out _).trans (hHeld.2))))⟩ (fun hHeld => ?_)
  clear hK K
  refine done_ (done_of HT_.out (by kernel_rfl)) ?_
  try go_wp2
  refine bodyPost_ret (results_cell_row rfl _ _ gb218 91 #[.int .u64 (Go.bits .xor .u64 a1_1 t221), .int .u64 a1_0] (0, 0) _ rfl (by (with_reducible repeat refine bl ?_); refine blk_put (cs := #[.int .u64 (Go.bits .xor .u64 a1_1 t221), .int .u64 0]) ?_ 1 _ rfl; (with_reducible repeat refine bl ?_); refine blk_put (cs := #[.int .u64 0, .int .u64 0]) ?_ 0 _ rfl; (with_reducible repeat refine bl ?_); exact BK218.out) Try.underlying91 rfl (by kernel_rfl)) rfl ?_
  exact ⟨by first | rfl | (simp [errW_none, errW_some] <;> rfl) | (simp [*, errW_none, errW_some] <;> rfl), bq HB.out⟩

/-! ### steepleref02_Add: function 79 -/
def steepleref02_Add.f (a0_0 : Int) (a0_1 : Int) (a1_0 : Int) (a1_1 : Int) : Option (Int × Int) := some (Go.bits .xor .u64 a0_0 a1_0, Go.bits .xor .u64 a0_1 a1_1)
set_option maxHeartbeats 8000000 in
set_option maxRecDepth 100000 in
theorem steepleref02_Add.calls (a0_0 : Int) (a0_1 : Int) (a1_0 : Int) (a1_1 : Int) (r1 : Int) (r2 : Int) (w : World) (h : steepleref02_Add.f a0_0 a0_1 a1_0 a1_1 = some (r1, r2)) :
  Calls Try.prog 79 #[.agg #[.int .u64 a0_0, .int .u64 a0_1], .agg #[.int .u64 a1_0, .int .u64 a1_1]] w fun e w' => e = .returned (.agg #[.int .u64 r1, .int .u64 r2]) ∧ Below w.heap.size w w' := by
 have hu91 := Try.underlying91
 have HB := Aside0.mk (Below.refl w.heap.size w)
 have H : (some (Go.bits .xor .u64 a0_0 a1_0, Go.bits .xor .u64 a0_1 a1_1)) = some (r1, r2) := h
 clear h
 simp only [Option.some.injEq, Prod.mk.injEq] at H
 obtain ⟨rfl, rfl⟩ := H
 go_enter Try.func79, Try.ntmps79
 go_wp2_with (first | ((with_reducible refine gate_dst (N := 2) rfl ?_); refine box_event ?hg (N := 2) ?hd (cs := #[.int .u64 a0_0, .int .u64 a0_1]) (t := 91) ?hr ?_; (case hd => rfl); (case hg => rfl); (case hr => first | (go_simp; done) | (go_simp; rfl)); intro gb222 hg w3 hbox hb; have BK222 := Aside0.mk hbox; have GW222 := ge hg HB; have GE222 := ge hg HB; replace HB := bh HB hb; clear hb hbox hg) | ((with_reducible refine gate_dst (N := 3) rfl ?_); refine box_event ?hg (N := 3) ?hd (cs := #[.int .u64 a1_0, .int .u64 a1_1]) (t := 91) ?hr ?_; (case hd => rfl); (case hg => rfl); (case hr => first | (go_simp; done) | (go_simp; rfl)); intro gb223 hg w4 hbox hb; have BK223 := Aside0.mk hbox; have GW223 := ge hg HB; have GE223 := ge hg HB; have NB222_223 := nl hg BK222; have NB223_222 := ng hg BK222; replace BK222 := bb BK222 hb; replace HB := bh HB hb; clear hb hbox hg) | ((with_reducible refine gate_dst (N := 4) rfl ?_); refine box_event ?hg (N := 4) ?hd (cs := #[.int .u64 0, .int .u64 0]) (t := 91) ?hr ?_; (case hd => rfl); (case hg => rfl); (case hr => first | (go_simp; done) | (go_simp; rfl)); intro gb224 hg w5 hbox hb; have BK224 := Aside0.mk hbox; have GW224 := ge hg HB; have GE224 := ge hg HB; have NB222_224 := nl hg BK222; have NB224_222 := ng hg BK222; have NB223_224 := nl hg BK223; have NB224_223 := ng hg BK223; replace BK222 := bb BK222 hb; replace BK223 := bb BK223 hb; replace HB := bh HB hb; clear hb hbox hg; have hnb6 := NB222_223.out; have hnc6 := NB223_222.out; have hnb7 := NB222_224.out; have hnc7 := NB224_222.out; obtain ⟨hcz8_0, hcz8_1⟩ := zc2 BK222; obtain ⟨hfz8_0, hfz8_1⟩ := zf2 BK222; have hnb9 := NB223_224.out; have hnc9 := NB224_223.out; obtain ⟨hcz10_0, hcz10_1⟩ := zc2 BK223; obtain ⟨hfz10_0, hfz10_1⟩ := zf2 BK223; obtain ⟨hcz11_0, hcz11_1⟩ := zc2 BK224; obtain ⟨hfz11_0, hfz11_1⟩ := zf2 BK224))
 refine bodyPost_ret (results_cell_row rfl _ _ gb224 91 #[.int .u64 (Go.bits .xor .u64 a0_0 a1_0), .int .u64 (Go.bits .xor .u64 a0_1 a1_1)] (0, 0) _ rfl (by (with_reducible repeat refine bl ?_); refine blk_put (cs := #[.int .u64 (Go.bits .xor .u64 a0_0 a1_0), .int .u64 0]) ?_ 1 _ rfl; (with_reducible repeat refine bl ?_); refine blk_put (cs := #[.int .u64 0, .int .u64 0]) ?_ 0 _ rfl; (with_reducible repeat refine bl ?_); exact BK224.out) Try.underlying91 rfl (by kernel_rfl)) rfl ?_
 exact ⟨by first | rfl | (simp [errW_none, errW_some] <;> rfl) | (simp [*, errW_none, errW_some] <;> rfl), bq HB.out⟩

/-! ### steepleref02_Product: function 55 -/
mutual
def steepleref02_Product.l0 : Nat → Int → Int → Int → Int → Int → Int → Int → Option (Int × Int)
 | 0, _, _, _, _, _, _, _ => none
 | k + 1, x6, x226000, x226001, x227000, x227001, x229000, x229001 => if x6 < 128 then ((steepleref02_Has.f k x227000 x227001 x6).bind fun t229 => (if t229 = true then (steepleref02_Product.l1 k x6 0 x226000 x226001 x227000 x227001 x229000 x229001 x226000 x226001) else (steepleref02_Product.l0 k (wrap64 (x6 + 1)) x226000 x226001 x227000 x227001 x229000 x229001))) else (some (x229000, x229001))
def steepleref02_Product.l1 : Nat → Int → Int → Int → Int → Int → Int → Int → Int → Int → Int → Option (Int × Int)
 | 0, _, _, _, _, _, _, _, _, _, _ => none
 | k + 1, x6, x8, x226000, x226001, x227000, x227001, x229000, x229001, x231000, x231001 => if x8 < 7 then (if 0 ≤ (IntKind.u64.wrap (x8)) then (if (Go.bits .and .i64 (shr .i64 x6 (IntKind.u64.wrap (x8))) 1) = 1 then ((steepleref02_Times.f k x8 x231000 x231001).bind fun bt231 => (steepleref02_Product.l1 k x6 (wrap64 (x8 + 1)) x226000 x226001 x227000 x227001 x229000 x229001 bt231.1 bt231.2)) else (steepleref02_Product.l1 k x6 (wrap64 (x8 + 1)) x226000 x226001 x227000 x227001 x229000 x229001 x231000 x231001)) else (none)) else ((steepleref02_Add.f x229000 x229001 x231000 x231001).bind fun bt233 => (steepleref02_Product.l0 k (wrap64 (x6 + 1)) x226000 x226001 x227000 x227001 bt233.1 bt233.2))
end
def steepleref02_Product.f (k : Nat) (a0_0 : Int) (a0_1 : Int) (a1_0 : Int) (a1_1 : Int) : Option (Int × Int) := steepleref02_Product.l0 k 0 a0_0 a0_1 a1_0 a1_1 0 0
set_option maxHeartbeats 8000000 in
set_option maxRecDepth 100000 in
theorem steepleref02_Product.calls (k : Nat) (a0_0 : Int) (a0_1 : Int) (a1_0 : Int) (a1_1 : Int) (r1 : Int) (r2 : Int) (w : World) (h : steepleref02_Product.f k a0_0 a0_1 a1_0 a1_1 = some (r1, r2)) :
  Calls Try.prog 55 #[.agg #[.int .u64 a0_0, .int .u64 a0_1], .agg #[.int .u64 a1_0, .int .u64 a1_1]] w fun e w' => e = .returned (.agg #[.int .u64 r1, .int .u64 r2]) ∧ Below w.heap.size w w' := by
 have hu91 := Try.underlying91
 have HB := Aside0.mk (Below.refl w.heap.size w)
 have H : (steepleref02_Product.l0 k 0 a0_0 a0_1 a1_0 a1_1 0 0) = some (r1, r2) := h
 clear h
 have H' := Aside0.mk H
 clear H
 go_enter Try.func55, Try.ntmps55
 go_wp2_with (first | ((with_reducible refine gate_dst (N := 2) rfl ?_); refine box_event ?hg (N := 2) ?hd (cs := #[.int .u64 a0_0, .int .u64 a0_1]) (t := 91) ?hr ?_; (case hd => rfl); (case hg => rfl); (case hr => first | (go_simp; done) | (go_simp; rfl)); intro gb225 hg w3 hbox hb; have BK225 := Aside0.mk hbox; have GW225 := ge hg HB; have GE225 := ge hg HB; replace HB := bh HB hb; clear hb hbox hg) | ((with_reducible refine gate_dst (N := 3) rfl ?_); refine box_event ?hg (N := 3) ?hd (cs := #[.int .u64 a1_0, .int .u64 a1_1]) (t := 91) ?hr ?_; (case hd => rfl); (case hg => rfl); (case hr => first | (go_simp; done) | (go_simp; rfl)); intro gb226 hg w4 hbox hb; have BK226 := Aside0.mk hbox; have GW226 := ge hg HB; have GE226 := ge hg HB; have NB225_226 := nl hg BK225; have NB226_225 := ng hg BK225; replace BK225 := bb BK225 hb; replace HB := bh HB hb; clear hb hbox hg) | ((with_reducible refine gate_dst (N := 4) rfl ?_); refine box_event ?hg (N := 4) ?hd (cs := #[.int .u64 0, .int .u64 0]) (t := 91) ?hr ?_; (case hd => rfl); (case hg => rfl); (case hr => first | (go_simp; done) | (go_simp; rfl)); intro gb227 hg w5 hbox hb; have BK227 := Aside0.mk hbox; have GW227 := ge hg HB; have GE227 := ge hg HB; have NB225_227 := nl hg BK225; have NB227_225 := ng hg BK225; have NB226_227 := nl hg BK226; have NB227_226 := ng hg BK226; replace BK225 := bb BK225 hb; replace BK226 := bb BK226 hb; replace HB := bh HB hb; clear hb hbox hg) | ((with_reducible refine gate_dst (N := 5) rfl ?_); refine box_event ?hg (N := 5) ?hd (cs := #[.int .u64 0, .int .u64 0]) (t := 91) ?hr ?_; (case hd => rfl); (case hg => rfl); (case hr => first | (go_simp; done) | (go_simp; rfl)); intro gb228 hg w6 hbox hb; have BK228 := Aside0.mk hbox; have GW228 := ge hg HB; have GE228 := ge hg HB; have NB225_228 := nl hg BK225; have NB228_225 := ng hg BK225; have NB226_228 := nl hg BK226; have NB228_226 := ng hg BK226; have NB227_228 := nl hg BK227; have NB228_227 := ng hg BK227; replace BK225 := bb BK225 hb; replace BK226 := bb BK226 hb; replace BK227 := bb BK227 hb; replace HB := bh HB hb; clear hb hbox hg))
 go_loopg [6] k (fun kq v6 w' => ∃ (x6_1 : Int) (x229000_1 : Int) (x229001_1 : Int), v6 = .int .i64 x6_1 ∧ Aside0 (steepleref02_Product.l0 kq x6_1 a0_0 a0_1 a1_0 a1_1 x229000_1 x229001_1 = some (r1, r2)) ∧ Aside0 (kq ≤ k) ∧ Aside0 (w'.heap[gb225]? = some (.cells #[.int .u64 a0_0, .int .u64 a0_1] 91 (0, 0))) ∧ Aside0 (w'.heap[gb226]? = some (.cells #[.int .u64 a1_0, .int .u64 a1_1] 91 (0, 0))) ∧ Aside0 (w'.heap[gb227]? = some (.cells #[.int .u64 0, .int .u64 0] 91 (0, 0))) ∧ Aside0 (w'.heap[gb228]? = some (.cells #[.int .u64 x229000_1, .int .u64 x229001_1] 91 (0, 0))) ∧ Aside0 (Below w.heap.size w w'))
 case atStart => exact ⟨(0), (0), (0), (by first | rfl | (simp; done) | (simp [*]; done)), H', ⟨Nat.le_refl _⟩, ⟨bk BK225.out⟩, ⟨bk BK226.out⟩, ⟨bk BK227.out⟩, ⟨bk BK228.out⟩, ⟨bq HB.out⟩⟩
 case round =>
  clear H'
  try clear p2
  try clear c5
  obtain ⟨x6_1, x229000_1, x229001_1, rfl, HA, HK1, BK225, BK226, BK227, BK228, HB⟩ := hrel
  cases gk with
  | zero => exact absurd HA.out (by simp [steepleref02_Product.l0])
  | succ k1 =>
   have H := HA.out
   clear HA
   simp only [steepleref02_Product.l0] at H
   by_cases c7 : x6_1 < 128
   ·rw [if_pos c7] at H
    have c7b0 : decide (x6_1 < 128) = true := decide_eq_true c7
    clear c7
    replace H := Option.bind_eq_some_iff.mp H
    obtain ⟨t229, A80, H⟩ := H
    replace H : (if t229 = true then (steepleref02_Product.l1 k1 x6_1 0 a0_0 a0_1 a1_0 a1_1 x229000_1 x229001_1 a0_0 a0_1) else (steepleref02_Product.l0 k1 (wrap64 (x6_1 + 1)) a0_0 a0_1 a1_0 a1_1 x229000_1 x229001_1)) = some (r1, r2) := H
    have A8 := Aside0.mk A80
    clear A80
    by_cases c9 : t229 = true
    ·subst c9
     have H1 : (steepleref02_Product.l1 k1 x6_1 0 a0_0 a0_1 a1_0 a1_1 x229000_1 x229001_1 a0_0 a0_1) = some (r1, r2) := by rw [if_pos rfl] at H; exact H
     clear H
     have H := H1
     clear H1
     have H' := Aside0.mk H
     clear H
     have hnb10 := NB226_225.out
     have hnc10 := NB225_226.out
     have hnb11 := NB226_227.out
     have hnc11 := NB227_226.out
     have hnb12 := NB226_228.out
     have hnc12 := NB228_226.out
     obtain ⟨hcz13_0, hcz13_1⟩ := zc2 BK226
     obtain ⟨hfz13_0, hfz13_1⟩ := zf2 BK226
     go_wp2_with (first | ((with_reducible refine gate_callee (f := 77) rfl ?_); refine goesL_ (some 15) rfl rfl Try.func77 (by kernel_rfl) rfl #[.agg #[.int .u64 a1_0, .int .u64 a1_1], .int .i64 x6_1] rfl (by (try simp only [List.map_toArray, List.map_cons, List.map_nil]); first | done | rfl | (simp only [List.length_drop, List.length_take]; rfl)) ?_; (with_reducible refine (steepleref02_Has.calls k1 a1_0 a1_1 x6_1 true _ A8.out).mono ?_); rintro e w14 ⟨rfl, hb⟩; refine ⟨_, rfl, ?_⟩; replace BK225 := bb BK225 hb; replace BK226 := bb BK226 hb; replace BK227 := bb BK227 hb; replace BK228 := bb BK228 hb; replace HB := bh HB hb; (try clear hb); (try clear hb2); (try clear hk); (try clear hi); have hnb15 := NB225_227.out; have hnc15 := NB227_225.out; have hnb16 := NB225_228.out; have hnc16 := NB228_225.out; obtain ⟨hcz17_0, hcz17_1⟩ := zc2 BK225; obtain ⟨hfz17_0, hfz17_1⟩ := zf2 BK225) | ((with_reducible refine gate_dst (N := 7) rfl ?_); refine box_event ?hg (N := 7) ?hd (cs := #[.int .u64 0, .int .u64 0]) (t := 91) ?hr ?_; (case hd => rfl); (case hg => rfl); (case hr => first | (go_simp; done) | (go_simp; rfl)); intro gb230 hg w18 hbox hb; have BK230 := Aside0.mk hbox; have GW230 := ge hg HB; have GE230 := ge hg HB; have NB225_230 := nl hg BK225; have NB230_225 := ng hg BK225; have NB226_230 := nl hg BK226; have NB230_226 := ng hg BK226; have NB227_230 := nl hg BK227; have NB230_227 := ng hg BK227; have NB228_230 := nl hg BK228; have NB230_228 := ng hg BK228; replace BK225 := bb BK225 hb; replace BK226 := bb BK226 hb; replace BK227 := bb BK227 hb; replace BK228 := bb BK228 hb; replace HB := bh HB hb; clear hb hbox hg; have hnb19 := NB230_225.out; have hnc19 := NB225_230.out; have hnb20 := NB230_226.out; have hnc20 := NB226_230.out; have hnb21 := NB230_227.out; have hnc21 := NB227_230.out; have hnb22 := NB230_228.out; have hnc22 := NB228_230.out; obtain ⟨hcz23_0, hcz23_1⟩ := zc2 BK230; obtain ⟨hfz23_0, hfz23_1⟩ := zf2 BK230))
     go_loopg [8] k1 (fun kq v8 w' => ∃ (x8_2 : Int) (x231000_2 : Int) (x231001_2 : Int), v8 = .int .i64 x8_2 ∧ Aside0 (steepleref02_Product.l1 kq x6_1 x8_2 a0_0 a0_1 a1_0 a1_1 x229000_1 x229001_1 x231000_2 x231001_2 = some (r1, r2)) ∧ Aside0 (kq ≤ k1) ∧ Aside0 (w'.heap[gb225]? = some (.cells #[.int .u64 a0_0, .int .u64 a0_1] 91 (0, 0))) ∧ Aside0 (w'.heap[gb226]? = some (.cells #[.int .u64 a1_0, .int .u64 a1_1] 91 (0, 0))) ∧ Aside0 (w'.heap[gb227]? = some (.cells #[.int .u64 0, .int .u64 0] 91 (0, 0))) ∧ Aside0 (w'.heap[gb228]? = some (.cells #[.int .u64 x229000_1, .int .u64 x229001_1] 91 (0, 0))) ∧ Aside0 (w'.heap[gb230]? = some (.cells #[.int .u64 x231000_2, .int .u64 x231001_2] 91 (0, 0))) ∧ Aside0 (Below w.heap.size w w'))
     case atStart => exact ⟨(0), (a0_0), (a0_1), (by first | rfl | (simp; done) | (simp [*]; done)), H', ⟨Nat.le_refl _⟩, ⟨by (with_reducible repeat refine bl ?_); refine blk_far ?_ NB225_230.out _; (with_reducible repeat refine bl ?_); refine blk_far ?_ NB225_230.out _; (with_reducible repeat refine bl ?_); exact BK225.out⟩, ⟨by (with_reducible repeat refine bl ?_); refine blk_far ?_ NB226_230.out _; (with_reducible repeat refine bl ?_); refine blk_far ?_ NB226_230.out _; (with_reducible repeat refine bl ?_); exact BK226.out⟩, ⟨by (with_reducible repeat refine bl ?_); refine blk_far ?_ NB227_230.out _; (with_reducible repeat refine bl ?_); refine blk_far ?_ NB227_230.out _; (with_reducible repeat refine bl ?_); exact BK227.out⟩, ⟨by (with_reducible repeat refine bl ?_); refine blk_far ?_ NB228_230.out _; (with_reducible repeat refine bl ?_); refine blk_far ?_ NB228_230.out _; (with_reducible repeat refine bl ?_); exact BK228.out⟩, ⟨by (with_reducible repeat refine bl ?_); refine blk_put (cs := #[.int .u64 a0_0, .int .u64 0]) ?_ 1 _ rfl; (with_reducible repeat refine bl ?_); refine blk_put (cs := #[.int .u64 0, .int .u64 0]) ?_ 0 _ rfl; (with_reducible repeat refine bl ?_); exact BK230.out⟩, ⟨bq HB.out⟩⟩
     case round =>
      clear H'
      try clear c1
      try clear c2
      try clear p2
      try clear c5
      try clear p6
      try clear c7
      try clear c7b0
      try clear c9
      try clear c10
      try clear c11
      try clear c12
      try clear c15
      try clear c16
      try clear c19
      try clear c20
      try clear c21
      try clear c22
      try clear hcz13_0
      try clear hcz13_1
      try clear hcz17_0
      try clear hcz17_1
      try clear hcz23_0
      try clear hcz23_1
      try clear hfz13_0
      try clear hfz13_1
      try clear hfz17_0
      try clear hfz17_1
      try clear hfz23_0
      try clear hfz23_1
      try clear p2
      obtain ⟨x8_2, x231000_2, x231001_2, rfl, HA, HK2, BK225, BK226, BK227, BK228, BK230, HB⟩ := hrel
      cases gk with
      | zero => exact absurd HA.out (by simp [steepleref02_Product.l1])
      | succ k2 =>
       have H := HA.out
       clear HA
       simp only [steepleref02_Product.l1] at H
       by_cases c24 : x8_2 < 7
       ·rw [if_pos c24] at H
        have c24b0 : decide (x8_2 < 7) = true := decide_eq_true c24
        clear c24
        obtain ⟨ji25, hji25⟩ : ∃ j_ : Int, (IntKind.u64.wrap (x8_2)) = j_ := ⟨_, rfl⟩
        replace H : (if 0 ≤ (ji25) then (if (Go.bits .and .i64 (shr .i64 x6_1 (ji25)) 1) = 1 then ((steepleref02_Times.f k2 x8_2 x231000_2 x231001_2).bind fun bt231 => (steepleref02_Product.l1 k2 x6_1 (wrap64 (x8_2 + 1)) a0_0 a0_1 a1_0 a1_1 x229000_1 x229001_1 bt231.1 bt231.2)) else (steepleref02_Product.l1 k2 x6_1 (wrap64 (x8_2 + 1)) a0_0 a0_1 a1_0 a1_1 x229000_1 x229001_1 x231000_2 x231001_2)) else (none)) = some (r1, r2) := by first | (rw [hji25] at H; exact H) | (simp only [hji25] at H ⊢; exact H)
        by_cases c26 : 0 ≤ (ji25)
        ·rw [if_pos c26] at H
         have c26b0 := eq_true c26
         have c26b1 : decide (0 ≤ (ji25)) = true := decide_eq_true c26
         clear c26
         obtain ⟨ji27, hji27⟩ : ∃ j_ : Int, (shr .i64 x6_1 (ji25)) = j_ := ⟨_, rfl⟩
         replace H : (if (Go.bits .and .i64 (ji27) 1) = 1 then ((steepleref02_Times.f k2 x8_2 x231000_2 x231001_2).bind fun bt231 => (steepleref02_Product.l1 k2 x6_1 (wrap64 (x8_2 + 1)) a0_0 a0_1 a1_0 a1_1 x229000_1 x229001_1 bt231.1 bt231.2)) else (steepleref02_Product.l1 k2 x6_1 (wrap64 (x8_2 + 1)) a0_0 a0_1 a1_0 a1_1 x229000_1 x229001_1 x231000_2 x231001_2)) = some (r1, r2) := by first | (rw [hji27] at H; exact H) | (simp only [hji27] at H ⊢; exact H)
         have hji27_ : (x6_1 / 2 ^ min (ji25).toNat 64) = ji27 := hji27
         have hji27z : (ji25) ≤ 64 → (x6_1 / 2 ^ (ji25).toNat) = ji27 := shr_small hji27
         by_cases c28 : (Go.bits .and .i64 (ji27) 1) = 1
         ·rw [if_pos c28] at H
          have c28b0 : ((Go.bits .and .i64 (ji27) 1) == 1) = true := beq_iff_eq.mpr c28
          have c28b1 : ((Go.bits .and .i64 (ji27) 1) != 1) = false := bne_eq_false_iff_eq.mpr c28
          clear c28
          replace H := Option.bind_eq_some_iff.mp H
          obtain ⟨⟨t231, t232⟩, A290, H⟩ := H
          replace H : (steepleref02_Product.l1 k2 x6_1 (wrap64 (x8_2 + 1)) a0_0 a0_1 a1_0 a1_1 x229000_1 x229001_1 t231 t232) = some (r1, r2) := H
          have A29 := Aside0.mk A290
          clear A290
          have H' := Aside0.mk H
          clear H
          have hnb30 := NB230_225.out
          have hnc30 := NB225_230.out
          have hnb31 := NB230_226.out
          have hnc31 := NB226_230.out
          have hnb32 := NB230_227.out
          have hnc32 := NB227_230.out
          have hnb33 := NB230_228.out
          have hnc33 := NB228_230.out
          obtain ⟨hcz34_0, hcz34_1⟩ := zc2 BK230
          obtain ⟨hfz34_0, hfz34_1⟩ := zf2 BK230
          go_wp2_with (first | ((with_reducible refine gate_callee (f := 78) rfl ?_); refine goesL_ (some 30) rfl rfl Try.func78 (by kernel_rfl) rfl #[.int .i64 x8_2, .agg #[.int .u64 x231000_2, .int .u64 x231001_2]] rfl (by (try simp only [List.map_toArray, List.map_cons, List.map_nil]); first | done | rfl | (simp only [List.length_drop, List.length_take]; rfl)) ?_; (with_reducible refine (steepleref02_Times.calls k2 x8_2 x231000_2 x231001_2 t231 t232 _ A29.out).mono ?_); rintro e w35 ⟨rfl, hb⟩; refine ⟨_, rfl, ?_⟩; replace BK225 := bb BK225 hb; replace BK226 := bb BK226 hb; replace BK227 := bb BK227 hb; replace BK228 := bb BK228 hb; replace BK230 := bb BK230 hb; replace HB := bh HB hb; (try clear hb); (try clear hb2); (try clear hk); (try clear hi); obtain ⟨hcz36_0, hcz36_1⟩ := zc2 BK230; obtain ⟨hfz36_0, hfz36_1⟩ := zf2 BK230))
          go_roundg k2
          case measure => have := HK1.out; have := HK2.out; omega
          case rel => exact ⟨(wrap64 (x8_2 + 1)), (t231), (t232), (by first | rfl | (simp; done) | (simp [*]; done)), H', ⟨by have := HK1.out; have := HK2.out; omega⟩, ⟨by (with_reducible repeat refine bl ?_); refine blk_far ?_ NB225_230.out _; (with_reducible repeat refine bl ?_); refine blk_far ?_ NB225_230.out _; (with_reducible repeat refine bl ?_); exact BK225.out⟩, ⟨by (with_reducible repeat refine bl ?_); refine blk_far ?_ NB226_230.out _; (with_reducible repeat refine bl ?_); refine blk_far ?_ NB226_230.out _; (with_reducible repeat refine bl ?_); exact BK226.out⟩, ⟨by (with_reducible repeat refine bl ?_); refine blk_far ?_ NB227_230.out _; (with_reducible repeat refine bl ?_); refine blk_far ?_ NB227_230.out _; (with_reducible repeat refine bl ?_); exact BK227.out⟩, ⟨by (with_reducible repeat refine bl ?_); refine blk_far ?_ NB228_230.out _; (with_reducible repeat refine bl ?_); refine blk_far ?_ NB228_230.out _; (with_reducible repeat refine bl ?_); exact BK228.out⟩, ⟨by (with_reducible repeat refine bl ?_); refine blk_put (cs := #[.int .u64 t231, .int .u64 x231001_2]) ?_ 1 _ rfl; (with_reducible repeat refine bl ?_); refine blk_put (cs := #[.int .u64 x231000_2, .int .u64 x231001_2]) ?_ 0 _ rfl; (with_reducible repeat refine bl ?_); exact BK230.out⟩, ⟨bq HB.out⟩⟩
         ·rw [if_neg c28] at H
          have c28b0 : ((Go.bits .and .i64 (ji27) 1) == 1) = false := beq_eq_false_iff_ne.mpr c28
          have c28b1 : ((Go.bits .and .i64 (ji27) 1) != 1) = true := bne_iff_ne.mpr c28
          have H' := Aside0.mk H
          clear H
          go_wp2
          go_roundg k2
          case measure => have := HK1.out; have := HK2.out; omega
          case rel => exact ⟨(wrap64 (x8_2 + 1)), (x231000_2), (x231001_2), (by first | rfl | (simp; done) | (simp [*]; done)), H', ⟨by have := HK1.out; have := HK2.out; omega⟩, ⟨bk BK225.out⟩, ⟨bk BK226.out⟩, ⟨bk BK227.out⟩, ⟨bk BK228.out⟩, ⟨bk BK230.out⟩, ⟨bq HB.out⟩⟩
        ·rw [if_neg c26] at H
         exact absurd H (by simp)
       ·rw [if_neg c24] at H
        have c24b0 : decide (x8_2 < 7) = false := decide_eq_false c24
        clear c24
        replace H := Option.bind_eq_some_iff.mp H
        obtain ⟨⟨t233, t234⟩, A370, H⟩ := H
        replace H : (steepleref02_Product.l0 k2 (wrap64 (x6_1 + 1)) a0_0 a0_1 a1_0 a1_1 t233 t234) = some (r1, r2) := H
        have A37 := Aside0.mk A370
        clear A370
        have H' := Aside0.mk H
        clear H
        have hnb38 := NB228_225.out
        have hnc38 := NB225_228.out
        have hnb39 := NB228_226.out
        have hnc39 := NB226_228.out
        have hnb40 := NB228_227.out
        have hnc40 := NB227_228.out
        have hnb41 := NB228_230.out
        have hnc41 := NB230_228.out
        obtain ⟨hcz42_0, hcz42_1⟩ := zc2 BK228
        obtain ⟨hfz42_0, hfz42_1⟩ := zf2 BK228
        have hnb43 := NB230_225.out
        have hnc43 := NB225_230.out
        have hnb44 := NB230_226.out
        have hnc44 := NB226_230.out
        have hnb45 := NB230_227.out
        have hnc45 := NB227_230.out
        obtain ⟨hcz46_0, hcz46_1⟩ := zc2 BK230
        obtain ⟨hfz46_0, hfz46_1⟩ := zf2 BK230
        go_wp2_with (first | ((with_reducible refine gate_callee (f := 79) rfl ?_); refine goesL_ (some 33) rfl rfl Try.func79 (by kernel_rfl) rfl #[.agg #[.int .u64 x229000_1, .int .u64 x229001_1], .agg #[.int .u64 x231000_2, .int .u64 x231001_2]] rfl (by (try simp only [List.map_toArray, List.map_cons, List.map_nil]); first | done | rfl | (simp only [List.length_drop, List.length_take]; rfl)) ?_; (with_reducible refine (steepleref02_Add.calls x229000_1 x229001_1 x231000_2 x231001_2 t233 t234 _ A37.out).mono ?_); rintro e w47 ⟨rfl, hb⟩; refine ⟨_, rfl, ?_⟩; replace BK225 := bb BK225 hb; replace BK226 := bb BK226 hb; replace BK227 := bb BK227 hb; replace BK228 := bb BK228 hb; replace BK230 := bb BK230 hb; replace HB := bh HB hb; (try clear hb); (try clear hb2); (try clear hk); (try clear hi); obtain ⟨hcz48_0, hcz48_1⟩ := zc2 BK228; obtain ⟨hfz48_0, hfz48_1⟩ := zf2 BK228))
        go_roundg k2
        case measure => have := HK1.out; have := HK2.out; omega
        case rel => exact ⟨(wrap64 (x6_1 + 1)), (t233), (t234), (by first | rfl | (simp; done) | (simp [*]; done)), H', ⟨by have := HK1.out; have := HK2.out; omega⟩, ⟨by (with_reducible repeat refine bl ?_); refine blk_far ?_ NB225_228.out _; (with_reducible repeat refine bl ?_); refine blk_far ?_ NB225_228.out _; (with_reducible repeat refine bl ?_); exact BK225.out⟩, ⟨by (with_reducible repeat refine bl ?_); refine blk_far ?_ NB226_228.out _; (with_reducible repeat refine bl ?_); refine blk_far ?_ NB226_228.out _; (with_reducible repeat refine bl ?_); exact BK226.out⟩, ⟨by (with_reducible repeat refine bl ?_); refine blk_far ?_ NB227_228.out _; (with_reducible repeat refine bl ?_); refine blk_far ?_ NB227_228.out _; (with_reducible repeat refine bl ?_); exact BK227.out⟩, ⟨by (with_reducible repeat refine bl ?_); refine blk_put (cs := #[.int .u64 t233, .int .u64 x229001_1]) ?_ 1 _ rfl; (with_reducible repeat refine bl ?_); refine blk_put (cs := #[.int .u64 x229000_1, .int .u64 x229001_1]) ?_ 0 _ rfl; (with_reducible repeat refine bl ?_); exact BK228.out⟩, ⟨bq HB.out⟩⟩
    ·replace c9 := Bool.eq_false_iff.mpr c9
     subst c9
     have H1 : (steepleref02_Product.l0 k1 (wrap64 (x6_1 + 1)) a0_0 a0_1 a1_0 a1_1 x229000_1 x229001_1) = some (r1, r2) := by rw [if_neg (show ¬ (false = true) by decide)] at H; exact H
     clear H
     have H := H1
     clear H1
     have H' := Aside0.mk H
     clear H
     have hnb49 := NB226_225.out
     have hnc49 := NB225_226.out
     have hnb50 := NB226_227.out
     have hnc50 := NB227_226.out
     have hnb51 := NB226_228.out
     have hnc51 := NB228_226.out
     obtain ⟨hcz52_0, hcz52_1⟩ := zc2 BK226
     obtain ⟨hfz52_0, hfz52_1⟩ := zf2 BK226
     go_wp2_with (first | ((with_reducible refine gate_callee (f := 77) rfl ?_); refine goesL_ (some 15) rfl rfl Try.func77 (by kernel_rfl) rfl #[.agg #[.int .u64 a1_0, .int .u64 a1_1], .int .i64 x6_1] rfl (by (try simp only [List.map_toArray, List.map_cons, List.map_nil]); first | done | rfl | (simp only [List.length_drop, List.length_take]; rfl)) ?_; (with_reducible refine (steepleref02_Has.calls k1 a1_0 a1_1 x6_1 false _ A8.out).mono ?_); rintro e w53 ⟨rfl, hb⟩; refine ⟨_, rfl, ?_⟩; replace BK225 := bb BK225 hb; replace BK226 := bb BK226 hb; replace BK227 := bb BK227 hb; replace BK228 := bb BK228 hb; replace HB := bh HB hb; (try clear hb); (try clear hb2); (try clear hk); (try clear hi)))
     go_roundg k1
     case measure => have := HK1.out; omega
     case rel => exact ⟨(wrap64 (x6_1 + 1)), (x229000_1), (x229001_1), (by first | rfl | (simp; done) | (simp [*]; done)), H', ⟨by have := HK1.out; omega⟩, ⟨bk BK225.out⟩, ⟨bk BK226.out⟩, ⟨bk BK227.out⟩, ⟨bk BK228.out⟩, ⟨bq HB.out⟩⟩
   ·rw [if_neg c7] at H
    have c7b0 : decide (x6_1 < 128) = false := decide_eq_false c7
    clear c7
    simp only [Option.some.injEq, Prod.mk.injEq] at H
    obtain ⟨rfl, rfl⟩ := H
    have hnb54 := NB228_225.out
    have hnc54 := NB225_228.out
    have hnb55 := NB228_226.out
    have hnc55 := NB226_228.out
    have hnb56 := NB228_227.out
    have hnc56 := NB227_228.out
    obtain ⟨hcz57_0, hcz57_1⟩ := zc2 BK228
    obtain ⟨hfz57_0, hfz57_1⟩ := zf2 BK228
    have hnb58 := NB227_225.out
    have hnc58 := NB225_227.out
    have hnb59 := NB227_226.out
    have hnc59 := NB226_227.out
    obtain ⟨hcz60_0, hcz60_1⟩ := zc2 BK227
    obtain ⟨hfz60_0, hfz60_1⟩ := zf2 BK227
    go_wp2
    refine bodyPost_ret (results_cell_row rfl _ _ gb227 91 #[.int .u64 x229000_1, .int .u64 x229001_1] (0, 0) _ rfl (by (with_reducible repeat refine bl ?_); refine blk_put (cs := #[.int .u64 x229000_1, .int .u64 0]) ?_ 1 _ rfl; (with_reducible repeat refine bl ?_); refine blk_put (cs := #[.int .u64 0, .int .u64 0]) ?_ 0 _ rfl; (with_reducible repeat refine bl ?_); exact BK227.out) Try.underlying91 rfl (by kernel_rfl)) rfl ?_
    exact ⟨by first | rfl | (simp [errW_none, errW_some] <;> rfl) | (simp [*, errW_none, errW_some] <;> rfl), bq HB.out⟩

/-! ### steepleref01_bit: function 92 -/
def steepleref01_bit.f (a0_0 : Int) (a0_1 : Int) (a1 : Int) : Option (Int) := if a1 ≥ 64 then (if 0 ≤ (IntKind.u64.wrap (wrap64 (a1 - 64))) then (some (Go.bits .and .u64 (shr .u64 a0_0 (IntKind.u64.wrap (wrap64 (a1 - 64)))) 1)) else (none)) else (if 0 ≤ (IntKind.u64.wrap (a1)) then (some (Go.bits .and .u64 (shr .u64 a0_1 (IntKind.u64.wrap (a1))) 1)) else (none))
set_option maxHeartbeats 8000000 in
set_option maxRecDepth 100000 in
theorem steepleref01_bit.calls (a0_0 : Int) (a0_1 : Int) (a1 : Int) (r : Int) (w : World) (h : steepleref01_bit.f a0_0 a0_1 a1 = some r) :
  Calls Try.prog 92 #[.agg #[.int .u64 a0_0, .int .u64 a0_1], .int .i64 a1] w fun e w' => e = .returned (.int .u64 r) ∧ Below w.heap.size w w' := by
 have hu91 := Try.underlying91
 have HB := Aside0.mk (Below.refl w.heap.size w)
 have H : (if a1 ≥ 64 then (if 0 ≤ (IntKind.u64.wrap (wrap64 (a1 - 64))) then (some (Go.bits .and .u64 (shr .u64 a0_0 (IntKind.u64.wrap (wrap64 (a1 - 64)))) 1)) else (none)) else (if 0 ≤ (IntKind.u64.wrap (a1)) then (some (Go.bits .and .u64 (shr .u64 a0_1 (IntKind.u64.wrap (a1))) 1)) else (none))) = some r := h
 clear h
 by_cases c3 : a1 ≥ 64
 ·rw [if_pos c3] at H
  have c3b0 : decide (64 ≤ a1) = true := decide_eq_true c3
  clear c3
  obtain ⟨ji4, hji4⟩ : ∃ j_ : Int, (IntKind.u64.wrap (wrap64 (a1 - 64))) = j_ := ⟨_, rfl⟩
  replace H : (if 0 ≤ (ji4) then (some (Go.bits .and .u64 (shr .u64 a0_0 (ji4)) 1)) else (none)) = some r := by first | (rw [hji4] at H; exact H) | (simp only [hji4] at H ⊢; exact H)
  by_cases c5 : 0 ≤ (ji4)
  ·rw [if_pos c5] at H
   have c5b0 := eq_true c5
   have c5b1 : decide (0 ≤ (ji4)) = true := decide_eq_true c5
   clear c5
   obtain ⟨ji6, hji6⟩ : ∃ j_ : Int, (shr .u64 a0_0 (ji4)) = j_ := ⟨_, rfl⟩
   replace H : (some (Go.bits .and .u64 (ji6) 1)) = some r := by first | (rw [hji6] at H; exact H) | (simp only [hji6] at H ⊢; exact H)
   have hji6_ : (a0_0 / 2 ^ min (ji4).toNat 64) = ji6 := hji6
   have hji6z : (ji4) ≤ 64 → (a0_0 / 2 ^ (ji4).toNat) = ji6 := shr_small hji6
   obtain rfl := Option.some.inj H
   go_enter Try.func92, Try.ntmps92
   go_wp2_with (first | ((with_reducible refine gate_dst (N := 2) rfl ?_); refine box_event ?hg (N := 2) ?hd (cs := #[.int .u64 a0_0, .int .u64 a0_1]) (t := 91) ?hr ?_; (case hd => rfl); (case hg => rfl); (case hr => first | (go_simp; done) | (go_simp; rfl)); intro gb235 hg w7 hbox hb; have BK235 := Aside0.mk hbox; have GW235 := ge hg HB; have GE235 := ge hg HB; replace HB := bh HB hb; clear hb hbox hg; obtain ⟨hcz8_0, hcz8_1⟩ := zc2 BK235; obtain ⟨hfz8_0, hfz8_1⟩ := zf2 BK235))
   go_ret
   exact ⟨by first | rfl | (simp [errW_none, errW_some] <;> rfl) | (simp only [← hji4, ← hji6]; first | rfl | (simp [errW_none, errW_some] <;> rfl)) | (simp [*, errW_none, errW_some] <;> rfl), bq HB.out⟩
  ·rw [if_neg c5] at H
   exact absurd H (by simp)
 ·rw [if_neg c3] at H
  have c3b0 : decide (64 ≤ a1) = false := decide_eq_false c3
  clear c3
  obtain ⟨ji9, hji9⟩ : ∃ j_ : Int, (IntKind.u64.wrap (a1)) = j_ := ⟨_, rfl⟩
  replace H : (if 0 ≤ (ji9) then (some (Go.bits .and .u64 (shr .u64 a0_1 (ji9)) 1)) else (none)) = some r := by first | (rw [hji9] at H; exact H) | (simp only [hji9] at H ⊢; exact H)
  by_cases c10 : 0 ≤ (ji9)
  ·rw [if_pos c10] at H
   have c10b0 := eq_true c10
   have c10b1 : decide (0 ≤ (ji9)) = true := decide_eq_true c10
   clear c10
   obtain ⟨ji11, hji11⟩ : ∃ j_ : Int, (shr .u64 a0_1 (ji9)) = j_ := ⟨_, rfl⟩
   replace H : (some (Go.bits .and .u64 (ji11) 1)) = some r := by first | (rw [hji11] at H; exact H) | (simp only [hji11] at H ⊢; exact H)
   have hji11_ : (a0_1 / 2 ^ min (ji9).toNat 64) = ji11 := hji11
   have hji11z : (ji9) ≤ 64 → (a0_1 / 2 ^ (ji9).toNat) = ji11 := shr_small hji11
   obtain rfl := Option.some.inj H
   go_enter Try.func92, Try.ntmps92
   go_wp2_with (first | ((with_reducible refine gate_dst (N := 2) rfl ?_); refine box_event ?hg (N := 2) ?hd (cs := #[.int .u64 a0_0, .int .u64 a0_1]) (t := 91) ?hr ?_; (case hd => rfl); (case hg => rfl); (case hr => first | (go_simp; done) | (go_simp; rfl)); intro gb235 hg w12 hbox hb; have BK235 := Aside0.mk hbox; have GW235 := ge hg HB; have GE235 := ge hg HB; replace HB := bh HB hb; clear hb hbox hg; obtain ⟨hcz13_0, hcz13_1⟩ := zc2 BK235; obtain ⟨hfz13_0, hfz13_1⟩ := zf2 BK235))
   go_ret
   exact ⟨by first | rfl | (simp [errW_none, errW_some] <;> rfl) | (simp only [← hji9, ← hji11]; first | rfl | (simp [errW_none, errW_some] <;> rfl)) | (simp [*, errW_none, errW_some] <;> rfl), bq HB.out⟩
  ·rw [if_neg c10] at H
   exact absurd H (by simp)

end Go.Proofs.Ytmibjgjgfombaaa.P
