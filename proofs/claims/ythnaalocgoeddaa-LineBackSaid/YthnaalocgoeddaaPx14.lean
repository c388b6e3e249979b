/- Written by a program of this session: functions that the law reaches, as Lean functions, and that the code comes to their answers. Conditions: those that each theorem names. -/
import Derived.Test.YthnaalocgoeddaaPx0
import Derived.Test.YthnaalocgoeddaaPx4
import Derived.Test.YthnaalocgoeddaaPx5
import Derived.Test.YthnaalocgoeddaaPx6
import Derived.Test.YthnaalocgoeddaaPx13
namespace Go.Proofs.Ythnaalocgoeddaa.P
open Go.RowKit Go.Proofs.YthnaalocgoeddaaX Go.Proofs.YthnaalocgoeddaaW.PrintWords Go.Proofs.YthnaalocgoeddaaW.PrintLast Go.Proofs.YthnaalocgoeddaaW.PrintMore
attribute [local go_sem] max2_int min2_int max_two min_two max_three min_three max_four min_four   -- for this text's walks alone
set_option linter.unusedVariables false
set_option linter.unusedSimpArgs false

/-! ### line_Powers: function 20 -/
mutual
def line_Powers.l0 : Nat → Int → List (S28) → List (S28) → List (S28) → Int → Int → Option ((List (S28)) × Int)
 | 0, _, _, _, _, _, _ => none
 | k + 1, x0, x7, x8, x30, x31, x32 => if x32 < x31 then (if 0 ≤ x32 then (if x32 < (x30.length : Int) then ((line_place.f x32).bind fun bt401 => ((line_horner.f k x0 x7 bt401.1 bt401.2).bind fun bt404 => ((tower_Add.f ((rd_T28 x30 x32).f0) ((rd_T28 x30 x32).f1) bt404.1 bt404.2).bind fun bt406 => ((line_horner.f k x0 x8 bt401.1 bt401.2).bind fun bt408 => ((tower_Div.f k x0 bt406.1 bt406.2 bt408.1 bt408.2).bind fun bt410 => (if 0 ≤ (wrap64 ((x8.length : Int) + 1)) then (if (wrap64 ((x8.length : Int) + 1) : Int).toNat ≤ 17592186044416 then (line_Powers.l1 k x0 x7 (List.replicate (wrap64 ((x8.length : Int) + 1) : Int).toNat z28) x30 x31 x32 x8 (x8.length : Int) 0 bt401.1 bt401.2 bt410.1 bt410.2) else (none)) else (none))))))) else (none)) else (none)) else (some (x7, 0))
def line_Powers.l1 : Nat → Int → List (S28) → List (S28) → List (S28) → Int → Int → List (S28) → Int → Int → Int → Int → Int → Int → Option ((List (S28)) × Int)
 | 0, _, _, _, _, _, _, _, _, _, _, _, _, _ => none
 | k + 1, x0, x7, x13, x30, x31, x32, x55, x56, x57, x404000, x404001, x413000, x413001 => if x57 < x56 then (if 0 ≤ x57 then (if x57 < (x55.length : Int) then (if x57 < (x7.length : Int) then ((tower_Mul.f k x0 x413000 x413001 ((rd_T28 x55 x57).f0) ((rd_T28 x55 x57).f1)).bind fun bt419 => ((tower_Add.f ((rd_T28 x7 x57).f0) ((rd_T28 x7 x57).f1) bt419.1 bt419.2).bind fun bt421 => (if x57 < (x13.length : Int) then ((tower_Mul.f k x0 ((rd_T28 x55 x57).f0) ((rd_T28 x55 x57).f1) x404000 x404001).bind fun bt425 => ((tower_Add.f ((rd_T28 x13 x57).f0) ((rd_T28 x13 x57).f1) bt425.1 bt425.2).bind fun bt427 => ((some (x13.set (x57 : Int).toNat (⟨bt427.1, bt427.2⟩ : S28) : List (S28))).bind fun y429 => (if 0 ≤ (wrap64 (x57 + 1)) then (if (wrap64 (x57 + 1)) < (x13.length : Int) then ((tower_Add.f ((rd_T28 y429 (wrap64 (x57 + 1))).f0) ((rd_T28 y429 (wrap64 (x57 + 1))).f1) ((rd_T28 x55 x57).f0) ((rd_T28 x55 x57).f1)).bind fun bt431 => (line_Powers.l1 k x0 (x7.set (x57 : Int).toNat (⟨bt421.1, bt421.2⟩ : S28)) (y429.set ((wrap64 (x57 + 1)) : Int).toNat (⟨bt431.1, bt431.2⟩ : S28)) x30 x31 x32 x55 x56 (wrap64 (x57 + 1)) x404000 x404001 x413000 x413001)) else (none)) else (none))))) else (none)))) else (none)) else (none)) else (none)) else (line_Powers.l0 k x0 x7 x13 x30 x31 (wrap64 (x32 + 1)))
end
def line_Powers.f (k : Nat) (a0 : Int) (l1 : List (S28)) : Option ((List (S28)) × Int) := (line_ask.f k a0 (wrap64 ((l1.length : Int) - 1)) l1).bind fun t390 => (if t390 = 0 then (if 0 ≤ (l1.length : Int) then (if ((l1.length : Int) : Int).toNat ≤ 17592186044416 then ((tower_One.f).bind fun bt394 => (line_Powers.l0 k a0 (List.replicate ((l1.length : Int) : Int).toNat z28) (([(⟨bt394.1, bt394.2⟩ : S28)] : List (S28))) l1 (l1.length : Int) 0)) else (none)) else (none)) else (some (([] : List (S28)), t390)))
theorem line_Powers.mono_l : ∀ k, (∀ y0 y1 y2 y3 y4 y5, LeO (line_Powers.l0 k y0 y1 y2 y3 y4 y5) (line_Powers.l0 (k + 1) y0 y1 y2 y3 y4 y5)) ∧ (∀ y0 y1 y2 y3 y4 y5 y6 y7 y8 y9 y10 y11 y12, LeO (line_Powers.l1 k y0 y1 y2 y3 y4 y5 y6 y7 y8 y9 y10 y11 y12) (line_Powers.l1 (k + 1) y0 y1 y2 y3 y4 y5 y6 y7 y8 y9 y10 y11 y12))
 | 0 => ⟨fun _ _ _ _ _ _ r h => by simp [line_Powers.l0] at h, fun _ _ _ _ _ _ _ _ _ _ _ _ _ r h => by simp [line_Powers.l1] at h⟩
 | k + 1 => by
  obtain ⟨ih0, ih1⟩ := line_Powers.mono_l k
  refine ⟨?_, ?_⟩
  ·intro y0 y1 y2 y3 y4 y5
   unfold line_Powers.l0
   repeat' first
   | (with_reducible exact ih0 _ _ _ _ _ _)
   | (with_reducible exact ih1 _ _ _ _ _ _ _ _ _ _ _ _ _)
   | (with_reducible exact line_ask.mono _ _ _ _)
   | (with_reducible exact line_horner.mono _ _ _ _ _)
   | (with_reducible exact tower_Div.mono _ _ _ _ _ _)
   | (with_reducible exact tower_Mul.mono _ _ _ _ _ _)
   | (with_reducible exact LeO.refl _)
   | (with_reducible exact LeO.none _)
   | (with_reducible refine LeO.ite ?_ ?_)
   | (with_reducible refine LeO.bind ?_ (fun _ => ?_))
   | exact ih0 _ _ _ _ _ _
   | exact ih1 _ _ _ _ _ _ _ _ _ _ _ _ _
   | exact line_ask.mono _ _ _ _
   | exact line_horner.mono _ _ _ _ _
   | exact tower_Div.mono _ _ _ _ _ _
   | exact tower_Mul.mono _ _ _ _ _ _
   | exact LeO.none _
   | refine LeO.ite ?_ ?_
   | refine LeO.bind ?_ (fun _ => ?_)
  ·intro y0 y1 y2 y3 y4 y5 y6 y7 y8 y9 y10 y11 y12
   unfold line_Powers.l1
   repeat' first
   | (with_reducible exact ih0 _ _ _ _ _ _)
   | (with_reducible exact ih1 _ _ _ _ _ _ _ _ _ _ _ _ _)
   | (with_reducible exact line_ask.mono _ _ _ _)
   | (with_reducible exact line_horner.mono _ _ _ _ _)
   | (with_reducible exact tower_Div.mono _ _ _ _ _ _)
   | (with_reducible exact tower_Mul.mono _ _ _ _ _ _)
   | (with_reducible exact LeO.refl _)
   | (with_reducible exact LeO.none _)
   | (with_reducible refine LeO.ite ?_ ?_)
   | (with_reducible refine LeO.bind ?_ (fun _ => ?_))
   | exact ih0 _ _ _ _ _ _
   | exact ih1 _ _ _ _ _ _ _ _ _ _ _ _ _
   | exact line_ask.mono _ _ _ _
   | exact line_horner.mono _ _ _ _ _
   | exact tower_Div.mono _ _ _ _ _ _
   | exact tower_Mul.mono _ _ _ _ _ _
   | exact LeO.none _
   | refine LeO.ite ?_ ?_
   | refine LeO.bind ?_ (fun _ => ?_)
theorem line_Powers.mono : ∀ a0 a1 k, LeO (line_Powers.f k a0 a1) (line_Powers.f (k + 1) a0 a1) := by
 intro a0 a1 k
 obtain ⟨ih0, ih1⟩ := line_Powers.mono_l k
 unfold line_Powers.f
 repeat' first
   | (with_reducible exact ih0 _ _ _ _ _ _)
   | (with_reducible exact ih1 _ _ _ _ _ _ _ _ _ _ _ _ _)
   | (with_reducible exact line_ask.mono _ _ _ _)
   | (with_reducible exact line_horner.mono _ _ _ _ _)
   | (with_reducible exact tower_Div.mono _ _ _ _ _ _)
   | (with_reducible exact tower_Mul.mono _ _ _ _ _ _)
   | (with_reducible exact LeO.refl _)
   | (with_reducible exact LeO.none _)
   | (with_reducible refine LeO.ite ?_ ?_)
   | (with_reducible refine LeO.bind ?_ (fun _ => ?_))
   | exact ih0 _ _ _ _ _ _
   | exact ih1 _ _ _ _ _ _ _ _ _ _ _ _ _
   | exact line_ask.mono _ _ _ _
   | exact line_horner.mono _ _ _ _ _
   | exact tower_Div.mono _ _ _ _ _ _
   | exact tower_Mul.mono _ _ _ _ _ _
   | exact LeO.none _
   | refine LeO.ite ?_ ?_
   | refine LeO.bind ?_ (fun _ => ?_)
def line_Powers.T9 : Bool × List (List Nat × List Nat) := (true, [([], []), ([], []), ([], []), ([], []), ([], []), ([2, 3, 4], [2, 3, 4]), ([1, 5, 5], [1, 5]), ([], []), ([], []), ([], []), ([7, 8, 9, 6], [7, 8, 9]), ([0, 6, 10, 10], [0, 6, 10]), ([], []), ([12, 11, 11, 0, 1, 2, 3, 4, 5, 6, 7, 8, 9, 10, 11, 12], [11, 12])])
def line_Powers.B9 : List Nat := [0, 0, 0, 0, 0, 28, 62, 0, 0, 0, 1022, 2047, 0, 8191]
theorem line_Powers.tab9 : rtab .any (opsOf Try.f20 9) = line_Powers.T9 := by kernel_rfl
theorem line_Powers.bits9 : waitsOk line_Powers.T9.2 line_Powers.B9 = true := by kernel_rfl
def line_Powers.T14 : Bool × List (List Nat × List Nat) := (true, [([], []), ([], []), ([], []), ([], []), ([2, 3], [2, 3]), ([4], [4]), ([], []), ([], []), ([], []), ([6, 7, 8], [6, 7, 8]), ([5, 9, 9], [5, 9]), ([0, 1, 0, 1, 2, 3, 4, 5, 6, 7, 8, 9, 10], [0, 1]), ([11, 10, 10, 0, 1, 2, 3, 4, 5, 6, 7, 8, 9, 10], [10, 11])])
def line_Powers.B14 : List Nat := [0, 0, 0, 0, 12, 28, 0, 0, 0, 448, 1020, 2047, 4095]
theorem line_Powers.tab14 : rtab .any (opsOf Try.f20 14) = line_Powers.T14 := by kernel_rfl
theorem line_Powers.bits14 : waitsOk line_Powers.T14.2 line_Powers.B14 = true := by kernel_rfl
def line_Powers.T15 : Bool × List (List Nat × List Nat) := (true, [([], []), ([], []), ([], []), ([], []), ([2, 3], [2, 3]), ([4], [4]), ([], []), ([], []), ([], []), ([6, 7, 8], [6, 7, 8]), ([5, 9, 9], [5, 9]), ([0, 1, 0, 1, 2, 3, 4, 5, 6, 7, 8, 9, 10], [0, 1]), ([11, 10, 10, 0, 1, 2, 3, 4, 5, 6, 7, 8, 9, 10], [10, 11])])
def line_Powers.B15 : List Nat := [0, 0, 0, 0, 12, 28, 0, 0, 0, 448, 1020, 2047, 4095]
theorem line_Powers.tab15 : rtab .any (opsOf Try.f20 15) = line_Powers.T15 := by kernel_rfl
theorem line_Powers.bits15 : waitsOk line_Powers.T15.2 line_Powers.B15 = true := by kernel_rfl
def line_Powers.T16 : Bool × List (List Nat × List Nat) := (true, [([], []), ([], []), ([1], [1]), ([], []), ([], []), ([4], [4]), ([3, 5], [3, 5]), ([6], [6]), ([], []), ([7, 8], [7, 8]), ([0, 2, 0, 1, 2, 3, 4, 5, 6, 7, 8, 9], [0, 2]), ([10, 9, 9, 0, 1, 2, 3, 4, 5, 6, 7, 8, 9], [9, 10])])
def line_Powers.B16 : List Nat := [0, 0, 2, 0, 0, 16, 56, 120, 0, 504, 1023, 2047]
theorem line_Powers.tab16 : rtab .any (opsOf Try.f20 16) = line_Powers.T16 := by kernel_rfl
theorem line_Powers.bits16 : waitsOk line_Powers.T16.2 line_Powers.B16 = true := by kernel_rfl
set_option maxHeartbeats 8000000 in
set_option maxRecDepth 100000 in
theorem line_Powers.calls (k : Nat) (a0 : Int) (A1 : Option Addr) (c1 : Nat) (l1 : List (S28)) (r1 : List (S28)) (r2 : Int) (w : World) (hr1 : Kd.C k28 w A1 l1.length l1) (hc1 : l1.length ≤ c1) (h : line_Powers.f k a0 l1 = some (r1, r2)) :
  Calls Try.prog 20 #[.int .i64 a0, .slice A1 l1.length c1] w fun e w' => ∃ v0_ : Value, e = .returned (.tuple #[v0_, .int .i64 r2]) ∧ Kd.R k28 28 w' w.heap.size (fun _ => True) v0_ r1 ∧ Below w.heap.size w w' := by
 have hu28 := Try.underlying28
 have HR1 := Aside0.mk hr1
 have HC1 := Aside0.mk hc1
 clear hr1 hc1
 have HB := Aside0.mk (Below.refl w.heap.size w)
 have H : ((line_ask.f k a0 (wrap64 ((l1.length : Int) - 1)) l1).bind fun t390 => (if t390 = 0 then (if 0 ≤ (l1.length : Int) then (if ((l1.length : Int) : Int).toNat ≤ 17592186044416 then ((tower_One.f).bind fun bt394 => (line_Powers.l0 k a0 (List.replicate ((l1.length : Int) : Int).toNat z28) (([(⟨bt394.1, bt394.2⟩ : S28)] : List (S28))) l1 (l1.length : Int) 0)) else (none)) else (none)) else (some (([] : List (S28)), t390)))) = some (r1, r2) := h
 clear h
 replace H := Option.bind_eq_some_iff.mp H
 obtain ⟨t390, A30, H⟩ := H
 replace H : (if t390 = 0 then (if 0 ≤ (l1.length : Int) then (if ((l1.length : Int) : Int).toNat ≤ 17592186044416 then ((tower_One.f).bind fun bt394 => (line_Powers.l0 k a0 (List.replicate ((l1.length : Int) : Int).toNat z28) (([(⟨bt394.1, bt394.2⟩ : S28)] : List (S28))) l1 (l1.length : Int) 0)) else (none)) else (none)) else (some (([] : List (S28)), t390))) = some (r1, r2) := H
 have A3 := Aside0.mk A30
 clear A30
 by_cases c4 : t390 = 0
 ·rw [if_pos c4] at H
  have c4b0 : (t390 == 0) = true := beq_iff_eq.mpr c4
  have c4b1 : (t390 != 0) = false := bne_eq_false_iff_eq.mpr c4
  clear c4
  by_cases c5 : 0 ≤ (l1.length : Int)
  ·rw [if_pos c5] at H
   have c5b0 := eq_true c5
   have c5b1 : decide (0 ≤ (l1.length : Int)) = true := decide_eq_true c5
   clear c5
   by_cases c6 : ((l1.length : Int) : Int).toNat ≤ 17592186044416
   ·rw [if_pos c6] at H
    have c6b0 := eq_true c6
    have c6b1 : decide (((l1.length : Int) : Int).toNat ≤ 17592186044416) = true := decide_eq_true c6
    clear c6
    obtain ⟨y391, hy391⟩ : ∃ y_ : List (S28), y_ = (List.replicate ((l1.length : Int) : Int).toNat z28) := ⟨_, rfl⟩
    replace H : ((tower_One.f).bind fun bt394 => (line_Powers.l0 k a0 y391 (([(⟨bt394.1, bt394.2⟩ : S28)] : List (S28))) l1 (l1.length : Int) 0)) = some (r1, r2) := by first | (rw [hy391]; with_reducible exact H) | (have H2_ := (Option.bind_some _ _).symm.trans H; rw [hy391]; with_reducible exact H2_) | (have H2_ := (Option.bind_some _ _).symm.trans H; with_reducible exact H2_) | with_reducible exact H | (rw [hy391]; exact H) | exact H
    have Ny391 := Aside0.mk hy391
    clear hy391
    replace H := Option.bind_eq_some_iff.mp H
    obtain ⟨⟨t394, t395⟩, A70, H⟩ := H
    replace H : (line_Powers.l0 k a0 y391 (([(⟨t394, t395⟩ : S28)] : List (S28))) l1 (l1.length : Int) 0) = some (r1, r2) := H
    have A7 := Aside0.mk A70
    clear A70
    obtain ⟨y396, hy396⟩ : ∃ y_ : List (S28), y_ = (([(⟨t394, t395⟩ : S28)] : List (S28))) := ⟨_, rfl⟩
    replace H : (line_Powers.l0 k a0 y391 y396 l1 (l1.length : Int) 0) = some (r1, r2) := by first | (rw [hy396]; with_reducible exact H) | (have H2_ := (Option.bind_some _ _).symm.trans H; rw [hy396]; with_reducible exact H2_) | (have H2_ := (Option.bind_some _ _).symm.trans H; with_reducible exact H2_) | with_reducible exact H | (rw [hy396]; exact H) | exact H
    have Ny396 := Aside0.mk hy396
    clear hy396
    have H' := Aside0.mk H
    clear H
    go_enter Try.func20, Try.ntmps20
    try go_wp2_with (first | ((with_reducible refine gate_callee (f := 25) rfl ?_); refine goesL_ (some 21) rfl rfl Try.func25 (by kernel_rfl) rfl #[.int .i64 a0, .int .i64 (wrap64 ((l1.length : Int) - 1)), .slice A1 l1.length c1] rfl (by (try simp only [List.map_toArray, List.map_cons, List.map_nil]); first | done | rfl | (simp only [List.length_drop, List.length_take]; rfl)) ?_; (with_reducible refine (line_ask.calls k a0 (wrap64 ((l1.length : Int) - 1)) _ _ l1 t390 _ ?side1 ?side2 A3.out).mono ?_); (case side1 => repeat (first | exact HR1.out | (with_reducible refine Kd.C_alloc ?_ _) | (with_reducible refine Kd.C_drewN ?_ _) | (with_reducible refine Kd.C_drew ?_))); (case side2 => exact HC1.out); rintro e w8 ⟨rfl, hb⟩; refine ⟨_, rfl, ?_⟩; replace HB := bh HB hb; (try clear hb); (try clear hb2); (try clear hk); (try clear hi)))
    replace HB := Aside0.mk (below_drew1 HB.out)
    refine start_ (n := 7) (S := fun w' => True) (ds := []) #[false, false, false, false, false, false, false] (by kernel_rfl) rfl rfl trivial (fun hHeld => ?_)
    generalize w8.drew = w9 at HB hHeld ⊢
    refine pure_ (i := 0) (N := some 25) (v := ?_) (a' := ?_) #[true, false, false, false, false, false, false] rfl rfl (by kernel_rfl) (fun _ _ _ h => h) (Or.inl ⟨by rfl, ?_⟩) ?_ ?_
    rotate_left
    ·intro w'
     go_simp
     with_reducible rfl
    rotate_left
    ·simp only [Act.put, List.setIfInBounds_toArray, List.set_cons_zero, List.set_cons_succ, i64_w, i32_w]
     rfl
    refine pure_ (i := 1) (N := some 26) (v := ?_) (a' := ?_) #[true, true, false, false, false, false, false] rfl rfl (by kernel_rfl) (fun _ _ _ h => h) (Or.inl ⟨by rfl, ?_⟩) ?_ ?_
    rotate_left
    ·intro w'
     go_simp
     with_reducible rfl
    rotate_left
    ·simp only [Act.put, List.setIfInBounds_toArray, List.set_cons_zero, List.set_cons_succ, i64_w, i32_w]
     rfl
    refine join_ (σ := Value × Value) 1 #[true, true, true, true, true, true, false] (fun s_ => [(27, s_.1), (28, .agg #[.int .u64 t394, .int .u64 t395]), (29, s_.2), (7, s_.1)]) (fun s_ w' => (Kd.R k28 28 w' w.heap.size (fun k_ => some k_ ≠ (s_.2 : Value).ownBlock) s_.1 y391) ∧ (Kd.R k28 28 w' w.heap.size (fun k_ => some k_ ≠ (s_.1 : Value).ownBlock) s_.2 y396) ∧ (Below w.heap.size w w')) ?_ ?_
    rotate_left
    ·intro hCont
     refine two_ (i := 2) (j := 3) (Ni := some 27) (Nj := some 28) #[true, true, true, false, false, false, false] #[true, true, false, true, false, false, false] rfl rfl rfl rfl (by kernel_rfl) (by decide) (by decide) (fun K hK => ?_) (fun K hK => ?_)
     ·skip
      refine Kd.R_make_step k28 _ 28 (by rfl) (N := 27) rfl 22 _ _ rfl (l1.length : Int) rfl rfl Try.underlying22 (.agg #[(.int .u64 0), (.int .u64 0)]) 16 info28 rfl (by decide) (by omega) z28 (ok := fun _ => True) (okp := fun _ => True) (k28_mkM _ _ _ z28 ) (fun _ hk => hk) trivial (of_decide_eq_true (by first | (with_reducible assumption) | assumption)) (Nat.le_trans (Nat.mul_le_mul_right _ (of_decide_eq_true (by first | (with_reducible assumption) | assumption) : (l1.length : Int).toNat ≤ 17592186044416)) (by omega)) (Below.refl _ _) (Nat.le_refl _) ?_
      intro v392 w10 ho11 hb hg_ hnew_
      clear hg_ hnew_
      (first | rw [← Ny391.out] at ho11 | (simp only [Int.reduceToNat] at ho11; rw [← Ny391.out] at ho11))
      have HO393 := kw ho11 HB
      replace HB := bh HB hb
      clear hb ho11
      refine hK.out _ _ trivial (fun hHeld => ?_)
      clear hK K
      refine norm_ (a' := ?_) ?_ ?_
      rotate_left
      ·show Act.put _ (some 27) _ = _
       simp only [Act.put, List.setIfInBounds_toArray, List.set_cons_zero, List.set_cons_succ, i64_w, i32_w]
       rfl
      refine one_ (i := 3) (N := some 28) #[true, true, true, true, false, false, false] rfl rfl (by kernel_rfl) (by decide) (fun K hK => ?_)
      refine goes_ Try.func37 (by kernel_rfl) rfl #[] (by rfl) rfl rfl (by (try simp only [List.map_toArray, List.map_cons, List.map_nil]); first | done | rfl | (simp only [List.length_drop, List.length_take]; rfl)) ?_
      with_reducible refine (tower_One.calls  t394 t395 _ A7.out).mono ?_
      rintro e w12 ⟨rfl, hb⟩
      refine ⟨_, rfl, ?_⟩
      replace HO393 := kb HO393 hb
      replace HB := bh HB hb
      (try clear hb)
      (try clear hb2)
      (try clear hk)
      (try clear hi)
      refine hK.out _ _ trivial (fun hHeld => ?_)
      clear hK K
      refine norm_ (a' := ?_) ?_ ?_
      rotate_left
      ·show Act.put _ (some 28) _ = _
       simp only [Act.put, List.setIfInBounds_toArray, List.set_cons_zero, List.set_cons_succ, i64_w, i32_w]
       rfl
      refine pure_ (i := 5) (N := some 7) (v := ?_) (a' := ?_) #[true, true, true, true, false, true, false] rfl rfl (by kernel_rfl) (fun _ _ _ h => h) (Or.inl ⟨by rfl, ?_⟩) ?_ ?_
      rotate_left
      ·intro w'
       go_simp
       with_reducible rfl
      rotate_left
      ·simp only [Act.put, List.setIfInBounds_toArray, List.set_cons_zero, List.set_cons_succ, i64_w, i32_w]
       rfl
      refine one_ (i := 4) (N := some 29) #[true, true, true, true, true, true, false] rfl rfl (by kernel_rfl) (by decide) (fun K hK => ?_)
      refine Kd.R_lit_step k28 _ 28 ?hg (N := 29) ?hd (xs := ([(⟨t394, t395⟩ : S28)] : List (S28))) (inner := [.int .u64 t394, .int .u64 t395]) (ok := fun _ => True) (okp := fun _ => True) ?hr ?hp (fun _ hk => hk) trivial (Below.refl _ _) (Nat.le_refl _) (by simp) ?_; (case hd => rfl); (case hg => rfl); (case hr => first | (go_simp; done) | (go_simp; rfl)); (case hp => exact (Reps.c2 (show Kd.M k28 _ _ _ (⟨t394, t395⟩ : S28) [.int .u64 t394, .int .u64 t395] from (k28_mkM _ _ _ (⟨t394, t395⟩ : S28) )) (Reps.none _ _)))
      intro v397 w13 ho14 hb hg_ hnew_
      clear hg_ hnew_
      (first | rw [← Ny396.out] at ho14 | (simp only [Int.reduceToNat] at ho14; rw [← Ny396.out] at ho14))
      have HO398 := Aside0.mk (Kd.R_lower (Kd.R_new' ho14 (Kd.R_lt (kr HO393.out))) (below_size (bq HB.out)))
      replace HO393 := Aside0.mk (Kd.R_elder' (kr HO393.out) (Kd.R_base ho14) hb)
      replace HB := bh HB hb
      clear hb ho14
      refine hK.out _ _ trivial (fun hHeld => ?_)
      clear hK K
      refine norm_ (a' := ?_) ?_ ?_
      rotate_left
      ·show Act.put _ (some 29) _ = _
       simp only [Act.put, List.setIfInBounds_toArray, List.set_cons_zero, List.set_cons_succ, i64_w, i32_w]
       rfl
      exact norm_ (by simp only [putAll, Act.put, List.setIfInBounds_toArray, List.set_cons_zero, List.set_cons_succ]) (hCont (v392, v397) _ ⟨(by (with_reducible repeat refine kl ?_); exact Kd.R_mono HO393.out (fun _ hk => hk.2)), (by (with_reducible repeat refine kl ?_); exact Kd.R_mono HO398.out (fun _ hk => hk.2)), (bq HB.out)⟩)
     ·skip
      refine goes_ Try.func37 (by kernel_rfl) rfl #[] (by rfl) rfl rfl (by (try simp only [List.map_toArray, List.map_cons, List.map_nil]); first | done | rfl | (simp only [List.length_drop, List.length_take]; rfl)) ?_
      with_reducible refine (tower_One.calls  t394 t395 _ A7.out).mono ?_
      rintro e w10 ⟨rfl, hb⟩
      refine ⟨_, rfl, ?_⟩
      replace HB := bh HB hb
      (try clear hb)
      (try clear hb2)
      (try clear hk)
      (try clear hi)
      refine hK.out _ _ trivial (fun hHeld => ?_)
      clear hK K
      refine norm_ (a' := ?_) ?_ ?_
      rotate_left
      ·show Act.put _ (some 28) _ = _
       simp only [Act.put, List.setIfInBounds_toArray, List.set_cons_zero, List.set_cons_succ, i64_w, i32_w]
       rfl
      refine two_ (i := 2) (j := 4) (Ni := some 27) (Nj := some 29) #[true, true, true, true, false, false, false] #[true, true, false, true, true, false, false] rfl rfl rfl rfl (by kernel_rfl) (by decide) (by decide) (fun K hK => ?_) (fun K hK => ?_)
      ·skip
       refine Kd.R_make_step k28 _ 28 (by rfl) (N := 27) rfl 22 _ _ rfl (l1.length : Int) rfl rfl Try.underlying22 (.agg #[(.int .u64 0), (.int .u64 0)]) 16 info28 rfl (by decide) (by omega) z28 (ok := fun _ => True) (okp := fun _ => True) (k28_mkM _ _ _ z28 ) (fun _ hk => hk) trivial (of_decide_eq_true (by first | (with_reducible assumption) | assumption)) (Nat.le_trans (Nat.mul_le_mul_right _ (of_decide_eq_true (by first | (with_reducible assumption) | assumption) : (l1.length : Int).toNat ≤ 17592186044416)) (by omega)) (Below.refl _ _) (Nat.le_refl _) ?_
       intro v392 w11 ho12 hb hg_ hnew_
       clear hg_ hnew_
       (first | rw [← Ny391.out] at ho12 | (simp only [Int.reduceToNat] at ho12; rw [← Ny391.out] at ho12))
       have HO393 := kw ho12 HB
       replace HB := bh HB hb
       clear hb ho12
       refine hK.out _ _ trivial (fun hHeld => ?_)
       clear hK K
       refine norm_ (a' := ?_) ?_ ?_
       rotate_left
       ·show Act.put _ (some 27) _ = _
        simp only [Act.put, List.setIfInBounds_toArray, List.set_cons_zero, List.set_cons_succ, i64_w, i32_w]
        rfl
       refine pure_ (i := 5) (N := some 7) (v := ?_) (a' := ?_) #[true, true, true, true, false, true, false] rfl rfl (by kernel_rfl) (fun _ _ _ h => h) (Or.inl ⟨by rfl, ?_⟩) ?_ ?_
       rotate_left
       ·intro w'
        go_simp
        with_reducible rfl
       rotate_left
       ·simp only [Act.put, List.setIfInBounds_toArray, List.set_cons_zero, List.set_cons_succ, i64_w, i32_w]
        rfl
       refine one_ (i := 4) (N := some 29) #[true, true, true, true, true, true, false] rfl rfl (by kernel_rfl) (by decide) (fun K hK => ?_)
       refine Kd.R_lit_step k28 _ 28 ?hg (N := 29) ?hd (xs := ([(⟨t394, t395⟩ : S28)] : List (S28))) (inner := [.int .u64 t394, .int .u64 t395]) (ok := fun _ => True) (okp := fun _ => True) ?hr ?hp (fun _ hk => hk) trivial (Below.refl _ _) (Nat.le_refl _) (by simp) ?_; (case hd => rfl); (case hg => rfl); (case hr => first | (go_simp; done) | (go_simp; rfl)); (case hp => exact (Reps.c2 (show Kd.M k28 _ _ _ (⟨t394, t395⟩ : S28) [.int .u64 t394, .int .u64 t395] from (k28_mkM _ _ _ (⟨t394, t395⟩ : S28) )) (Reps.none _ _)))
       intro v397 w13 ho14 hb hg_ hnew_
       clear hg_ hnew_
       (first | rw [← Ny396.out] at ho14 | (simp only [Int.reduceToNat] at ho14; rw [← Ny396.out] at ho14))
       have HO398 := Aside0.mk (Kd.R_lower (Kd.R_new' ho14 (Kd.R_lt (kr HO393.out))) (below_size (bq HB.out)))
       replace HO393 := Aside0.mk (Kd.R_elder' (kr HO393.out) (Kd.R_base ho14) hb)
       replace HB := bh HB hb
       clear hb ho14
       refine hK.out _ _ trivial (fun hHeld => ?_)
       clear hK K
       refine norm_ (a' := ?_) ?_ ?_
       rotate_left
       ·show Act.put _ (some 29) _ = _
        simp only [Act.put, List.setIfInBounds_toArray, List.set_cons_zero, List.set_cons_succ, i64_w, i32_w]
        rfl
       exact norm_ (by simp only [putAll, Act.put, List.setIfInBounds_toArray, List.set_cons_zero, List.set_cons_succ]) (hCont (v392, v397) _ ⟨(by (with_reducible repeat refine kl ?_); exact Kd.R_mono HO393.out (fun _ hk => hk.2)), (by (with_reducible repeat refine kl ?_); exact Kd.R_mono HO398.out (fun _ hk => hk.2)), (bq HB.out)⟩)
      ·skip
       refine Kd.R_lit_step k28 _ 28 ?hg (N := 29) ?hd (xs := ([(⟨t394, t395⟩ : S28)] : List (S28))) (inner := [.int .u64 t394, .int .u64 t395]) (ok := fun _ => True) (okp := fun _ => True) ?hr ?hp (fun _ hk => hk) trivial (Below.refl _ _) (Nat.le_refl _) (by simp) ?_; (case hd => rfl); (case hg => rfl); (case hr => first | (go_simp; done) | (go_simp; rfl)); (case hp => exact (Reps.c2 (show Kd.M k28 _ _ _ (⟨t394, t395⟩ : S28) [.int .u64 t394, .int .u64 t395] from (k28_mkM _ _ _ (⟨t394, t395⟩ : S28) )) (Reps.none _ _)))
       intro v397 w11 ho12 hb hg_ hnew_
       clear hg_ hnew_
       (first | rw [← Ny396.out] at ho12 | (simp only [Int.reduceToNat] at ho12; rw [← Ny396.out] at ho12))
       have HO398 := kw ho12 HB
       replace HB := bh HB hb
       clear hb ho12
       refine hK.out _ _ trivial (fun hHeld => ?_)
       clear hK K
       refine norm_ (a' := ?_) ?_ ?_
       rotate_left
       ·show Act.put _ (some 29) _ = _
        simp only [Act.put, List.setIfInBounds_toArray, List.set_cons_zero, List.set_cons_succ, i64_w, i32_w]
        rfl
       refine one_ (i := 2) (N := some 27) #[true, true, true, true, true, false, false] rfl rfl (by kernel_rfl) (by decide) (fun K hK => ?_)
       refine Kd.R_make_step k28 _ 28 (by rfl) (N := 27) rfl 22 _ _ rfl (l1.length : Int) rfl rfl Try.underlying22 (.agg #[(.int .u64 0), (.int .u64 0)]) 16 info28 rfl (by decide) (by omega) z28 (ok := fun _ => True) (okp := fun _ => True) (k28_mkM _ _ _ z28 ) (fun _ hk => hk) trivial (of_decide_eq_true (by first | (with_reducible assumption) | assumption)) (Nat.le_trans (Nat.mul_le_mul_right _ (of_decide_eq_true (by first | (with_reducible assumption) | assumption) : (l1.length : Int).toNat ≤ 17592186044416)) (by omega)) (Below.refl _ _) (Nat.le_refl _) ?_
       intro v392 w13 ho14 hb hg_ hnew_
       clear hg_ hnew_
       (first | rw [← Ny391.out] at ho14 | (simp only [Int.reduceToNat] at ho14; rw [← Ny391.out] at ho14))
       have HO393 := Aside0.mk (Kd.R_lower (Kd.R_new' ho14 (Kd.R_lt (kr HO398.out))) (below_size (bq HB.out)))
       replace HO398 := Aside0.mk (Kd.R_elder' (kr HO398.out) (Kd.R_base ho14) hb)
       replace HB := bh HB hb
       clear hb ho14
       refine hK.out _ _ trivial (fun hHeld => ?_)
       clear hK K
       refine norm_ (a' := ?_) ?_ ?_
       rotate_left
       ·show Act.put _ (some 27) _ = _
        simp only [Act.put, List.setIfInBounds_toArray, List.set_cons_zero, List.set_cons_succ, i64_w, i32_w]
        rfl
       refine pure_ (i := 5) (N := some 7) (v := ?_) (a' := ?_) #[true, true, true, true, true, true, false] rfl rfl (by kernel_rfl) (fun _ _ _ h => h) (Or.inl ⟨by rfl, ?_⟩) ?_ ?_
       rotate_left
       ·intro w'
        go_simp
        with_reducible rfl
       rotate_left
       ·simp only [Act.put, List.setIfInBounds_toArray, List.set_cons_zero, List.set_cons_succ, i64_w, i32_w]
        rfl
       exact norm_ (by simp only [putAll, Act.put, List.setIfInBounds_toArray, List.set_cons_zero, List.set_cons_succ]) (hCont (v392, v397) _ ⟨(by (with_reducible repeat refine kl ?_); exact Kd.R_mono HO393.out (fun _ hk => hk.2)), (by (with_reducible repeat refine kl ?_); exact Kd.R_mono HO398.out (fun _ hk => hk.2)), (bq HB.out)⟩)
    rintro ⟨v392, v397⟩ w15 ⟨h0_, h1_, h2_⟩
    have n0_ : Aside0 (Kd.R k28 28 w15 w.heap.size (fun k_ => some k_ ≠ (v397 : Value).ownBlock) v392 y391) := ⟨h0_⟩
    have n1_ : Aside0 (Kd.R k28 28 w15 w.heap.size (fun k_ => some k_ ≠ (v392 : Value).ownBlock) v397 y396) := ⟨h1_⟩
    have n2_ : Aside0 (Below w.heap.size w w15) := ⟨h2_⟩
    clear HB
    clear h0_ h1_ h2_
    have HO393 := n0_
    have HO398 := n1_
    have HB := n2_
    clear n0_ n1_ n2_
    have hHeld := trivial
    refine norm_ (a' := ?_) ?_ ?_
    rotate_left
    ·simp only [putAll, Act.put, List.setIfInBounds_toArray, List.set_cons_zero, List.set_cons_succ]
     rfl
    refine pure_ (i := 6) (N := some 8) (v := ?_) (a' := ?_) #[true, true, true, true, true, true, true] rfl rfl (by kernel_rfl) (fun _ _ _ h => h) (Or.inl ⟨by rfl, ?_⟩) ?_ ?_
    rotate_left
    ·intro w'
     go_simp
     with_reducible rfl
    rotate_left
    ·simp only [Act.put, List.setIfInBounds_toArray, List.set_cons_zero, List.set_cons_succ, i64_w, i32_w]
     rfl
    refine done_ (by kernel_rfl) ?_
    try go_wp2
    go_loopg [8, 32] k (fun kq v8 v32 w' => ∃ (x7_1 : List (S28)) (x8_1 : List (S28)) (x32_1 : Int), v32 = .int .i64 x32_1 ∧ Aside0 (line_Powers.l0 kq a0 x7_1 x8_1 l1 (l1.length : Int) x32_1 = some (r1, r2)) ∧ Aside0 (kq ≤ k) ∧ Aside0 (Kd.R k28 28 w' w.heap.size (fun k_ => some k_ ≠ (v8 : Value).ownBlock) v392 x7_1) ∧ Aside0 (Kd.R k28 28 w' w.heap.size (fun k_ => some k_ ≠ (v392 : Value).ownBlock) v8 x8_1) ∧ Aside0 (Below w.heap.size w w'))
    case atStart => exact ⟨(y391), (y396), (0), (by first | rfl | (simp; done) | (simp [*]; done)), H', ⟨Nat.le_refl _⟩, ⟨kr HO393.out⟩, ⟨kr HO398.out⟩, ⟨bq HB.out⟩⟩
    case round =>
     clear H'
     try clear c1
     try clear c2
     try clear p2
     try clear c3
     try clear c4
     try clear c4b0
     try clear c4b1
     try clear c5
     try clear c5b0
     try clear c5b1
     try clear c6
     try clear c6b0
     try clear c6b1
     try clear p6
     obtain ⟨x7_1, x8_1, x32_1, rfl, HA, HK1, HO_7, HO_8, HB⟩ := hrel
     cases gk with
     | zero => exact absurd HA.out (by simp [line_Powers.l0])
     | succ k1 =>
      have H := HA.out
      clear HA
      simp only [line_Powers.l0] at H
      by_cases c16 : x32_1 < (l1.length : Int)
      ·rw [if_pos c16] at H
       have c16b0 : decide (x32_1 < (l1.length : Int)) = true := decide_eq_true c16
       clear c16
       by_cases c17 : 0 ≤ x32_1
       ·rw [if_pos c17] at H
        have c17b0 : decide (0 ≤ x32_1) = true := decide_eq_true c17
        clear c17
        by_cases c18 : x32_1 < (l1.length : Int)
        ·rw [if_pos c18] at H
         have c18b0 : decide (x32_1 < (l1.length : Int)) = true := decide_eq_true c18
         clear c18
         replace H := Option.bind_eq_some_iff.mp H
         obtain ⟨⟨t401, t402⟩, A190, H⟩ := H
         replace H : ((line_horner.f k1 a0 x7_1 t401 t402).bind fun bt404 => ((tower_Add.f ((rd_T28 l1 x32_1).f0) ((rd_T28 l1 x32_1).f1) bt404.1 bt404.2).bind fun bt406 => ((line_horner.f k1 a0 x8_1 t401 t402).bind fun bt408 => ((tower_Div.f k1 a0 bt406.1 bt406.2 bt408.1 bt408.2).bind fun bt410 => (if 0 ≤ (wrap64 ((x8_1.length : Int) + 1)) then (if (wrap64 ((x8_1.length : Int) + 1) : Int).toNat ≤ 17592186044416 then (line_Powers.l1 k1 a0 x7_1 (List.replicate (wrap64 ((x8_1.length : Int) + 1) : Int).toNat z28) l1 (l1.length : Int) x32_1 x8_1 (x8_1.length : Int) 0 t401 t402 bt410.1 bt410.2) else (none)) else (none)))))) = some (r1, r2) := H
         have A19 := Aside0.mk A190
         clear A190
         replace H := Option.bind_eq_some_iff.mp H
         obtain ⟨⟨t404, t405⟩, A200, H⟩ := H
         replace H : ((tower_Add.f ((rd_T28 l1 x32_1).f0) ((rd_T28 l1 x32_1).f1) t404 t405).bind fun bt406 => ((line_horner.f k1 a0 x8_1 t401 t402).bind fun bt408 => ((tower_Div.f k1 a0 bt406.1 bt406.2 bt408.1 bt408.2).bind fun bt410 => (if 0 ≤ (wrap64 ((x8_1.length : Int) + 1)) then (if (wrap64 ((x8_1.length : Int) + 1) : Int).toNat ≤ 17592186044416 then (line_Powers.l1 k1 a0 x7_1 (List.replicate (wrap64 ((x8_1.length : Int) + 1) : Int).toNat z28) l1 (l1.length : Int) x32_1 x8_1 (x8_1.length : Int) 0 t401 t402 bt410.1 bt410.2) else (none)) else (none))))) = some (r1, r2) := H
         have A20 := Aside0.mk A200
         clear A200
         replace H := Option.bind_eq_some_iff.mp H
         obtain ⟨⟨t406, t407⟩, A210, H⟩ := H
         replace H : ((line_horner.f k1 a0 x8_1 t401 t402).bind fun bt408 => ((tower_Div.f k1 a0 t406 t407 bt408.1 bt408.2).bind fun bt410 => (if 0 ≤ (wrap64 ((x8_1.length : Int) + 1)) then (if (wrap64 ((x8_1.length : Int) + 1) : Int).toNat ≤ 17592186044416 then (line_Powers.l1 k1 a0 x7_1 (List.replicate (wrap64 ((x8_1.length : Int) + 1) : Int).toNat z28) l1 (l1.length : Int) x32_1 x8_1 (x8_1.length : Int) 0 t401 t402 bt410.1 bt410.2) else (none)) else (none)))) = some (r1, r2) := H
         have A21 := Aside0.mk A210
         clear A210
         replace H := Option.bind_eq_some_iff.mp H
         obtain ⟨⟨t408, t409⟩, A220, H⟩ := H
         replace H : ((tower_Div.f k1 a0 t406 t407 t408 t409).bind fun bt410 => (if 0 ≤ (wrap64 ((x8_1.length : Int) + 1)) then (if (wrap64 ((x8_1.length : Int) + 1) : Int).toNat ≤ 17592186044416 then (line_Powers.l1 k1 a0 x7_1 (List.replicate (wrap64 ((x8_1.length : Int) + 1) : Int).toNat z28) l1 (l1.length : Int) x32_1 x8_1 (x8_1.length : Int) 0 t401 t402 bt410.1 bt410.2) else (none)) else (none))) = some (r1, r2) := H
         have A22 := Aside0.mk A220
         clear A220
         replace H := Option.bind_eq_some_iff.mp H
         obtain ⟨⟨t410, t411⟩, A230, H⟩ := H
         replace H : (if 0 ≤ (wrap64 ((x8_1.length : Int) + 1)) then (if (wrap64 ((x8_1.length : Int) + 1) : Int).toNat ≤ 17592186044416 then (line_Powers.l1 k1 a0 x7_1 (List.replicate (wrap64 ((x8_1.length : Int) + 1) : Int).toNat z28) l1 (l1.length : Int) x32_1 x8_1 (x8_1.length : Int) 0 t401 t402 t410 t411) else (none)) else (none)) = some (r1, r2) := H
         have A23 := Aside0.mk A230
         clear A230
         obtain ⟨ji24, hji24⟩ : ∃ j_ : Int, (wrap64 ((x8_1.length : Int) + 1)) = j_ := ⟨_, rfl⟩
         replace H : (if 0 ≤ (ji24) then (if (ji24 : Int).toNat ≤ 17592186044416 then (line_Powers.l1 k1 a0 x7_1 (List.replicate (ji24 : Int).toNat z28) l1 (l1.length : Int) x32_1 x8_1 (x8_1.length : Int) 0 t401 t402 t410 t411) else (none)) else (none)) = some (r1, r2) := by first | (rw [hji24] at H; exact H) | (simp only [hji24] at H ⊢; exact H)
         (try rw [hji24] at A19)
         (try rw [hji24] at A20)
         (try rw [hji24] at A21)
         (try rw [hji24] at A22)
         (try rw [hji24] at A23)
         have hji24w : (IntKind.i64.wrap ((x8_1.length : Int) + 1)) = ji24 := (i64_w _).trans hji24
         by_cases c25 : 0 ≤ (ji24)
         ·rw [if_pos c25] at H
          have c25b0 := eq_true c25
          have c25b1 : decide (0 ≤ (ji24)) = true := decide_eq_true c25
          clear c25
          by_cases c26 : (ji24 : Int).toNat ≤ 17592186044416
          ·rw [if_pos c26] at H
           have c26b0 := eq_true c26
           have c26b1 : decide ((ji24 : Int).toNat ≤ 17592186044416) = true := decide_eq_true c26
           clear c26
           obtain ⟨y413, hy413⟩ : ∃ y_ : List (S28), y_ = (List.replicate (ji24 : Int).toNat z28) := ⟨_, rfl⟩
           replace H : (line_Powers.l1 k1 a0 x7_1 y413 l1 (l1.length : Int) x32_1 x8_1 (x8_1.length : Int) 0 t401 t402 t410 t411) = some (r1, r2) := by first | (rw [hy413]; with_reducible exact H) | (have H2_ := (Option.bind_some _ _).symm.trans H; rw [hy413]; with_reducible exact H2_) | (have H2_ := (Option.bind_some _ _).symm.trans H; with_reducible exact H2_) | with_reducible exact H | (rw [hy413]; exact H) | exact H
           have Ny413 := Aside0.mk hy413
           clear hy413
           have H' := Aside0.mk H
           clear H
           have p399 : 0 ≤ (x32_1 : Int) := of_decide_eq_true (by first | (with_reducible assumption) | assumption)
           have q399 : x32_1 < (l1.length : Int) := of_decide_eq_true (by first | (with_reducible assumption) | assumption)
           obtain ⟨ad399, e399, hx399_0, hx399_1⟩ := at_T28 HR1.out x32_1 p399 q399
           cases e399
           replace hx399_0 := (HB.out.cell (World.block_lt_of_cell? w _ hx399_0)).trans hx399_0
           replace hx399_1 := (HB.out.cell (World.block_lt_of_cell? w _ hx399_1)).trans hx399_1
           replace p399 := eq_true p399
           replace q399 := eq_true q399
           try go_wp2_with (first | ((with_reducible refine gate_dst (N := 10) rfl ?_); refine box_event ?hg (N := 10) ?hd (cs := #[.int .u64 0, .int .u64 0]) (t := 28) ?hr ?_; (case hd => rfl); (case hg => rfl); (case hr => first | (go_simp; done) | (go_simp; rfl)); intro gb400 hg w27 hbox hb; have BK400 := Aside0.mk hbox; have GW400 := ge hg HB; have GE400 := ge hg HB; replace HO_7 := Aside0.mk (Kd.R_below (Kd.R_elderB (kr HO_7.out) gb400 (Nat.le_of_eq hg.symm)) hb); replace HO_8 := Aside0.mk (Kd.R_below (Kd.R_elderB (kr HO_8.out) gb400 (Nat.le_of_eq hg.symm)) hb); replace HB := bh HB hb; clear hb hbox hg; obtain ⟨hcz28_0, hcz28_1⟩ := zc2 BK400; obtain ⟨hfz28_0, hfz28_1⟩ := zf2 BK400) | ((with_reducible refine gate_callee (f := 34) rfl ?_); refine goesL_ (some 38) rfl rfl Try.func34 (by kernel_rfl) rfl #[.int .i64 x32_1] rfl (by (try simp only [List.map_toArray, List.map_cons, List.map_nil]); first | done | rfl | (simp only [List.length_drop, List.length_take]; rfl)) ?_; (with_reducible refine (line_place.calls x32_1 t401 t402 _ A19.out).mono ?_); rintro e w29 ⟨rfl, hb⟩; refine ⟨_, rfl, ?_⟩; replace HO_7 := Aside0.mk (Kd.R_below (by (with_reducible repeat refine kl ?_); exact (Kd.R_mono (Kd.R_far (p := ⟨gb400, 1, none⟩) (Kd.R_far (p := ⟨gb400, 0, none⟩) (Kd.R_mono HO_7.out (fun k_ hk => (⟨hk, hk.2⟩ : _ ∧ k_ ≠ gb400))) (fun _ hk => hk.2) (.int .u64 ((rd_T28 l1 x32_1).f0))) (fun _ hk => hk.2) (.int .u64 ((rd_T28 l1 x32_1).f1))) (fun _ h_ => h_.1))) hb); replace HO_8 := Aside0.mk (Kd.R_below (by (with_reducible repeat refine kl ?_); exact (Kd.R_mono (Kd.R_far (p := ⟨gb400, 1, none⟩) (Kd.R_far (p := ⟨gb400, 0, none⟩) (Kd.R_mono HO_8.out (fun k_ hk => (⟨hk, hk.2⟩ : _ ∧ k_ ≠ gb400))) (fun _ hk => hk.2) (.int .u64 ((rd_T28 l1 x32_1).f0))) (fun _ hk => hk.2) (.int .u64 ((rd_T28 l1 x32_1).f1))) (fun _ h_ => h_.1))) hb); replace BK400 := Aside0.mk (blk_below (g := gb400) (o := .cells #[.int .u64 ((rd_T28 l1 x32_1).f0), .int .u64 ((rd_T28 l1 x32_1).f1)] 28 (0, 0)) (by (with_reducible repeat refine bl ?_); refine blk_put (cs := #[.int .u64 ((rd_T28 l1 x32_1).f0), .int .u64 0]) ?_ 1 _ rfl; (with_reducible repeat refine bl ?_); refine blk_put (cs := #[.int .u64 0, .int .u64 0]) ?_ 0 _ rfl; (with_reducible repeat refine bl ?_); exact BK400.out) hb); replace HB := bh HB hb; (try clear hb); (try clear hb2); (try clear hk); (try clear hi)) | ((with_reducible refine gate_dst (N := 11) rfl ?_); refine box_event ?hg (N := 11) ?hd (cs := #[.int .u64 0, .int .u64 0]) (t := 28) ?hr ?_; (case hd => rfl); (case hg => rfl); (case hr => first | (go_simp; done) | (go_simp; rfl)); intro gb403 hg w30 hbox hb; have BK403 := Aside0.mk hbox; have GW403 := ge hg HB; have GE403 := ge hg HB; have NB400_403 := nl hg BK400; have NB403_400 := ng hg BK400; replace HO_7 := Aside0.mk (Kd.R_below (Kd.R_elderB (kr HO_7.out) gb403 (Nat.le_of_eq hg.symm)) hb); replace HO_8 := Aside0.mk (Kd.R_below (Kd.R_elderB (kr HO_8.out) gb403 (Nat.le_of_eq hg.symm)) hb); replace BK400 := bb BK400 hb; replace HB := bh HB hb; clear hb hbox hg; have hnb31 := NB403_400.out; have hnc31 := NB400_403.out; obtain ⟨hcz32_0, hcz32_1⟩ := zc2 BK403; obtain ⟨hfz32_0, hfz32_1⟩ := zf2 BK403; obtain ⟨Ao33, co33, eo33⟩ := Kd.R_slice HO_7.out; subst eo33; obtain ⟨Ao34, co34, eo34⟩ := Kd.R_slice HO_8.out; subst eo34))
           have n0_ : Aside0 (Kd.R k28 28 ((w30.setCell ⟨gb403, 0, none⟩ (.int .u64 t401)).setCell ⟨gb403, 1, none⟩ (.int .u64 t402)) w.heap.size (fun k_ => some k_ ≠ (.slice Ao34 x8_1.length co34 : Value).ownBlock ∧ k_ ≠ gb400 ∧ k_ ≠ gb403) (.slice Ao33 x7_1.length co33) x7_1) := ⟨by (with_reducible repeat refine kl ?_); exact Kd.R_mono (Kd.R_far (p := ⟨gb403, 1, none⟩) (Kd.R_far (p := ⟨gb403, 0, none⟩) (Kd.R_mono HO_7.out (fun k_ hk => (⟨hk, hk.2⟩ : _ ∧ k_ ≠ gb403))) (fun _ hk => hk.2) (.int .u64 t401)) (fun _ hk => hk.2) (.int .u64 t402)) (fun _ hk => ⟨hk.1.1.1, ⟨hk.1.1.2, hk.1.2⟩⟩)⟩
           have n1_ : Aside0 (Kd.R k28 28 ((w30.setCell ⟨gb403, 0, none⟩ (.int .u64 t401)).setCell ⟨gb403, 1, none⟩ (.int .u64 t402)) w.heap.size (fun k_ => some k_ ≠ (.slice Ao33 x7_1.length co33 : Value).ownBlock ∧ k_ ≠ gb400 ∧ k_ ≠ gb403) (.slice Ao34 x8_1.length co34) x8_1) := ⟨by (with_reducible repeat refine kl ?_); exact Kd.R_mono (Kd.R_far (p := ⟨gb403, 1, none⟩) (Kd.R_far (p := ⟨gb403, 0, none⟩) (Kd.R_mono HO_8.out (fun k_ hk => (⟨hk, hk.2⟩ : _ ∧ k_ ≠ gb403))) (fun _ hk => hk.2) (.int .u64 t401)) (fun _ hk => hk.2) (.int .u64 t402)) (fun _ hk => ⟨hk.1.1.1, ⟨hk.1.1.2, hk.1.2⟩⟩)⟩
           have n2_ : Aside0 (((w30.setCell ⟨gb403, 0, none⟩ (.int .u64 t401)).setCell ⟨gb403, 1, none⟩ (.int .u64 t402)).heap[gb400]? = some (.cells #[.int .u64 ((rd_T28 l1 x32_1).f0), .int .u64 ((rd_T28 l1 x32_1).f1)] 28 (0, 0))) := ⟨by (with_reducible repeat refine bl ?_); refine blk_far ?_ NB400_403.out _; (with_reducible repeat refine bl ?_); refine blk_far ?_ NB400_403.out _; (with_reducible repeat refine bl ?_); exact BK400.out⟩
           have n3_ : Aside0 (((w30.setCell ⟨gb403, 0, none⟩ (.int .u64 t401)).setCell ⟨gb403, 1, none⟩ (.int .u64 t402)).heap[gb403]? = some (.cells #[.int .u64 t401, .int .u64 t402] 28 (0, 0))) := ⟨by (with_reducible repeat refine bl ?_); refine blk_put (cs := #[.int .u64 t401, .int .u64 0]) ?_ 1 _ rfl; (with_reducible repeat refine bl ?_); refine blk_put (cs := #[.int .u64 0, .int .u64 0]) ?_ 0 _ rfl; (with_reducible repeat refine bl ?_); exact BK403.out⟩
           have n4_ : Aside0 (Below w.heap.size w ((w30.setCell ⟨gb403, 0, none⟩ (.int .u64 t401)).setCell ⟨gb403, 1, none⟩ (.int .u64 t402))) := ⟨bq HB.out⟩
           (try clear HO_7)
           (try clear HO_8)
           (try clear BK400)
           (try clear BK403)
           (try clear HB)
           generalize ((w30.setCell ⟨gb403, 0, none⟩ (.int .u64 t401)).setCell ⟨gb403, 1, none⟩ (.int .u64 t402)) = w35 at n0_ n1_ n2_ n3_ n4_ ⊢
           have HO_7 := n0_
           have HO_8 := n1_
           have BK400 := n2_
           have BK403 := n3_
           have HB := n4_
           clear n0_ n1_ n2_ n3_ n4_
           replace HO_7 := Aside0.mk (Kd.R_drew HO_7.out)
           replace HO_8 := Aside0.mk (Kd.R_drew HO_8.out)
           replace BK400 := Aside0.mk (blk_drew BK400.out)
           replace BK403 := Aside0.mk (blk_drew BK403.out)
           replace HB := Aside0.mk (below_drew1 HB.out)
           refine start_ (n := 14) (S := fun w' => w'.cell? ⟨gb400, 0, none⟩ = some (.int .u64 ((rd_T28 l1 x32_1).f0)) ∧ w'.cell? ⟨gb400, 1, none⟩ = some (.int .u64 ((rd_T28 l1 x32_1).f1)) ∧ w'.cell? ⟨gb403, 0, none⟩ = some (.int .u64 t401) ∧ w'.cell? ⟨gb403, 1, none⟩ = some (.int .u64 t402)) (ds := []) #[false, false, false, false, false, false, false, false, false, false, false, false, false, false] (by kernel_rfl) rfl rfl ⟨(blk_cell BK400.out 0).trans rfl, (blk_cell BK400.out 1).trans rfl, (blk_cell BK403.out 0).trans rfl, (blk_cell BK403.out 1).trans rfl⟩ (fun hHeld => ?_); refine with_tabW line_Powers.tab9 line_Powers.bits9 (fun HT_ HW_ => ?_)
           generalize w35.drew = w36 at HO_7 HO_8 BK400 BK403 HB hHeld ⊢
           refine pure_ (i := 0) (N := some 39) (v := ?_) (a' := ?_) #[true, false, false, false, false, false, false, false, false, false, false, false, false, false] rfl rfl (any_of HT_.out (by kernel_rfl)) (fun _ _ _ h => h) (Or.inl ⟨by rfl, ?_⟩) ?_ ?_
           rotate_left
           ·intro w'
            go_simp
            with_reducible rfl
           rotate_left
           ·simp only [Act.put, List.setIfInBounds_toArray, List.set_cons_zero, List.set_cons_succ, i64_w, i32_w]
            rfl
           refine pure_ (i := 2) (N := some 41) (v := ?_) (a' := ?_) #[true, false, true, false, false, false, false, false, false, false, false, false, false, false] rfl rfl (any_of HT_.out (by kernel_rfl)) (fun _ _ _ h => h) (Or.inl ⟨by rfl, ?_⟩) ?_ ?_
           rotate_left
           ·intro w'
            go_simp
            with_reducible rfl
           rotate_left
           ·simp only [Act.put, List.setIfInBounds_toArray, List.set_cons_zero, List.set_cons_succ, i64_w, i32_w]
            rfl
           refine pure_ (i := 3) (N := some 42) (v := ?_) (a' := ?_) #[true, false, true, true, false, false, false, false, false, false, false, false, false, false] rfl rfl (any_of HT_.out (by kernel_rfl)) (fun _ _ _ h => h) (Or.inl ⟨by rfl, ?_⟩) ?_ ?_
           rotate_left
           ·intro w'
            go_simp
            with_reducible rfl
           rotate_left
           ·simp only [Act.put, List.setIfInBounds_toArray, List.set_cons_zero, List.set_cons_succ, i64_w, i32_w]
            rfl
           refine pure_ (i := 7) (N := some 46) (v := ?_) (a' := ?_) #[true, false, true, true, false, false, false, true, false, false, false, false, false, false] rfl rfl (any_of HT_.out (by kernel_rfl)) (fun _ _ _ h => h) (Or.inl ⟨by rfl, ?_⟩) ?_ ?_
           rotate_left
           ·intro w'
            go_simp
            with_reducible rfl
           rotate_left
           ·simp only [Act.put, List.setIfInBounds_toArray, List.set_cons_zero, List.set_cons_succ, i64_w, i32_w]
            rfl
           refine pure_ (i := 8) (N := some 47) (v := ?_) (a' := ?_) #[true, false, true, true, false, false, false, true, true, false, false, false, false, false] rfl rfl (any_of HT_.out (by kernel_rfl)) (fun _ _ _ h => h) (Or.inl ⟨by rfl, ?_⟩) ?_ ?_
           rotate_left
           ·intro w'
            go_simp
            with_reducible rfl
           rotate_left
           ·simp only [Act.put, List.setIfInBounds_toArray, List.set_cons_zero, List.set_cons_succ, i64_w, i32_w]
            rfl
           refine take_ (i := 1) (N := some 40) (v := ?_) (a' := ?_) #[true, true, true, true, false, false, false, true, true, false, false, false, false, false] rfl rfl (take_ofW HT_.out HW_.out (by kernel_rfl)) (fun _ _ _ h => h) (Or.inl ⟨by rfl, ?_⟩) hHeld ?_ ?_
           rotate_left
           ·rintro w' ⟨s0, s1, s2, s3⟩
            go_simp
            with_reducible rfl
           rotate_left
           ·simp only [Act.put, List.setIfInBounds_toArray, List.set_cons_zero, List.set_cons_succ, i64_w, i32_w]
            rfl
           refine take_ (i := 4) (N := some 43) (v := ?_) (a' := ?_) #[true, true, true, true, true, false, false, true, true, false, false, false, false, false] rfl rfl (take_ofW HT_.out HW_.out (by kernel_rfl)) (fun _ _ _ h => h) (Or.inl ⟨by rfl, ?_⟩) hHeld ?_ ?_
           rotate_left
           ·rintro w' ⟨s0, s1, s2, s3⟩
            go_simp
            with_reducible rfl
           rotate_left
           ·simp only [Act.put, List.setIfInBounds_toArray, List.set_cons_zero, List.set_cons_succ, i64_w, i32_w]
            rfl
           refine take_ (i := 9) (N := some 48) (v := ?_) (a' := ?_) #[true, true, true, true, true, false, false, true, true, true, false, false, false, false] rfl rfl (take_ofW HT_.out HW_.out (by kernel_rfl)) (fun _ _ _ h => h) (Or.inl ⟨by rfl, ?_⟩) hHeld ?_ ?_
           rotate_left
           ·rintro w' ⟨s0, s1, s2, s3⟩
            go_simp
            with_reducible rfl
           rotate_left
           ·simp only [Act.put, List.setIfInBounds_toArray, List.set_cons_zero, List.set_cons_succ, i64_w, i32_w]
            rfl
           refine join_ (σ := Nat) 1 #[true, true, true, true, true, true, true, true, true, true, true, true, true, false] (fun s_ => [(44, .agg #[.int .u64 t404, .int .u64 t405]), (45, .agg #[.int .u64 t406, .int .u64 t407]), (49, .agg #[.int .u64 t408, .int .u64 t409]), (50, .agg #[.int .u64 t410, .int .u64 t411]), (12, .pointer (some ⟨s_, 0, none⟩))]) (fun s_ w' => (w'.cell? ⟨gb400, 0, none⟩ = some (.int .u64 ((rd_T28 l1 x32_1).f0)) ∧ w'.cell? ⟨gb400, 1, none⟩ = some (.int .u64 ((rd_T28 l1 x32_1).f1)) ∧ w'.cell? ⟨gb403, 0, none⟩ = some (.int .u64 t401) ∧ w'.cell? ⟨gb403, 1, none⟩ = some (.int .u64 t402)) ∧ (Kd.R k28 28 w' w.heap.size (fun k_ => some k_ ≠ (.slice Ao34 x8_1.length co34 : Value).ownBlock ∧ k_ ≠ gb400 ∧ k_ ≠ gb403 ∧ k_ ≠ s_) (.slice Ao33 x7_1.length co33) x7_1) ∧ (Kd.R k28 28 w' w.heap.size (fun k_ => some k_ ≠ (.slice Ao33 x7_1.length co33 : Value).ownBlock ∧ k_ ≠ gb400 ∧ k_ ≠ gb403 ∧ k_ ≠ s_) (.slice Ao34 x8_1.length co34) x8_1) ∧ (w'.heap[gb400]? = some (.cells #[.int .u64 ((rd_T28 l1 x32_1).f0), .int .u64 ((rd_T28 l1 x32_1).f1)] 28 (0, 0))) ∧ (w'.heap[gb403]? = some (.cells #[.int .u64 t401, .int .u64 t402] 28 (0, 0))) ∧ (w'.heap[s_]? = some (.cells #[.int .u64 0, .int .u64 0] 28 (0, 0))) ∧ (w.heap.size ≤ s_) ∧ (w.heap.size ≤ s_) ∧ (gb400 ≠ s_) ∧ (s_ ≠ gb400) ∧ (gb403 ≠ s_) ∧ (s_ ≠ gb403) ∧ (Below w.heap.size w w')) ?_ ?_
           rotate_left
           ·intro hJ5_6_10_11_12
            refine join_ (σ := Unit) 2 #[true, true, true, true, true, true, true, true, true, true, true, true, false, false] (fun s_ => [(44, .agg #[.int .u64 t404, .int .u64 t405]), (45, .agg #[.int .u64 t406, .int .u64 t407]), (49, .agg #[.int .u64 t408, .int .u64 t409]), (50, .agg #[.int .u64 t410, .int .u64 t411])]) (fun s_ w' => (w'.cell? ⟨gb400, 0, none⟩ = some (.int .u64 ((rd_T28 l1 x32_1).f0)) ∧ w'.cell? ⟨gb400, 1, none⟩ = some (.int .u64 ((rd_T28 l1 x32_1).f1)) ∧ w'.cell? ⟨gb403, 0, none⟩ = some (.int .u64 t401) ∧ w'.cell? ⟨gb403, 1, none⟩ = some (.int .u64 t402)) ∧ (Kd.R k28 28 w' w.heap.size (fun k_ => some k_ ≠ (.slice Ao34 x8_1.length co34 : Value).ownBlock ∧ k_ ≠ gb400 ∧ k_ ≠ gb403) (.slice Ao33 x7_1.length co33) x7_1) ∧ (Kd.R k28 28 w' w.heap.size (fun k_ => some k_ ≠ (.slice Ao33 x7_1.length co33 : Value).ownBlock ∧ k_ ≠ gb400 ∧ k_ ≠ gb403) (.slice Ao34 x8_1.length co34) x8_1) ∧ (w'.heap[gb400]? = some (.cells #[.int .u64 ((rd_T28 l1 x32_1).f0), .int .u64 ((rd_T28 l1 x32_1).f1)] 28 (0, 0))) ∧ (w'.heap[gb403]? = some (.cells #[.int .u64 t401, .int .u64 t402] 28 (0, 0))) ∧ (Below w.heap.size w w')) ?_ ?_
            rotate_left
            ·intro hJ5_6_10_11
             refine join_ (σ := Nat) 2 #[true, true, true, true, true, true, true, true, true, true, true, false, true, false] (fun s_ => [(44, .agg #[.int .u64 t404, .int .u64 t405]), (45, .agg #[.int .u64 t406, .int .u64 t407]), (49, .agg #[.int .u64 t408, .int .u64 t409]), (12, .pointer (some ⟨s_, 0, none⟩))]) (fun s_ w' => (w'.cell? ⟨gb400, 0, none⟩ = some (.int .u64 ((rd_T28 l1 x32_1).f0)) ∧ w'.cell? ⟨gb400, 1, none⟩ = some (.int .u64 ((rd_T28 l1 x32_1).f1)) ∧ w'.cell? ⟨gb403, 0, none⟩ = some (.int .u64 t401) ∧ w'.cell? ⟨gb403, 1, none⟩ = some (.int .u64 t402)) ∧ (Kd.R k28 28 w' w.heap.size (fun k_ => some k_ ≠ (.slice Ao34 x8_1.length co34 : Value).ownBlock ∧ k_ ≠ gb400 ∧ k_ ≠ gb403 ∧ k_ ≠ s_) (.slice Ao33 x7_1.length co33) x7_1) ∧ (Kd.R k28 28 w' w.heap.size (fun k_ => some k_ ≠ (.slice Ao33 x7_1.length co33 : Value).ownBlock ∧ k_ ≠ gb400 ∧ k_ ≠ gb403 ∧ k_ ≠ s_) (.slice Ao34 x8_1.length co34) x8_1) ∧ (w'.heap[gb400]? = some (.cells #[.int .u64 ((rd_T28 l1 x32_1).f0), .int .u64 ((rd_T28 l1 x32_1).f1)] 28 (0, 0))) ∧ (w'.heap[gb403]? = some (.cells #[.int .u64 t401, .int .u64 t402] 28 (0, 0))) ∧ (w'.heap[s_]? = some (.cells #[.int .u64 0, .int .u64 0] 28 (0, 0))) ∧ (w.heap.size ≤ s_) ∧ (w.heap.size ≤ s_) ∧ (gb400 ≠ s_) ∧ (s_ ≠ gb400) ∧ (gb403 ≠ s_) ∧ (s_ ≠ gb403) ∧ (Below w.heap.size w w')) ?_ ?_
             rotate_left
             ·intro hJ5_6_10_12
              refine join_ (σ := Unit) 3 #[true, true, true, true, true, true, true, true, true, true, true, false, false, false] (fun s_ => [(44, .agg #[.int .u64 t404, .int .u64 t405]), (45, .agg #[.int .u64 t406, .int .u64 t407]), (49, .agg #[.int .u64 t408, .int .u64 t409])]) (fun s_ w' => (w'.cell? ⟨gb400, 0, none⟩ = some (.int .u64 ((rd_T28 l1 x32_1).f0)) ∧ w'.cell? ⟨gb400, 1, none⟩ = some (.int .u64 ((rd_T28 l1 x32_1).f1)) ∧ w'.cell? ⟨gb403, 0, none⟩ = some (.int .u64 t401) ∧ w'.cell? ⟨gb403, 1, none⟩ = some (.int .u64 t402)) ∧ (Kd.R k28 28 w' w.heap.size (fun k_ => some k_ ≠ (.slice Ao34 x8_1.length co34 : Value).ownBlock ∧ k_ ≠ gb400 ∧ k_ ≠ gb403) (.slice Ao33 x7_1.length co33) x7_1) ∧ (Kd.R k28 28 w' w.heap.size (fun k_ => some k_ ≠ (.slice Ao33 x7_1.length co33 : Value).ownBlock ∧ k_ ≠ gb400 ∧ k_ ≠ gb403) (.slice Ao34 x8_1.length co34) x8_1) ∧ (w'.heap[gb400]? = some (.cells #[.int .u64 ((rd_T28 l1 x32_1).f0), .int .u64 ((rd_T28 l1 x32_1).f1)] 28 (0, 0))) ∧ (w'.heap[gb403]? = some (.cells #[.int .u64 t401, .int .u64 t402] 28 (0, 0))) ∧ (Below w.heap.size w w')) ?_ ?_
              rotate_left
              ·intro hJ5_6_10
               refine join_ (σ := Nat) 3 #[true, true, true, true, true, true, true, true, true, true, false, false, true, false] (fun s_ => [(44, .agg #[.int .u64 t404, .int .u64 t405]), (45, .agg #[.int .u64 t406, .int .u64 t407]), (12, .pointer (some ⟨s_, 0, none⟩))]) (fun s_ w' => (w'.cell? ⟨gb400, 0, none⟩ = some (.int .u64 ((rd_T28 l1 x32_1).f0)) ∧ w'.cell? ⟨gb400, 1, none⟩ = some (.int .u64 ((rd_T28 l1 x32_1).f1)) ∧ w'.cell? ⟨gb403, 0, none⟩ = some (.int .u64 t401) ∧ w'.cell? ⟨gb403, 1, none⟩ = some (.int .u64 t402)) ∧ (Kd.R k28 28 w' w.heap.size (fun k_ => some k_ ≠ (.slice Ao34 x8_1.length co34 : Value).ownBlock ∧ k_ ≠ gb400 ∧ k_ ≠ gb403 ∧ k_ ≠ s_) (.slice Ao33 x7_1.length co33) x7_1) ∧ (Kd.R k28 28 w' w.heap.size (fun k_ => some k_ ≠ (.slice Ao33 x7_1.length co33 : Value).ownBlock ∧ k_ ≠ gb400 ∧ k_ ≠ gb403 ∧ k_ ≠ s_) (.slice Ao34 x8_1.length co34) x8_1) ∧ (w'.heap[gb400]? = some (.cells #[.int .u64 ((rd_T28 l1 x32_1).f0), .int .u64 ((rd_T28 l1 x32_1).f1)] 28 (0, 0))) ∧ (w'.heap[gb403]? = some (.cells #[.int .u64 t401, .int .u64 t402] 28 (0, 0))) ∧ (w'.heap[s_]? = some (.cells #[.int .u64 0, .int .u64 0] 28 (0, 0))) ∧ (w.heap.size ≤ s_) ∧ (w.heap.size ≤ s_) ∧ (gb400 ≠ s_) ∧ (s_ ≠ gb400) ∧ (gb403 ≠ s_) ∧ (s_ ≠ gb403) ∧ (Below w.heap.size w w')) ?_ ?_
               rotate_left
               ·intro hJ5_6_12
                refine join_ (σ := Unit) 4 #[true, true, true, true, true, true, true, true, true, true, false, false, false, false] (fun s_ => [(44, .agg #[.int .u64 t404, .int .u64 t405]), (45, .agg #[.int .u64 t406, .int .u64 t407])]) (fun s_ w' => (w'.cell? ⟨gb400, 0, none⟩ = some (.int .u64 ((rd_T28 l1 x32_1).f0)) ∧ w'.cell? ⟨gb400, 1, none⟩ = some (.int .u64 ((rd_T28 l1 x32_1).f1)) ∧ w'.cell? ⟨gb403, 0, none⟩ = some (.int .u64 t401) ∧ w'.cell? ⟨gb403, 1, none⟩ = some (.int .u64 t402)) ∧ (Kd.R k28 28 w' w.heap.size (fun k_ => some k_ ≠ (.slice Ao34 x8_1.length co34 : Value).ownBlock ∧ k_ ≠ gb400 ∧ k_ ≠ gb403) (.slice Ao33 x7_1.length co33) x7_1) ∧ (Kd.R k28 28 w' w.heap.size (fun k_ => some k_ ≠ (.slice Ao33 x7_1.length co33 : Value).ownBlock ∧ k_ ≠ gb400 ∧ k_ ≠ gb403) (.slice Ao34 x8_1.length co34) x8_1) ∧ (w'.heap[gb400]? = some (.cells #[.int .u64 ((rd_T28 l1 x32_1).f0), .int .u64 ((rd_T28 l1 x32_1).f1)] 28 (0, 0))) ∧ (w'.heap[gb403]? = some (.cells #[.int .u64 t401, .int .u64 t402] 28 (0, 0))) ∧ (Below w.heap.size w w')) ?_ ?_
                rotate_left
                ·intro hJ5_6
                 refine join_ (σ := Nat) 4 #[true, true, true, true, true, true, false, true, true, true, false, false, true, false] (fun s_ => [(44, .agg #[.int .u64 t404, .int .u64 t405]), (12, .pointer (some ⟨s_, 0, none⟩))]) (fun s_ w' => (w'.cell? ⟨gb400, 0, none⟩ = some (.int .u64 ((rd_T28 l1 x32_1).f0)) ∧ w'.cell? ⟨gb400, 1, none⟩ = some (.int .u64 ((rd_T28 l1 x32_1).f1)) ∧ w'.cell? ⟨gb403, 0, none⟩ = some (.int .u64 t401) ∧ w'.cell? ⟨gb403, 1, none⟩ = some (.int .u64 t402)) ∧ (Kd.R k28 28 w' w.heap.size (fun k_ => some k_ ≠ (.slice Ao34 x8_1.length co34 : Value).ownBlock ∧ k_ ≠ gb400 ∧ k_ ≠ gb403 ∧ k_ ≠ s_) (.slice Ao33 x7_1.length co33) x7_1) ∧ (Kd.R k28 28 w' w.heap.size (fun k_ => some k_ ≠ (.slice Ao33 x7_1.length co33 : Value).ownBlock ∧ k_ ≠ gb400 ∧ k_ ≠ gb403 ∧ k_ ≠ s_) (.slice Ao34 x8_1.length co34) x8_1) ∧ (w'.heap[gb400]? = some (.cells #[.int .u64 ((rd_T28 l1 x32_1).f0), .int .u64 ((rd_T28 l1 x32_1).f1)] 28 (0, 0))) ∧ (w'.heap[gb403]? = some (.cells #[.int .u64 t401, .int .u64 t402] 28 (0, 0))) ∧ (w'.heap[s_]? = some (.cells #[.int .u64 0, .int .u64 0] 28 (0, 0))) ∧ (w.heap.size ≤ s_) ∧ (w.heap.size ≤ s_) ∧ (gb400 ≠ s_) ∧ (s_ ≠ gb400) ∧ (gb403 ≠ s_) ∧ (s_ ≠ gb403) ∧ (Below w.heap.size w w')) ?_ ?_
                 rotate_left
                 ·intro hJ5_12
                  refine join_ (σ := Unit) 5 #[true, true, true, true, true, true, false, true, true, true, false, false, false, false] (fun s_ => [(44, .agg #[.int .u64 t404, .int .u64 t405])]) (fun s_ w' => (w'.cell? ⟨gb400, 0, none⟩ = some (.int .u64 ((rd_T28 l1 x32_1).f0)) ∧ w'.cell? ⟨gb400, 1, none⟩ = some (.int .u64 ((rd_T28 l1 x32_1).f1)) ∧ w'.cell? ⟨gb403, 0, none⟩ = some (.int .u64 t401) ∧ w'.cell? ⟨gb403, 1, none⟩ = some (.int .u64 t402)) ∧ (Kd.R k28 28 w' w.heap.size (fun k_ => some k_ ≠ (.slice Ao34 x8_1.length co34 : Value).ownBlock ∧ k_ ≠ gb400 ∧ k_ ≠ gb403) (.slice Ao33 x7_1.length co33) x7_1) ∧ (Kd.R k28 28 w' w.heap.size (fun k_ => some k_ ≠ (.slice Ao33 x7_1.length co33 : Value).ownBlock ∧ k_ ≠ gb400 ∧ k_ ≠ gb403) (.slice Ao34 x8_1.length co34) x8_1) ∧ (w'.heap[gb400]? = some (.cells #[.int .u64 ((rd_T28 l1 x32_1).f0), .int .u64 ((rd_T28 l1 x32_1).f1)] 28 (0, 0))) ∧ (w'.heap[gb403]? = some (.cells #[.int .u64 t401, .int .u64 t402] 28 (0, 0))) ∧ (Below w.heap.size w w')) ?_ ?_
                  rotate_left
                  ·intro hJ5
                   refine join_ (σ := Nat) 5 #[true, true, true, true, true, false, false, true, true, true, false, false, true, false] (fun s_ => [(12, .pointer (some ⟨s_, 0, none⟩))]) (fun s_ w' => (w'.cell? ⟨gb400, 0, none⟩ = some (.int .u64 ((rd_T28 l1 x32_1).f0)) ∧ w'.cell? ⟨gb400, 1, none⟩ = some (.int .u64 ((rd_T28 l1 x32_1).f1)) ∧ w'.cell? ⟨gb403, 0, none⟩ = some (.int .u64 t401) ∧ w'.cell? ⟨gb403, 1, none⟩ = some (.int .u64 t402)) ∧ (Kd.R k28 28 w' w.heap.size (fun k_ => some k_ ≠ (.slice Ao34 x8_1.length co34 : Value).ownBlock ∧ k_ ≠ gb400 ∧ k_ ≠ gb403 ∧ k_ ≠ s_) (.slice Ao33 x7_1.length co33) x7_1) ∧ (Kd.R k28 28 w' w.heap.size (fun k_ => some k_ ≠ (.slice Ao33 x7_1.length co33 : Value).ownBlock ∧ k_ ≠ gb400 ∧ k_ ≠ gb403 ∧ k_ ≠ s_) (.slice Ao34 x8_1.length co34) x8_1) ∧ (w'.heap[gb400]? = some (.cells #[.int .u64 ((rd_T28 l1 x32_1).f0), .int .u64 ((rd_T28 l1 x32_1).f1)] 28 (0, 0))) ∧ (w'.heap[gb403]? = some (.cells #[.int .u64 t401, .int .u64 t402] 28 (0, 0))) ∧ (w'.heap[s_]? = some (.cells #[.int .u64 0, .int .u64 0] 28 (0, 0))) ∧ (w.heap.size ≤ s_) ∧ (w.heap.size ≤ s_) ∧ (gb400 ≠ s_) ∧ (s_ ≠ gb400) ∧ (gb403 ≠ s_) ∧ (s_ ≠ gb403) ∧ (Below w.heap.size w w')) ?_ ?_
                   rotate_left
                   ·intro hJ12
                    refine two_ (i := 5) (j := 12) (Ni := some 44) (Nj := some 12) #[true, true, true, true, true, true, false, true, true, true, false, false, false, false] #[true, true, true, true, true, false, false, true, true, true, false, false, true, false] rfl rfl rfl rfl (two_of HT_.out (by kernel_rfl)) (by decide) (by decide) (fun K hK => ?_) (fun K hK => ?_)
                    ·skip
                     refine goes_ Try.func39 (by kernel_rfl) rfl #[.int .i64 a0, .slice Ao33 x7_1.length co33, .agg #[.int .u64 t401, .int .u64 t402]] (by rfl) rfl rfl (by (try simp only [List.map_toArray, List.map_cons, List.map_nil]); first | done | rfl | (simp only [List.length_drop, List.length_take]; rfl)) ?_
                     with_reducible refine (line_horner.calls k1 a0 _ _ x7_1 t401 t402 t404 t405 _ ?side1 ?side2 A20.out).mono ?_
                     (case side1 => repeat (first | exact (Kd.R_reads' HO_7.out).2.2 | (with_reducible refine Kd.C_alloc ?_ _) | (with_reducible refine Kd.C_drewN ?_ _) | (with_reducible refine Kd.C_drew ?_)))
                     (case side2 => exact (Kd.R_reads' HO_7.out).2.1)
                     rintro e w37 ⟨rfl, hb⟩
                     refine ⟨_, rfl, ?_⟩
                     replace HO_7 := kb HO_7 hb
                     replace HO_8 := kb HO_8 hb
                     replace BK400 := bb BK400 hb
                     replace BK403 := bb BK403 hb
                     replace HB := bh HB hb
                     (try clear hb)
                     (try clear hb2)
                     (try clear hk)
                     (try clear hi)
                     refine hK.out _ _ ⟨(blk_cell BK400.out 0).trans rfl, (blk_cell BK400.out 1).trans rfl, (blk_cell BK403.out 0).trans rfl, (blk_cell BK403.out 1).trans rfl⟩ (fun hHeld => ?_)
                     clear hK K
                     refine norm_ (a' := ?_) ?_ ?_
                     rotate_left
                     ·show Act.put _ (some 44) _ = _
                      simp only [Act.put, List.setIfInBounds_toArray, List.set_cons_zero, List.set_cons_succ, i64_w, i32_w]
                      rfl
                     exact norm_ (by first | (simp only [putAll, Act.put, List.setIfInBounds_toArray, List.set_cons_zero, List.set_cons_succ]; done) | (simp only [putAll, Act.put, List.setIfInBounds_toArray, List.set_cons_zero, List.set_cons_succ]; rfl)) (hJ5 () _ ⟨hHeld, (kr HO_7.out), (kr HO_8.out), (bk BK400.out), (bk BK403.out), (bq HB.out)⟩)
                    ·skip
                     refine box_step ?hg (N := 12) ?hd (cs := #[.int .u64 0, .int .u64 0]) (t := 28) ?hr ?_; (case hd => rfl); (case hg => rfl); (case hr => first | (go_simp; done) | (go_simp; rfl))
                     intro gb412 hg w37 hbox hb
                     have BK412 := Aside0.mk hbox
                     have GW412 := ge hg HB
                     have GE412 := ge hg HB
                     have NB400_412 := nl hg BK400
                     have NB412_400 := ng hg BK400
                     have NB403_412 := nl hg BK403
                     have NB412_403 := ng hg BK403
                     replace HO_7 := Aside0.mk (Kd.R_below (Kd.R_elderB (kr HO_7.out) gb412 (Nat.le_of_eq hg.symm)) hb)
                     replace HO_8 := Aside0.mk (Kd.R_below (Kd.R_elderB (kr HO_8.out) gb412 (Nat.le_of_eq hg.symm)) hb)
                     replace BK400 := bb BK400 hb
                     replace BK403 := bb BK403 hb
                     replace HB := bh HB hb
                     clear hb hbox hg
                     refine hK.out _ _ ⟨(blk_cell BK400.out 0).trans rfl, (blk_cell BK400.out 1).trans rfl, (blk_cell BK403.out 0).trans rfl, (blk_cell BK403.out 1).trans rfl⟩ (fun hHeld => ?_)
                     clear hK K
                     refine norm_ (a' := ?_) ?_ ?_
                     rotate_left
                     ·show Act.put _ (some 12) _ = _
                      simp only [Act.put, List.setIfInBounds_toArray, List.set_cons_zero, List.set_cons_succ, i64_w, i32_w]
                      rfl
                     exact norm_ (by first | (simp only [putAll, Act.put, List.setIfInBounds_toArray, List.set_cons_zero, List.set_cons_succ]; done) | (simp only [putAll, Act.put, List.setIfInBounds_toArray, List.set_cons_zero, List.set_cons_succ]; rfl)) (hJ12 (gb412) _ ⟨hHeld, (by (with_reducible repeat refine kl ?_); exact Kd.R_mono HO_7.out (fun _ hk => ⟨hk.1.1, ⟨hk.1.2.1, ⟨hk.1.2.2, hk.2⟩⟩⟩)), (by (with_reducible repeat refine kl ?_); exact Kd.R_mono HO_8.out (fun _ hk => ⟨hk.1.1, ⟨hk.1.2.1, ⟨hk.1.2.2, hk.2⟩⟩⟩)), (bk BK400.out), (bk BK403.out), (bk BK412.out), GW412.out, GE412.out, NB400_412.out, NB412_400.out, NB403_412.out, NB412_403.out, (bq HB.out)⟩)
                   ·skip
                    rintro gb412 w38 ⟨hS_, h0_, h1_, h2_, h3_, h4_, h5_, h6_, h7_, h8_, h9_, h10_, h11_⟩
                    have n0_ : Aside0 (Kd.R k28 28 w38 w.heap.size (fun k_ => some k_ ≠ (.slice Ao34 x8_1.length co34 : Value).ownBlock ∧ k_ ≠ gb400 ∧ k_ ≠ gb403 ∧ k_ ≠ gb412) (.slice Ao33 x7_1.length co33) x7_1) := ⟨h0_⟩
                    have n1_ : Aside0 (Kd.R k28 28 w38 w.heap.size (fun k_ => some k_ ≠ (.slice Ao33 x7_1.length co33 : Value).ownBlock ∧ k_ ≠ gb400 ∧ k_ ≠ gb403 ∧ k_ ≠ gb412) (.slice Ao34 x8_1.length co34) x8_1) := ⟨h1_⟩
                    have n2_ : Aside0 (w38.heap[gb400]? = some (.cells #[.int .u64 ((rd_T28 l1 x32_1).f0), .int .u64 ((rd_T28 l1 x32_1).f1)] 28 (0, 0))) := ⟨h2_⟩
                    have n3_ : Aside0 (w38.heap[gb403]? = some (.cells #[.int .u64 t401, .int .u64 t402] 28 (0, 0))) := ⟨h3_⟩
                    have n4_ : Aside0 (w38.heap[gb412]? = some (.cells #[.int .u64 0, .int .u64 0] 28 (0, 0))) := ⟨h4_⟩
                    have n5_ : Aside0 (w.heap.size ≤ gb412) := ⟨h5_⟩
                    have n6_ : Aside0 (w.heap.size ≤ gb412) := ⟨h6_⟩
                    have n7_ : Aside0 (gb400 ≠ gb412) := ⟨h7_⟩
                    have n8_ : Aside0 (gb412 ≠ gb400) := ⟨h8_⟩
                    have n9_ : Aside0 (gb403 ≠ gb412) := ⟨h9_⟩
                    have n10_ : Aside0 (gb412 ≠ gb403) := ⟨h10_⟩
                    have n11_ : Aside0 (Below w.heap.size w w38) := ⟨h11_⟩
                    clear HO_7
                    clear HO_8
                    clear BK400
                    clear BK403
                    clear HB
                    clear h0_ h1_ h2_ h3_ h4_ h5_ h6_ h7_ h8_ h9_ h10_ h11_
                    have HO_7 := n0_
                    have HO_8 := n1_
                    have BK400 := n2_
                    have BK403 := n3_
                    have BK412 := n4_
                    have GW412 := Aside1.mk n5_.out
                    have GE412 := Aside1.mk n6_.out
                    have NB400_412 := n7_
                    have NB412_400 := n8_
                    have NB403_412 := n9_
                    have NB412_403 := n10_
                    have HB := n11_
                    clear n0_ n1_ n2_ n3_ n4_ n5_ n6_ n7_ n8_ n9_ n10_ n11_
                    have hHeld : w38.cell? ⟨gb400, 0, none⟩ = some (.int .u64 ((rd_T28 l1 x32_1).f0)) ∧ w38.cell? ⟨gb400, 1, none⟩ = some (.int .u64 ((rd_T28 l1 x32_1).f1)) ∧ w38.cell? ⟨gb403, 0, none⟩ = some (.int .u64 t401) ∧ w38.cell? ⟨gb403, 1, none⟩ = some (.int .u64 t402) := hS_
                    refine norm_ (a' := ?_) ?_ ?_
                    rotate_left
                    ·simp only [putAll, Act.put, List.setIfInBounds_toArray, List.set_cons_zero, List.set_cons_succ]
                     rfl
                    refine one_ (i := 5) (N := some 44) #[true, true, true, true, true, true, false, true, true, true, false, false, true, false] rfl rfl (one_of HT_.out (by kernel_rfl)) (by decide) (fun K hK => ?_)
                    refine goes_ Try.func39 (by kernel_rfl) rfl #[.int .i64 a0, .slice Ao33 x7_1.length co33, .agg #[.int .u64 t401, .int .u64 t402]] (by rfl) rfl rfl (by (try simp only [List.map_toArray, List.map_cons, List.map_nil]); first | done | rfl | (simp only [List.length_drop, List.length_take]; rfl)) ?_
                    with_reducible refine (line_horner.calls k1 a0 _ _ x7_1 t401 t402 t404 t405 _ ?side1 ?side2 A20.out).mono ?_
                    (case side1 => repeat (first | exact (Kd.R_reads' HO_7.out).2.2 | (with_reducible refine Kd.C_alloc ?_ _) | (with_reducible refine Kd.C_drewN ?_ _) | (with_reducible refine Kd.C_drew ?_)))
                    (case side2 => exact (Kd.R_reads' HO_7.out).2.1)
                    rintro e w39 ⟨rfl, hb⟩
                    refine ⟨_, rfl, ?_⟩
                    replace HO_7 := kb HO_7 hb
                    replace HO_8 := kb HO_8 hb
                    replace BK400 := bb BK400 hb
                    replace BK403 := bb BK403 hb
                    replace BK412 := bb BK412 hb
                    replace HB := bh HB hb
                    (try clear hb)
                    (try clear hb2)
                    (try clear hk)
                    (try clear hi)
                    refine hK.out _ _ ⟨(blk_cell BK400.out 0).trans rfl, (blk_cell BK400.out 1).trans rfl, (blk_cell BK403.out 0).trans rfl, (blk_cell BK403.out 1).trans rfl⟩ (fun hHeld => ?_)
                    clear hK K
                    refine norm_ (a' := ?_) ?_ ?_
                    rotate_left
                    ·show Act.put _ (some 44) _ = _
                     simp only [Act.put, List.setIfInBounds_toArray, List.set_cons_zero, List.set_cons_succ, i64_w, i32_w]
                     rfl
                    exact norm_ (by first | (simp only [putAll, Act.put, List.setIfInBounds_toArray, List.set_cons_zero, List.set_cons_succ]; done) | (simp only [putAll, Act.put, List.setIfInBounds_toArray, List.set_cons_zero, List.set_cons_succ]; rfl)) (hJ5_12 (gb412) _ ⟨hHeld, (kr HO_7.out), (kr HO_8.out), (bk BK400.out), (bk BK403.out), (bk BK412.out), GW412.out, GE412.out, NB400_412.out, NB412_400.out, NB403_412.out, NB412_403.out, (bq HB.out)⟩)
                  ·skip
                   rintro _ w38 ⟨hS_, h0_, h1_, h2_, h3_, h4_⟩
                   have n0_ : Aside0 (Kd.R k28 28 w38 w.heap.size (fun k_ => some k_ ≠ (.slice Ao34 x8_1.length co34 : Value).ownBlock ∧ k_ ≠ gb400 ∧ k_ ≠ gb403) (.slice Ao33 x7_1.length co33) x7_1) := ⟨h0_⟩
                   have n1_ : Aside0 (Kd.R k28 28 w38 w.heap.size (fun k_ => some k_ ≠ (.slice Ao33 x7_1.length co33 : Value).ownBlock ∧ k_ ≠ gb400 ∧ k_ ≠ gb403) (.slice Ao34 x8_1.length co34) x8_1) := ⟨h1_⟩
                   have n2_ : Aside0 (w38.heap[gb400]? = some (.cells #[.int .u64 ((rd_T28 l1 x32_1).f0), .int .u64 ((rd_T28 l1 x32_1).f1)] 28 (0, 0))) := ⟨h2_⟩
                   have n3_ : Aside0 (w38.heap[gb403]? = some (.cells #[.int .u64 t401, .int .u64 t402] 28 (0, 0))) := ⟨h3_⟩
                   have n4_ : Aside0 (Below w.heap.size w w38) := ⟨h4_⟩
                   clear HO_7
                   clear HO_8
                   clear BK400
                   clear BK403
                   clear HB
                   clear h0_ h1_ h2_ h3_ h4_
                   have HO_7 := n0_
                   have HO_8 := n1_
                   have BK400 := n2_
                   have BK403 := n3_
                   have HB := n4_
                   clear n0_ n1_ n2_ n3_ n4_
                   have hHeld : w38.cell? ⟨gb400, 0, none⟩ = some (.int .u64 ((rd_T28 l1 x32_1).f0)) ∧ w38.cell? ⟨gb400, 1, none⟩ = some (.int .u64 ((rd_T28 l1 x32_1).f1)) ∧ w38.cell? ⟨gb403, 0, none⟩ = some (.int .u64 t401) ∧ w38.cell? ⟨gb403, 1, none⟩ = some (.int .u64 t402) := hS_
                   refine norm_ (a' := ?_) ?_ ?_
                   rotate_left
                   ·simp only [putAll, Act.put, List.setIfInBounds_toArray, List.set_cons_zero, List.set_cons_succ]
                    rfl
                   refine two_ (i := 6) (j := 12) (Ni := some 45) (Nj := some 12) #[true, true, true, true, true, true, true, true, true, true, false, false, false, false] #[true, true, true, true, true, true, false, true, true, true, false, false, true, false] rfl rfl rfl rfl (two_of HT_.out (by kernel_rfl)) (by decide) (by decide) (fun K hK => ?_) (fun K hK => ?_)
                   ·skip
                    refine goes_ Try.func12 (by kernel_rfl) rfl #[.agg #[.int .u64 ((rd_T28 l1 x32_1).f0), .int .u64 ((rd_T28 l1 x32_1).f1)], .agg #[.int .u64 t404, .int .u64 t405]] (by rfl) rfl rfl (by (try simp only [List.map_toArray, List.map_cons, List.map_nil]); first | done | rfl | (simp only [List.length_drop, List.length_take]; rfl)) ?_
                    with_reducible refine (tower_Add.calls ((rd_T28 l1 x32_1).f0) ((rd_T28 l1 x32_1).f1) t404 t405 t406 t407 _ A21.out).mono ?_
                    rintro e w39 ⟨rfl, hb⟩
                    refine ⟨_, rfl, ?_⟩
                    replace HO_7 := kb HO_7 hb
                    replace HO_8 := kb HO_8 hb
                    replace BK400 := bb BK400 hb
                    replace BK403 := bb BK403 hb
                    replace HB := bh HB hb
                    (try clear hb)
                    (try clear hb2)
                    (try clear hk)
                    (try clear hi)
                    refine hK.out _ _ ⟨(blk_cell BK400.out 0).trans rfl, (blk_cell BK400.out 1).trans rfl, (blk_cell BK403.out 0).trans rfl, (blk_cell BK403.out 1).trans rfl⟩ (fun hHeld => ?_)
                    clear hK K
                    refine norm_ (a' := ?_) ?_ ?_
                    rotate_left
                    ·show Act.put _ (some 45) _ = _
                     simp only [Act.put, List.setIfInBounds_toArray, List.set_cons_zero, List.set_cons_succ, i64_w, i32_w]
                     rfl
                    exact norm_ (by first | (simp only [putAll, Act.put, List.setIfInBounds_toArray, List.set_cons_zero, List.set_cons_succ]; done) | (simp only [putAll, Act.put, List.setIfInBounds_toArray, List.set_cons_zero, List.set_cons_succ]; rfl)) (hJ5_6 () _ ⟨hHeld, (kr HO_7.out), (kr HO_8.out), (bk BK400.out), (bk BK403.out), (bq HB.out)⟩)
                   ·skip
                    refine box_step ?hg (N := 12) ?hd (cs := #[.int .u64 0, .int .u64 0]) (t := 28) ?hr ?_; (case hd => rfl); (case hg => rfl); (case hr => first | (go_simp; done) | (go_simp; rfl))
                    intro gb412 hg w39 hbox hb
                    have BK412 := Aside0.mk hbox
                    have GW412 := ge hg HB
                    have GE412 := ge hg HB
                    have NB400_412 := nl hg BK400
                    have NB412_400 := ng hg BK400
                    have NB403_412 := nl hg BK403
                    have NB412_403 := ng hg BK403
                    replace HO_7 := Aside0.mk (Kd.R_below (Kd.R_elderB (kr HO_7.out) gb412 (Nat.le_of_eq hg.symm)) hb)
                    replace HO_8 := Aside0.mk (Kd.R_below (Kd.R_elderB (kr HO_8.out) gb412 (Nat.le_of_eq hg.symm)) hb)
                    replace BK400 := bb BK400 hb
                    replace BK403 := bb BK403 hb
                    replace HB := bh HB hb
                    clear hb hbox hg
                    refine hK.out _ _ ⟨(blk_cell BK400.out 0).trans rfl, (blk_cell BK400.out 1).trans rfl, (blk_cell BK403.out 0).trans rfl, (blk_cell BK403.out 1).trans rfl⟩ (fun hHeld => ?_)
                    clear hK K
                    refine norm_ (a' := ?_) ?_ ?_
                    rotate_left
                    ·show Act.put _ (some 12) _ = _
                     simp only [Act.put, List.setIfInBounds_toArray, List.set_cons_zero, List.set_cons_succ, i64_w, i32_w]
                     rfl
                    exact norm_ (by first | (simp only [putAll, Act.put, List.setIfInBounds_toArray, List.set_cons_zero, List.set_cons_succ]; done) | (simp only [putAll, Act.put, List.setIfInBounds_toArray, List.set_cons_zero, List.set_cons_succ]; rfl)) (hJ5_12 (gb412) _ ⟨hHeld, (by (with_reducible repeat refine kl ?_); exact Kd.R_mono HO_7.out (fun _ hk => ⟨hk.1.1, ⟨hk.1.2.1, ⟨hk.1.2.2, hk.2⟩⟩⟩)), (by (with_reducible repeat refine kl ?_); exact Kd.R_mono HO_8.out (fun _ hk => ⟨hk.1.1, ⟨hk.1.2.1, ⟨hk.1.2.2, hk.2⟩⟩⟩)), (bk BK400.out), (bk BK403.out), (bk BK412.out), GW412.out, GE412.out, NB400_412.out, NB412_400.out, NB403_412.out, NB412_403.out, (bq HB.out)⟩)
                 ·skip
                  rintro gb412 w39 ⟨hS_, h0_, h1_, h2_, h3_, h4_, h5_, h6_, h7_, h8_, h9_, h10_, h11_⟩
                  have n0_ : Aside0 (Kd.R k28 28 w39 w.heap.size (fun k_ => some k_ ≠ (.slice Ao34 x8_1.length co34 : Value).ownBlock ∧ k_ ≠ gb400 ∧ k_ ≠ gb403 ∧ k_ ≠ gb412) (.slice Ao33 x7_1.length co33) x7_1) := ⟨h0_⟩
                  have n1_ : Aside0 (Kd.R k28 28 w39 w.heap.size (fun k_ => some k_ ≠ (.slice Ao33 x7_1.length co33 : Value).ownBlock ∧ k_ ≠ gb400 ∧ k_ ≠ gb403 ∧ k_ ≠ gb412) (.slice Ao34 x8_1.length co34) x8_1) := ⟨h1_⟩
                  have n2_ : Aside0 (w39.heap[gb400]? = some (.cells #[.int .u64 ((rd_T28 l1 x32_1).f0), .int .u64 ((rd_T28 l1 x32_1).f1)] 28 (0, 0))) := ⟨h2_⟩
                  have n3_ : Aside0 (w39.heap[gb403]? = some (.cells #[.int .u64 t401, .int .u64 t402] 28 (0, 0))) := ⟨h3_⟩
                  have n4_ : Aside0 (w39.heap[gb412]? = some (.cells #[.int .u64 0, .int .u64 0] 28 (0, 0))) := ⟨h4_⟩
                  have n5_ : Aside0 (w.heap.size ≤ gb412) := ⟨h5_⟩
                  have n6_ : Aside0 (w.heap.size ≤ gb412) := ⟨h6_⟩
                  have n7_ : Aside0 (gb400 ≠ gb412) := ⟨h7_⟩
                  have n8_ : Aside0 (gb412 ≠ gb400) := ⟨h8_⟩
                  have n9_ : Aside0 (gb403 ≠ gb412) := ⟨h9_⟩
                  have n10_ : Aside0 (gb412 ≠ gb403) := ⟨h10_⟩
                  have n11_ : Aside0 (Below w.heap.size w w39) := ⟨h11_⟩
                  clear HO_7
                  clear HO_8
                  clear BK400
                  clear BK403
                  clear HB
                  clear h0_ h1_ h2_ h3_ h4_ h5_ h6_ h7_ h8_ h9_ h10_ h11_
                  have HO_7 := n0_
                  have HO_8 := n1_
                  have BK400 := n2_
                  have BK403 := n3_
                  have BK412 := n4_
                  have GW412 := Aside1.mk n5_.out
                  have GE412 := Aside1.mk n6_.out
                  have NB400_412 := n7_
                  have NB412_400 := n8_
                  have NB403_412 := n9_
                  have NB412_403 := n10_
                  have HB := n11_
                  clear n0_ n1_ n2_ n3_ n4_ n5_ n6_ n7_ n8_ n9_ n10_ n11_
                  have hHeld : w39.cell? ⟨gb400, 0, none⟩ = some (.int .u64 ((rd_T28 l1 x32_1).f0)) ∧ w39.cell? ⟨gb400, 1, none⟩ = some (.int .u64 ((rd_T28 l1 x32_1).f1)) ∧ w39.cell? ⟨gb403, 0, none⟩ = some (.int .u64 t401) ∧ w39.cell? ⟨gb403, 1, none⟩ = some (.int .u64 t402) := hS_
                  refine norm_ (a' := ?_) ?_ ?_
                  rotate_left
                  ·simp only [putAll, Act.put, List.setIfInBounds_toArray, List.set_cons_zero, List.set_cons_succ]
                   rfl
                  refine one_ (i := 6) (N := some 45) #[true, true, true, true, true, true, true, true, true, true, false, false, true, false] rfl rfl (one_of HT_.out (by kernel_rfl)) (by decide) (fun K hK => ?_)
                  refine goes_ Try.func12 (by kernel_rfl) rfl #[.agg #[.int .u64 ((rd_T28 l1 x32_1).f0), .int .u64 ((rd_T28 l1 x32_1).f1)], .agg #[.int .u64 t404, .int .u64 t405]] (by rfl) rfl rfl (by (try simp only [List.map_toArray, List.map_cons, List.map_nil]); first | done | rfl | (simp only [List.length_drop, List.length_take]; rfl)) ?_
                  with_reducible refine (tower_Add.calls ((rd_T28 l1 x32_1).f0) ((rd_T28 l1 x32_1).f1) t404 t405 t406 t407 _ A21.out).mono ?_
                  rintro e w40 ⟨rfl, hb⟩
                  refine ⟨_, rfl, ?_⟩
                  replace HO_7 := kb HO_7 hb
                  replace HO_8 := kb HO_8 hb
                  replace BK400 := bb BK400 hb
                  replace BK403 := bb BK403 hb
                  replace BK412 := bb BK412 hb
                  replace HB := bh HB hb
                  (try clear hb)
                  (try clear hb2)
                  (try clear hk)
                  (try clear hi)
                  refine hK.out _ _ ⟨(blk_cell BK400.out 0).trans rfl, (blk_cell BK400.out 1).trans rfl, (blk_cell BK403.out 0).trans rfl, (blk_cell BK403.out 1).trans rfl⟩ (fun hHeld => ?_)
                  clear hK K
                  refine norm_ (a' := ?_) ?_ ?_
                  rotate_left
                  ·show Act.put _ (some 45) _ = _
                   simp only [Act.put, List.setIfInBounds_toArray, List.set_cons_zero, List.set_cons_succ, i64_w, i32_w]
                   rfl
                  exact norm_ (by first | (simp only [putAll, Act.put, List.setIfInBounds_toArray, List.set_cons_zero, List.set_cons_succ]; done) | (simp only [putAll, Act.put, List.setIfInBounds_toArray, List.set_cons_zero, List.set_cons_succ]; rfl)) (hJ5_6_12 (gb412) _ ⟨hHeld, (kr HO_7.out), (kr HO_8.out), (bk BK400.out), (bk BK403.out), (bk BK412.out), GW412.out, GE412.out, NB400_412.out, NB412_400.out, NB403_412.out, NB412_403.out, (bq HB.out)⟩)
                ·skip
                 rintro _ w39 ⟨hS_, h0_, h1_, h2_, h3_, h4_⟩
                 have n0_ : Aside0 (Kd.R k28 28 w39 w.heap.size (fun k_ => some k_ ≠ (.slice Ao34 x8_1.length co34 : Value).ownBlock ∧ k_ ≠ gb400 ∧ k_ ≠ gb403) (.slice Ao33 x7_1.length co33) x7_1) := ⟨h0_⟩
                 have n1_ : Aside0 (Kd.R k28 28 w39 w.heap.size (fun k_ => some k_ ≠ (.slice Ao33 x7_1.length co33 : Value).ownBlock ∧ k_ ≠ gb400 ∧ k_ ≠ gb403) (.slice Ao34 x8_1.length co34) x8_1) := ⟨h1_⟩
                 have n2_ : Aside0 (w39.heap[gb400]? = some (.cells #[.int .u64 ((rd_T28 l1 x32_1).f0), .int .u64 ((rd_T28 l1 x32_1).f1)] 28 (0, 0))) := ⟨h2_⟩
                 have n3_ : Aside0 (w39.heap[gb403]? = some (.cells #[.int .u64 t401, .int .u64 t402] 28 (0, 0))) := ⟨h3_⟩
                 have n4_ : Aside0 (Below w.heap.size w w39) := ⟨h4_⟩
                 clear HO_7
                 clear HO_8
                 clear BK400
                 clear BK403
                 clear HB
                 clear h0_ h1_ h2_ h3_ h4_
                 have HO_7 := n0_
                 have HO_8 := n1_
                 have BK400 := n2_
                 have BK403 := n3_
                 have HB := n4_
                 clear n0_ n1_ n2_ n3_ n4_
                 have hHeld : w39.cell? ⟨gb400, 0, none⟩ = some (.int .u64 ((rd_T28 l1 x32_1).f0)) ∧ w39.cell? ⟨gb400, 1, none⟩ = some (.int .u64 ((rd_T28 l1 x32_1).f1)) ∧ w39.cell? ⟨gb403, 0, none⟩ = some (.int .u64 t401) ∧ w39.cell? ⟨gb403, 1, none⟩ = some (.int .u64 t402) := hS_
                 refine norm_ (a' := ?_) ?_ ?_
                 rotate_left
                 ·simp only [putAll, Act.put, List.setIfInBounds_toArray, List.set_cons_zero, List.set_cons_succ]
                  rfl
                 refine two_ (i := 10) (j := 12) (Ni := some 49) (Nj := some 12) #[true, true, true, true, true, true, true, true, true, true, true, false, false, false] #[true, true, true, true, true, true, true, true, true, true, false, false, true, false] rfl rfl rfl rfl (two_of HT_.out (by kernel_rfl)) (by decide) (by decide) (fun K hK => ?_) (fun K hK => ?_)
                 ·skip
                  refine goes_ Try.func39 (by kernel_rfl) rfl #[.int .i64 a0, .slice Ao34 x8_1.length co34, .agg #[.int .u64 t401, .int .u64 t402]] (by rfl) rfl rfl (by (try simp only [List.map_toArray, List.map_cons, List.map_nil]); first | done | rfl | (simp only [List.length_drop, List.length_take]; rfl)) ?_
                  with_reducible refine (line_horner.calls k1 a0 _ _ x8_1 t401 t402 t408 t409 _ ?side1 ?side2 A22.out).mono ?_
                  (case side1 => repeat (first | exact (Kd.R_reads' HO_8.out).2.2 | (with_reducible refine Kd.C_alloc ?_ _) | (with_reducible refine Kd.C_drewN ?_ _) | (with_reducible refine Kd.C_drew ?_)))
                  (case side2 => exact (Kd.R_reads' HO_8.out).2.1)
                  rintro e w40 ⟨rfl, hb⟩
                  refine ⟨_, rfl, ?_⟩
                  replace HO_7 := kb HO_7 hb
                  replace HO_8 := kb HO_8 hb
                  replace BK400 := bb BK400 hb
                  replace BK403 := bb BK403 hb
                  replace HB := bh HB hb
                  (try clear hb)
                  (try clear hb2)
                  (try clear hk)
                  (try clear hi)
                  refine hK.out _ _ ⟨(blk_cell BK400.out 0).trans rfl, (blk_cell BK400.out 1).trans rfl, (blk_cell BK403.out 0).trans rfl, (blk_cell BK403.out 1).trans rfl⟩ (fun hHeld => ?_)
                  clear hK K
                  refine norm_ (a' := ?_) ?_ ?_
                  rotate_left
                  ·show Act.put _ (some 49) _ = _
                   simp only [Act.put, List.setIfInBounds_toArray, List.set_cons_zero, List.set_cons_succ, i64_w, i32_w]
                   rfl
                  exact norm_ (by first | (simp only [putAll, Act.put, List.setIfInBounds_toArray, List.set_cons_zero, List.set_cons_succ]; done) | (simp only [putAll, Act.put, List.setIfInBounds_toArray, List.set_cons_zero, List.set_cons_succ]; rfl)) (hJ5_6_10 () _ ⟨hHeld, (kr HO_7.out), (kr HO_8.out), (bk BK400.out), (bk BK403.out), (bq HB.out)⟩)
                 ·skip
                  refine box_step ?hg (N := 12) ?hd (cs := #[.int .u64 0, .int .u64 0]) (t := 28) ?hr ?_; (case hd => rfl); (case hg => rfl); (case hr => first | (go_simp; done) | (go_simp; rfl))
                  intro gb412 hg w40 hbox hb
                  have BK412 := Aside0.mk hbox
                  have GW412 := ge hg HB
                  have GE412 := ge hg HB
                  have NB400_412 := nl hg BK400
                  have NB412_400 := ng hg BK400
                  have NB403_412 := nl hg BK403
                  have NB412_403 := ng hg BK403
                  replace HO_7 := Aside0.mk (Kd.R_below (Kd.R_elderB (kr HO_7.out) gb412 (Nat.le_of_eq hg.symm)) hb)
                  replace HO_8 := Aside0.mk (Kd.R_below (Kd.R_elderB (kr HO_8.out) gb412 (Nat.le_of_eq hg.symm)) hb)
                  replace BK400 := bb BK400 hb
                  replace BK403 := bb BK403 hb
                  replace HB := bh HB hb
                  clear hb hbox hg
                  refine hK.out _ _ ⟨(blk_cell BK400.out 0).trans rfl, (blk_cell BK400.out 1).trans rfl, (blk_cell BK403.out 0).trans rfl, (blk_cell BK403.out 1).trans rfl⟩ (fun hHeld => ?_)
                  clear hK K
                  refine norm_ (a' := ?_) ?_ ?_
                  rotate_left
                  ·show Act.put _ (some 12) _ = _
                   simp only [Act.put, List.setIfInBounds_toArray, List.set_cons_zero, List.set_cons_succ, i64_w, i32_w]
                   rfl
                  exact norm_ (by first | (simp only [putAll, Act.put, List.setIfInBounds_toArray, List.set_cons_zero, List.set_cons_succ]; done) | (simp only [putAll, Act.put, List.setIfInBounds_toArray, List.set_cons_zero, List.set_cons_succ]; rfl)) (hJ5_6_12 (gb412) _ ⟨hHeld, (by (with_reducible repeat refine kl ?_); exact Kd.R_mono HO_7.out (fun _ hk => ⟨hk.1.1, ⟨hk.1.2.1, ⟨hk.1.2.2, hk.2⟩⟩⟩)), (by (with_reducible repeat refine kl ?_); exact Kd.R_mono HO_8.out (fun _ hk => ⟨hk.1.1, ⟨hk.1.2.1, ⟨hk.1.2.2, hk.2⟩⟩⟩)), (bk BK400.out), (bk BK403.out), (bk BK412.out), GW412.out, GE412.out, NB400_412.out, NB412_400.out, NB403_412.out, NB412_403.out, (bq HB.out)⟩)
               ·skip
                rintro gb412 w40 ⟨hS_, h0_, h1_, h2_, h3_, h4_, h5_, h6_, h7_, h8_, h9_, h10_, h11_⟩
                have n0_ : Aside0 (Kd.R k28 28 w40 w.heap.size (fun k_ => some k_ ≠ (.slice Ao34 x8_1.length co34 : Value).ownBlock ∧ k_ ≠ gb400 ∧ k_ ≠ gb403 ∧ k_ ≠ gb412) (.slice Ao33 x7_1.length co33) x7_1) := ⟨h0_⟩
                have n1_ : Aside0 (Kd.R k28 28 w40 w.heap.size (fun k_ => some k_ ≠ (.slice Ao33 x7_1.length co33 : Value).ownBlock ∧ k_ ≠ gb400 ∧ k_ ≠ gb403 ∧ k_ ≠ gb412) (.slice Ao34 x8_1.length co34) x8_1) := ⟨h1_⟩
                have n2_ : Aside0 (w40.heap[gb400]? = some (.cells #[.int .u64 ((rd_T28 l1 x32_1).f0), .int .u64 ((rd_T28 l1 x32_1).f1)] 28 (0, 0))) := ⟨h2_⟩
                have n3_ : Aside0 (w40.heap[gb403]? = some (.cells #[.int .u64 t401, .int .u64 t402] 28 (0, 0))) := ⟨h3_⟩
                have n4_ : Aside0 (w40.heap[gb412]? = some (.cells #[.int .u64 0, .int .u64 0] 28 (0, 0))) := ⟨h4_⟩
                have n5_ : Aside0 (w.heap.size ≤ gb412) := ⟨h5_⟩
                have n6_ : Aside0 (w.heap.size ≤ gb412) := ⟨h6_⟩
                have n7_ : Aside0 (gb400 ≠ gb412) := ⟨h7_⟩
                have n8_ : Aside0 (gb412 ≠ gb400) := ⟨h8_⟩
                have n9_ : Aside0 (gb403 ≠ gb412) := ⟨h9_⟩
                have n10_ : Aside0 (gb412 ≠ gb403) := ⟨h10_⟩
                have n11_ : Aside0 (Below w.heap.size w w40) := ⟨h11_⟩
                clear HO_7
                clear HO_8
                clear BK400
                clear BK403
                clear HB
                clear h0_ h1_ h2_ h3_ h4_ h5_ h6_ h7_ h8_ h9_ h10_ h11_
                have HO_7 := n0_
                have HO_8 := n1_
                have BK400 := n2_
                have BK403 := n3_
                have BK412 := n4_
                have GW412 := Aside1.mk n5_.out
                have GE412 := Aside1.mk n6_.out
                have NB400_412 := n7_
                have NB412_400 := n8_
                have NB403_412 := n9_
                have NB412_403 := n10_
                have HB := n11_
                clear n0_ n1_ n2_ n3_ n4_ n5_ n6_ n7_ n8_ n9_ n10_ n11_
                have hHeld : w40.cell? ⟨gb400, 0, none⟩ = some (.int .u64 ((rd_T28 l1 x32_1).f0)) ∧ w40.cell? ⟨gb400, 1, none⟩ = some (.int .u64 ((rd_T28 l1 x32_1).f1)) ∧ w40.cell? ⟨gb403, 0, none⟩ = some (.int .u64 t401) ∧ w40.cell? ⟨gb403, 1, none⟩ = some (.int .u64 t402) := hS_
                refine norm_ (a' := ?_) ?_ ?_
                rotate_left
                ·simp only [putAll, Act.put, List.setIfInBounds_toArray, List.set_cons_zero, List.set_cons_succ]
                 rfl
                refine one_ (i := 10) (N := some 49) #[true, true, true, true, true, true, true, true, true, true, true, false, true, false] rfl rfl (one_of HT_.out (by kernel_rfl)) (by decide) (fun K hK => ?_)
                refine goes_ Try.func39 (by kernel_rfl) rfl #[.int .i64 a0, .slice Ao34 x8_1.length co34, .agg #[.int .u64 t401, .int .u64 t402]] (by rfl) rfl rfl (by (try simp only [List.map_toArray, List.map_cons, List.map_nil]); first | done | rfl | (simp only [List.length_drop, List.length_take]; rfl)) ?_
                with_reducible refine (line_horner.calls k1 a0 _ _ x8_1 t401 t402 t408 t409 _ ?side1 ?side2 A22.out).mono ?_
                (case side1 => repeat (first | exact (Kd.R_reads' HO_8.out).2.2 | (with_reducible refine Kd.C_alloc ?_ _) | (with_reducible refine Kd.C_drewN ?_ _) | (with_reducible refine Kd.C_drew ?_)))
                (case side2 => exact (Kd.R_reads' HO_8.out).2.1)
                rintro e w41 ⟨rfl, hb⟩
                refine ⟨_, rfl, ?_⟩
                replace HO_7 := kb HO_7 hb
                replace HO_8 := kb HO_8 hb
                replace BK400 := bb BK400 hb
                replace BK403 := bb BK403 hb
                replace BK412 := bb BK412 hb
                replace HB := bh HB hb
                (try clear hb)
                (try clear hb2)
                (try clear hk)
                (try clear hi)
                refine hK.out _ _ ⟨(blk_cell BK400.out 0).trans rfl, (blk_cell BK400.out 1).trans rfl, (blk_cell BK403.out 0).trans rfl, (blk_cell BK403.out 1).trans rfl⟩ (fun hHeld => ?_)
                clear hK K
                refine norm_ (a' := ?_) ?_ ?_
                rotate_left
                ·show Act.put _ (some 49) _ = _
                 simp only [Act.put, List.setIfInBounds_toArray, List.set_cons_zero, List.set_cons_succ, i64_w, i32_w]
                 rfl
                exact norm_ (by first | (simp only [putAll, Act.put, List.setIfInBounds_toArray, List.set_cons_zero, List.set_cons_succ]; done) | (simp only [putAll, Act.put, List.setIfInBounds_toArray, List.set_cons_zero, List.set_cons_succ]; rfl)) (hJ5_6_10_12 (gb412) _ ⟨hHeld, (kr HO_7.out), (kr HO_8.out), (bk BK400.out), (bk BK403.out), (bk BK412.out), GW412.out, GE412.out, NB400_412.out, NB412_400.out, NB403_412.out, NB412_403.out, (bq HB.out)⟩)
              ·skip
               rintro _ w40 ⟨hS_, h0_, h1_, h2_, h3_, h4_⟩
               have n0_ : Aside0 (Kd.R k28 28 w40 w.heap.size (fun k_ => some k_ ≠ (.slice Ao34 x8_1.length co34 : Value).ownBlock ∧ k_ ≠ gb400 ∧ k_ ≠ gb403) (.slice Ao33 x7_1.length co33) x7_1) := ⟨h0_⟩
               have n1_ : Aside0 (Kd.R k28 28 w40 w.heap.size (fun k_ => some k_ ≠ (.slice Ao33 x7_1.length co33 : Value).ownBlock ∧ k_ ≠ gb400 ∧ k_ ≠ gb403) (.slice Ao34 x8_1.length co34) x8_1) := ⟨h1_⟩
               have n2_ : Aside0 (w40.heap[gb400]? = some (.cells #[.int .u64 ((rd_T28 l1 x32_1).f0), .int .u64 ((rd_T28 l1 x32_1).f1)] 28 (0, 0))) := ⟨h2_⟩
               have n3_ : Aside0 (w40.heap[gb403]? = some (.cells #[.int .u64 t401, .int .u64 t402] 28 (0, 0))) := ⟨h3_⟩
               have n4_ : Aside0 (Below w.heap.size w w40) := ⟨h4_⟩
               clear HO_7
               clear HO_8
               clear BK400
               clear BK403
               clear HB
               clear h0_ h1_ h2_ h3_ h4_
               have HO_7 := n0_
               have HO_8 := n1_
               have BK400 := n2_
               have BK403 := n3_
               have HB := n4_
               clear n0_ n1_ n2_ n3_ n4_
               have hHeld : w40.cell? ⟨gb400, 0, none⟩ = some (.int .u64 ((rd_T28 l1 x32_1).f0)) ∧ w40.cell? ⟨gb400, 1, none⟩ = some (.int .u64 ((rd_T28 l1 x32_1).f1)) ∧ w40.cell? ⟨gb403, 0, none⟩ = some (.int .u64 t401) ∧ w40.cell? ⟨gb403, 1, none⟩ = some (.int .u64 t402) := hS_
               refine norm_ (a' := ?_) ?_ ?_
               rotate_left
               ·simp only [putAll, Act.put, List.setIfInBounds_toArray, List.set_cons_zero, List.set_cons_succ]
                rfl
               refine two_ (i := 11) (j := 12) (Ni := some 50) (Nj := some 12) #[true, true, true, true, true, true, true, true, true, true, true, true, false, false] #[true, true, true, true, true, true, true, true, true, true, true, false, true, false] rfl rfl rfl rfl (two_of HT_.out (by kernel_rfl)) (by decide) (by decide) (fun K hK => ?_) (fun K hK => ?_)
               ·skip
                refine goes_ Try.func38 (by kernel_rfl) rfl #[.int .i64 a0, .agg #[.int .u64 t406, .int .u64 t407], .agg #[.int .u64 t408, .int .u64 t409]] (by rfl) rfl rfl (by (try simp only [List.map_toArray, List.map_cons, List.map_nil]); first | done | rfl | (simp only [List.length_drop, List.length_take]; rfl)) ?_
                with_reducible refine (tower_Div.calls k1 a0 t406 t407 t408 t409 t410 t411 _ A23.out).mono ?_
                rintro e w41 ⟨rfl, hb⟩
                refine ⟨_, rfl, ?_⟩
                replace HO_7 := kb HO_7 hb
                replace HO_8 := kb HO_8 hb
                replace BK400 := bb BK400 hb
                replace BK403 := bb BK403 hb
                replace HB := bh HB hb
                (try clear hb)
                (try clear hb2)
                (try clear hk)
                (try clear hi)
                refine hK.out _ _ ⟨(blk_cell BK400.out 0).trans rfl, (blk_cell BK400.out 1).trans rfl, (blk_cell BK403.out 0).trans rfl, (blk_cell BK403.out 1).trans rfl⟩ (fun hHeld => ?_)
                clear hK K
                refine norm_ (a' := ?_) ?_ ?_
                rotate_left
                ·show Act.put _ (some 50) _ = _
                 simp only [Act.put, List.setIfInBounds_toArray, List.set_cons_zero, List.set_cons_succ, i64_w, i32_w]
                 rfl
                exact norm_ (by first | (simp only [putAll, Act.put, List.setIfInBounds_toArray, List.set_cons_zero, List.set_cons_succ]; done) | (simp only [putAll, Act.put, List.setIfInBounds_toArray, List.set_cons_zero, List.set_cons_succ]; rfl)) (hJ5_6_10_11 () _ ⟨hHeld, (kr HO_7.out), (kr HO_8.out), (bk BK400.out), (bk BK403.out), (bq HB.out)⟩)
               ·skip
                refine box_step ?hg (N := 12) ?hd (cs := #[.int .u64 0, .int .u64 0]) (t := 28) ?hr ?_; (case hd => rfl); (case hg => rfl); (case hr => first | (go_simp; done) | (go_simp; rfl))
                intro gb412 hg w41 hbox hb
                have BK412 := Aside0.mk hbox
                have GW412 := ge hg HB
                have GE412 := ge hg HB
                have NB400_412 := nl hg BK400
                have NB412_400 := ng hg BK400
                have NB403_412 := nl hg BK403
                have NB412_403 := ng hg BK403
                replace HO_7 := Aside0.mk (Kd.R_below (Kd.R_elderB (kr HO_7.out) gb412 (Nat.le_of_eq hg.symm)) hb)
                replace HO_8 := Aside0.mk (Kd.R_below (Kd.R_elderB (kr HO_8.out) gb412 (Nat.le_of_eq hg.symm)) hb)
                replace BK400 := bb BK400 hb
                replace BK403 := bb BK403 hb
                replace HB := bh HB hb
                clear hb hbox hg
                refine hK.out _ _ ⟨(blk_cell BK400.out 0).trans rfl, (blk_cell BK400.out 1).trans rfl, (blk_cell BK403.out 0).trans rfl, (blk_cell BK403.out 1).trans rfl⟩ (fun hHeld => ?_)
                clear hK K
                refine norm_ (a' := ?_) ?_ ?_
                rotate_left
                ·show Act.put _ (some 12) _ = _
                 simp only [Act.put, List.setIfInBounds_toArray, List.set_cons_zero, List.set_cons_succ, i64_w, i32_w]
                 rfl
                exact norm_ (by first | (simp only [putAll, Act.put, List.setIfInBounds_toArray, List.set_cons_zero, List.set_cons_succ]; done) | (simp only [putAll, Act.put, List.setIfInBounds_toArray, List.set_cons_zero, List.set_cons_succ]; rfl)) (hJ5_6_10_12 (gb412) _ ⟨hHeld, (by (with_reducible repeat refine kl ?_); exact Kd.R_mono HO_7.out (fun _ hk => ⟨hk.1.1, ⟨hk.1.2.1, ⟨hk.1.2.2, hk.2⟩⟩⟩)), (by (with_reducible repeat refine kl ?_); exact Kd.R_mono HO_8.out (fun _ hk => ⟨hk.1.1, ⟨hk.1.2.1, ⟨hk.1.2.2, hk.2⟩⟩⟩)), (bk BK400.out), (bk BK403.out), (bk BK412.out), GW412.out, GE412.out, NB400_412.out, NB412_400.out, NB403_412.out, NB412_403.out, (bq HB.out)⟩)
             ·skip
              rintro gb412 w41 ⟨hS_, h0_, h1_, h2_, h3_, h4_, h5_, h6_, h7_, h8_, h9_, h10_, h11_⟩
              have n0_ : Aside0 (Kd.R k28 28 w41 w.heap.size (fun k_ => some k_ ≠ (.slice Ao34 x8_1.length co34 : Value).ownBlock ∧ k_ ≠ gb400 ∧ k_ ≠ gb403 ∧ k_ ≠ gb412) (.slice Ao33 x7_1.length co33) x7_1) := ⟨h0_⟩
              have n1_ : Aside0 (Kd.R k28 28 w41 w.heap.size (fun k_ => some k_ ≠ (.slice Ao33 x7_1.length co33 : Value).ownBlock ∧ k_ ≠ gb400 ∧ k_ ≠ gb403 ∧ k_ ≠ gb412) (.slice Ao34 x8_1.length co34) x8_1) := ⟨h1_⟩
              have n2_ : Aside0 (w41.heap[gb400]? = some (.cells #[.int .u64 ((rd_T28 l1 x32_1).f0), .int .u64 ((rd_T28 l1 x32_1).f1)] 28 (0, 0))) := ⟨h2_⟩
              have n3_ : Aside0 (w41.heap[gb403]? = some (.cells #[.int .u64 t401, .int .u64 t402] 28 (0, 0))) := ⟨h3_⟩
              have n4_ : Aside0 (w41.heap[gb412]? = some (.cells #[.int .u64 0, .int .u64 0] 28 (0, 0))) := ⟨h4_⟩
              have n5_ : Aside0 (w.heap.size ≤ gb412) := ⟨h5_⟩
              have n6_ : Aside0 (w.heap.size ≤ gb412) := ⟨h6_⟩
              have n7_ : Aside0 (gb400 ≠ gb412) := ⟨h7_⟩
              have n8_ : Aside0 (gb412 ≠ gb400) := ⟨h8_⟩
              have n9_ : Aside0 (gb403 ≠ gb412) := ⟨h9_⟩
              have n10_ : Aside0 (gb412 ≠ gb403) := ⟨h10_⟩
              have n11_ : Aside0 (Below w.heap.size w w41) := ⟨h11_⟩
              clear HO_7
              clear HO_8
              clear BK400
              clear BK403
              clear HB
              clear h0_ h1_ h2_ h3_ h4_ h5_ h6_ h7_ h8_ h9_ h10_ h11_
              have HO_7 := n0_
              have HO_8 := n1_
              have BK400 := n2_
              have BK403 := n3_
              have BK412 := n4_
              have GW412 := Aside1.mk n5_.out
              have GE412 := Aside1.mk n6_.out
              have NB400_412 := n7_
              have NB412_400 := n8_
              have NB403_412 := n9_
              have NB412_403 := n10_
              have HB := n11_
              clear n0_ n1_ n2_ n3_ n4_ n5_ n6_ n7_ n8_ n9_ n10_ n11_
              have hHeld : w41.cell? ⟨gb400, 0, none⟩ = some (.int .u64 ((rd_T28 l1 x32_1).f0)) ∧ w41.cell? ⟨gb400, 1, none⟩ = some (.int .u64 ((rd_T28 l1 x32_1).f1)) ∧ w41.cell? ⟨gb403, 0, none⟩ = some (.int .u64 t401) ∧ w41.cell? ⟨gb403, 1, none⟩ = some (.int .u64 t402) := hS_
              refine norm_ (a' := ?_) ?_ ?_
              rotate_left
              ·simp only [putAll, Act.put, List.setIfInBounds_toArray, List.set_cons_zero, List.set_cons_succ]
               rfl
              refine one_ (i := 11) (N := some 50) #[true, true, true, true, true, true, true, true, true, true, true, true, true, false] rfl rfl (one_of HT_.out (by kernel_rfl)) (by decide) (fun K hK => ?_)
              refine goes_ Try.func38 (by kernel_rfl) rfl #[.int .i64 a0, .agg #[.int .u64 t406, .int .u64 t407], .agg #[.int .u64 t408, .int .u64 t409]] (by rfl) rfl rfl (by (try simp only [List.map_toArray, List.map_cons, List.map_nil]); first | done | rfl | (simp only [List.length_drop, List.length_take]; rfl)) ?_
              with_reducible refine (tower_Div.calls k1 a0 t406 t407 t408 t409 t410 t411 _ A23.out).mono ?_
              rintro e w42 ⟨rfl, hb⟩
              refine ⟨_, rfl, ?_⟩
              replace HO_7 := kb HO_7 hb
              replace HO_8 := kb HO_8 hb
              replace BK400 := bb BK400 hb
              replace BK403 := bb BK403 hb
              replace BK412 := bb BK412 hb
              replace HB := bh HB hb
              (try clear hb)
              (try clear hb2)
              (try clear hk)
              (try clear hi)
              refine hK.out _ _ ⟨(blk_cell BK400.out 0).trans rfl, (blk_cell BK400.out 1).trans rfl, (blk_cell BK403.out 0).trans rfl, (blk_cell BK403.out 1).trans rfl⟩ (fun hHeld => ?_)
              clear hK K
              refine norm_ (a' := ?_) ?_ ?_
              rotate_left
              ·show Act.put _ (some 50) _ = _
               simp only [Act.put, List.setIfInBounds_toArray, List.set_cons_zero, List.set_cons_succ, i64_w, i32_w]
               rfl
              exact norm_ (by first | (simp only [putAll, Act.put, List.setIfInBounds_toArray, List.set_cons_zero, List.set_cons_succ]; done) | (simp only [putAll, Act.put, List.setIfInBounds_toArray, List.set_cons_zero, List.set_cons_succ]; rfl)) (hJ5_6_10_11_12 (gb412) _ ⟨hHeld, (kr HO_7.out), (kr HO_8.out), (bk BK400.out), (bk BK403.out), (bk BK412.out), GW412.out, GE412.out, NB400_412.out, NB412_400.out, NB403_412.out, NB412_403.out, (bq HB.out)⟩)
            ·skip
             rintro _ w41 ⟨hS_, h0_, h1_, h2_, h3_, h4_⟩
             have n0_ : Aside0 (Kd.R k28 28 w41 w.heap.size (fun k_ => some k_ ≠ (.slice Ao34 x8_1.length co34 : Value).ownBlock ∧ k_ ≠ gb400 ∧ k_ ≠ gb403) (.slice Ao33 x7_1.length co33) x7_1) := ⟨h0_⟩
             have n1_ : Aside0 (Kd.R k28 28 w41 w.heap.size (fun k_ => some k_ ≠ (.slice Ao33 x7_1.length co33 : Value).ownBlock ∧ k_ ≠ gb400 ∧ k_ ≠ gb403) (.slice Ao34 x8_1.length co34) x8_1) := ⟨h1_⟩
             have n2_ : Aside0 (w41.heap[gb400]? = some (.cells #[.int .u64 ((rd_T28 l1 x32_1).f0), .int .u64 ((rd_T28 l1 x32_1).f1)] 28 (0, 0))) := ⟨h2_⟩
             have n3_ : Aside0 (w41.heap[gb403]? = some (.cells #[.int .u64 t401, .int .u64 t402] 28 (0, 0))) := ⟨h3_⟩
             have n4_ : Aside0 (Below w.heap.size w w41) := ⟨h4_⟩
             clear HO_7
             clear HO_8
             clear BK400
             clear BK403
             clear HB
             clear h0_ h1_ h2_ h3_ h4_
             have HO_7 := n0_
             have HO_8 := n1_
             have BK400 := n2_
             have BK403 := n3_
             have HB := n4_
             clear n0_ n1_ n2_ n3_ n4_
             have hHeld : w41.cell? ⟨gb400, 0, none⟩ = some (.int .u64 ((rd_T28 l1 x32_1).f0)) ∧ w41.cell? ⟨gb400, 1, none⟩ = some (.int .u64 ((rd_T28 l1 x32_1).f1)) ∧ w41.cell? ⟨gb403, 0, none⟩ = some (.int .u64 t401) ∧ w41.cell? ⟨gb403, 1, none⟩ = some (.int .u64 t402) := hS_
             refine norm_ (a' := ?_) ?_ ?_
             rotate_left
             ·simp only [putAll, Act.put, List.setIfInBounds_toArray, List.set_cons_zero, List.set_cons_succ]
              rfl
             refine one_ (i := 12) (N := some 12) #[true, true, true, true, true, true, true, true, true, true, true, true, true, false] rfl rfl (one_of HT_.out (by kernel_rfl)) (by decide) (fun K hK => ?_)
             refine box_step ?hg (N := 12) ?hd (cs := #[.int .u64 0, .int .u64 0]) (t := 28) ?hr ?_; (case hd => rfl); (case hg => rfl); (case hr => first | (go_simp; done) | (go_simp; rfl))
             intro gb412 hg w42 hbox hb
             have BK412 := Aside0.mk hbox
             have GW412 := ge hg HB
             have GE412 := ge hg HB
             have NB400_412 := nl hg BK400
             have NB412_400 := ng hg BK400
             have NB403_412 := nl hg BK403
             have NB412_403 := ng hg BK403
             replace HO_7 := Aside0.mk (Kd.R_below (Kd.R_elderB (kr HO_7.out) gb412 (Nat.le_of_eq hg.symm)) hb)
             replace HO_8 := Aside0.mk (Kd.R_below (Kd.R_elderB (kr HO_8.out) gb412 (Nat.le_of_eq hg.symm)) hb)
             replace BK400 := bb BK400 hb
             replace BK403 := bb BK403 hb
             replace HB := bh HB hb
             clear hb hbox hg
             refine hK.out _ _ ⟨(blk_cell BK400.out 0).trans rfl, (blk_cell BK400.out 1).trans rfl, (blk_cell BK403.out 0).trans rfl, (blk_cell BK403.out 1).trans rfl⟩ (fun hHeld => ?_)
             clear hK K
             refine norm_ (a' := ?_) ?_ ?_
             rotate_left
             ·show Act.put _ (some 12) _ = _
              simp only [Act.put, List.setIfInBounds_toArray, List.set_cons_zero, List.set_cons_succ, i64_w, i32_w]
              rfl
             exact norm_ (by first | (simp only [putAll, Act.put, List.setIfInBounds_toArray, List.set_cons_zero, List.set_cons_succ]; done) | (simp only [putAll, Act.put, List.setIfInBounds_toArray, List.set_cons_zero, List.set_cons_succ]; rfl)) (hJ5_6_10_11_12 (gb412) _ ⟨hHeld, (by (with_reducible repeat refine kl ?_); exact Kd.R_mono HO_7.out (fun _ hk => ⟨hk.1.1, ⟨hk.1.2.1, ⟨hk.1.2.2, hk.2⟩⟩⟩)), (by (with_reducible repeat refine kl ?_); exact Kd.R_mono HO_8.out (fun _ hk => ⟨hk.1.1, ⟨hk.1.2.1, ⟨hk.1.2.2, hk.2⟩⟩⟩)), (bk BK400.out), (bk BK403.out), (bk BK412.out), GW412.out, GE412.out, NB400_412.out, NB412_400.out, NB403_412.out, NB412_403.out, (bq HB.out)⟩)
           rintro gb412 w42 ⟨hS_, h0_, h1_, h2_, h3_, h4_, h5_, h6_, h7_, h8_, h9_, h10_, h11_⟩
           have n0_ : Aside0 (Kd.R k28 28 w42 w.heap.size (fun k_ => some k_ ≠ (.slice Ao34 x8_1.length co34 : Value).ownBlock ∧ k_ ≠ gb400 ∧ k_ ≠ gb403 ∧ k_ ≠ gb412) (.slice Ao33 x7_1.length co33) x7_1) := ⟨h0_⟩
           have n1_ : Aside0 (Kd.R k28 28 w42 w.heap.size (fun k_ => some k_ ≠ (.slice Ao33 x7_1.length co33 : Value).ownBlock ∧ k_ ≠ gb400 ∧ k_ ≠ gb403 ∧ k_ ≠ gb412) (.slice Ao34 x8_1.length co34) x8_1) := ⟨h1_⟩
           have n2_ : Aside0 (w42.heap[gb400]? = some (.cells #[.int .u64 ((rd_T28 l1 x32_1).f0), .int .u64 ((rd_T28 l1 x32_1).f1)] 28 (0, 0))) := ⟨h2_⟩
           have n3_ : Aside0 (w42.heap[gb403]? = some (.cells #[.int .u64 t401, .int .u64 t402] 28 (0, 0))) := ⟨h3_⟩
           have n4_ : Aside0 (w42.heap[gb412]? = some (.cells #[.int .u64 0, .int .u64 0] 28 (0, 0))) := ⟨h4_⟩
           have n5_ : Aside0 (w.heap.size ≤ gb412) := ⟨h5_⟩
           have n6_ : Aside0 (w.heap.size ≤ gb412) := ⟨h6_⟩
           have n7_ : Aside0 (gb400 ≠ gb412) := ⟨h7_⟩
           have n8_ : Aside0 (gb412 ≠ gb400) := ⟨h8_⟩
           have n9_ : Aside0 (gb403 ≠ gb412) := ⟨h9_⟩
           have n10_ : Aside0 (gb412 ≠ gb403) := ⟨h10_⟩
           have n11_ : Aside0 (Below w.heap.size w w42) := ⟨h11_⟩
           clear HO_7
           clear HO_8
           clear BK400
           clear BK403
           clear HB
           clear h0_ h1_ h2_ h3_ h4_ h5_ h6_ h7_ h8_ h9_ h10_ h11_
           have HO_7 := n0_
           have HO_8 := n1_
           have BK400 := n2_
           have BK403 := n3_
           have BK412 := n4_
           have GW412 := Aside1.mk n5_.out
           have GE412 := Aside1.mk n6_.out
           have NB400_412 := n7_
           have NB412_400 := n8_
           have NB403_412 := n9_
           have NB412_403 := n10_
           have HB := n11_
           clear n0_ n1_ n2_ n3_ n4_ n5_ n6_ n7_ n8_ n9_ n10_ n11_
           have hHeld : w42.cell? ⟨gb400, 0, none⟩ = some (.int .u64 ((rd_T28 l1 x32_1).f0)) ∧ w42.cell? ⟨gb400, 1, none⟩ = some (.int .u64 ((rd_T28 l1 x32_1).f1)) ∧ w42.cell? ⟨gb403, 0, none⟩ = some (.int .u64 t401) ∧ w42.cell? ⟨gb403, 1, none⟩ = some (.int .u64 t402) := hS_
           refine norm_ (a' := ?_) ?_ ?_
           rotate_left
           ·simp only [putAll, Act.put, List.setIfInBounds_toArray, List.set_cons_zero, List.set_cons_succ]
            rfl
           refine one_ (i := 13) (N := none) #[true, true, true, true, true, true, true, true, true, true, true, true, true, true] rfl rfl (one_of HT_.out (by kernel_rfl)) (by decide) (fun K hK => ?_)
           have hs43 : w42.cell? ⟨gb412, 0, none⟩ = some (.int .u64 0) := (blk_cell BK412.out 0).trans rfl
           have hfs43 := blk_frozen BK412.out 0
           have hns43_0 := NB400_412.out
           have hns43_1 := NB403_412.out
           have hms43_0 := NB412_400.out
           have hms43_1 := NB412_403.out
           have hs44 : w42.cell? ⟨gb412, 1, none⟩ = some (.int .u64 0) := (blk_cell BK412.out 1).trans rfl
           have hfs44 := blk_frozen BK412.out 1
           have hns44_0 := NB400_412.out
           have hns44_1 := NB403_412.out
           have hms44_0 := NB412_400.out
           have hms44_1 := NB412_403.out
           refine skip_ (w1 := ?_) (by rfl) rfl ?_ ?_
           rotate_left
           ·go_simp
            rfl
           refine hK.out _ _ ⟨((cell_far (p := ⟨gb412, _, none⟩) NB400_412.out _).trans (((cell_far (p := ⟨gb412, _, none⟩) NB400_412.out _).trans (hHeld.1)))), ((cell_far (p := ⟨gb412, _, none⟩) NB400_412.out _).trans (((cell_far (p := ⟨gb412, _, none⟩) NB400_412.out _).trans (hHeld.2.1)))), ((cell_far (p := ⟨gb412, _, none⟩) NB403_412.out _).trans (((cell_far (p := ⟨gb412, _, none⟩) NB403_412.out _).trans (hHeld.2.2.1)))), ((cell_far (p := ⟨gb412, _, none⟩) NB403_412.out _).trans (((cell_far (p := ⟨gb412, _, none⟩) NB403_412.out _).trans (hHeld.2.2.2))))⟩ (fun hHeld => ?_)
           clear hK K
           refine done_ (done_of HT_.out (by kernel_rfl)) ?_
           try go_wp2_with (first | ((with_reducible refine gate_dst (N := 54) rfl ?_); refine Kd.R_make k28 _ 28 rfl (N := 54) rfl 22 _ _ rfl ji24 rfl rfl Try.underlying22 (.agg #[(.int .u64 0), (.int .u64 0)]) 16 info28 rfl (by decide) (by omega) z28 (ok := fun _ => True) (okp := fun _ => True) (k28_mkM _ _ _ z28 ) (fun _ hk => hk) trivial (of_decide_eq_true (by first | (with_reducible assumption) | assumption)) (Nat.le_trans (Nat.mul_le_mul_right _ (of_decide_eq_true (by first | (with_reducible assumption) | assumption) : ji24.toNat ≤ 17592186044416)) (by omega)) (Below.refl _ _) (Nat.le_refl _) ?_; intro v414 w45 ho46 hb hg_ hnew_; clear hg_ hnew_; (first | rw [← Ny413.out] at ho46 | (simp only [Int.reduceToNat] at ho46; rw [← Ny413.out] at ho46)); have HO415 := Aside0.mk (Kd.R_lower (Kd.R_newB (Kd.R_newB (Kd.R_newB (Kd.R_new' (Kd.R_new' ho46 (Kd.R_lt (by (with_reducible repeat refine kl ?_); exact (Kd.R_mono (Kd.R_far (p := ⟨gb412, 1, none⟩) (Kd.R_far (p := ⟨gb412, 0, none⟩) (Kd.R_mono HO_7.out (fun k_ hk => (⟨hk, hk.2.2.2⟩ : _ ∧ k_ ≠ gb412))) (fun _ hk => hk.2) (.int .u64 t410)) (fun _ hk => hk.2) (.int .u64 t411)) (fun _ h_ => h_.1))))) (Kd.R_lt (by (with_reducible repeat refine kl ?_); exact (Kd.R_mono (Kd.R_far (p := ⟨gb412, 1, none⟩) (Kd.R_far (p := ⟨gb412, 0, none⟩) (Kd.R_mono HO_8.out (fun k_ hk => (⟨hk, hk.2.2.2⟩ : _ ∧ k_ ≠ gb412))) (fun _ hk => hk.2) (.int .u64 t410)) (fun _ hk => hk.2) (.int .u64 t411)) (fun _ h_ => h_.1))))) (g := gb400) (o := .cells #[.int .u64 ((rd_T28 l1 x32_1).f0), .int .u64 ((rd_T28 l1 x32_1).f1)] 28 (0, 0)) (by (with_reducible repeat refine bl ?_); refine blk_far ?_ NB400_412.out _; (with_reducible repeat refine bl ?_); refine blk_far ?_ NB400_412.out _; (with_reducible repeat refine bl ?_); exact BK400.out)) (g := gb403) (o := .cells #[.int .u64 t401, .int .u64 t402] 28 (0, 0)) (by (with_reducible repeat refine bl ?_); refine blk_far ?_ NB403_412.out _; (with_reducible repeat refine bl ?_); refine blk_far ?_ NB403_412.out _; (with_reducible repeat refine bl ?_); exact BK403.out)) (g := gb412) (o := .cells #[.int .u64 t410, .int .u64 t411] 28 (0, 0)) (by (with_reducible repeat refine bl ?_); refine blk_put (cs := #[.int .u64 t410, .int .u64 0]) ?_ 1 _ rfl; (with_reducible repeat refine bl ?_); refine blk_put (cs := #[.int .u64 0, .int .u64 0]) ?_ 0 _ rfl; (with_reducible repeat refine bl ?_); exact BK412.out)) (below_size (bq HB.out))); replace HO_7 := Aside0.mk (Kd.R_elder' (by (with_reducible repeat refine kl ?_); exact (Kd.R_mono (Kd.R_far (p := ⟨gb412, 1, none⟩) (Kd.R_far (p := ⟨gb412, 0, none⟩) (Kd.R_mono HO_7.out (fun k_ hk => (⟨hk, hk.2.2.2⟩ : _ ∧ k_ ≠ gb412))) (fun _ hk => hk.2) (.int .u64 t410)) (fun _ hk => hk.2) (.int .u64 t411)) (fun _ h_ => h_.1))) (Kd.R_base ho46) hb); replace HO_8 := Aside0.mk (Kd.R_elder' (by (with_reducible repeat refine kl ?_); exact (Kd.R_mono (Kd.R_far (p := ⟨gb412, 1, none⟩) (Kd.R_far (p := ⟨gb412, 0, none⟩) (Kd.R_mono HO_8.out (fun k_ hk => (⟨hk, hk.2.2.2⟩ : _ ∧ k_ ≠ gb412))) (fun _ hk => hk.2) (.int .u64 t410)) (fun _ hk => hk.2) (.int .u64 t411)) (fun _ h_ => h_.1))) (Kd.R_base ho46) hb); replace BK400 := Aside0.mk (blk_below (g := gb400) (o := .cells #[.int .u64 ((rd_T28 l1 x32_1).f0), .int .u64 ((rd_T28 l1 x32_1).f1)] 28 (0, 0)) (by (with_reducible repeat refine bl ?_); refine blk_far ?_ NB400_412.out _; (with_reducible repeat refine bl ?_); refine blk_far ?_ NB400_412.out _; (with_reducible repeat refine bl ?_); exact BK400.out) hb); replace BK403 := Aside0.mk (blk_below (g := gb403) (o := .cells #[.int .u64 t401, .int .u64 t402] 28 (0, 0)) (by (with_reducible repeat refine bl ?_); refine blk_far ?_ NB403_412.out _; (with_reducible repeat refine bl ?_); refine blk_far ?_ NB403_412.out _; (with_reducible repeat refine bl ?_); exact BK403.out) hb); replace BK412 := Aside0.mk (blk_below (g := gb412) (o := .cells #[.int .u64 t410, .int .u64 t411] 28 (0, 0)) (by (with_reducible repeat refine bl ?_); refine blk_put (cs := #[.int .u64 t410, .int .u64 0]) ?_ 1 _ rfl; (with_reducible repeat refine bl ?_); refine blk_put (cs := #[.int .u64 0, .int .u64 0]) ?_ 0 _ rfl; (with_reducible repeat refine bl ?_); exact BK412.out) hb); replace HB := bh HB hb; clear hb ho46))
           go_loopg [57] k1 (fun kq v57 w' => ∃ (x7_2 : List (S28)) (x13_2 : List (S28)) (x57_2 : Int) (x401000_2 : Int) (x401001_2 : Int) (x404000_2 : Int) (x404001_2 : Int) (x413000_2 : Int) (x413001_2 : Int), v57 = .int .i64 x57_2 ∧ Aside0 (line_Powers.l1 kq a0 x7_2 x13_2 l1 (l1.length : Int) x32_1 x8_1 (x8_1.length : Int) x57_2 x404000_2 x404001_2 x413000_2 x413001_2 = some (r1, r2)) ∧ Aside0 (kq ≤ k1) ∧ Aside0 (Kd.R k28 28 w' w.heap.size (fun k_ => some k_ ≠ (v414 : Value).ownBlock ∧ some k_ ≠ ((.slice Ao34 x8_1.length co34) : Value).ownBlock ∧ k_ ≠ gb400 ∧ k_ ≠ gb403 ∧ k_ ≠ gb412) (.slice Ao33 x7_1.length co33) x7_2) ∧ Aside0 (Kd.R k28 28 w' w.heap.size (fun k_ => some k_ ≠ ((.slice Ao33 x7_1.length co33) : Value).ownBlock ∧ some k_ ≠ ((.slice Ao34 x8_1.length co34) : Value).ownBlock ∧ k_ ≠ gb400 ∧ k_ ≠ gb403 ∧ k_ ≠ gb412) v414 x13_2) ∧ Aside0 (Kd.R k28 28 w' w.heap.size (fun k_ => some k_ ≠ ((.slice Ao33 x7_1.length co33) : Value).ownBlock ∧ some k_ ≠ (v414 : Value).ownBlock ∧ k_ ≠ gb400 ∧ k_ ≠ gb403 ∧ k_ ≠ gb412) (.slice Ao34 x8_1.length co34) x8_1) ∧ Aside0 (w'.heap[gb400]? = some (.cells #[.int .u64 x401000_2, .int .u64 x401001_2] 28 (0, 0))) ∧ Aside0 (w'.heap[gb403]? = some (.cells #[.int .u64 x404000_2, .int .u64 x404001_2] 28 (0, 0))) ∧ Aside0 (w'.heap[gb412]? = some (.cells #[.int .u64 x413000_2, .int .u64 x413001_2] 28 (0, 0))) ∧ Aside0 (Below w.heap.size w w'))
           case atStart => exact ⟨(x7_1), (y413), (0), ((rd_T28 l1 x32_1).f0), ((rd_T28 l1 x32_1).f1), (t401), (t402), (t410), (t411), (by first | rfl | (simp; done) | (simp [*]; done)), H', ⟨Nat.le_refl _⟩, ⟨by (with_reducible repeat refine kl ?_); exact Kd.R_mono HO_7.out (fun _ hk => ⟨hk.2, ⟨hk.1.1, ⟨hk.1.2.1, ⟨hk.1.2.2.1, hk.1.2.2.2⟩⟩⟩⟩)⟩, ⟨by (with_reducible repeat refine kl ?_); exact Kd.R_mono HO415.out (fun _ hk => ⟨hk.1.1.1.1.2, ⟨hk.1.1.1.2, ⟨hk.1.1.2, ⟨hk.1.2, hk.2⟩⟩⟩⟩)⟩, ⟨by (with_reducible repeat refine kl ?_); exact Kd.R_mono HO_8.out (fun _ hk => ⟨hk.1.1, ⟨hk.2, ⟨hk.1.2.1, ⟨hk.1.2.2.1, hk.1.2.2.2⟩⟩⟩⟩)⟩, ⟨bk BK400.out⟩, ⟨bk BK403.out⟩, ⟨bk BK412.out⟩, ⟨bq HB.out⟩⟩
           case round =>
            clear H'
            try clear c1
            try clear p2
            try clear c3
            try clear c12
            try clear c38
            try clear c39
            obtain ⟨x7_2, x13_2, x57_2, x401000_2, x401001_2, x404000_2, x404001_2, x413000_2, x413001_2, rfl, HA, HK2, HO_7, HO_13, HO_55, BK400, BK403, BK412, HB⟩ := hrel
            have hl7_2 := (Kd.R_reads' HO_7.out).1
            rw [hl7_2] at HO_7
            (try simp only [hl7_2])
            (try simp only [hl7_2] at BK400)
            (try simp only [hl7_2] at BK403)
            (try simp only [hl7_2] at BK412)
            (try simp only [hl7_2] at HO_13)
            (try simp only [hl7_2] at HO_55)
            cases gk with
            | zero => exact absurd HA.out (by simp [line_Powers.l1])
            | succ k2 =>
             have H := HA.out
             clear HA
             simp only [line_Powers.l1] at H
             by_cases c47 : x57_2 < (x8_1.length : Int)
             ·rw [if_pos c47] at H
              have c47b0 : decide (x57_2 < (x8_1.length : Int)) = true := decide_eq_true c47
              clear c47
              by_cases c48 : 0 ≤ x57_2
              ·rw [if_pos c48] at H
               have c48b0 : decide (0 ≤ x57_2) = true := decide_eq_true c48
               clear c48
               by_cases c49 : x57_2 < (x8_1.length : Int)
               ·rw [if_pos c49] at H
                have c49b0 : decide (x57_2 < (x8_1.length : Int)) = true := decide_eq_true c49
                clear c49
                by_cases c50 : x57_2 < (x7_2.length : Int)
                ·rw [if_pos c50] at H
                 have c50b0 : decide (x57_2 < (x7_2.length : Int)) = true := decide_eq_true c50
                 clear c50
                 replace H := Option.bind_eq_some_iff.mp H
                 obtain ⟨⟨t419, t420⟩, A510, H⟩ := H
                 replace H : ((tower_Add.f ((rd_T28 x7_2 x57_2).f0) ((rd_T28 x7_2 x57_2).f1) t419 t420).bind fun bt421 => (if x57_2 < (x13_2.length : Int) then ((tower_Mul.f k2 a0 ((rd_T28 x8_1 x57_2).f0) ((rd_T28 x8_1 x57_2).f1) x404000_2 x404001_2).bind fun bt425 => ((tower_Add.f ((rd_T28 x13_2 x57_2).f0) ((rd_T28 x13_2 x57_2).f1) bt425.1 bt425.2).bind fun bt427 => ((some (x13_2.set (x57_2 : Int).toNat (⟨bt427.1, bt427.2⟩ : S28) : List (S28))).bind fun y429 => (if 0 ≤ (wrap64 (x57_2 + 1)) then (if (wrap64 (x57_2 + 1)) < (x13_2.length : Int) then ((tower_Add.f ((rd_T28 y429 (wrap64 (x57_2 + 1))).f0) ((rd_T28 y429 (wrap64 (x57_2 + 1))).f1) ((rd_T28 x8_1 x57_2).f0) ((rd_T28 x8_1 x57_2).f1)).bind fun bt431 => (line_Powers.l1 k2 a0 (x7_2.set (x57_2 : Int).toNat (⟨bt421.1, bt421.2⟩ : S28)) (y429.set ((wrap64 (x57_2 + 1)) : Int).toNat (⟨bt431.1, bt431.2⟩ : S28)) l1 (l1.length : Int) x32_1 x8_1 (x8_1.length : Int) (wrap64 (x57_2 + 1)) x404000_2 x404001_2 x413000_2 x413001_2)) else (none)) else (none))))) else (none))) = some (r1, r2) := H
                 have A51 := Aside0.mk A510
                 clear A510
                 replace H := Option.bind_eq_some_iff.mp H
                 obtain ⟨⟨t421, t422⟩, A520, H⟩ := H
                 replace H : (if x57_2 < (x13_2.length : Int) then ((tower_Mul.f k2 a0 ((rd_T28 x8_1 x57_2).f0) ((rd_T28 x8_1 x57_2).f1) x404000_2 x404001_2).bind fun bt425 => ((tower_Add.f ((rd_T28 x13_2 x57_2).f0) ((rd_T28 x13_2 x57_2).f1) bt425.1 bt425.2).bind fun bt427 => ((some (x13_2.set (x57_2 : Int).toNat (⟨bt427.1, bt427.2⟩ : S28) : List (S28))).bind fun y429 => (if 0 ≤ (wrap64 (x57_2 + 1)) then (if (wrap64 (x57_2 + 1)) < (x13_2.length : Int) then ((tower_Add.f ((rd_T28 y429 (wrap64 (x57_2 + 1))).f0) ((rd_T28 y429 (wrap64 (x57_2 + 1))).f1) ((rd_T28 x8_1 x57_2).f0) ((rd_T28 x8_1 x57_2).f1)).bind fun bt431 => (line_Powers.l1 k2 a0 (x7_2.set (x57_2 : Int).toNat (⟨t421, t422⟩ : S28)) (y429.set ((wrap64 (x57_2 + 1)) : Int).toNat (⟨bt431.1, bt431.2⟩ : S28)) l1 (l1.length : Int) x32_1 x8_1 (x8_1.length : Int) (wrap64 (x57_2 + 1)) x404000_2 x404001_2 x413000_2 x413001_2)) else (none)) else (none))))) else (none)) = some (r1, r2) := H
                 have A52 := Aside0.mk A520
                 clear A520
                 obtain ⟨y423, hy423⟩ : ∃ y_ : List (S28), y_ = (x7_2.set (x57_2 : Int).toNat (⟨t421, t422⟩ : S28)) := ⟨_, rfl⟩
                 replace H : (if x57_2 < (x13_2.length : Int) then ((tower_Mul.f k2 a0 ((rd_T28 x8_1 x57_2).f0) ((rd_T28 x8_1 x57_2).f1) x404000_2 x404001_2).bind fun bt425 => ((tower_Add.f ((rd_T28 x13_2 x57_2).f0) ((rd_T28 x13_2 x57_2).f1) bt425.1 bt425.2).bind fun bt427 => ((some (x13_2.set (x57_2 : Int).toNat (⟨bt427.1, bt427.2⟩ : S28) : List (S28))).bind fun y429 => (if 0 ≤ (wrap64 (x57_2 + 1)) then (if (wrap64 (x57_2 + 1)) < (x13_2.length : Int) then ((tower_Add.f ((rd_T28 y429 (wrap64 (x57_2 + 1))).f0) ((rd_T28 y429 (wrap64 (x57_2 + 1))).f1) ((rd_T28 x8_1 x57_2).f0) ((rd_T28 x8_1 x57_2).f1)).bind fun bt431 => (line_Powers.l1 k2 a0 y423 (y429.set ((wrap64 (x57_2 + 1)) : Int).toNat (⟨bt431.1, bt431.2⟩ : S28)) l1 (l1.length : Int) x32_1 x8_1 (x8_1.length : Int) (wrap64 (x57_2 + 1)) x404000_2 x404001_2 x413000_2 x413001_2)) else (none)) else (none))))) else (none)) = some (r1, r2) := by first | (rw [hy423]; with_reducible exact H) | (have H2_ := (Option.bind_some _ _).symm.trans H; rw [hy423]; with_reducible exact H2_) | (have H2_ := (Option.bind_some _ _).symm.trans H; with_reducible exact H2_) | with_reducible exact H | (rw [hy423]; exact H) | exact H
                 have Ny423 := Aside0.mk hy423
                 clear hy423
                 by_cases c54 : x57_2 < (x13_2.length : Int)
                 ·rw [if_pos c54] at H
                  have c54b0 : decide (x57_2 < (x13_2.length : Int)) = true := decide_eq_true c54
                  clear c54
                  replace H := Option.bind_eq_some_iff.mp H
                  obtain ⟨⟨t425, t426⟩, A550, H⟩ := H
                  replace H : ((tower_Add.f ((rd_T28 x13_2 x57_2).f0) ((rd_T28 x13_2 x57_2).f1) t425 t426).bind fun bt427 => ((some (x13_2.set (x57_2 : Int).toNat (⟨bt427.1, bt427.2⟩ : S28) : List (S28))).bind fun y429 => (if 0 ≤ (wrap64 (x57_2 + 1)) then (if (wrap64 (x57_2 + 1)) < (x13_2.length : Int) then ((tower_Add.f ((rd_T28 y429 (wrap64 (x57_2 + 1))).f0) ((rd_T28 y429 (wrap64 (x57_2 + 1))).f1) ((rd_T28 x8_1 x57_2).f0) ((rd_T28 x8_1 x57_2).f1)).bind fun bt431 => (line_Powers.l1 k2 a0 y423 (y429.set ((wrap64 (x57_2 + 1)) : Int).toNat (⟨bt431.1, bt431.2⟩ : S28)) l1 (l1.length : Int) x32_1 x8_1 (x8_1.length : Int) (wrap64 (x57_2 + 1)) x404000_2 x404001_2 x413000_2 x413001_2)) else (none)) else (none)))) = some (r1, r2) := H
                  have A55 := Aside0.mk A550
                  clear A550
                  replace H := Option.bind_eq_some_iff.mp H
                  obtain ⟨⟨t427, t428⟩, A560, H⟩ := H
                  replace H : ((some (x13_2.set (x57_2 : Int).toNat (⟨t427, t428⟩ : S28) : List (S28))).bind fun y429 => (if 0 ≤ (wrap64 (x57_2 + 1)) then (if (wrap64 (x57_2 + 1)) < (x13_2.length : Int) then ((tower_Add.f ((rd_T28 y429 (wrap64 (x57_2 + 1))).f0) ((rd_T28 y429 (wrap64 (x57_2 + 1))).f1) ((rd_T28 x8_1 x57_2).f0) ((rd_T28 x8_1 x57_2).f1)).bind fun bt431 => (line_Powers.l1 k2 a0 y423 (y429.set ((wrap64 (x57_2 + 1)) : Int).toNat (⟨bt431.1, bt431.2⟩ : S28)) l1 (l1.length : Int) x32_1 x8_1 (x8_1.length : Int) (wrap64 (x57_2 + 1)) x404000_2 x404001_2 x413000_2 x413001_2)) else (none)) else (none))) = some (r1, r2) := H
                  have A56 := Aside0.mk A560
                  clear A560
                  obtain ⟨y429, hy429⟩ : ∃ y_ : List (S28), y_ = (x13_2.set (x57_2 : Int).toNat (⟨t427, t428⟩ : S28)) := ⟨_, rfl⟩
                  replace H : (if 0 ≤ (wrap64 (x57_2 + 1)) then (if (wrap64 (x57_2 + 1)) < (x13_2.length : Int) then ((tower_Add.f ((rd_T28 y429 (wrap64 (x57_2 + 1))).f0) ((rd_T28 y429 (wrap64 (x57_2 + 1))).f1) ((rd_T28 x8_1 x57_2).f0) ((rd_T28 x8_1 x57_2).f1)).bind fun bt431 => (line_Powers.l1 k2 a0 y423 (y429.set ((wrap64 (x57_2 + 1)) : Int).toNat (⟨bt431.1, bt431.2⟩ : S28)) l1 (l1.length : Int) x32_1 x8_1 (x8_1.length : Int) (wrap64 (x57_2 + 1)) x404000_2 x404001_2 x413000_2 x413001_2)) else (none)) else (none)) = some (r1, r2) := by first | (rw [hy429]; with_reducible exact H) | (have H2_ := (Option.bind_some _ _).symm.trans H; rw [hy429]; with_reducible exact H2_) | (have H2_ := (Option.bind_some _ _).symm.trans H; with_reducible exact H2_) | with_reducible exact H | (rw [hy429]; exact H) | exact H
                  have Ny429 := Aside0.mk hy429
                  clear hy429
                  obtain ⟨ji58, hji58⟩ : ∃ j_ : Int, (wrap64 (x57_2 + 1)) = j_ := ⟨_, rfl⟩
                  replace H : (if 0 ≤ (ji58) then (if (ji58) < (x13_2.length : Int) then ((tower_Add.f ((rd_T28 y429 (ji58)).f0) ((rd_T28 y429 (ji58)).f1) ((rd_T28 x8_1 x57_2).f0) ((rd_T28 x8_1 x57_2).f1)).bind fun bt431 => (line_Powers.l1 k2 a0 y423 (y429.set ((ji58) : Int).toNat (⟨bt431.1, bt431.2⟩ : S28)) l1 (l1.length : Int) x32_1 x8_1 (x8_1.length : Int) ji58 x404000_2 x404001_2 x413000_2 x413001_2)) else (none)) else (none)) = some (r1, r2) := by first | (rw [hji58] at H; exact H) | (simp only [hji58] at H ⊢; exact H)
                  (try rw [hji58] at A51)
                  (try rw [hji58] at A52)
                  (try rw [hji58] at A55)
                  (try rw [hji58] at A56)
                  have hji58w : (IntKind.i64.wrap (x57_2 + 1)) = ji58 := (i64_w _).trans hji58
                  by_cases c59 : 0 ≤ (ji58)
                  ·rw [if_pos c59] at H
                   have c59b0 : decide (0 ≤ (ji58)) = true := decide_eq_true c59
                   clear c59
                   by_cases c60 : (ji58) < (x13_2.length : Int)
                   ·rw [if_pos c60] at H
                    have c60b0 : decide ((ji58) < (x13_2.length : Int)) = true := decide_eq_true c60
                    clear c60
                    replace H := Option.bind_eq_some_iff.mp H
                    obtain ⟨⟨t431, t432⟩, A610, H⟩ := H
                    replace H : (line_Powers.l1 k2 a0 y423 (y429.set ((ji58) : Int).toNat (⟨t431, t432⟩ : S28)) l1 (l1.length : Int) x32_1 x8_1 (x8_1.length : Int) ji58 x404000_2 x404001_2 x413000_2 x413001_2) = some (r1, r2) := H
                    have A61 := Aside0.mk A610
                    clear A610
                    obtain ⟨y433, hy433⟩ : ∃ y_ : List (S28), y_ = (y429.set ((ji58) : Int).toNat (⟨t431, t432⟩ : S28)) := ⟨_, rfl⟩
                    replace H : (line_Powers.l1 k2 a0 y423 y433 l1 (l1.length : Int) x32_1 x8_1 (x8_1.length : Int) ji58 x404000_2 x404001_2 x413000_2 x413001_2) = some (r1, r2) := by first | (rw [hy433]; with_reducible exact H) | (have H2_ := (Option.bind_some _ _).symm.trans H; rw [hy433]; with_reducible exact H2_) | (have H2_ := (Option.bind_some _ _).symm.trans H; with_reducible exact H2_) | with_reducible exact H | (rw [hy433]; exact H) | exact H
                    have Ny433 := Aside0.mk hy433
                    clear hy433
                    have H' := Aside0.mk H
                    clear H
                    have p416 : 0 ≤ (x57_2 : Int) := of_decide_eq_true (by first | (with_reducible assumption) | assumption)
                    have q416 : x57_2 < (x8_1.length : Int) := of_decide_eq_true (by first | (with_reducible assumption) | assumption)
                    (try (obtain ⟨Ap_, cp_, ep_⟩ := Kd.R_slice HO_55.out; subst ep_))
                    obtain ⟨ad416, e416, hx416_0, hx416_1⟩ := at_T28 (Kd.R_reads' HO_55.out).2.2 x57_2 p416 q416
                    cases e416
                    replace p416 := eq_true p416
                    replace q416 := eq_true q416
                    try go_wp2_with (first | ((with_reducible refine gate_dst (N := 15) rfl ?_); refine box_event ?hg (N := 15) ?hd (cs := #[.int .u64 0, .int .u64 0]) (t := 28) ?hr ?_; (case hd => rfl); (case hg => rfl); (case hr => first | (go_simp; done) | (go_simp; rfl)); intro gb417 hg w63 hbox hb; have BK417 := Aside0.mk hbox; have GW417 := ge hg HB; have GE417 := ge hg HB; have NB400_417 := nl hg BK400; have NB417_400 := ng hg BK400; have NB403_417 := nl hg BK403; have NB417_403 := ng hg BK403; have NB412_417 := nl hg BK412; have NB417_412 := ng hg BK412; replace HO_7 := Aside0.mk (Kd.R_below (Kd.R_elderB (kr HO_7.out) gb417 (Nat.le_of_eq hg.symm)) hb); replace HO_13 := Aside0.mk (Kd.R_below (Kd.R_elderB (kr HO_13.out) gb417 (Nat.le_of_eq hg.symm)) hb); replace HO_55 := Aside0.mk (Kd.R_below (Kd.R_elderB (kr HO_55.out) gb417 (Nat.le_of_eq hg.symm)) hb); replace BK400 := bb BK400 hb; replace BK403 := bb BK403 hb; replace BK412 := bb BK412 hb; replace HB := bh HB hb; clear hb hbox hg; obtain ⟨hcz67_0, hcz67_1⟩ := zc2 BK417; obtain ⟨hfz67_0, hfz67_1⟩ := zf2 BK417))
                    have n0_ : Aside0 (Kd.R k28 28 ((w63.setCell ⟨gb417, 0, none⟩ (.int .u64 ((rd_T28 x8_1 x57_2).f0))).setCell ⟨gb417, 1, none⟩ (.int .u64 ((rd_T28 x8_1 x57_2).f1))) w.heap.size (fun k_ => some k_ ≠ (v414 : Value).ownBlock ∧ some k_ ≠ (.slice (some ad416) x8_1.length co34 : Value).ownBlock ∧ k_ ≠ gb400 ∧ k_ ≠ gb403 ∧ k_ ≠ gb412 ∧ k_ ≠ gb417) (.slice Ao33 x7_2.length co33) x7_2) := ⟨by (with_reducible repeat refine kl ?_); exact Kd.R_mono (Kd.R_far (p := ⟨gb417, 1, none⟩) (Kd.R_far (p := ⟨gb417, 0, none⟩) (Kd.R_mono HO_7.out (fun k_ hk => (⟨hk, hk.2⟩ : _ ∧ k_ ≠ gb417))) (fun _ hk => hk.2) (.int .u64 ((rd_T28 x8_1 x57_2).f0))) (fun _ hk => hk.2) (.int .u64 ((rd_T28 x8_1 x57_2).f1))) (fun _ hk => ⟨hk.1.1.1, ⟨hk.1.1.2.1, ⟨hk.1.1.2.2.1, ⟨hk.1.1.2.2.2.1, ⟨hk.1.1.2.2.2.2, hk.1.2⟩⟩⟩⟩⟩)⟩
                    have n1_ : Aside0 (Kd.R k28 28 ((w63.setCell ⟨gb417, 0, none⟩ (.int .u64 ((rd_T28 x8_1 x57_2).f0))).setCell ⟨gb417, 1, none⟩ (.int .u64 ((rd_T28 x8_1 x57_2).f1))) w.heap.size (fun k_ => some k_ ≠ (.slice Ao33 x7_2.length co33 : Value).ownBlock ∧ some k_ ≠ (.slice (some ad416) x8_1.length co34 : Value).ownBlock ∧ k_ ≠ gb400 ∧ k_ ≠ gb403 ∧ k_ ≠ gb412 ∧ k_ ≠ gb417) v414 x13_2) := ⟨by (with_reducible repeat refine kl ?_); exact Kd.R_mono (Kd.R_far (p := ⟨gb417, 1, none⟩) (Kd.R_far (p := ⟨gb417, 0, none⟩) (Kd.R_mono HO_13.out (fun k_ hk => (⟨hk, hk.2⟩ : _ ∧ k_ ≠ gb417))) (fun _ hk => hk.2) (.int .u64 ((rd_T28 x8_1 x57_2).f0))) (fun _ hk => hk.2) (.int .u64 ((rd_T28 x8_1 x57_2).f1))) (fun _ hk => ⟨hk.1.1.1, ⟨hk.1.1.2.1, ⟨hk.1.1.2.2.1, ⟨hk.1.1.2.2.2.1, ⟨hk.1.1.2.2.2.2, hk.1.2⟩⟩⟩⟩⟩)⟩
                    have n2_ : Aside0 (Kd.R k28 28 ((w63.setCell ⟨gb417, 0, none⟩ (.int .u64 ((rd_T28 x8_1 x57_2).f0))).setCell ⟨gb417, 1, none⟩ (.int .u64 ((rd_T28 x8_1 x57_2).f1))) w.heap.size (fun k_ => some k_ ≠ (.slice Ao33 x7_2.length co33 : Value).ownBlock ∧ some k_ ≠ (v414 : Value).ownBlock ∧ k_ ≠ gb400 ∧ k_ ≠ gb403 ∧ k_ ≠ gb412 ∧ k_ ≠ gb417) (.slice (some ad416) x8_1.length co34) x8_1) := ⟨by (with_reducible repeat refine kl ?_); exact Kd.R_mono (Kd.R_far (p := ⟨gb417, 1, none⟩) (Kd.R_far (p := ⟨gb417, 0, none⟩) (Kd.R_mono HO_55.out (fun k_ hk => (⟨hk, hk.2⟩ : _ ∧ k_ ≠ gb417))) (fun _ hk => hk.2) (.int .u64 ((rd_T28 x8_1 x57_2).f0))) (fun _ hk => hk.2) (.int .u64 ((rd_T28 x8_1 x57_2).f1))) (fun _ hk => ⟨hk.1.1.1, ⟨hk.1.1.2.1, ⟨hk.1.1.2.2.1, ⟨hk.1.1.2.2.2.1, ⟨hk.1.1.2.2.2.2, hk.1.2⟩⟩⟩⟩⟩)⟩
                    have n3_ : Aside0 (((w63.setCell ⟨gb417, 0, none⟩ (.int .u64 ((rd_T28 x8_1 x57_2).f0))).setCell ⟨gb417, 1, none⟩ (.int .u64 ((rd_T28 x8_1 x57_2).f1))).heap[gb400]? = some (.cells #[.int .u64 x401000_2, .int .u64 x401001_2] 28 (0, 0))) := ⟨by (with_reducible repeat refine bl ?_); refine blk_far ?_ NB400_417.out _; (with_reducible repeat refine bl ?_); refine blk_far ?_ NB400_417.out _; (with_reducible repeat refine bl ?_); exact BK400.out⟩
                    have n4_ : Aside0 (((w63.setCell ⟨gb417, 0, none⟩ (.int .u64 ((rd_T28 x8_1 x57_2).f0))).setCell ⟨gb417, 1, none⟩ (.int .u64 ((rd_T28 x8_1 x57_2).f1))).heap[gb403]? = some (.cells #[.int .u64 x404000_2, .int .u64 x404001_2] 28 (0, 0))) := ⟨by (with_reducible repeat refine bl ?_); refine blk_far ?_ NB403_417.out _; (with_reducible repeat refine bl ?_); refine blk_far ?_ NB403_417.out _; (with_reducible repeat refine bl ?_); exact BK403.out⟩
                    have n5_ : Aside0 (((w63.setCell ⟨gb417, 0, none⟩ (.int .u64 ((rd_T28 x8_1 x57_2).f0))).setCell ⟨gb417, 1, none⟩ (.int .u64 ((rd_T28 x8_1 x57_2).f1))).heap[gb412]? = some (.cells #[.int .u64 x413000_2, .int .u64 x413001_2] 28 (0, 0))) := ⟨by (with_reducible repeat refine bl ?_); refine blk_far ?_ NB412_417.out _; (with_reducible repeat refine bl ?_); refine blk_far ?_ NB412_417.out _; (with_reducible repeat refine bl ?_); exact BK412.out⟩
                    have n6_ : Aside0 (((w63.setCell ⟨gb417, 0, none⟩ (.int .u64 ((rd_T28 x8_1 x57_2).f0))).setCell ⟨gb417, 1, none⟩ (.int .u64 ((rd_T28 x8_1 x57_2).f1))).heap[gb417]? = some (.cells #[.int .u64 ((rd_T28 x8_1 x57_2).f0), .int .u64 ((rd_T28 x8_1 x57_2).f1)] 28 (0, 0))) := ⟨by (with_reducible repeat refine bl ?_); refine blk_put (cs := #[.int .u64 ((rd_T28 x8_1 x57_2).f0), .int .u64 0]) ?_ 1 _ rfl; (with_reducible repeat refine bl ?_); refine blk_put (cs := #[.int .u64 0, .int .u64 0]) ?_ 0 _ rfl; (with_reducible repeat refine bl ?_); exact BK417.out⟩
                    have n7_ : Aside0 (Below w.heap.size w ((w63.setCell ⟨gb417, 0, none⟩ (.int .u64 ((rd_T28 x8_1 x57_2).f0))).setCell ⟨gb417, 1, none⟩ (.int .u64 ((rd_T28 x8_1 x57_2).f1)))) := ⟨bq HB.out⟩
                    (try clear HO_7)
                    (try clear HO_13)
                    (try clear HO_55)
                    (try clear BK400)
                    (try clear BK403)
                    (try clear BK412)
                    (try clear BK417)
                    (try clear HB)
                    generalize ((w63.setCell ⟨gb417, 0, none⟩ (.int .u64 ((rd_T28 x8_1 x57_2).f0))).setCell ⟨gb417, 1, none⟩ (.int .u64 ((rd_T28 x8_1 x57_2).f1))) = w68 at n0_ n1_ n2_ n3_ n4_ n5_ n6_ n7_ ⊢
                    have HO_7 := n0_
                    have HO_13 := n1_
                    have HO_55 := n2_
                    have BK400 := n3_
                    have BK403 := n4_
                    have BK412 := n5_
                    have BK417 := n6_
                    have HB := n7_
                    clear n0_ n1_ n2_ n3_ n4_ n5_ n6_ n7_
                    replace HO_7 := Aside0.mk (Kd.R_drew HO_7.out)
                    replace HO_13 := Aside0.mk (Kd.R_drew HO_13.out)
                    replace HO_55 := Aside0.mk (Kd.R_drew HO_55.out)
                    replace BK400 := Aside0.mk (blk_drew BK400.out)
                    replace BK403 := Aside0.mk (blk_drew BK403.out)
                    replace BK412 := Aside0.mk (blk_drew BK412.out)
                    replace BK417 := Aside0.mk (blk_drew BK417.out)
                    replace HB := Aside0.mk (below_drew1 HB.out)
                    have p418 : 0 ≤ (x57_2 : Int) := of_decide_eq_true (by first | (with_reducible assumption) | assumption)
                    have q418 : x57_2 < (x7_2.length : Int) := of_decide_eq_true (by first | (with_reducible assumption) | assumption)
                    (try (obtain ⟨Ap_, cp_, ep_⟩ := Kd.R_slice HO_7.out; subst ep_))
                    obtain ⟨ad418, e418, hx418_0, hx418_1⟩ := at_T28 (Kd.R_reads' HO_7.out).2.2 x57_2 p418 q418
                    cases e418
                    replace p418 := eq_true p418
                    replace q418 := eq_true q418
                    refine start_ (n := 13) (S := fun w' => w'.cell? ⟨gb412, 0, none⟩ = some (.int .u64 x413000_2) ∧ w'.cell? ⟨gb412, 1, none⟩ = some (.int .u64 x413001_2) ∧ w'.cell? ⟨gb417, 0, none⟩ = some (.int .u64 ((rd_T28 x8_1 x57_2).f0)) ∧ w'.cell? ⟨gb417, 1, none⟩ = some (.int .u64 ((rd_T28 x8_1 x57_2).f1)) ∧ w'.cell? (ad418.add ((x57_2).toNat * 2)) = some (.int .u64 ((rd_T28 x7_2 x57_2).f0)) ∧ w'.cell? ⟨(ad418.add ((x57_2).toNat * 2)).block, (ad418.add ((x57_2).toNat * 2)).off + 1, none⟩ = some (.int .u64 ((rd_T28 x7_2 x57_2).f1))) (ds := [12]) #[false, false, false, false, false, false, false, false, false, false, false, false, false] (by kernel_rfl) rfl rfl ⟨(blk_cell BK412.out 0).trans rfl, (blk_cell BK412.out 1).trans rfl, (blk_cell BK417.out 0).trans rfl, (blk_cell BK417.out 1).trans rfl, hx418_0, hx418_1⟩ (fun hHeld => ?_); refine with_tabW line_Powers.tab14 line_Powers.bits14 (fun HT_ HW_ => ?_)
                    generalize w68.drew = w69 at HO_7 HO_13 HO_55 BK400 BK403 BK412 BK417 HB hx418_0 hx418_1 hHeld ⊢
                    refine pure_ (i := 0) (N := some 62) (v := ?_) (a' := ?_) #[true, false, false, false, false, false, false, false, false, false, false, false, false] rfl rfl (any_of HT_.out (by kernel_rfl)) (fun _ _ _ h => h) (Or.inl ⟨by rfl, ?_⟩) ?_ ?_
                    rotate_left
                    ·intro w'
                     go_simp
                     with_reducible rfl
                    rotate_left
                    ·simp only [Act.put, List.setIfInBounds_toArray, List.set_cons_zero, List.set_cons_succ, i64_w, i32_w]
                     rfl
                    refine pure_ (i := 1) (N := some 63) (v := ?_) (a' := ?_) #[true, true, false, false, false, false, false, false, false, false, false, false, false] rfl rfl (any_of HT_.out (by kernel_rfl)) (fun _ _ _ h => h) (Or.inl ⟨by rfl, ?_⟩) ?_ ?_
                    rotate_left
                    ·intro w'
                     go_simp
                     with_reducible rfl
                    rotate_left
                    ·simp only [Act.put, List.setIfInBounds_toArray, List.set_cons_zero, List.set_cons_succ, i64_w, i32_w]
                     rfl
                    refine pure_ (i := 2) (N := some 64) (v := ?_) (a' := ?_) #[true, true, true, false, false, false, false, false, false, false, false, false, false] rfl rfl (any_of HT_.out (by kernel_rfl)) (fun _ _ _ h => h) (Or.inl ⟨by rfl, ?_⟩) ?_ ?_
                    rotate_left
                    ·intro w'
                     go_simp
                     with_reducible rfl
                    rotate_left
                    ·simp only [Act.put, List.setIfInBounds_toArray, List.set_cons_zero, List.set_cons_succ, i64_w, i32_w]
                     rfl
                    refine pure_ (i := 3) (N := some 65) (v := ?_) (a' := ?_) #[true, true, true, true, false, false, false, false, false, false, false, false, false] rfl rfl (any_of HT_.out (by kernel_rfl)) (fun _ _ _ h => h) (Or.inl ⟨by rfl, ?_⟩) ?_ ?_
                    rotate_left
                    ·intro w'
                     go_simp
                     with_reducible rfl
                    rotate_left
                    ·simp only [Act.put, List.setIfInBounds_toArray, List.set_cons_zero, List.set_cons_succ, i64_w, i32_w]
                     rfl
                    refine pure_ (i := 4) (N := some 66) (v := ?_) (a' := ?_) #[true, true, true, true, true, false, false, false, false, false, false, false, false] rfl rfl (any_of HT_.out (by kernel_rfl)) (fun _ _ _ h => h) (Or.inl ⟨by rfl, ?_⟩) ?_ ?_
                    rotate_left
                    ·intro w'
                     go_simp
                     with_reducible rfl
                    rotate_left
                    ·simp only [Act.put, List.setIfInBounds_toArray, List.set_cons_zero, List.set_cons_succ, i64_w, i32_w]
                     rfl
                    refine pure_ (i := 6) (N := some 68) (v := ?_) (a' := ?_) #[true, true, true, true, true, false, true, false, false, false, false, false, false] rfl rfl (any_of HT_.out (by kernel_rfl)) (fun _ _ _ h => h) (Or.inl ⟨by rfl, ?_⟩) ?_ ?_
                    rotate_left
                    ·intro w'
                     go_simp
                     with_reducible rfl
                    rotate_left
                    ·simp only [Act.put, List.setIfInBounds_toArray, List.set_cons_zero, List.set_cons_succ, i64_w, i32_w]
                     rfl
                    refine take_ (i := 5) (N := some 67) (v := ?_) (a' := ?_) #[true, true, true, true, true, true, true, false, false, false, false, false, false] rfl rfl (take_ofW HT_.out HW_.out (by kernel_rfl)) (fun _ _ _ h => h) (Or.inl ⟨by rfl, ?_⟩) hHeld ?_ ?_
                    rotate_left
                    ·rintro w' ⟨s0, s1, s2, s3, s4, s5⟩
                     go_simp
                     with_reducible rfl
                    rotate_left
                    ·simp only [Act.put, List.setIfInBounds_toArray, List.set_cons_zero, List.set_cons_succ, i64_w, i32_w]
                     rfl
                    refine take_ (i := 7) (N := some 69) (v := ?_) (a' := ?_) #[true, true, true, true, true, true, true, true, false, false, false, false, false] rfl rfl (take_ofW HT_.out HW_.out (by kernel_rfl)) (fun _ _ _ h => h) (Or.inl ⟨by rfl, ?_⟩) hHeld ?_ ?_
                    rotate_left
                    ·rintro w' ⟨s0, s1, s2, s3, s4, s5⟩
                     go_simp
                     with_reducible rfl
                    rotate_left
                    ·simp only [Act.put, List.setIfInBounds_toArray, List.set_cons_zero, List.set_cons_succ, i64_w, i32_w]
                     rfl
                    refine take_ (i := 8) (N := some 70) (v := ?_) (a' := ?_) #[true, true, true, true, true, true, true, true, true, false, false, false, false] rfl rfl (take_ofW HT_.out HW_.out (by kernel_rfl)) (fun _ _ _ h => h) (Or.inl ⟨by rfl, ?_⟩) hHeld ?_ ?_
                    rotate_left
                    ·rintro w' ⟨s0, s1, s2, s3, s4, s5⟩
                     go_simp
                     with_reducible rfl
                    rotate_left
                    ·simp only [Act.put, List.setIfInBounds_toArray, List.set_cons_zero, List.set_cons_succ, i64_w, i32_w]
                     rfl
                    refine one_ (i := 9) (N := some 71) #[true, true, true, true, true, true, true, true, true, true, false, false, false] rfl rfl (one_of HT_.out (by kernel_rfl)) (by decide) (fun K hK => ?_)
                    refine goes_ Try.func13 (by kernel_rfl) rfl #[.int .i64 a0, .agg #[.int .u64 x413000_2, .int .u64 x413001_2], .agg #[.int .u64 ((rd_T28 x8_1 x57_2).f0), .int .u64 ((rd_T28 x8_1 x57_2).f1)]] (by rfl) rfl rfl (by (try simp only [List.map_toArray, List.map_cons, List.map_nil]); first | done | rfl | (simp only [List.length_drop, List.length_take]; rfl)) ?_
                    with_reducible refine (tower_Mul.calls k2 a0 x413000_2 x413001_2 ((rd_T28 x8_1 x57_2).f0) ((rd_T28 x8_1 x57_2).f1) t419 t420 _ A51.out).mono ?_
                    rintro e w70 ⟨rfl, hb⟩
                    have HS4_ := (hb.cell (World.block_lt_of_cell? _ _ (hHeld.2.2.2.2.1))).trans (hHeld.2.2.2.2.1)
                    have HS5_ := (hb.cell (World.block_lt_of_cell? _ _ (hHeld.2.2.2.2.2))).trans (hHeld.2.2.2.2.2)
                    refine ⟨_, rfl, ?_⟩
                    replace HO_7 := kb HO_7 hb
                    replace HO_13 := kb HO_13 hb
                    replace HO_55 := kb HO_55 hb
                    replace BK400 := bb BK400 hb
                    replace BK403 := bb BK403 hb
                    replace BK412 := bb BK412 hb
                    replace BK417 := bb BK417 hb
                    replace HB := bh HB hb
                    (try clear hb)
                    (try clear hb2)
                    (try clear hk)
                    (try clear hi)
                    refine hK.out _ _ ⟨(blk_cell BK412.out 0).trans rfl, (blk_cell BK412.out 1).trans rfl, (blk_cell BK417.out 0).trans rfl, (blk_cell BK417.out 1).trans rfl, HS4_, HS5_⟩ (fun hHeld => ?_)
                    clear hK K
                    refine norm_ (a' := ?_) ?_ ?_
                    rotate_left
                    ·show Act.put _ (some 71) _ = _
                     simp only [Act.put, List.setIfInBounds_toArray, List.set_cons_zero, List.set_cons_succ, i64_w, i32_w]
                     rfl
                    refine one_ (i := 10) (N := some 72) #[true, true, true, true, true, true, true, true, true, true, true, false, false] rfl rfl (one_of HT_.out (by kernel_rfl)) (by decide) (fun K hK => ?_)
                    refine goes_ Try.func12 (by kernel_rfl) rfl #[.agg #[.int .u64 ((rd_T28 x7_2 x57_2).f0), .int .u64 ((rd_T28 x7_2 x57_2).f1)], .agg #[.int .u64 t419, .int .u64 t420]] (by rfl) rfl rfl (by (try simp only [List.map_toArray, List.map_cons, List.map_nil]); first | done | rfl | (simp only [List.length_drop, List.length_take]; rfl)) ?_
                    with_reducible refine (tower_Add.calls ((rd_T28 x7_2 x57_2).f0) ((rd_T28 x7_2 x57_2).f1) t419 t420 t421 t422 _ A52.out).mono ?_
                    rintro e w71 ⟨rfl, hb⟩
                    have HS4_ := (hb.cell (World.block_lt_of_cell? _ _ (hHeld.2.2.2.2.1))).trans (hHeld.2.2.2.2.1)
                    have HS5_ := (hb.cell (World.block_lt_of_cell? _ _ (hHeld.2.2.2.2.2))).trans (hHeld.2.2.2.2.2)
                    refine ⟨_, rfl, ?_⟩
                    replace HO_7 := kb HO_7 hb
                    replace HO_13 := kb HO_13 hb
                    replace HO_55 := kb HO_55 hb
                    replace BK400 := bb BK400 hb
                    replace BK403 := bb BK403 hb
                    replace BK412 := bb BK412 hb
                    replace BK417 := bb BK417 hb
                    replace HB := bh HB hb
                    (try clear hb)
                    (try clear hb2)
                    (try clear hk)
                    (try clear hi)
                    have p53 : 0 ≤ (x57_2 : Int) := of_decide_eq_true (by first | (with_reducible assumption) | assumption)
                    have q53 : (x57_2 : Int) < ((x7_2.length : Int) : Int) := of_decide_eq_true (by first | (with_reducible assumption) | assumption)
                    obtain ⟨go53, co53, eo53, gb53, gl53, cl53, HG53⟩ := Kd.R_form HO_7.out (by omega)
                    (first | cases eo53 | (injection eo53 with ea_ en_ ec_; (first | subst ea_ | (injection ea_ with ea_; subst ea_)); subst ec_; clear en_))
                    have GB53 := Aside0.mk gb53
                    have GG53 := Aside0.mk HG53
                    clear gb53 gl53 HG53
                    (first | simp only [add_plain] at hx418_0 | skip)
                    (first | simp only [add_plain] at hx418_1 | skip)
                    obtain ⟨ce53, hcl53, hM53, hcc53, hfr53⟩ := Kd.R_elem HO_7.out z28 (x57_2 : Int) p53 q53
                    obtain rfl := k28_openM hM53
                    have hx53_0 : World.cell? _ ⟨go53, (x57_2 : Int).toNat * 2, none⟩ = some (.int .u64 ((rd_T28 x7_2 x57_2).f0)) := hcc53 0 _ rfl
                    have hx53_1 : World.cell? _ ⟨go53, (x57_2 : Int).toNat * 2 + 1, none⟩ = some (.int .u64 ((rd_T28 x7_2 x57_2).f1)) := hcc53 1 _ rfl
                    have hf53_0 : World.frozen? _ ⟨go53, (x57_2 : Int).toNat * 2, none⟩ = false := hfr53 0
                    have hf53_1 : World.frozen? _ ⟨go53, (x57_2 : Int).toNat * 2 + 1, none⟩ = false := hfr53 1
                    clear hcl53 hcc53 hfr53 hM53
                    replace p53 := eq_true p53
                    replace q53 := eq_true q53
                    obtain ⟨ce72, hcl72, hM72, hcc72, hfr72⟩ := Kd.R_elem HO_7.out z28 (x57_2 : Int) (of_decide_eq_true (by first | (with_reducible assumption) | assumption)) (by have h_ : (x57_2 : Int) < ((x7_2.length : Int) : Int) := of_decide_eq_true (by first | (with_reducible assumption) | assumption); first | exact h_ | (have e_ := (Kd.R_reads' HO_7.out).1; omega) | simpa using h_)
                    obtain rfl := k28_openM hM72
                    have HP72 := (Kd.R_seg HO_7.out (x57_2 : Int) (of_decide_eq_true (by first | (with_reducible assumption) | assumption)) (by have h_ : (x57_2 : Int) < ((x7_2.length : Int) : Int) := of_decide_eq_true (by first | (with_reducible assumption) | assumption); first | exact h_ | (have e_ := (Kd.R_reads' HO_7.out).1; omega) | simpa using h_) (seg := [.int .u64 t421, .int .u64 t422]) (j := 0) hcl72 hcc72 (show 2 ≤ 2 from by decide) (x' := (⟨t421, t422⟩ : S28)) (k28_mkM _ _ _ (⟨t421, t422⟩ : S28) ) (fun _ hk => hk)).1
                    rw [← Ny423.out] at HP72
                    have HQ72 := Aside0.mk HP72
                    clear hcl72 hcc72 hfr72 hM72 HP72
                    refine hK.out _ _ ⟨(blk_cell BK412.out 0).trans rfl, (blk_cell BK412.out 1).trans rfl, (blk_cell BK417.out 0).trans rfl, (blk_cell BK417.out 1).trans rfl, HS4_, HS5_⟩ (fun hHeld => ?_)
                    clear hK K
                    refine norm_ (a' := ?_) ?_ ?_
                    rotate_left
                    ·show Act.put _ (some 72) _ = _
                     simp only [Act.put, List.setIfInBounds_toArray, List.set_cons_zero, List.set_cons_succ, i64_w, i32_w]
                     rfl
                    refine pure_ (i := 11) (N := some 73) (v := ?_) (a' := ?_) #[true, true, true, true, true, true, true, true, true, true, true, true, false] rfl rfl (any_of HT_.out (by kernel_rfl)) (fun _ _ _ h => h) (Or.inl ⟨by rfl, ?_⟩) ?_ ?_
                    rotate_left
                    ·intro w'
                     go_simp
                     with_reducible rfl
                    rotate_left
                    ·simp only [Act.put, List.setIfInBounds_toArray, List.set_cons_zero, List.set_cons_succ, i64_w, i32_w]
                     rfl
                    refine last_ (i := 12) (N := none) #[true, true, true, true, true, true, true, true, true, true, true, true, true] rfl rfl (one_of HT_.out (by kernel_rfl)) (by decide) (fun K hK => ?_)
                    refine skip_ (w1 := ?_) (by rfl) rfl ?_ ?_
                    rotate_left
                    ·go_simp
                     rfl
                    refine hK.out _ _ ?_
                    clear hK K
                    refine done_ (done_of HT_.out (by kernel_rfl)) ?_
                    try go_wp2
                    have n0_ : Aside0 (Kd.R k28 28 ((w71.setCell ⟨go53, (x57_2 : Int).toNat * 2, none⟩ (.int .u64 t421)).setCell ⟨go53, (x57_2 : Int).toNat * 2 + 1, none⟩ (.int .u64 t422)) w.heap.size (fun k_ => some k_ ≠ (v414 : Value).ownBlock ∧ some k_ ≠ (.slice (some ad416) x8_1.length co34 : Value).ownBlock ∧ k_ ≠ gb400 ∧ k_ ≠ gb403 ∧ k_ ≠ gb412 ∧ k_ ≠ gb417) (.slice (some ⟨go53, 0, none⟩) x7_2.length co33) y423) := ⟨by (with_reducible repeat refine kl ?_); exact HQ72.out⟩
                    have n1_ : Aside0 (Kd.R k28 28 ((w71.setCell ⟨go53, (x57_2 : Int).toNat * 2, none⟩ (.int .u64 t421)).setCell ⟨go53, (x57_2 : Int).toNat * 2 + 1, none⟩ (.int .u64 t422)) w.heap.size (fun k_ => some k_ ≠ (.slice (some ⟨go53, 0, none⟩) x7_2.length co33 : Value).ownBlock ∧ some k_ ≠ (.slice (some ad416) x8_1.length co34 : Value).ownBlock ∧ k_ ≠ gb400 ∧ k_ ≠ gb403 ∧ k_ ≠ gb412 ∧ k_ ≠ gb417) v414 x13_2) := ⟨by (with_reducible repeat refine kl ?_); exact Kd.R_mono (Kd.R_far (p := ⟨go53, (x57_2 : Int).toNat * 2 + 1, none⟩) (Kd.R_far (p := ⟨go53, (x57_2 : Int).toNat * 2, none⟩) (Kd.R_mono HO_13.out (fun k_ hk => (⟨hk, fun e_ => hk.1 (by rw [e_]; rfl)⟩ : _ ∧ k_ ≠ go53))) (fun _ hk => hk.2) (.int .u64 t421)) (fun _ hk => hk.2) (.int .u64 t422)) (fun _ hk => ⟨hk.1.1, ⟨hk.1.2.1, ⟨hk.1.2.2.1, ⟨hk.1.2.2.2.1, ⟨hk.1.2.2.2.2.1, hk.1.2.2.2.2.2⟩⟩⟩⟩⟩)⟩
                    have n2_ : Aside0 (Kd.R k28 28 ((w71.setCell ⟨go53, (x57_2 : Int).toNat * 2, none⟩ (.int .u64 t421)).setCell ⟨go53, (x57_2 : Int).toNat * 2 + 1, none⟩ (.int .u64 t422)) w.heap.size (fun k_ => some k_ ≠ (.slice (some ⟨go53, 0, none⟩) x7_2.length co33 : Value).ownBlock ∧ some k_ ≠ (v414 : Value).ownBlock ∧ k_ ≠ gb400 ∧ k_ ≠ gb403 ∧ k_ ≠ gb412 ∧ k_ ≠ gb417) (.slice (some ad416) x8_1.length co34) x8_1) := ⟨by (with_reducible repeat refine kl ?_); exact Kd.R_mono (Kd.R_far (p := ⟨go53, (x57_2 : Int).toNat * 2 + 1, none⟩) (Kd.R_far (p := ⟨go53, (x57_2 : Int).toNat * 2, none⟩) (Kd.R_mono HO_55.out (fun k_ hk => (⟨hk, fun e_ => hk.1 (by rw [e_]; rfl)⟩ : _ ∧ k_ ≠ go53))) (fun _ hk => hk.2) (.int .u64 t421)) (fun _ hk => hk.2) (.int .u64 t422)) (fun _ hk => ⟨hk.1.1, ⟨hk.1.2.1, ⟨hk.1.2.2.1, ⟨hk.1.2.2.2.1, ⟨hk.1.2.2.2.2.1, hk.1.2.2.2.2.2⟩⟩⟩⟩⟩)⟩
                    have n3_ : Aside0 (((w71.setCell ⟨go53, (x57_2 : Int).toNat * 2, none⟩ (.int .u64 t421)).setCell ⟨go53, (x57_2 : Int).toNat * 2 + 1, none⟩ (.int .u64 t422)).heap[gb400]? = some (.cells #[.int .u64 x401000_2, .int .u64 x401001_2] 28 (0, 0))) := ⟨by (with_reducible repeat refine bl ?_); refine blk_far ?_ (by have h_ := Kd.R_away HO_7.out (fun _ hk => hk.2.2.1); intro e_; exact h_ (by rw [e_]; rfl)) _; (with_reducible repeat refine bl ?_); refine blk_far ?_ (by have h_ := Kd.R_away HO_7.out (fun _ hk => hk.2.2.1); intro e_; exact h_ (by rw [e_]; rfl)) _; (with_reducible repeat refine bl ?_); exact BK400.out⟩
                    have n4_ : Aside0 (((w71.setCell ⟨go53, (x57_2 : Int).toNat * 2, none⟩ (.int .u64 t421)).setCell ⟨go53, (x57_2 : Int).toNat * 2 + 1, none⟩ (.int .u64 t422)).heap[gb403]? = some (.cells #[.int .u64 x404000_2, .int .u64 x404001_2] 28 (0, 0))) := ⟨by (with_reducible repeat refine bl ?_); refine blk_far ?_ (by have h_ := Kd.R_away HO_7.out (fun _ hk => hk.2.2.2.1); intro e_; exact h_ (by rw [e_]; rfl)) _; (with_reducible repeat refine bl ?_); refine blk_far ?_ (by have h_ := Kd.R_away HO_7.out (fun _ hk => hk.2.2.2.1); intro e_; exact h_ (by rw [e_]; rfl)) _; (with_reducible repeat refine bl ?_); exact BK403.out⟩
                    have n5_ : Aside0 (((w71.setCell ⟨go53, (x57_2 : Int).toNat * 2, none⟩ (.int .u64 t421)).setCell ⟨go53, (x57_2 : Int).toNat * 2 + 1, none⟩ (.int .u64 t422)).heap[gb412]? = some (.cells #[.int .u64 x413000_2, .int .u64 x413001_2] 28 (0, 0))) := ⟨by (with_reducible repeat refine bl ?_); refine blk_far ?_ (by have h_ := Kd.R_away HO_7.out (fun _ hk => hk.2.2.2.2.1); intro e_; exact h_ (by rw [e_]; rfl)) _; (with_reducible repeat refine bl ?_); refine blk_far ?_ (by have h_ := Kd.R_away HO_7.out (fun _ hk => hk.2.2.2.2.1); intro e_; exact h_ (by rw [e_]; rfl)) _; (with_reducible repeat refine bl ?_); exact BK412.out⟩
                    have n6_ : Aside0 (((w71.setCell ⟨go53, (x57_2 : Int).toNat * 2, none⟩ (.int .u64 t421)).setCell ⟨go53, (x57_2 : Int).toNat * 2 + 1, none⟩ (.int .u64 t422)).heap[gb417]? = some (.cells #[.int .u64 ((rd_T28 x8_1 x57_2).f0), .int .u64 ((rd_T28 x8_1 x57_2).f1)] 28 (0, 0))) := ⟨by (with_reducible repeat refine bl ?_); refine blk_far ?_ (by have h_ := Kd.R_away HO_7.out (fun _ hk => hk.2.2.2.2.2); intro e_; exact h_ (by rw [e_]; rfl)) _; (with_reducible repeat refine bl ?_); refine blk_far ?_ (by have h_ := Kd.R_away HO_7.out (fun _ hk => hk.2.2.2.2.2); intro e_; exact h_ (by rw [e_]; rfl)) _; (with_reducible repeat refine bl ?_); exact BK417.out⟩
                    have n7_ : Aside0 (Below w.heap.size w ((w71.setCell ⟨go53, (x57_2 : Int).toNat * 2, none⟩ (.int .u64 t421)).setCell ⟨go53, (x57_2 : Int).toNat * 2 + 1, none⟩ (.int .u64 t422))) := ⟨by repeat (first | (with_reducible first | exact HB.out | apply below_alloc | apply pw_below_drewN | apply below_drew1 | refine below_set ?_ GB53.out | refine below_set ?_ GB53.out | refine below_set ?_ GE400.out | refine below_set ?_ GE403.out | refine below_set ?_ GE412.out | refine below_set ?_ GE417.out) | exact HB.out)⟩
                    (try clear HO_7)
                    (try clear HO_13)
                    (try clear HO_55)
                    (try clear BK400)
                    (try clear BK403)
                    (try clear BK412)
                    (try clear BK417)
                    (try clear HB)
                    generalize ((w71.setCell ⟨go53, (x57_2 : Int).toNat * 2, none⟩ (.int .u64 t421)).setCell ⟨go53, (x57_2 : Int).toNat * 2 + 1, none⟩ (.int .u64 t422)) = w73 at n0_ n1_ n2_ n3_ n4_ n5_ n6_ n7_ ⊢
                    have HO_7 := n0_
                    have HO_13 := n1_
                    have HO_55 := n2_
                    have BK400 := n3_
                    have BK403 := n4_
                    have BK412 := n5_
                    have BK417 := n6_
                    have HB := n7_
                    clear n0_ n1_ n2_ n3_ n4_ n5_ n6_ n7_
                    replace HO_7 := Aside0.mk (Kd.R_drew HO_7.out)
                    replace HO_13 := Aside0.mk (Kd.R_drew HO_13.out)
                    replace HO_55 := Aside0.mk (Kd.R_drew HO_55.out)
                    replace BK400 := Aside0.mk (blk_drew BK400.out)
                    replace BK403 := Aside0.mk (blk_drew BK403.out)
                    replace BK412 := Aside0.mk (blk_drew BK412.out)
                    replace BK417 := Aside0.mk (blk_drew BK417.out)
                    replace HB := Aside0.mk (below_drew1 HB.out)
                    obtain ⟨Ao75, co75, eo75⟩ := Kd.R_slice HO_13.out
                    (first | subst eo75 | (injection eo75 with f1_ f2_ f3_; have f4_ := f1_.symm; have f5_ := f3_.symm; clear f1_ f2_ f3_; subst f4_; subst f5_))
                    have p424 : 0 ≤ (x57_2 : Int) := of_decide_eq_true (by first | (with_reducible assumption) | assumption)
                    have q424 : x57_2 < (x13_2.length : Int) := of_decide_eq_true (by first | (with_reducible assumption) | assumption)
                    (try (obtain ⟨Ap_, cp_, ep_⟩ := Kd.R_slice HO_13.out; subst ep_))
                    obtain ⟨ad424, e424, hx424_0, hx424_1⟩ := at_T28 (Kd.R_reads' HO_13.out).2.2 x57_2 p424 q424
                    cases e424
                    replace p424 := eq_true p424
                    replace q424 := eq_true q424
                    refine start_ (n := 13) (S := fun w' => w'.cell? ⟨gb417, 0, none⟩ = some (.int .u64 ((rd_T28 x8_1 x57_2).f0)) ∧ w'.cell? ⟨gb417, 1, none⟩ = some (.int .u64 ((rd_T28 x8_1 x57_2).f1)) ∧ w'.cell? ⟨gb403, 0, none⟩ = some (.int .u64 x404000_2) ∧ w'.cell? ⟨gb403, 1, none⟩ = some (.int .u64 x404001_2) ∧ w'.cell? (ad424.add ((x57_2).toNat * 2)) = some (.int .u64 ((rd_T28 x13_2 x57_2).f0)) ∧ w'.cell? ⟨(ad424.add ((x57_2).toNat * 2)).block, (ad424.add ((x57_2).toNat * 2)).off + 1, none⟩ = some (.int .u64 ((rd_T28 x13_2 x57_2).f1))) (ds := [12]) #[false, false, false, false, false, false, false, false, false, false, false, false, false] (by kernel_rfl) rfl rfl ⟨(blk_cell BK417.out 0).trans rfl, (blk_cell BK417.out 1).trans rfl, (blk_cell BK403.out 0).trans rfl, (blk_cell BK403.out 1).trans rfl, hx424_0, hx424_1⟩ (fun hHeld => ?_); refine with_tabW line_Powers.tab15 line_Powers.bits15 (fun HT_ HW_ => ?_)
                    generalize w73.drew = w74 at HO_7 HO_13 HO_55 BK400 BK403 BK412 BK417 HB HQ72 hx424_0 hx424_1 hHeld ⊢
                    refine pure_ (i := 0) (N := some 74) (v := ?_) (a' := ?_) #[true, false, false, false, false, false, false, false, false, false, false, false, false] rfl rfl (any_of HT_.out (by kernel_rfl)) (fun _ _ _ h => h) (Or.inl ⟨by rfl, ?_⟩) ?_ ?_
                    rotate_left
                    ·intro w'
                     go_simp
                     with_reducible rfl
                    rotate_left
                    ·simp only [Act.put, List.setIfInBounds_toArray, List.set_cons_zero, List.set_cons_succ, i64_w, i32_w]
                     rfl
                    refine pure_ (i := 1) (N := some 75) (v := ?_) (a' := ?_) #[true, true, false, false, false, false, false, false, false, false, false, false, false] rfl rfl (any_of HT_.out (by kernel_rfl)) (fun _ _ _ h => h) (Or.inl ⟨by rfl, ?_⟩) ?_ ?_
                    rotate_left
                    ·intro w'
                     go_simp
                     with_reducible rfl
                    rotate_left
                    ·simp only [Act.put, List.setIfInBounds_toArray, List.set_cons_zero, List.set_cons_succ, i64_w, i32_w]
                     rfl
                    refine pure_ (i := 2) (N := some 76) (v := ?_) (a' := ?_) #[true, true, true, false, false, false, false, false, false, false, false, false, false] rfl rfl (any_of HT_.out (by kernel_rfl)) (fun _ _ _ h => h) (Or.inl ⟨by rfl, ?_⟩) ?_ ?_
                    rotate_left
                    ·intro w'
                     go_simp
                     with_reducible rfl
                    rotate_left
                    ·simp only [Act.put, List.setIfInBounds_toArray, List.set_cons_zero, List.set_cons_succ, i64_w, i32_w]
                     rfl
                    refine pure_ (i := 3) (N := some 77) (v := ?_) (a' := ?_) #[true, true, true, true, false, false, false, false, false, false, false, false, false] rfl rfl (any_of HT_.out (by kernel_rfl)) (fun _ _ _ h => h) (Or.inl ⟨by rfl, ?_⟩) ?_ ?_
                    rotate_left
                    ·intro w'
                     go_simp
                     with_reducible rfl
                    rotate_left
                    ·simp only [Act.put, List.setIfInBounds_toArray, List.set_cons_zero, List.set_cons_succ, i64_w, i32_w]
                     rfl
                    refine pure_ (i := 4) (N := some 78) (v := ?_) (a' := ?_) #[true, true, true, true, true, false, false, false, false, false, false, false, false] rfl rfl (any_of HT_.out (by kernel_rfl)) (fun _ _ _ h => h) (Or.inl ⟨by rfl, ?_⟩) ?_ ?_
                    rotate_left
                    ·intro w'
                     go_simp
                     with_reducible rfl
                    rotate_left
                    ·simp only [Act.put, List.setIfInBounds_toArray, List.set_cons_zero, List.set_cons_succ, i64_w, i32_w]
                     rfl
                    refine pure_ (i := 6) (N := some 80) (v := ?_) (a' := ?_) #[true, true, true, true, true, false, true, false, false, false, false, false, false] rfl rfl (any_of HT_.out (by kernel_rfl)) (fun _ _ _ h => h) (Or.inl ⟨by rfl, ?_⟩) ?_ ?_
                    rotate_left
                    ·intro w'
                     go_simp
                     with_reducible rfl
                    rotate_left
                    ·simp only [Act.put, List.setIfInBounds_toArray, List.set_cons_zero, List.set_cons_succ, i64_w, i32_w]
                     rfl
                    refine take_ (i := 5) (N := some 79) (v := ?_) (a' := ?_) #[true, true, true, true, true, true, true, false, false, false, false, false, false] rfl rfl (take_ofW HT_.out HW_.out (by kernel_rfl)) (fun _ _ _ h => h) (Or.inl ⟨by rfl, ?_⟩) hHeld ?_ ?_
                    rotate_left
                    ·rintro w' ⟨s0, s1, s2, s3, s4, s5⟩
                     go_simp
                     with_reducible rfl
                    rotate_left
                    ·simp only [Act.put, List.setIfInBounds_toArray, List.set_cons_zero, List.set_cons_succ, i64_w, i32_w]
                     rfl
                    refine take_ (i := 7) (N := some 81) (v := ?_) (a' := ?_) #[true, true, true, true, true, true, true, true, false, false, false, false, false] rfl rfl (take_ofW HT_.out HW_.out (by kernel_rfl)) (fun _ _ _ h => h) (Or.inl ⟨by rfl, ?_⟩) hHeld ?_ ?_
                    rotate_left
                    ·rintro w' ⟨s0, s1, s2, s3, s4, s5⟩
                     go_simp
                     with_reducible rfl
                    rotate_left
                    ·simp only [Act.put, List.setIfInBounds_toArray, List.set_cons_zero, List.set_cons_succ, i64_w, i32_w]
                     rfl
                    refine take_ (i := 8) (N := some 82) (v := ?_) (a' := ?_) #[true, true, true, true, true, true, true, true, true, false, false, false, false] rfl rfl (take_ofW HT_.out HW_.out (by kernel_rfl)) (fun _ _ _ h => h) (Or.inl ⟨by rfl, ?_⟩) hHeld ?_ ?_
                    rotate_left
                    ·rintro w' ⟨s0, s1, s2, s3, s4, s5⟩
                     go_simp
                     with_reducible rfl
                    rotate_left
                    ·simp only [Act.put, List.setIfInBounds_toArray, List.set_cons_zero, List.set_cons_succ, i64_w, i32_w]
                     rfl
                    refine one_ (i := 9) (N := some 83) #[true, true, true, true, true, true, true, true, true, true, false, false, false] rfl rfl (one_of HT_.out (by kernel_rfl)) (by decide) (fun K hK => ?_)
                    refine goes_ Try.func13 (by kernel_rfl) rfl #[.int .i64 a0, .agg #[.int .u64 ((rd_T28 x8_1 x57_2).f0), .int .u64 ((rd_T28 x8_1 x57_2).f1)], .agg #[.int .u64 x404000_2, .int .u64 x404001_2]] (by rfl) rfl rfl (by (try simp only [List.map_toArray, List.map_cons, List.map_nil]); first | done | rfl | (simp only [List.length_drop, List.length_take]; rfl)) ?_
                    with_reducible refine (tower_Mul.calls k2 a0 ((rd_T28 x8_1 x57_2).f0) ((rd_T28 x8_1 x57_2).f1) x404000_2 x404001_2 t425 t426 _ A55.out).mono ?_
                    rintro e w76 ⟨rfl, hb⟩
                    have HS4_ := (hb.cell (World.block_lt_of_cell? _ _ (hHeld.2.2.2.2.1))).trans (hHeld.2.2.2.2.1)
                    have HS5_ := (hb.cell (World.block_lt_of_cell? _ _ (hHeld.2.2.2.2.2))).trans (hHeld.2.2.2.2.2)
                    refine ⟨_, rfl, ?_⟩
                    replace HO_7 := kb HO_7 hb
                    replace HO_13 := kb HO_13 hb
                    replace HO_55 := kb HO_55 hb
                    replace BK400 := bb BK400 hb
                    replace BK403 := bb BK403 hb
                    replace BK412 := bb BK412 hb
                    replace BK417 := bb BK417 hb
                    replace HB := bh HB hb
                    (try clear hb)
                    (try clear hb2)
                    (try clear hk)
                    (try clear hi)
                    refine hK.out _ _ ⟨(blk_cell BK417.out 0).trans rfl, (blk_cell BK417.out 1).trans rfl, (blk_cell BK403.out 0).trans rfl, (blk_cell BK403.out 1).trans rfl, HS4_, HS5_⟩ (fun hHeld => ?_)
                    clear hK K
                    refine norm_ (a' := ?_) ?_ ?_
                    rotate_left
                    ·show Act.put _ (some 83) _ = _
                     simp only [Act.put, List.setIfInBounds_toArray, List.set_cons_zero, List.set_cons_succ, i64_w, i32_w]
                     rfl
                    refine one_ (i := 10) (N := some 84) #[true, true, true, true, true, true, true, true, true, true, true, false, false] rfl rfl (one_of HT_.out (by kernel_rfl)) (by decide) (fun K hK => ?_)
                    refine goes_ Try.func12 (by kernel_rfl) rfl #[.agg #[.int .u64 ((rd_T28 x13_2 x57_2).f0), .int .u64 ((rd_T28 x13_2 x57_2).f1)], .agg #[.int .u64 t425, .int .u64 t426]] (by rfl) rfl rfl (by (try simp only [List.map_toArray, List.map_cons, List.map_nil]); first | done | rfl | (simp only [List.length_drop, List.length_take]; rfl)) ?_
                    with_reducible refine (tower_Add.calls ((rd_T28 x13_2 x57_2).f0) ((rd_T28 x13_2 x57_2).f1) t425 t426 t427 t428 _ A56.out).mono ?_
                    rintro e w77 ⟨rfl, hb⟩
                    have HS4_ := (hb.cell (World.block_lt_of_cell? _ _ (hHeld.2.2.2.2.1))).trans (hHeld.2.2.2.2.1)
                    have HS5_ := (hb.cell (World.block_lt_of_cell? _ _ (hHeld.2.2.2.2.2))).trans (hHeld.2.2.2.2.2)
                    refine ⟨_, rfl, ?_⟩
                    replace HO_7 := kb HO_7 hb
                    replace HO_13 := kb HO_13 hb
                    replace HO_55 := kb HO_55 hb
                    replace BK400 := bb BK400 hb
                    replace BK403 := bb BK403 hb
                    replace BK412 := bb BK412 hb
                    replace BK417 := bb BK417 hb
                    replace HB := bh HB hb
                    (try clear hb)
                    (try clear hb2)
                    (try clear hk)
                    (try clear hi)
                    have p57 : 0 ≤ (x57_2 : Int) := of_decide_eq_true (by first | (with_reducible assumption) | assumption)
                    have q57 : (x57_2 : Int) < ((x13_2.length : Int) : Int) := of_decide_eq_true (by first | (with_reducible assumption) | assumption)
                    obtain ⟨go57, co57, eo57, gb57, gl57, cl57, HG57⟩ := Kd.R_form HO_13.out (by omega)
                    (first | cases eo57 | (injection eo57 with ea_ en_ ec_; (first | subst ea_ | (injection ea_ with ea_; subst ea_)); subst ec_; clear en_))
                    have GB57 := Aside0.mk gb57
                    have GG57 := Aside0.mk HG57
                    clear gb57 gl57 HG57
                    (first | simp only [add_plain] at hx424_0 | skip)
                    (first | simp only [add_plain] at hx424_1 | skip)
                    obtain ⟨ce57, hcl57, hM57, hcc57, hfr57⟩ := Kd.R_elem HO_13.out z28 (x57_2 : Int) p57 q57
                    obtain rfl := k28_openM hM57
                    have hx57_0 : World.cell? _ ⟨go57, (x57_2 : Int).toNat * 2, none⟩ = some (.int .u64 ((rd_T28 x13_2 x57_2).f0)) := hcc57 0 _ rfl
                    have hx57_1 : World.cell? _ ⟨go57, (x57_2 : Int).toNat * 2 + 1, none⟩ = some (.int .u64 ((rd_T28 x13_2 x57_2).f1)) := hcc57 1 _ rfl
                    have hf57_0 : World.frozen? _ ⟨go57, (x57_2 : Int).toNat * 2, none⟩ = false := hfr57 0
                    have hf57_1 : World.frozen? _ ⟨go57, (x57_2 : Int).toNat * 2 + 1, none⟩ = false := hfr57 1
                    clear hcl57 hcc57 hfr57 hM57
                    replace p57 := eq_true p57
                    replace q57 := eq_true q57
                    obtain ⟨ce78, hcl78, hM78, hcc78, hfr78⟩ := Kd.R_elem HO_13.out z28 (x57_2 : Int) (of_decide_eq_true (by first | (with_reducible assumption) | assumption)) (by have h_ : (x57_2 : Int) < ((x13_2.length : Int) : Int) := of_decide_eq_true (by first | (with_reducible assumption) | assumption); first | exact h_ | (have e_ := (Kd.R_reads' HO_13.out).1; omega) | simpa using h_)
                    obtain rfl := k28_openM hM78
                    have HP78 := (Kd.R_seg HO_13.out (x57_2 : Int) (of_decide_eq_true (by first | (with_reducible assumption) | assumption)) (by have h_ : (x57_2 : Int) < ((x13_2.length : Int) : Int) := of_decide_eq_true (by first | (with_reducible assumption) | assumption); first | exact h_ | (have e_ := (Kd.R_reads' HO_13.out).1; omega) | simpa using h_) (seg := [.int .u64 t427, .int .u64 t428]) (j := 0) hcl78 hcc78 (show 2 ≤ 2 from by decide) (x' := (⟨t427, t428⟩ : S28)) (k28_mkM _ _ _ (⟨t427, t428⟩ : S28) ) (fun _ hk => hk)).1
                    rw [← Ny429.out] at HP78
                    have HQ78 := Aside0.mk HP78
                    clear hcl78 hcc78 hfr78 hM78 HP78
                    refine hK.out _ _ ⟨(blk_cell BK417.out 0).trans rfl, (blk_cell BK417.out 1).trans rfl, (blk_cell BK403.out 0).trans rfl, (blk_cell BK403.out 1).trans rfl, HS4_, HS5_⟩ (fun hHeld => ?_)
                    clear hK K
                    refine norm_ (a' := ?_) ?_ ?_
                    rotate_left
                    ·show Act.put _ (some 84) _ = _
                     simp only [Act.put, List.setIfInBounds_toArray, List.set_cons_zero, List.set_cons_succ, i64_w, i32_w]
                     rfl
                    refine pure_ (i := 11) (N := some 85) (v := ?_) (a' := ?_) #[true, true, true, true, true, true, true, true, true, true, true, true, false] rfl rfl (any_of HT_.out (by kernel_rfl)) (fun _ _ _ h => h) (Or.inl ⟨by rfl, ?_⟩) ?_ ?_
                    rotate_left
                    ·intro w'
                     go_simp
                     with_reducible rfl
                    rotate_left
                    ·simp only [Act.put, List.setIfInBounds_toArray, List.set_cons_zero, List.set_cons_succ, i64_w, i32_w]
                     rfl
                    refine last_ (i := 12) (N := none) #[true, true, true, true, true, true, true, true, true, true, true, true, true] rfl rfl (one_of HT_.out (by kernel_rfl)) (by decide) (fun K hK => ?_)
                    refine skip_ (w1 := ?_) (by rfl) rfl ?_ ?_
                    rotate_left
                    ·go_simp
                     rfl
                    refine hK.out _ _ ?_
                    clear hK K
                    refine done_ (done_of HT_.out (by kernel_rfl)) ?_
                    try go_wp2
                    have n0_ : Aside0 (Kd.R k28 28 ((w77.setCell ⟨go57, (x57_2 : Int).toNat * 2, none⟩ (.int .u64 t427)).setCell ⟨go57, (x57_2 : Int).toNat * 2 + 1, none⟩ (.int .u64 t428)) w.heap.size (fun k_ => some k_ ≠ (.slice (some ⟨go57, 0, none⟩) x13_2.length co75 : Value).ownBlock ∧ some k_ ≠ (.slice (some ad416) x8_1.length co34 : Value).ownBlock ∧ k_ ≠ gb400 ∧ k_ ≠ gb403 ∧ k_ ≠ gb412 ∧ k_ ≠ gb417) (.slice (some ⟨go53, 0, none⟩) x7_2.length co33) y423) := ⟨by (with_reducible repeat refine kl ?_); exact Kd.R_mono (Kd.R_far (p := ⟨go57, (x57_2 : Int).toNat * 2 + 1, none⟩) (Kd.R_far (p := ⟨go57, (x57_2 : Int).toNat * 2, none⟩) (Kd.R_mono HO_7.out (fun k_ hk => (⟨hk, fun e_ => hk.1 (by rw [e_]; rfl)⟩ : _ ∧ k_ ≠ go57))) (fun _ hk => hk.2) (.int .u64 t427)) (fun _ hk => hk.2) (.int .u64 t428)) (fun _ hk => ⟨hk.1.1, ⟨hk.1.2.1, ⟨hk.1.2.2.1, ⟨hk.1.2.2.2.1, ⟨hk.1.2.2.2.2.1, hk.1.2.2.2.2.2⟩⟩⟩⟩⟩)⟩
                    have n1_ : Aside0 (Kd.R k28 28 ((w77.setCell ⟨go57, (x57_2 : Int).toNat * 2, none⟩ (.int .u64 t427)).setCell ⟨go57, (x57_2 : Int).toNat * 2 + 1, none⟩ (.int .u64 t428)) w.heap.size (fun k_ => some k_ ≠ (.slice (some ⟨go53, 0, none⟩) x7_2.length co33 : Value).ownBlock ∧ some k_ ≠ (.slice (some ad416) x8_1.length co34 : Value).ownBlock ∧ k_ ≠ gb400 ∧ k_ ≠ gb403 ∧ k_ ≠ gb412 ∧ k_ ≠ gb417) (.slice (some ⟨go57, 0, none⟩) x13_2.length co75) y429) := ⟨by (with_reducible repeat refine kl ?_); exact HQ78.out⟩
                    have n2_ : Aside0 (Kd.R k28 28 ((w77.setCell ⟨go57, (x57_2 : Int).toNat * 2, none⟩ (.int .u64 t427)).setCell ⟨go57, (x57_2 : Int).toNat * 2 + 1, none⟩ (.int .u64 t428)) w.heap.size (fun k_ => some k_ ≠ (.slice (some ⟨go53, 0, none⟩) x7_2.length co33 : Value).ownBlock ∧ some k_ ≠ (.slice (some ⟨go57, 0, none⟩) x13_2.length co75 : Value).ownBlock ∧ k_ ≠ gb400 ∧ k_ ≠ gb403 ∧ k_ ≠ gb412 ∧ k_ ≠ gb417) (.slice (some ad416) x8_1.length co34) x8_1) := ⟨by (with_reducible repeat refine kl ?_); exact Kd.R_mono (Kd.R_far (p := ⟨go57, (x57_2 : Int).toNat * 2 + 1, none⟩) (Kd.R_far (p := ⟨go57, (x57_2 : Int).toNat * 2, none⟩) (Kd.R_mono HO_55.out (fun k_ hk => (⟨hk, fun e_ => hk.2.1 (by rw [e_]; rfl)⟩ : _ ∧ k_ ≠ go57))) (fun _ hk => hk.2) (.int .u64 t427)) (fun _ hk => hk.2) (.int .u64 t428)) (fun _ hk => ⟨hk.1.1, ⟨hk.1.2.1, ⟨hk.1.2.2.1, ⟨hk.1.2.2.2.1, ⟨hk.1.2.2.2.2.1, hk.1.2.2.2.2.2⟩⟩⟩⟩⟩)⟩
                    have n3_ : Aside0 (((w77.setCell ⟨go57, (x57_2 : Int).toNat * 2, none⟩ (.int .u64 t427)).setCell ⟨go57, (x57_2 : Int).toNat * 2 + 1, none⟩ (.int .u64 t428)).heap[gb400]? = some (.cells #[.int .u64 x401000_2, .int .u64 x401001_2] 28 (0, 0))) := ⟨by (with_reducible repeat refine bl ?_); refine blk_far ?_ (by have h_ := Kd.R_away HO_13.out (fun _ hk => hk.2.2.1); intro e_; exact h_ (by rw [e_]; rfl)) _; (with_reducible repeat refine bl ?_); refine blk_far ?_ (by have h_ := Kd.R_away HO_13.out (fun _ hk => hk.2.2.1); intro e_; exact h_ (by rw [e_]; rfl)) _; (with_reducible repeat refine bl ?_); exact BK400.out⟩
                    have n4_ : Aside0 (((w77.setCell ⟨go57, (x57_2 : Int).toNat * 2, none⟩ (.int .u64 t427)).setCell ⟨go57, (x57_2 : Int).toNat * 2 + 1, none⟩ (.int .u64 t428)).heap[gb403]? = some (.cells #[.int .u64 x404000_2, .int .u64 x404001_2] 28 (0, 0))) := ⟨by (with_reducible repeat refine bl ?_); refine blk_far ?_ (by have h_ := Kd.R_away HO_13.out (fun _ hk => hk.2.2.2.1); intro e_; exact h_ (by rw [e_]; rfl)) _; (with_reducible repeat refine bl ?_); refine blk_far ?_ (by have h_ := Kd.R_away HO_13.out (fun _ hk => hk.2.2.2.1); intro e_; exact h_ (by rw [e_]; rfl)) _; (with_reducible repeat refine bl ?_); exact BK403.out⟩
                    have n5_ : Aside0 (((w77.setCell ⟨go57, (x57_2 : Int).toNat * 2, none⟩ (.int .u64 t427)).setCell ⟨go57, (x57_2 : Int).toNat * 2 + 1, none⟩ (.int .u64 t428)).heap[gb412]? = some (.cells #[.int .u64 x413000_2, .int .u64 x413001_2] 28 (0, 0))) := ⟨by (with_reducible repeat refine bl ?_); refine blk_far ?_ (by have h_ := Kd.R_away HO_13.out (fun _ hk => hk.2.2.2.2.1); intro e_; exact h_ (by rw [e_]; rfl)) _; (with_reducible repeat refine bl ?_); refine blk_far ?_ (by have h_ := Kd.R_away HO_13.out (fun _ hk => hk.2.2.2.2.1); intro e_; exact h_ (by rw [e_]; rfl)) _; (with_reducible repeat refine bl ?_); exact BK412.out⟩
                    have n6_ : Aside0 (((w77.setCell ⟨go57, (x57_2 : Int).toNat * 2, none⟩ (.int .u64 t427)).setCell ⟨go57, (x57_2 : Int).toNat * 2 + 1, none⟩ (.int .u64 t428)).heap[gb417]? = some (.cells #[.int .u64 ((rd_T28 x8_1 x57_2).f0), .int .u64 ((rd_T28 x8_1 x57_2).f1)] 28 (0, 0))) := ⟨by (with_reducible repeat refine bl ?_); refine blk_far ?_ (by have h_ := Kd.R_away HO_13.out (fun _ hk => hk.2.2.2.2.2); intro e_; exact h_ (by rw [e_]; rfl)) _; (with_reducible repeat refine bl ?_); refine blk_far ?_ (by have h_ := Kd.R_away HO_13.out (fun _ hk => hk.2.2.2.2.2); intro e_; exact h_ (by rw [e_]; rfl)) _; (with_reducible repeat refine bl ?_); exact BK417.out⟩
                    have n7_ : Aside0 (Below w.heap.size w ((w77.setCell ⟨go57, (x57_2 : Int).toNat * 2, none⟩ (.int .u64 t427)).setCell ⟨go57, (x57_2 : Int).toNat * 2 + 1, none⟩ (.int .u64 t428))) := ⟨by repeat (first | (with_reducible first | exact HB.out | apply below_alloc | apply pw_below_drewN | apply below_drew1 | refine below_set ?_ GB57.out | refine below_set ?_ GB57.out | refine below_set ?_ GE400.out | refine below_set ?_ GE403.out | refine below_set ?_ GE412.out | refine below_set ?_ GE417.out) | exact HB.out)⟩
                    (try clear HO_7)
                    (try clear HO_13)
                    (try clear HO_55)
                    (try clear BK400)
                    (try clear BK403)
                    (try clear BK412)
                    (try clear BK417)
                    (try clear HB)
                    generalize ((w77.setCell ⟨go57, (x57_2 : Int).toNat * 2, none⟩ (.int .u64 t427)).setCell ⟨go57, (x57_2 : Int).toNat * 2 + 1, none⟩ (.int .u64 t428)) = w79 at n0_ n1_ n2_ n3_ n4_ n5_ n6_ n7_ ⊢
                    have HO_7 := n0_
                    have HO_13 := n1_
                    have HO_55 := n2_
                    have BK400 := n3_
                    have BK403 := n4_
                    have BK412 := n5_
                    have BK417 := n6_
                    have HB := n7_
                    clear n0_ n1_ n2_ n3_ n4_ n5_ n6_ n7_
                    replace HO_7 := Aside0.mk (Kd.R_drew HO_7.out)
                    replace HO_13 := Aside0.mk (Kd.R_drew HO_13.out)
                    replace HO_55 := Aside0.mk (Kd.R_drew HO_55.out)
                    replace BK400 := Aside0.mk (blk_drew BK400.out)
                    replace BK403 := Aside0.mk (blk_drew BK403.out)
                    replace BK412 := Aside0.mk (blk_drew BK412.out)
                    replace BK417 := Aside0.mk (blk_drew BK417.out)
                    replace HB := Aside0.mk (below_drew1 HB.out)
                    have p430 : 0 ≤ ((ji58) : Int) := of_decide_eq_true (by first | (with_reducible assumption) | assumption)
                    have q430 : (ji58) < (y429.length : Int) := (by have h_ : ((ji58) : Int) < ((x13_2.length : Int) : Int) := of_decide_eq_true (by first | (with_reducible assumption) | assumption); first | (have e_ := (Kd.R_reads' HO_13.out).1; omega) | simpa only [Ny429.out, List.length_set] using h_)
                    have ql430 : (((ji58) : Int) < ((x13_2.length : Int) : Int)) = True := eq_true (of_decide_eq_true (by first | (with_reducible assumption) | assumption))
                    (try (obtain ⟨Ap_, cp_, ep_⟩ := Kd.R_slice HO_13.out; subst ep_))
                    obtain ⟨ad430, e430, hx430_0, hx430_1⟩ := at_T28 (Kd.R_reads' HO_13.out).2.2 (ji58) p430 q430
                    obtain rfl : (⟨go57, 0, none⟩ : Addr) = ad430 := (by injection e430)
                    (first | simp only [add_plain] at hx430_0 | simp only [add_at] at hx430_0 | simp only [Addr.add, Nat.zero_add] at hx430_0 | skip)
                    (first | simp only [add_plain] at hx430_1 | simp only [add_at] at hx430_1 | simp only [Addr.add, Nat.zero_add] at hx430_1 | skip)
                    replace p430 := eq_true p430
                    replace q430 := eq_true q430
                    refine start_ (n := 12) (S := fun w' => w'.cell? ⟨gb417, 0, none⟩ = some (.int .u64 ((rd_T28 x8_1 x57_2).f0)) ∧ w'.cell? ⟨gb417, 1, none⟩ = some (.int .u64 ((rd_T28 x8_1 x57_2).f1)) ∧ w'.cell? ⟨go57, ((ji58)).toNat * 2, none⟩ = some (.int .u64 ((rd_T28 y429 (ji58)).f0)) ∧ w'.cell? ⟨go57, ((ji58)).toNat * 2 + 1, none⟩ = some (.int .u64 ((rd_T28 y429 (ji58)).f1))) (ds := [11]) #[false, false, false, false, false, false, false, false, false, false, false, false] (by kernel_rfl) rfl rfl ⟨(blk_cell BK417.out 0).trans rfl, (blk_cell BK417.out 1).trans rfl, hx430_0, hx430_1⟩ (fun hHeld => ?_); refine with_tabW line_Powers.tab16 line_Powers.bits16 (fun HT_ HW_ => ?_)
                    generalize w79.drew = w80 at HO_7 HO_13 HO_55 BK400 BK403 BK412 BK417 HB HQ78 hx430_0 hx430_1 hHeld ⊢
                    refine pure_ (i := 0) (N := some 86) (v := ?_) (a' := ?_) #[true, false, false, false, false, false, false, false, false, false, false, false] rfl rfl (any_of HT_.out (by kernel_rfl)) (fun _ _ _ h => h) (Or.inl ⟨by rfl, ?_⟩) ?_ ?_
                    rotate_left
                    ·intro w'
                     go_simp
                     with_reducible rfl
                    rotate_left
                    ·simp only [Act.put, List.setIfInBounds_toArray, List.set_cons_zero, List.set_cons_succ, i64_w, i32_w]
                     rfl
                    refine pure_ (i := 1) (N := some 87) (v := ?_) (a' := ?_) #[true, true, false, false, false, false, false, false, false, false, false, false] rfl rfl (any_of HT_.out (by kernel_rfl)) (fun _ _ _ h => h) (Or.inl ⟨by rfl, ?_⟩) ?_ ?_
                    rotate_left
                    ·intro w'
                     go_simp
                     with_reducible rfl
                    rotate_left
                    ·simp only [Act.put, List.setIfInBounds_toArray, List.set_cons_zero, List.set_cons_succ, i64_w, i32_w]
                     rfl
                    refine pure_ (i := 2) (N := some 88) (v := ?_) (a' := ?_) #[true, true, true, false, false, false, false, false, false, false, false, false] rfl rfl (any_of HT_.out (by kernel_rfl)) (fun _ _ _ h => h) (Or.inl ⟨by rfl, ?_⟩) ?_ ?_
                    rotate_left
                    ·intro w'
                     go_simp
                     with_reducible rfl
                    rotate_left
                    ·simp only [Act.put, List.setIfInBounds_toArray, List.set_cons_zero, List.set_cons_succ, i64_w, i32_w]
                     rfl
                    refine pure_ (i := 3) (N := some 89) (v := ?_) (a' := ?_) #[true, true, true, true, false, false, false, false, false, false, false, false] rfl rfl (any_of HT_.out (by kernel_rfl)) (fun _ _ _ h => h) (Or.inl ⟨by rfl, ?_⟩) ?_ ?_
                    rotate_left
                    ·intro w'
                     go_simp
                     with_reducible rfl
                    rotate_left
                    ·simp only [Act.put, List.setIfInBounds_toArray, List.set_cons_zero, List.set_cons_succ, i64_w, i32_w]
                     rfl
                    refine pure_ (i := 4) (N := some 90) (v := ?_) (a' := ?_) #[true, true, true, true, true, false, false, false, false, false, false, false] rfl rfl (any_of HT_.out (by kernel_rfl)) (fun _ _ _ h => h) (Or.inl ⟨by rfl, ?_⟩) ?_ ?_
                    rotate_left
                    ·intro w'
                     go_simp
                     with_reducible rfl
                    rotate_left
                    ·simp only [Act.put, List.setIfInBounds_toArray, List.set_cons_zero, List.set_cons_succ, i64_w, i32_w]
                     rfl
                    refine pure_ (i := 5) (N := some 91) (v := ?_) (a' := ?_) #[true, true, true, true, true, true, false, false, false, false, false, false] rfl rfl (any_of HT_.out (by kernel_rfl)) (fun _ _ _ h => h) (Or.inl ⟨by rfl, ?_⟩) ?_ ?_
                    rotate_left
                    ·intro w'
                     go_simp
                     with_reducible rfl
                    rotate_left
                    ·simp only [Act.put, List.setIfInBounds_toArray, List.set_cons_zero, List.set_cons_succ, i64_w, i32_w]
                     rfl
                    refine pure_ (i := 6) (N := some 92) (v := ?_) (a' := ?_) #[true, true, true, true, true, true, true, false, false, false, false, false] rfl rfl (any_of HT_.out (by kernel_rfl)) (fun _ _ _ h => h) (Or.inl ⟨by rfl, ?_⟩) ?_ ?_
                    rotate_left
                    ·intro w'
                     go_simp
                     with_reducible rfl
                    rotate_left
                    ·simp only [Act.put, List.setIfInBounds_toArray, List.set_cons_zero, List.set_cons_succ, i64_w, i32_w]
                     rfl
                    refine take_ (i := 7) (N := some 93) (v := ?_) (a' := ?_) #[true, true, true, true, true, true, true, true, false, false, false, false] rfl rfl (take_ofW HT_.out HW_.out (by kernel_rfl)) (fun _ _ _ h => h) (Or.inl ⟨by rfl, ?_⟩) hHeld ?_ ?_
                    rotate_left
                    ·rintro w' ⟨s0, s1, s2, s3⟩
                     go_simp
                     with_reducible rfl
                    rotate_left
                    ·simp only [Act.put, List.setIfInBounds_toArray, List.set_cons_zero, List.set_cons_succ, i64_w, i32_w]
                     rfl
                    refine take_ (i := 8) (N := some 94) (v := ?_) (a' := ?_) #[true, true, true, true, true, true, true, true, true, false, false, false] rfl rfl (take_ofW HT_.out HW_.out (by kernel_rfl)) (fun _ _ _ h => h) (Or.inl ⟨by rfl, ?_⟩) hHeld ?_ ?_
                    rotate_left
                    ·rintro w' ⟨s0, s1, s2, s3⟩
                     go_simp
                     with_reducible rfl
                    rotate_left
                    ·simp only [Act.put, List.setIfInBounds_toArray, List.set_cons_zero, List.set_cons_succ, i64_w, i32_w]
                     rfl
                    refine one_ (i := 9) (N := some 95) #[true, true, true, true, true, true, true, true, true, true, false, false] rfl rfl (one_of HT_.out (by kernel_rfl)) (by decide) (fun K hK => ?_)
                    refine goes_ Try.func12 (by kernel_rfl) rfl #[.agg #[.int .u64 ((rd_T28 y429 (ji58)).f0), .int .u64 ((rd_T28 y429 (ji58)).f1)], .agg #[.int .u64 ((rd_T28 x8_1 x57_2).f0), .int .u64 ((rd_T28 x8_1 x57_2).f1)]] (by rfl) rfl rfl (by (try simp only [List.map_toArray, List.map_cons, List.map_nil]); first | done | (simp only [hji58]; rfl) | rfl | (simp only [List.length_drop, List.length_take]; rfl)) ?_
                    with_reducible refine (tower_Add.calls ((rd_T28 y429 (ji58)).f0) ((rd_T28 y429 (ji58)).f1) ((rd_T28 x8_1 x57_2).f0) ((rd_T28 x8_1 x57_2).f1) t431 t432 _ A61.out).mono ?_
                    rintro e w81 ⟨rfl, hb⟩
                    have HS2_ := (hb.cell (World.block_lt_of_cell? _ _ (hHeld.2.2.1))).trans (hHeld.2.2.1)
                    have HS3_ := (hb.cell (World.block_lt_of_cell? _ _ (hHeld.2.2.2))).trans (hHeld.2.2.2)
                    refine ⟨_, rfl, ?_⟩
                    replace HO_7 := kb HO_7 hb
                    replace HO_13 := kb HO_13 hb
                    replace HO_55 := kb HO_55 hb
                    replace BK400 := bb BK400 hb
                    replace BK403 := bb BK403 hb
                    replace BK412 := bb BK412 hb
                    replace BK417 := bb BK417 hb
                    replace HB := bh HB hb
                    (try clear hb)
                    (try clear hb2)
                    (try clear hk)
                    (try clear hi)
                    have p62 : 0 ≤ ((ji58) : Int) := of_decide_eq_true (by first | (with_reducible assumption) | assumption)
                    have q62 : ((ji58) : Int) < ((x13_2.length : Int) : Int) := of_decide_eq_true (by first | (with_reducible assumption) | assumption)
                    obtain ⟨ce62, hcl62, hM62, hcc62, hfr62⟩ := Kd.R_elem HO_13.out z28 ((ji58) : Int) p62 q62
                    obtain rfl := k28_openM hM62
                    have hx62_0 : World.cell? _ ⟨go57, ((ji58) : Int).toNat * 2, none⟩ = some (.int .u64 ((rd_T28 y429 (ji58)).f0)) := hcc62 0 _ rfl
                    have hx62_1 : World.cell? _ ⟨go57, ((ji58) : Int).toNat * 2 + 1, none⟩ = some (.int .u64 ((rd_T28 y429 (ji58)).f1)) := hcc62 1 _ rfl
                    have hf62_0 : World.frozen? _ ⟨go57, ((ji58) : Int).toNat * 2, none⟩ = false := hfr62 0
                    have hf62_1 : World.frozen? _ ⟨go57, ((ji58) : Int).toNat * 2 + 1, none⟩ = false := hfr62 1
                    clear hcl62 hcc62 hfr62 hM62
                    replace p62 := eq_true p62
                    replace q62 := eq_true q62
                    obtain ⟨ce82, hcl82, hM82, hcc82, hfr82⟩ := Kd.R_elem HO_13.out z28 ((ji58) : Int) (of_decide_eq_true (by first | (with_reducible assumption) | assumption)) (by have h_ : ((ji58) : Int) < ((x13_2.length : Int) : Int) := of_decide_eq_true (by first | (with_reducible assumption) | assumption); first | exact h_ | (have e_ := (Kd.R_reads' HO_13.out).1; omega) | simpa using h_)
                    obtain rfl := k28_openM hM82
                    have HP82 := (Kd.R_seg HO_13.out ((ji58) : Int) (of_decide_eq_true (by first | (with_reducible assumption) | assumption)) (by have h_ : ((ji58) : Int) < ((x13_2.length : Int) : Int) := of_decide_eq_true (by first | (with_reducible assumption) | assumption); first | exact h_ | (have e_ := (Kd.R_reads' HO_13.out).1; omega) | simpa using h_) (seg := [.int .u64 t431, .int .u64 t432]) (j := 0) hcl82 hcc82 (show 2 ≤ 2 from by decide) (x' := (⟨t431, t432⟩ : S28)) (k28_mkM _ _ _ (⟨t431, t432⟩ : S28) ) (fun _ hk => hk)).1
                    rw [← Ny433.out] at HP82
                    have HQ82 := Aside0.mk HP82
                    clear hcl82 hcc82 hfr82 hM82 HP82
                    refine hK.out _ _ ⟨(blk_cell BK417.out 0).trans rfl, (blk_cell BK417.out 1).trans rfl, HS2_, HS3_⟩ (fun hHeld => ?_)
                    clear hK K
                    refine norm_ (a' := ?_) ?_ ?_
                    rotate_left
                    ·show Act.put _ (some 95) _ = _
                     simp only [Act.put, List.setIfInBounds_toArray, List.set_cons_zero, List.set_cons_succ, i64_w, i32_w]
                     rfl
                    refine pure_ (i := 10) (N := some 96) (v := ?_) (a' := ?_) #[true, true, true, true, true, true, true, true, true, true, true, false] rfl rfl (any_of HT_.out (by kernel_rfl)) (fun _ _ _ h => h) (Or.inl ⟨by rfl, ?_⟩) ?_ ?_
                    rotate_left
                    ·intro w'
                     go_simp
                     with_reducible rfl
                    rotate_left
                    ·simp only [Act.put, List.setIfInBounds_toArray, List.set_cons_zero, List.set_cons_succ, i64_w, i32_w]
                     rfl
                    refine last_ (i := 11) (N := none) #[true, true, true, true, true, true, true, true, true, true, true, true] rfl rfl (one_of HT_.out (by kernel_rfl)) (by decide) (fun K hK => ?_)
                    refine skip_ (w1 := ?_) (by rfl) rfl ?_ ?_
                    rotate_left
                    ·go_simp
                     rfl
                    refine hK.out _ _ ?_
                    clear hK K
                    refine done_ (done_of HT_.out (by kernel_rfl)) ?_
                    try go_wp2
                    (try simp only [← hl7_2])
                    go_roundg k2
                    case measure => have := HK1.out; have := HK2.out; omega
                    case rel => exact ⟨(y423), (y433), (ji58), (x401000_2), (x401001_2), (x404000_2), (x404001_2), (x413000_2), (x413001_2), (by first | rfl | (simp; done) | (simp only [← hji58] <;> (first | rfl | simp)) | (simp [*]; done)), H', ⟨by have := HK1.out; have := HK2.out; omega⟩, ⟨by (try simp only [hl7_2]); (with_reducible repeat refine kl ?_); exact Kd.R_mono (Kd.R_far (p := ⟨go57, ((ji58) : Int).toNat * 2 + 1, none⟩) (Kd.R_far (p := ⟨go57, ((ji58) : Int).toNat * 2, none⟩) (Kd.R_mono HO_7.out (fun k_ hk => (⟨hk, fun e_ => hk.1 (by rw [e_]; rfl)⟩ : _ ∧ k_ ≠ go57))) (fun _ hk => hk.2) (.int .u64 t431)) (fun _ hk => hk.2) (.int .u64 t432)) (fun _ hk => ⟨hk.1.1, ⟨hk.1.2.1, ⟨hk.1.2.2.1, ⟨hk.1.2.2.2.1, hk.1.2.2.2.2.1⟩⟩⟩⟩)⟩, ⟨by (try simp only [hl7_2]); (with_reducible repeat refine kl ?_); exact Kd.R_mono HQ82.out (fun _ hk => ⟨hk.1, ⟨hk.2.1, ⟨hk.2.2.1, ⟨hk.2.2.2.1, hk.2.2.2.2.1⟩⟩⟩⟩)⟩, ⟨by (try simp only [hl7_2]); (with_reducible repeat refine kl ?_); exact Kd.R_mono (Kd.R_far (p := ⟨go57, ((ji58) : Int).toNat * 2 + 1, none⟩) (Kd.R_far (p := ⟨go57, ((ji58) : Int).toNat * 2, none⟩) (Kd.R_mono HO_55.out (fun k_ hk => (⟨hk, fun e_ => hk.2.1 (by rw [e_]; rfl)⟩ : _ ∧ k_ ≠ go57))) (fun _ hk => hk.2) (.int .u64 t431)) (fun _ hk => hk.2) (.int .u64 t432)) (fun _ hk => ⟨hk.1.1, ⟨hk.1.2.1, ⟨hk.1.2.2.1, ⟨hk.1.2.2.2.1, hk.1.2.2.2.2.1⟩⟩⟩⟩)⟩, ⟨by (try simp only [hl7_2]); (with_reducible repeat refine bl ?_); refine blk_far ?_ (by have h_ := Kd.R_away HO_13.out (fun _ hk => hk.2.2.1); intro e_; exact h_ (by rw [e_]; rfl)) _; (with_reducible repeat refine bl ?_); refine blk_far ?_ (by have h_ := Kd.R_away HO_13.out (fun _ hk => hk.2.2.1); intro e_; exact h_ (by rw [e_]; rfl)) _; (with_reducible repeat refine bl ?_); exact BK400.out⟩, ⟨by (try simp only [hl7_2]); (with_reducible repeat refine bl ?_); refine blk_far ?_ (by have h_ := Kd.R_away HO_13.out (fun _ hk => hk.2.2.2.1); intro e_; exact h_ (by rw [e_]; rfl)) _; (with_reducible repeat refine bl ?_); refine blk_far ?_ (by have h_ := Kd.R_away HO_13.out (fun _ hk => hk.2.2.2.1); intro e_; exact h_ (by rw [e_]; rfl)) _; (with_reducible repeat refine bl ?_); exact BK403.out⟩, ⟨by (try simp only [hl7_2]); (with_reducible repeat refine bl ?_); refine blk_far ?_ (by have h_ := Kd.R_away HO_13.out (fun _ hk => hk.2.2.2.2.1); intro e_; exact h_ (by rw [e_]; rfl)) _; (with_reducible repeat refine bl ?_); refine blk_far ?_ (by have h_ := Kd.R_away HO_13.out (fun _ hk => hk.2.2.2.2.1); intro e_; exact h_ (by rw [e_]; rfl)) _; (with_reducible repeat refine bl ?_); exact BK412.out⟩, ⟨by repeat (first | (with_reducible first | exact HB.out | apply below_alloc | apply pw_below_drewN | apply below_drew1 | refine below_set ?_ GB57.out | refine below_set ?_ GB57.out | refine below_set ?_ GE400.out | refine below_set ?_ GE403.out | refine below_set ?_ GE412.out | refine below_set ?_ GE417.out) | exact HB.out)⟩⟩
                   ·rw [if_neg c60] at H
                    exact absurd H (by simp)
                  ·rw [if_neg c59] at H
                   exact absurd H (by simp)
                 ·rw [if_neg c54] at H
                  exact absurd H (by simp)
                ·rw [if_neg c50] at H
                 exact absurd H (by simp)
               ·rw [if_neg c49] at H
                exact absurd H (by simp)
              ·rw [if_neg c48] at H
               exact absurd H (by simp)
             ·rw [if_neg c47] at H
              have c47b0 : decide (x57_2 < (x8_1.length : Int)) = false := decide_eq_false c47
              clear c47
              have H' := Aside0.mk H
              clear H
              go_wp2
              (try simp only [← hl7_2])
              go_roundg k2
              case measure => have := HK1.out; have := HK2.out; omega
              case rel => exact ⟨(x7_2), (x13_2), (wrap64 (x32_1 + 1)), (by first | rfl | (simp; done) | (simp [*]; done)), H', ⟨by have := HK1.out; have := HK2.out; omega⟩, ⟨by (try simp only [hl7_2]); (with_reducible repeat refine kl ?_); exact Kd.R_mono HO_7.out (fun _ hk => hk.1)⟩, ⟨by (try simp only [hl7_2]); (with_reducible repeat refine kl ?_); exact Kd.R_mono HO_13.out (fun _ hk => hk.1)⟩, ⟨bq HB.out⟩⟩
          ·rw [if_neg c26] at H
           exact absurd H (by simp)
         ·rw [if_neg c25] at H
          exact absurd H (by simp)
        ·rw [if_neg c18] at H
         exact absurd H (by simp)
       ·rw [if_neg c17] at H
        exact absurd H (by simp)
      ·rw [if_neg c16] at H
       have c16b0 : decide (x32_1 < (l1.length : Int)) = false := decide_eq_false c16
       clear c16
       simp only [Option.some.injEq, Prod.mk.injEq] at H
       obtain ⟨rfl, rfl⟩ := H
       go_wp2
       go_ret2
       exact ⟨_, by first | rfl | (simp [errW_none, errW_some] <;> rfl) | (simp [*, errW_none, errW_some] <;> rfl), by (with_reducible repeat refine kl ?_); exact Kd.R_mono HO_7.out (fun _ hk => trivial), bq HB.out⟩
   ·rw [if_neg c6] at H
    exact absurd H (by simp)
  ·rw [if_neg c5] at H
   exact absurd H (by simp)
 ·rw [if_neg c4] at H
  have c4b0 : (t390 == 0) = false := beq_eq_false_iff_ne.mpr c4
  have c4b1 : (t390 != 0) = true := bne_iff_ne.mpr c4
  simp only [Option.some.injEq, Prod.mk.injEq] at H
  obtain ⟨rfl, rfl⟩ := H
  go_enter Try.func20, Try.ntmps20
  go_wp2_with (first | ((with_reducible refine gate_callee (f := 25) rfl ?_); refine goesL_ (some 21) rfl rfl Try.func25 (by kernel_rfl) rfl #[.int .i64 a0, .int .i64 (wrap64 ((l1.length : Int) - 1)), .slice A1 l1.length c1] rfl (by (try simp only [List.map_toArray, List.map_cons, List.map_nil]); first | done | rfl | (simp only [List.length_drop, List.length_take]; rfl)) ?_; (with_reducible refine (line_ask.calls k a0 (wrap64 ((l1.length : Int) - 1)) _ _ l1 t390 _ ?side1 ?side2 A3.out).mono ?_); (case side1 => repeat (first | exact HR1.out | (with_reducible refine Kd.C_alloc ?_ _) | (with_reducible refine Kd.C_drewN ?_ _) | (with_reducible refine Kd.C_drew ?_))); (case side2 => exact HC1.out); rintro e w83 ⟨rfl, hb⟩; refine ⟨_, rfl, ?_⟩; replace HB := bh HB hb; (try clear hb); (try clear hb2); (try clear hk); (try clear hi)))
  go_ret2
  exact ⟨_, by first | rfl | (simp [errW_none, errW_some] <;> rfl) | (simp [*, errW_none, errW_some] <;> rfl), by first | exact Kd.R_nil _ _ _ _ _ | exact Kd.N_nil _ _ _ _ _ | exact Kd.V_nil _ _ _ _ _ | exact Kd.Q_nil _ _ _ _ _ | exact Kd.S_nil _ _ _ _ _, bq HB.out⟩

end Go.Proofs.Ythnaalocgoeddaa.P
