/- Written by a program of this session: functions that the law reaches, as Lean functions, and that the code comes to their answers. Conditions: those that each theorem names. -/
import Derived.Test.YthnaalocgoeddaaPx0
import Derived.Test.YthnaalocgoeddaaPx1
import Derived.Test.YthnaalocgoeddaaPx3
import Derived.Test.YthnaalocgoeddaaPx5
import Derived.Test.YthnaalocgoeddaaPx7
import Derived.Test.YthnaalocgoeddaaHLat
namespace Go.Proofs.Ythnaalocgoeddaa.P
open Go.RowKit Go.Proofs.YthnaalocgoeddaaX Go.Proofs.YthnaalocgoeddaaW.PrintWords Go.Proofs.YthnaalocgoeddaaW.PrintLast Go.Proofs.YthnaalocgoeddaaW.PrintMore
attribute [local go_sem] max2_int min2_int max_two min_two max_three min_three max_four min_four   -- for this text's walks alone
set_option linter.unusedVariables false
set_option linter.unusedSimpArgs false

attribute [local go_sem high] eqA28
/-! ### steeplelaw17_LineSums: function 5 -/
mutual
def steeplelaw17_LineSums.j0 : Nat → Int → Bool → List (S28) → List (S28) → Int → Int → Int → Int → Option (Bool)
 | 0, _, _, _, _, _, _, _, _ => none
 | k + 1, x0, x55, x220000, x220001, x221000, x221001, x221002, x221003 => if x55 = true then ((steeplelaw17_awake.f k).bind fun t225 => (some t225)) else (steeplelaw17_LineSums.l0 k x0 ([] : List (S28)) 0 x220000 x220001 x221000 x221001 x221002 x221003)
def steeplelaw17_LineSums.l0 : Nat → Int → List (S28) → Int → List (S28) → List (S28) → Int → Int → Int → Int → Option (Bool)
 | 0, _, _, _, _, _, _, _, _, _ => none
 | k + 1, x0, x7, x8, x220000, x220001, x221000, x221001, x221002, x221003 => if x8 < (x220000.length : Int) then (if 0 ≤ x8 then (if x8 < (x220001.length : Int) then ((tower_Mul.f k x0 x221000 x221001 ((rd_T28 x220001 x8).f0) ((rd_T28 x220001 x8).f1)).bind fun bt228 => ((tower_Add.f ((rd_T28 x220000 x8).f0) ((rd_T28 x220000 x8).f1) bt228.1 bt228.2).bind fun bt230 => (if x7.length < 8796093022208 then (steeplelaw17_LineSums.l0 k x0 (x7 ++ [(⟨bt230.1, bt230.2⟩ : S28)]) (wrap64 (x8 + 1)) x220000 x220001 x221000 x221001 x221002 x221003) else (none)))) else (none)) else (none)) else ((line_At.f k x0 x220000 x221002 x221003).bind fun bt235 => ((line_At.f k x0 x220001 x221002 x221003).bind fun bt239 => ((line_At.f k x0 x7 x221002 x221003).bind fun bt243 => ((steeplelaw17_awake.f k).bind fun t247 => (if t247 = true then (if bt235.2.2 = 0 then (if bt239.2.2 = 0 then (if bt243.2.2 = 0 then ((tower_Mul.f k x0 x221000 x221001 bt239.1 bt239.2.1).bind fun bt248 => ((tower_Add.f bt235.1 bt235.2.1 bt248.1 bt248.2).bind fun bt250 => (some (bt243.1 == bt250.1 && (bt243.2.1 == bt250.2))))) else (none)) else (none)) else (none)) else (none))))))
end
def steeplelaw17_LineSums.f (k : Nat) (a0 : Int) (l1_0 : List (S28)) (l1_1 : List (S28)) (a2_0 : Int) (a2_1 : Int) (a2_2 : Int) (a2_3 : Int) : Option (Bool) := if (l1_0.length : Int) > 9 then (steeplelaw17_LineSums.j0 k a0 true l1_0 l1_1 a2_0 a2_1 a2_2 a2_3) else (if (l1_0.length : Int) = (l1_1.length : Int) then ((steeplelaw17_may.f k a0 l1_0).bind fun t221 => (if t221 = 0 then ((steeplelaw17_may.f k a0 l1_1).bind fun t222 => (if t222 = 0 then ((steepleref01_Of.f k a0 a2_0 a2_1).bind fun t223 => (if t223 = true then ((steepleref01_Of.f k a0 a2_2 a2_3).bind fun t224 => (steeplelaw17_LineSums.j0 k a0 (!t224) l1_0 l1_1 a2_0 a2_1 a2_2 a2_3)) else (steeplelaw17_LineSums.j0 k a0 true l1_0 l1_1 a2_0 a2_1 a2_2 a2_3))) else (steeplelaw17_LineSums.j0 k a0 true l1_0 l1_1 a2_0 a2_1 a2_2 a2_3))) else (steeplelaw17_LineSums.j0 k a0 true l1_0 l1_1 a2_0 a2_1 a2_2 a2_3))) else (steeplelaw17_LineSums.j0 k a0 true l1_0 l1_1 a2_0 a2_1 a2_2 a2_3))
theorem steeplelaw17_LineSums.mono_l : ∀ k, (∀ y0 y1 y2 y3 y4 y5 y6 y7, LeO (steeplelaw17_LineSums.j0 k y0 y1 y2 y3 y4 y5 y6 y7) (steeplelaw17_LineSums.j0 (k + 1) y0 y1 y2 y3 y4 y5 y6 y7)) ∧ (∀ y0 y1 y2 y3 y4 y5 y6 y7 y8, LeO (steeplelaw17_LineSums.l0 k y0 y1 y2 y3 y4 y5 y6 y7 y8) (steeplelaw17_LineSums.l0 (k + 1) y0 y1 y2 y3 y4 y5 y6 y7 y8))
 | 0 => ⟨fun _ _ _ _ _ _ _ _ r h => by simp [steeplelaw17_LineSums.j0] at h, fun _ _ _ _ _ _ _ _ _ r h => by simp [steeplelaw17_LineSums.l0] at h⟩
 | k + 1 => by
  obtain ⟨ih0, ih1⟩ := steeplelaw17_LineSums.mono_l k
  refine ⟨?_, ?_⟩
  ·intro y0 y1 y2 y3 y4 y5 y6 y7
   unfold steeplelaw17_LineSums.j0
   repeat' first
   | (with_reducible exact ih0 _ _ _ _ _ _ _ _)
   | (with_reducible exact ih1 _ _ _ _ _ _ _ _ _)
   | (with_reducible exact line_At.mono _ _ _ _ _)
   | (with_reducible exact steeplelaw17_awake.mono _)
   | (with_reducible exact steeplelaw17_may.mono _ _ _)
   | (with_reducible exact steepleref01_Of.mono _ _ _ _)
   | (with_reducible exact tower_Mul.mono _ _ _ _ _ _)
   | (with_reducible exact LeO.refl _)
   | (with_reducible exact LeO.none _)
   | (with_reducible refine LeO.ite ?_ ?_)
   | (with_reducible refine LeO.bind ?_ (fun _ => ?_))
   | exact ih0 _ _ _ _ _ _ _ _
   | exact ih1 _ _ _ _ _ _ _ _ _
   | exact line_At.mono _ _ _ _ _
   | exact steeplelaw17_awake.mono _
   | exact steeplelaw17_may.mono _ _ _
   | exact steepleref01_Of.mono _ _ _ _
   | exact tower_Mul.mono _ _ _ _ _ _
   | exact LeO.none _
   | refine LeO.ite ?_ ?_
   | refine LeO.bind ?_ (fun _ => ?_)
  ·intro y0 y1 y2 y3 y4 y5 y6 y7 y8
   unfold steeplelaw17_LineSums.l0
   repeat' first
   | (with_reducible exact ih0 _ _ _ _ _ _ _ _)
   | (with_reducible exact ih1 _ _ _ _ _ _ _ _ _)
   | (with_reducible exact line_At.mono _ _ _ _ _)
   | (with_reducible exact steeplelaw17_awake.mono _)
   | (with_reducible exact steeplelaw17_may.mono _ _ _)
   | (with_reducible exact steepleref01_Of.mono _ _ _ _)
   | (with_reducible exact tower_Mul.mono _ _ _ _ _ _)
   | (with_reducible exact LeO.refl _)
   | (with_reducible exact LeO.none _)
   | (with_reducible refine LeO.ite ?_ ?_)
   | (with_reducible refine LeO.bind ?_ (fun _ => ?_))
   | exact ih0 _ _ _ _ _ _ _ _
   | exact ih1 _ _ _ _ _ _ _ _ _
   | exact line_At.mono _ _ _ _ _
   | exact steeplelaw17_awake.mono _
   | exact steeplelaw17_may.mono _ _ _
   | exact steepleref01_Of.mono _ _ _ _
   | exact tower_Mul.mono _ _ _ _ _ _
   | exact LeO.none _
   | refine LeO.ite ?_ ?_
   | refine LeO.bind ?_ (fun _ => ?_)
theorem steeplelaw17_LineSums.mono : ∀ a0 a1 a2 a3 a4 a5 a6 k, LeO (steeplelaw17_LineSums.f k a0 a1 a2 a3 a4 a5 a6) (steeplelaw17_LineSums.f (k + 1) a0 a1 a2 a3 a4 a5 a6) := by
 intro a0 a1 a2 a3 a4 a5 a6 k
 obtain ⟨ih0, ih1⟩ := steeplelaw17_LineSums.mono_l k
 unfold steeplelaw17_LineSums.f
 repeat' first
   | (with_reducible exact ih0 _ _ _ _ _ _ _ _)
   | (with_reducible exact ih1 _ _ _ _ _ _ _ _ _)
   | (with_reducible exact line_At.mono _ _ _ _ _)
   | (with_reducible exact steeplelaw17_awake.mono _)
   | (with_reducible exact steeplelaw17_may.mono _ _ _)
   | (with_reducible exact steepleref01_Of.mono _ _ _ _)
   | (with_reducible exact tower_Mul.mono _ _ _ _ _ _)
   | (with_reducible exact LeO.refl _)
   | (with_reducible exact LeO.none _)
   | (with_reducible refine LeO.ite ?_ ?_)
   | (with_reducible refine LeO.bind ?_ (fun _ => ?_))
   | exact ih0 _ _ _ _ _ _ _ _
   | exact ih1 _ _ _ _ _ _ _ _ _
   | exact line_At.mono _ _ _ _ _
   | exact steeplelaw17_awake.mono _
   | exact steeplelaw17_may.mono _ _ _
   | exact steepleref01_Of.mono _ _ _ _
   | exact tower_Mul.mono _ _ _ _ _ _
   | exact LeO.none _
   | refine LeO.ite ?_ ?_
   | refine LeO.bind ?_ (fun _ => ?_)
def steeplelaw17_LineSums.T7 : Bool × List (List Nat × List Nat) := (true, [([], []), ([], []), ([1], [1]), ([], []), ([2, 3], [2, 3]), ([4], [4]), ([], []), ([], []), ([7], [7]), ([], []), ([9], [9]), ([], []), ([10, 11], [10, 11]), ([12], [12]), ([6, 8, 13], [6, 8, 13]), ([5, 14, 14], [5, 14]), ([15], [15]), ([0, 16, 15], [0, 16]), ([17, 17, 0, 1, 2, 3, 4, 5, 6, 7, 8, 9, 10, 11, 12, 13, 14, 15, 16, 17], [0, 17])])
def steeplelaw17_LineSums.B7 : List Nat := [0, 0, 2, 0, 14, 30, 0, 0, 128, 0, 512, 0, 3584, 7680, 16320, 32766, 65534, 131071, 262143]
theorem steeplelaw17_LineSums.tab7 : rtab .any (opsOf Try.f5 7) = steeplelaw17_LineSums.T7 := by kernel_rfl
theorem steeplelaw17_LineSums.bits7 : waitsOk steeplelaw17_LineSums.T7.2 steeplelaw17_LineSums.B7 = true := by kernel_rfl
def steeplelaw17_LineSums.T11 : Bool × List (List Nat × List Nat) := (true, [([], []), ([0, 0], [0]), ([1], [1]), ([2, 1], [1, 2]), ([1, 3], [1, 3]), ([4, 1], [4]), ([5], [5]), ([6, 5], [5, 6]), ([5, 7], [5, 7]), ([8, 5], [8]), ([9], [9]), ([10, 9], [9, 10]), ([9, 11], [9, 11]), ([12, 9], [12]), ([13], [13]), ([13], [13]), ([13], [13]), ([13], [13]), ([17, 13], [13, 17]), ([13], [13]), ([16, 18, 19, 13, 13], [13, 16, 18, 19]), ([15, 20, 20, 13], [13, 15, 20]), ([14, 21, 13], [13, 14, 21]), ([13, 22], [13, 22]), ([23, 21, 0, 1, 2, 3, 4, 5, 6, 7, 8, 9, 10, 11, 12, 13, 14, 15, 16, 17, 18, 19, 20, 21, 22, 23], [23])])
def steeplelaw17_LineSums.B11 : List Nat := [0, 1, 3, 7, 15, 31, 63, 127, 255, 511, 1023, 2047, 4095, 8191, 16383, 16383, 16383, 16383, 147455, 16383, 999423, 2080767, 4194303, 8388607, 16777215]
theorem steeplelaw17_LineSums.tab11 : rtab .any (opsOf Try.f5 11) = steeplelaw17_LineSums.T11 := by kernel_rfl
theorem steeplelaw17_LineSums.bits11 : waitsOk steeplelaw17_LineSums.T11.2 steeplelaw17_LineSums.B11 = true := by kernel_rfl
set_option maxHeartbeats 8000000 in
set_option maxRecDepth 100000 in
theorem steeplelaw17_LineSums.calls (k : Nat) (a0 : Int) (A1_0 : Option Addr) (c1_0 : Nat) (l1_0 : List (S28)) (A1_1 : Option Addr) (c1_1 : Nat) (l1_1 : List (S28)) (a2_0 : Int) (a2_1 : Int) (a2_2 : Int) (a2_3 : Int) (r : Bool) (w : World) (hr1_0 : Kd.C k28 w A1_0 l1_0.length l1_0) (hc1_0 : l1_0.length ≤ c1_0) (hr1_1 : Kd.C k28 w A1_1 l1_1.length l1_1) (hc1_1 : l1_1.length ≤ c1_1) (h : steeplelaw17_LineSums.f k a0 l1_0 l1_1 a2_0 a2_1 a2_2 a2_3 = some r) :
  Calls Try.prog 5 #[.int .i64 a0, .agg #[.slice A1_0 l1_0.length c1_0, .slice A1_1 l1_1.length c1_1], .agg #[.int .u64 a2_0, .int .u64 a2_1, .int .u64 a2_2, .int .u64 a2_3]] w fun e w' => e = .returned (.bool r) ∧ Below w.heap.size w w' := by
 have hu34 := Try.underlying34
 have hu35 := Try.underlying35
 have hu28 := Try.underlying28
 have HR1_0 := Aside0.mk hr1_0
 have HC1_0 := Aside0.mk hc1_0
 clear hr1_0 hc1_0
 have HR1_1 := Aside0.mk hr1_1
 have HC1_1 := Aside0.mk hc1_1
 clear hr1_1 hc1_1
 have HB := Aside0.mk (Below.refl w.heap.size w)
 have H : (if (l1_0.length : Int) > 9 then (steeplelaw17_LineSums.j0 k a0 true l1_0 l1_1 a2_0 a2_1 a2_2 a2_3) else (if (l1_0.length : Int) = (l1_1.length : Int) then ((steeplelaw17_may.f k a0 l1_0).bind fun t221 => (if t221 = 0 then ((steeplelaw17_may.f k a0 l1_1).bind fun t222 => (if t222 = 0 then ((steepleref01_Of.f k a0 a2_0 a2_1).bind fun t223 => (if t223 = true then ((steepleref01_Of.f k a0 a2_2 a2_3).bind fun t224 => (steeplelaw17_LineSums.j0 k a0 (!t224) l1_0 l1_1 a2_0 a2_1 a2_2 a2_3)) else (steeplelaw17_LineSums.j0 k a0 true l1_0 l1_1 a2_0 a2_1 a2_2 a2_3))) else (steeplelaw17_LineSums.j0 k a0 true l1_0 l1_1 a2_0 a2_1 a2_2 a2_3))) else (steeplelaw17_LineSums.j0 k a0 true l1_0 l1_1 a2_0 a2_1 a2_2 a2_3))) else (steeplelaw17_LineSums.j0 k a0 true l1_0 l1_1 a2_0 a2_1 a2_2 a2_3))) = some r := h
 clear h
 have HC4 := Aside0.mk H
 clear H
 go_enter Try.func5, Try.ntmps5
 go_upto_region 1 with (first | ((with_reducible refine gate_dst (N := 4) rfl ?_); (try (refine gate_guard (by rfl) ?_; dsimp only)); refine box_event ?hg (N := 4) ?hd (cs := #[.slice A1_0 l1_0.length c1_0, .slice A1_1 l1_1.length c1_1]) (t := 34) ?hr ?_; (case hd => rfl); (case hg => rfl); (case hr => first | (go_simp; done) | (go_simp; rfl)); intro gb219 hg w5 hbox hb; have BK219 := Aside0.mk hbox; have GW219 := ge hg HB; have GE219 := ge hg HB; replace HB := bh HB hb; clear hb hbox hg) | ((with_reducible refine gate_dst (N := 5) rfl ?_); (try (refine gate_guard (by rfl) ?_; dsimp only)); refine box_event ?hg (N := 5) ?hd (cs := #[.int .u64 a2_0, .int .u64 a2_1, .int .u64 a2_2, .int .u64 a2_3]) (t := 35) ?hr ?_; (case hd => rfl); (case hg => rfl); (case hr => first | (go_simp; done) | (go_simp; rfl)); intro gb220 hg w6 hbox hb; have BK220 := Aside0.mk hbox; have GW220 := ge hg HB; have GE220 := ge hg HB; have NB219_220 := nl hg BK219; have NB220_219 := ng hg BK219; replace BK219 := bb BK219 hb; replace HB := bh HB hb; clear hb hbox hg))
 (try simp only [Act.put, List.setIfInBounds_toArray, List.set_cons_zero, List.set_cons_succ])
 go_cut [55] (fun v55 wc => ∃ (kq : Nat) (x55_3 : Bool), v55 = .bool x55_3 ∧ Aside0 (steeplelaw17_LineSums.j0 kq a0 x55_3 l1_0 l1_1 a2_0 a2_1 a2_2 a2_3 = some r) ∧ Aside0 (kq ≤ k) ∧ Aside0 (wc.heap[gb219]? = some (.cells #[(.slice A1_0 l1_0.length c1_0), (.slice A1_1 l1_1.length c1_1)] 34 (0, 0))) ∧ Aside0 (wc.heap[gb220]? = some (.cells #[.int .u64 a2_0, .int .u64 a2_1, .int .u64 a2_2, .int .u64 a2_3] 35 (0, 0))) ∧ Aside0 (Below w.heap.size w wc))
 case first =>
  have H := HC4.out
  clear HC4
  by_cases c7 : (l1_0.length : Int) > 9
  ·rw [if_pos c7] at H
   have c7b0 : decide (9 < (l1_0.length : Int)) = true := decide_eq_true c7
   have c7b1 : decide (9 < l1_0.length) = true := decide_eq_true (by omega)
   clear c7
   (first | rw [c7b0] | (simp only [i64_w, i32_w]; rw [c7b0]) | skip)
   have H' := Aside0.mk H
   clear H
   obtain ⟨hcz9_0, hcz9_1⟩ := zc2 BK219
   obtain ⟨hfz9_0, hfz9_1⟩ := zf2 BK219
   go_wp2
   go_meet
   case rel => exact ⟨_, (true), (by first | rfl | (simp; done) | (simp [*]; done)), H', ⟨by first | omega | exact Nat.le_refl _⟩, ⟨bk BK219.out⟩, ⟨bk BK220.out⟩, ⟨bq HB.out⟩⟩
  ·rw [if_neg c7] at H
   have c7b0 : decide (9 < (l1_0.length : Int)) = false := decide_eq_false c7
   have c7b1 : decide (9 < l1_0.length) = false := decide_eq_false (by omega)
   clear c7
   (first | rw [c7b0] | (simp only [i64_w, i32_w]; rw [c7b0]) | skip)
   by_cases c10 : (l1_0.length : Int) = (l1_1.length : Int)
   ·rw [if_pos c10] at H
    have c10b0 : ((l1_0.length : Int) == (l1_1.length : Int)) = true := beq_iff_eq.mpr c10
    have c10b1 : ((l1_0.length : Int) != (l1_1.length : Int)) = false := bne_eq_false_iff_eq.mpr c10
    have c10b2 : (l1_0.length == l1_1.length) = true := by first | simpa using c10 | (simp at c10 ⊢; omega)
    clear c10
    replace H := Option.bind_eq_some_iff.mp H
    obtain ⟨t221, A110, H⟩ := H
    replace H : (if t221 = 0 then ((steeplelaw17_may.f k a0 l1_1).bind fun t222 => (if t222 = 0 then ((steepleref01_Of.f k a0 a2_0 a2_1).bind fun t223 => (if t223 = true then ((steepleref01_Of.f k a0 a2_2 a2_3).bind fun t224 => (steeplelaw17_LineSums.j0 k a0 (!t224) l1_0 l1_1 a2_0 a2_1 a2_2 a2_3)) else (steeplelaw17_LineSums.j0 k a0 true l1_0 l1_1 a2_0 a2_1 a2_2 a2_3))) else (steeplelaw17_LineSums.j0 k a0 true l1_0 l1_1 a2_0 a2_1 a2_2 a2_3))) else (steeplelaw17_LineSums.j0 k a0 true l1_0 l1_1 a2_0 a2_1 a2_2 a2_3)) = some r := H
    have A11 := Aside0.mk A110
    clear A110
    by_cases c12 : t221 = 0
    ·rw [if_pos c12] at H
     have c12b0 : (t221 == 0) = true := beq_iff_eq.mpr c12
     have c12b1 : (t221 != 0) = false := bne_eq_false_iff_eq.mpr c12
     clear c12
     replace H := Option.bind_eq_some_iff.mp H
     obtain ⟨t222, A130, H⟩ := H
     replace H : (if t222 = 0 then ((steepleref01_Of.f k a0 a2_0 a2_1).bind fun t223 => (if t223 = true then ((steepleref01_Of.f k a0 a2_2 a2_3).bind fun t224 => (steeplelaw17_LineSums.j0 k a0 (!t224) l1_0 l1_1 a2_0 a2_1 a2_2 a2_3)) else (steeplelaw17_LineSums.j0 k a0 true l1_0 l1_1 a2_0 a2_1 a2_2 a2_3))) else (steeplelaw17_LineSums.j0 k a0 true l1_0 l1_1 a2_0 a2_1 a2_2 a2_3)) = some r := H
     have A13 := Aside0.mk A130
     clear A130
     by_cases c14 : t222 = 0
     ·rw [if_pos c14] at H
      have c14b0 : (t222 == 0) = true := beq_iff_eq.mpr c14
      have c14b1 : (t222 != 0) = false := bne_eq_false_iff_eq.mpr c14
      clear c14
      replace H := Option.bind_eq_some_iff.mp H
      obtain ⟨t223, A150, H⟩ := H
      replace H : (if t223 = true then ((steepleref01_Of.f k a0 a2_2 a2_3).bind fun t224 => (steeplelaw17_LineSums.j0 k a0 (!t224) l1_0 l1_1 a2_0 a2_1 a2_2 a2_3)) else (steeplelaw17_LineSums.j0 k a0 true l1_0 l1_1 a2_0 a2_1 a2_2 a2_3)) = some r := H
      have A15 := Aside0.mk A150
      clear A150
      by_cases c16 : t223 = true
      ·subst c16
       have H1 : ((steepleref01_Of.f k a0 a2_2 a2_3).bind fun t224 => (steeplelaw17_LineSums.j0 k a0 (!t224) l1_0 l1_1 a2_0 a2_1 a2_2 a2_3)) = some r := by rw [if_pos rfl] at H; exact H
       clear H
       have H := H1
       clear H1
       replace H := Option.bind_eq_some_iff.mp H
       obtain ⟨t224, A170, H⟩ := H
       replace H : (steeplelaw17_LineSums.j0 k a0 (!t224) l1_0 l1_1 a2_0 a2_1 a2_2 a2_3) = some r := H
       have A17 := Aside0.mk A170
       clear A170
       have H' := Aside0.mk H
       clear H
       have hnb18 := NB219_220.out
       have hnc18 := NB220_219.out
       obtain ⟨hcz19_0, hcz19_1⟩ := zc2 BK219
       obtain ⟨hfz19_0, hfz19_1⟩ := zf2 BK219
       go_wp2_with (first | (go_at_call 8; (with_reducible refine (steeplelaw17_may.calls k a0 _ _ l1_0 t221 _ ?side1 ?side2 A11.out).mono ?_); (case side1 => repeat (first | exact (Kd.C_below HR1_0.out HB.out) | (with_reducible refine Kd.C_alloc ?_ _) | (with_reducible refine Kd.C_drewN ?_ _) | (with_reducible refine Kd.C_drew ?_))); (case side2 => exact HC1_0.out); rintro e w20 ⟨rfl, hb⟩; replace BK219 := bb BK219 hb; replace BK220 := bb BK220 hb; replace HB := bh HB hb; (try clear hb); (try clear hb2); (try clear hk); (try clear hi); obtain ⟨hcz21_0, hcz21_1⟩ := zc2 BK219; obtain ⟨hfz21_0, hfz21_1⟩ := zf2 BK219) | (go_at_call 8; (with_reducible refine (steeplelaw17_may.calls k a0 _ _ l1_1 t222 _ ?side1 ?side2 A13.out).mono ?_); (case side1 => repeat (first | exact (Kd.C_below HR1_1.out HB.out) | (with_reducible refine Kd.C_alloc ?_ _) | (with_reducible refine Kd.C_drewN ?_ _) | (with_reducible refine Kd.C_drew ?_))); (case side2 => exact HC1_1.out); rintro e w22 ⟨rfl, hb⟩; replace BK219 := bb BK219 hb; replace BK220 := bb BK220 hb; replace HB := bh HB hb; (try clear hb); (try clear hb2); (try clear hk); (try clear hi); obtain ⟨hcz23_0, hcz23_1, hcz23_2, hcz23_3⟩ := zc4 BK220; obtain ⟨hfz23_0, hfz23_1, hfz23_2, hfz23_3⟩ := zf4 BK220) | (go_at_call 11; (with_reducible refine (steepleref01_Of.calls k a0 a2_0 a2_1 true _ A15.out).mono ?_); rintro e w24 ⟨rfl, hb⟩; replace BK219 := bb BK219 hb; replace BK220 := bb BK220 hb; replace HB := bh HB hb; (try clear hb); (try clear hb2); (try clear hk); (try clear hi); obtain ⟨hcz25_0, hcz25_1, hcz25_2, hcz25_3⟩ := zc4 BK220; obtain ⟨hfz25_0, hfz25_1, hfz25_2, hfz25_3⟩ := zf4 BK220) | (go_at_call 11; (with_reducible refine (steepleref01_Of.calls k a0 a2_2 a2_3 t224 _ A17.out).mono ?_); rintro e w26 ⟨rfl, hb⟩; replace BK219 := bb BK219 hb; replace BK220 := bb BK220 hb; replace HB := bh HB hb; (try clear hb); (try clear hb2); (try clear hk); (try clear hi)))
       go_meet
       case rel => exact ⟨_, (!t224), (by first | rfl | (simp; done) | (simp [*]; done)), H', ⟨by first | omega | exact Nat.le_refl _⟩, ⟨bk BK219.out⟩, ⟨bk BK220.out⟩, ⟨bq HB.out⟩⟩
      ·replace c16 := Bool.eq_false_iff.mpr c16
       subst c16
       have H1 : (steeplelaw17_LineSums.j0 k a0 true l1_0 l1_1 a2_0 a2_1 a2_2 a2_3) = some r := by rw [if_neg (show ¬ (false = true) by decide)] at H; exact H
       clear H
       have H := H1
       clear H1
       have H' := Aside0.mk H
       clear H
       have hnb27 := NB219_220.out
       have hnc27 := NB220_219.out
       obtain ⟨hcz28_0, hcz28_1⟩ := zc2 BK219
       obtain ⟨hfz28_0, hfz28_1⟩ := zf2 BK219
       go_wp2_with (first | (go_at_call 8; (with_reducible refine (steeplelaw17_may.calls k a0 _ _ l1_0 t221 _ ?side1 ?side2 A11.out).mono ?_); (case side1 => repeat (first | exact (Kd.C_below HR1_0.out HB.out) | (with_reducible refine Kd.C_alloc ?_ _) | (with_reducible refine Kd.C_drewN ?_ _) | (with_reducible refine Kd.C_drew ?_))); (case side2 => exact HC1_0.out); rintro e w29 ⟨rfl, hb⟩; replace BK219 := bb BK219 hb; replace BK220 := bb BK220 hb; replace HB := bh HB hb; (try clear hb); (try clear hb2); (try clear hk); (try clear hi); obtain ⟨hcz30_0, hcz30_1⟩ := zc2 BK219; obtain ⟨hfz30_0, hfz30_1⟩ := zf2 BK219) | (go_at_call 8; (with_reducible refine (steeplelaw17_may.calls k a0 _ _ l1_1 t222 _ ?side1 ?side2 A13.out).mono ?_); (case side1 => repeat (first | exact (Kd.C_below HR1_1.out HB.out) | (with_reducible refine Kd.C_alloc ?_ _) | (with_reducible refine Kd.C_drewN ?_ _) | (with_reducible refine Kd.C_drew ?_))); (case side2 => exact HC1_1.out); rintro e w31 ⟨rfl, hb⟩; replace BK219 := bb BK219 hb; replace BK220 := bb BK220 hb; replace HB := bh HB hb; (try clear hb); (try clear hb2); (try clear hk); (try clear hi); obtain ⟨hcz32_0, hcz32_1, hcz32_2, hcz32_3⟩ := zc4 BK220; obtain ⟨hfz32_0, hfz32_1, hfz32_2, hfz32_3⟩ := zf4 BK220) | (go_at_call 11; (with_reducible refine (steepleref01_Of.calls k a0 a2_0 a2_1 false _ A15.out).mono ?_); rintro e w33 ⟨rfl, hb⟩; replace BK219 := bb BK219 hb; replace BK220 := bb BK220 hb; replace HB := bh HB hb; (try clear hb); (try clear hb2); (try clear hk); (try clear hi)))
       go_meet
       case rel => exact ⟨_, (true), (by first | rfl | (simp; done) | (simp [*]; done)), H', ⟨by first | omega | exact Nat.le_refl _⟩, ⟨bk BK219.out⟩, ⟨bk BK220.out⟩, ⟨bq HB.out⟩⟩
     ·rw [if_neg c14] at H
      have c14b0 : (t222 == 0) = false := beq_eq_false_iff_ne.mpr c14
      have c14b1 : (t222 != 0) = true := bne_iff_ne.mpr c14
      have H' := Aside0.mk H
      clear H
      obtain ⟨hcz35_0, hcz35_1⟩ := zc2 BK219
      obtain ⟨hfz35_0, hfz35_1⟩ := zf2 BK219
      go_wp2_with (first | (go_at_call 8; (with_reducible refine (steeplelaw17_may.calls k a0 _ _ l1_0 t221 _ ?side1 ?side2 A11.out).mono ?_); (case side1 => repeat (first | exact (Kd.C_below HR1_0.out HB.out) | (with_reducible refine Kd.C_alloc ?_ _) | (with_reducible refine Kd.C_drewN ?_ _) | (with_reducible refine Kd.C_drew ?_))); (case side2 => exact HC1_0.out); rintro e w36 ⟨rfl, hb⟩; replace BK219 := bb BK219 hb; replace BK220 := bb BK220 hb; replace HB := bh HB hb; (try clear hb); (try clear hb2); (try clear hk); (try clear hi); obtain ⟨hcz37_0, hcz37_1⟩ := zc2 BK219; obtain ⟨hfz37_0, hfz37_1⟩ := zf2 BK219) | (go_at_call 8; (with_reducible refine (steeplelaw17_may.calls k a0 _ _ l1_1 t222 _ ?side1 ?side2 A13.out).mono ?_); (case side1 => repeat (first | exact (Kd.C_below HR1_1.out HB.out) | (with_reducible refine Kd.C_alloc ?_ _) | (with_reducible refine Kd.C_drewN ?_ _) | (with_reducible refine Kd.C_drew ?_))); (case side2 => exact HC1_1.out); rintro e w38 ⟨rfl, hb⟩; replace BK219 := bb BK219 hb; replace BK220 := bb BK220 hb; replace HB := bh HB hb; (try clear hb); (try clear hb2); (try clear hk); (try clear hi)))
      go_meet
      case rel => exact ⟨_, (true), (by first | rfl | (simp; done) | (simp [*]; done)), H', ⟨by first | omega | exact Nat.le_refl _⟩, ⟨bk BK219.out⟩, ⟨bk BK220.out⟩, ⟨bq HB.out⟩⟩
    ·rw [if_neg c12] at H
     have c12b0 : (t221 == 0) = false := beq_eq_false_iff_ne.mpr c12
     have c12b1 : (t221 != 0) = true := bne_iff_ne.mpr c12
     have H' := Aside0.mk H
     clear H
     obtain ⟨hcz40_0, hcz40_1⟩ := zc2 BK219
     obtain ⟨hfz40_0, hfz40_1⟩ := zf2 BK219
     go_wp2_with (first | (go_at_call 8; (with_reducible refine (steeplelaw17_may.calls k a0 _ _ l1_0 t221 _ ?side1 ?side2 A11.out).mono ?_); (case side1 => repeat (first | exact (Kd.C_below HR1_0.out HB.out) | (with_reducible refine Kd.C_alloc ?_ _) | (with_reducible refine Kd.C_drewN ?_ _) | (with_reducible refine Kd.C_drew ?_))); (case side2 => exact HC1_0.out); rintro e w41 ⟨rfl, hb⟩; replace BK219 := bb BK219 hb; replace BK220 := bb BK220 hb; replace HB := bh HB hb; (try clear hb); (try clear hb2); (try clear hk); (try clear hi)))
     go_meet
     case rel => exact ⟨_, (true), (by first | rfl | (simp; done) | (simp [*]; done)), H', ⟨by first | omega | exact Nat.le_refl _⟩, ⟨bk BK219.out⟩, ⟨bk BK220.out⟩, ⟨bq HB.out⟩⟩
   ·rw [if_neg c10] at H
    have c10b0 : ((l1_0.length : Int) == (l1_1.length : Int)) = false := beq_eq_false_iff_ne.mpr c10
    have c10b1 : ((l1_0.length : Int) != (l1_1.length : Int)) = true := bne_iff_ne.mpr c10
    have c10b2 : (l1_0.length == l1_1.length) = false := by first | simpa using c10 | (simp at c10 ⊢; omega)
    have H' := Aside0.mk H
    clear H
    obtain ⟨hcz43_0, hcz43_1⟩ := zc2 BK219
    obtain ⟨hfz43_0, hfz43_1⟩ := zf2 BK219
    go_wp2
    go_meet
    case rel => exact ⟨_, (true), (by first | rfl | (simp; done) | (simp [*]; done)), H', ⟨by first | omega | exact Nat.le_refl _⟩, ⟨bk BK219.out⟩, ⟨bk BK220.out⟩, ⟨bq HB.out⟩⟩
 case rest =>
  clear HC4
  try clear c1
  try clear c2
  try clear p2
  try clear c3
  try clear c4
  try clear c5
  try clear c7
  try clear c7b0
  try clear c7b1
  try clear c8
  try clear c10
  try clear c10b0
  try clear c10b1
  try clear c10b2
  try clear c12
  try clear c12b0
  try clear c12b1
  try clear c14
  try clear c14b0
  try clear c14b1
  try clear c16
  try clear c18
  try clear c27
  try clear c34
  try clear c39
  try clear c42
  try clear hcz19_0
  try clear hcz19_1
  try clear hcz21_0
  try clear hcz21_1
  try clear hcz23_0
  try clear hcz23_1
  try clear hcz23_2
  try clear hcz23_3
  try clear hcz25_0
  try clear hcz25_1
  try clear hcz25_2
  try clear hcz25_3
  try clear hcz28_0
  try clear hcz28_1
  try clear hcz30_0
  try clear hcz30_1
  try clear hcz32_0
  try clear hcz32_1
  try clear hcz32_2
  try clear hcz32_3
  try clear hcz35_0
  try clear hcz35_1
  try clear hcz37_0
  try clear hcz37_1
  try clear hcz40_0
  try clear hcz40_1
  try clear hcz43_0
  try clear hcz43_1
  try clear hcz9_0
  try clear hcz9_1
  try clear hfz19_0
  try clear hfz19_1
  try clear hfz21_0
  try clear hfz21_1
  try clear hfz23_0
  try clear hfz23_1
  try clear hfz23_2
  try clear hfz23_3
  try clear hfz25_0
  try clear hfz25_1
  try clear hfz25_2
  try clear hfz25_3
  try clear hfz28_0
  try clear hfz28_1
  try clear hfz30_0
  try clear hfz30_1
  try clear hfz32_0
  try clear hfz32_1
  try clear hfz32_2
  try clear hfz32_3
  try clear hfz35_0
  try clear hfz35_1
  try clear hfz37_0
  try clear hfz37_1
  try clear hfz40_0
  try clear hfz40_1
  try clear hfz43_0
  try clear hfz43_1
  try clear hfz9_0
  try clear hfz9_1
  obtain ⟨kq, x55_3, rfl, HA, HJ3, BK219, BK220, HB⟩ := hcut
  cases kq with
  | zero => exact absurd HA.out (by simp [steeplelaw17_LineSums.j0])
  | succ kj3 =>
   have H := HA.out
   clear HA
   simp only [steeplelaw17_LineSums.j0] at H
   by_cases c44 : x55_3 = true
   ·subst c44
    have H1 : ((steeplelaw17_awake.f kj3).bind fun t225 => (some t225)) = some r := by rw [if_pos rfl] at H; exact H
    clear H
    have H := H1
    clear H1
    replace H := Option.bind_eq_some_iff.mp H
    obtain ⟨t225, A450, H⟩ := H
    replace H : (some t225) = some r := H
    have A45 := Aside0.mk A450
    clear A450
    obtain rfl := Option.some.inj H
    go_wp2_with (first | ((with_reducible refine gate_callee (f := 9) rfl ?_); refine goesL_ (some 56) rfl rfl Try.func9 (by kernel_rfl) rfl #[] rfl (by (try simp only [List.map_toArray, List.map_cons, List.map_nil]); first | done | rfl | (simp only [List.length_drop, List.length_take]; rfl)) ?_; (with_reducible refine (steeplelaw17_awake.calls kj3  t225 _ A45.out).mono ?_); rintro e w46 ⟨rfl, hb⟩; refine ⟨_, rfl, ?_⟩; replace BK219 := bb BK219 hb; replace BK220 := bb BK220 hb; replace HB := bh HB hb; (try clear hb); (try clear hb2); (try clear hk); (try clear hi)))
    go_ret
    exact ⟨by first | rfl | (simp [errW_none, errW_some] <;> rfl) | (simp [*, errW_none, errW_some] <;> rfl), bq HB.out⟩
   ·replace c44 := Bool.eq_false_iff.mpr c44
    subst c44
    have H1 : (steeplelaw17_LineSums.l0 kj3 a0 ([] : List (S28)) 0 l1_0 l1_1 a2_0 a2_1 a2_2 a2_3) = some r := by rw [if_neg (show ¬ (false = true) by decide)] at H; exact H
    clear H
    have H := H1
    clear H1
    have H' := Aside0.mk H
    clear H
    go_wp2
    go_loopg [7, 8] kj3 (fun kq v7 v8 w' => ∃ (x7_2 : List (S28)) (x8_2 : Int), v8 = .int .i64 x8_2 ∧ Aside0 (steeplelaw17_LineSums.l0 kq a0 x7_2 x8_2 l1_0 l1_1 a2_0 a2_1 a2_2 a2_3 = some r) ∧ Aside0 (kq ≤ kj3) ∧ Aside0 (Kd.R k28 28 w' w.heap.size (fun _ => True) v7 x7_2) ∧ Aside0 (w'.heap[gb219]? = some (.cells #[(.slice A1_0 l1_0.length c1_0), (.slice A1_1 l1_1.length c1_1)] 34 (0, 0))) ∧ Aside0 (w'.heap[gb220]? = some (.cells #[.int .u64 a2_0, .int .u64 a2_1, .int .u64 a2_2, .int .u64 a2_3] 35 (0, 0))) ∧ Aside0 (Below w.heap.size w w'))
    case atStart => exact ⟨(([] : List (S28))), (0), (by first | rfl | (simp; done) | (simp [*]; done)), H', ⟨Nat.le_refl _⟩, ⟨by first | exact Kd.R_nil _ _ _ _ _ | exact Kd.N_nil _ _ _ _ _ | exact Kd.V_nil _ _ _ _ _ | exact Kd.Q_nil _ _ _ _ _ | exact Kd.S_nil _ _ _ _ _⟩, ⟨bk BK219.out⟩, ⟨bk BK220.out⟩, ⟨bq HB.out⟩⟩
    case round =>
     clear H'
     try clear c1
     try clear c2
     try clear p2
     try clear c3
     try clear c4
     try clear c5
     try clear c7
     try clear c7b0
     try clear c7b1
     try clear c8
     try clear c9
     try clear c10
     try clear c10b0
     try clear c10b1
     try clear c10b2
     try clear c12
     try clear c12b0
     try clear c12b1
     try clear c14
     try clear c14b0
     try clear c14b1
     try clear c16
     try clear c18
     try clear c27
     try clear c34
     try clear c39
     try clear c42
     try clear c44
     try clear hcz19_0
     try clear hcz19_1
     try clear hcz21_0
     try clear hcz21_1
     try clear hcz23_0
     try clear hcz23_1
     try clear hcz23_2
     try clear hcz23_3
     try clear hcz25_0
     try clear hcz25_1
     try clear hcz25_2
     try clear hcz25_3
     try clear hcz28_0
     try clear hcz28_1
     try clear hcz30_0
     try clear hcz30_1
     try clear hcz32_0
     try clear hcz32_1
     try clear hcz32_2
     try clear hcz32_3
     try clear hcz35_0
     try clear hcz35_1
     try clear hcz37_0
     try clear hcz37_1
     try clear hcz40_0
     try clear hcz40_1
     try clear hcz43_0
     try clear hcz43_1
     try clear hcz9_0
     try clear hcz9_1
     try clear hfz19_0
     try clear hfz19_1
     try clear hfz21_0
     try clear hfz21_1
     try clear hfz23_0
     try clear hfz23_1
     try clear hfz23_2
     try clear hfz23_3
     try clear hfz25_0
     try clear hfz25_1
     try clear hfz25_2
     try clear hfz25_3
     try clear hfz28_0
     try clear hfz28_1
     try clear hfz30_0
     try clear hfz30_1
     try clear hfz32_0
     try clear hfz32_1
     try clear hfz32_2
     try clear hfz32_3
     try clear hfz35_0
     try clear hfz35_1
     try clear hfz37_0
     try clear hfz37_1
     try clear hfz40_0
     try clear hfz40_1
     try clear hfz43_0
     try clear hfz43_1
     try clear hfz9_0
     try clear hfz9_1
     try clear p2
     obtain ⟨x7_2, x8_2, rfl, HA, HK2, HO_7, BK219, BK220, HB⟩ := hrel
     cases gk with
     | zero => exact absurd HA.out (by simp [steeplelaw17_LineSums.l0])
     | succ k2 =>
      have H := HA.out
      clear HA
      simp only [steeplelaw17_LineSums.l0] at H
      by_cases c47 : x8_2 < (l1_0.length : Int)
      ·rw [if_pos c47] at H
       have c47b0 : decide (x8_2 < (l1_0.length : Int)) = true := decide_eq_true c47
       clear c47
       by_cases c48 : 0 ≤ x8_2
       ·rw [if_pos c48] at H
        have c48b0 : decide (0 ≤ x8_2) = true := decide_eq_true c48
        clear c48
        by_cases c49 : x8_2 < (l1_1.length : Int)
        ·rw [if_pos c49] at H
         have c49b0 : decide (x8_2 < (l1_1.length : Int)) = true := decide_eq_true c49
         clear c49
         replace H := Option.bind_eq_some_iff.mp H
         obtain ⟨⟨t228, t229⟩, A500, H⟩ := H
         replace H : ((tower_Add.f ((rd_T28 l1_0 x8_2).f0) ((rd_T28 l1_0 x8_2).f1) t228 t229).bind fun bt230 => (if x7_2.length < 8796093022208 then (steeplelaw17_LineSums.l0 k2 a0 (x7_2 ++ [(⟨bt230.1, bt230.2⟩ : S28)]) (wrap64 (x8_2 + 1)) l1_0 l1_1 a2_0 a2_1 a2_2 a2_3) else (none))) = some r := H
         have A50 := Aside0.mk A500
         clear A500
         replace H := Option.bind_eq_some_iff.mp H
         obtain ⟨⟨t230, t231⟩, A510, H⟩ := H
         replace H : (if x7_2.length < 8796093022208 then (steeplelaw17_LineSums.l0 k2 a0 (x7_2 ++ [(⟨t230, t231⟩ : S28)]) (wrap64 (x8_2 + 1)) l1_0 l1_1 a2_0 a2_1 a2_2 a2_3) else (none)) = some r := H
         have A51 := Aside0.mk A510
         clear A510
         by_cases c52 : x7_2.length < 8796093022208
         ·rw [if_pos c52] at H
          have LMc52 := Aside0.mk c52
          clear c52
          obtain ⟨y232, hy232⟩ : ∃ y_ : List (S28), y_ = (x7_2 ++ [(⟨t230, t231⟩ : S28)]) := ⟨_, rfl⟩
          replace H : (steeplelaw17_LineSums.l0 k2 a0 y232 (wrap64 (x8_2 + 1)) l1_0 l1_1 a2_0 a2_1 a2_2 a2_3) = some r := by first | (rw [hy232]; with_reducible exact H) | (have H2_ := (Option.bind_some _ _).symm.trans H; rw [hy232]; with_reducible exact H2_) | (have H2_ := (Option.bind_some _ _).symm.trans H; with_reducible exact H2_) | with_reducible exact H | (rw [hy232]; exact H) | exact H
          have Ny232 := Aside0.mk hy232
          clear hy232
          have H' := Aside0.mk H
          clear H
          obtain ⟨hcz54_0, hcz54_1⟩ := zc2 BK219
          obtain ⟨hfz54_0, hfz54_1⟩ := zf2 BK219
          try go_wp2
          replace HO_7 := Aside0.mk (Kd.R_drew HO_7.out)
          replace BK219 := Aside0.mk (blk_drew BK219.out)
          replace BK220 := Aside0.mk (blk_drew BK220.out)
          replace HB := Aside0.mk (below_drew1 HB.out)
          have p226 : 0 ≤ (x8_2 : Int) := of_decide_eq_true (by first | (with_reducible assumption) | assumption)
          have q226 : x8_2 < (l1_0.length : Int) := of_decide_eq_true (by first | (with_reducible assumption) | assumption)
          obtain ⟨ad226, e226, hx226_0, hx226_1⟩ := at_T28 HR1_0.out x8_2 p226 q226
          have hw226_1 := hx226_1
          have hw226_0 := hx226_0
          cases e226
          replace hx226_0 := (HB.out.cell (World.block_lt_of_cell? w _ hx226_0)).trans hx226_0
          replace hx226_1 := (HB.out.cell (World.block_lt_of_cell? w _ hx226_1)).trans hx226_1
          replace p226 := eq_true p226
          replace q226 := eq_true q226
          have p227 : 0 ≤ (x8_2 : Int) := of_decide_eq_true (by first | (with_reducible assumption) | assumption)
          have q227 : x8_2 < (l1_1.length : Int) := of_decide_eq_true (by first | (with_reducible assumption) | assumption)
          obtain ⟨ad227, e227, hx227_0, hx227_1⟩ := at_T28 HR1_1.out x8_2 p227 q227
          have hw227_1 := hx227_1
          have hw227_0 := hx227_0
          cases e227
          replace hx227_0 := (HB.out.cell (World.block_lt_of_cell? w _ hx227_0)).trans hx227_0
          replace hx227_1 := (HB.out.cell (World.block_lt_of_cell? w _ hx227_1)).trans hx227_1
          replace p227 := eq_true p227
          replace q227 := eq_true q227
          refine start_ (n := 19) (S := fun w' => w'.cell? ⟨gb219, 0, none⟩ = some (.slice (some ad226) l1_0.length c1_0) ∧ w'.cell? ⟨gb219, 1, none⟩ = some (.slice (some ad227) l1_1.length c1_1) ∧ w'.cell? ⟨gb220, 0, none⟩ = some (.int .u64 a2_0) ∧ w'.cell? ⟨gb220, 1, none⟩ = some (.int .u64 a2_1) ∧ w'.cell? ⟨gb220, 2, none⟩ = some (.int .u64 a2_2) ∧ w'.cell? ⟨gb220, 3, none⟩ = some (.int .u64 a2_3) ∧ w'.cell? (ad226.add ((x8_2).toNat * 2)) = some (.int .u64 ((rd_T28 l1_0 x8_2).f0)) ∧ w'.cell? ⟨(ad226.add ((x8_2).toNat * 2)).block, (ad226.add ((x8_2).toNat * 2)).off + 1, none⟩ = some (.int .u64 ((rd_T28 l1_0 x8_2).f1)) ∧ w'.cell? (ad227.add ((x8_2).toNat * 2)) = some (.int .u64 ((rd_T28 l1_1 x8_2).f0)) ∧ w'.cell? ⟨(ad227.add ((x8_2).toNat * 2)).block, (ad227.add ((x8_2).toNat * 2)).off + 1, none⟩ = some (.int .u64 ((rd_T28 l1_1 x8_2).f1))) (ds := []) #[false, false, false, false, false, false, false, false, false, false, false, false, false, false, false, false, false, false, false] (by kernel_rfl) rfl rfl ⟨(blk_cell BK219.out 0).trans rfl, (blk_cell BK219.out 1).trans rfl, (blk_cell BK220.out 0).trans rfl, (blk_cell BK220.out 1).trans rfl, (blk_cell BK220.out 2).trans rfl, (blk_cell BK220.out 3).trans rfl, ((HB.out.cell (World.block_lt_of_cell? w _ hw226_0)).trans hw226_0), ((HB.out.cell (World.block_lt_of_cell? w _ hw226_1)).trans hw226_1), ((HB.out.cell (World.block_lt_of_cell? w _ hw227_0)).trans hw227_0), ((HB.out.cell (World.block_lt_of_cell? w _ hw227_1)).trans hw227_1)⟩ (fun hHeld => ?_); refine with_tabW steeplelaw17_LineSums.tab7 steeplelaw17_LineSums.bits7 (fun HT_ HW_ => ?_)
          generalize wr.drew = w55 at HO_7 BK219 BK220 HB hx226_0 hx226_1 hx227_0 hx227_1 hHeld ⊢
          refine pure_ (i := 0) (N := some 64) (v := ?_) (a' := ?_) #[true, false, false, false, false, false, false, false, false, false, false, false, false, false, false, false, false, false, false] rfl rfl (any_of HT_.out (by kernel_rfl)) (fun _ _ _ h => h) (Or.inl ⟨by rfl, ?_⟩) ?_ ?_
          rotate_left
          ·intro w'
           go_simp
           with_reducible rfl
          rotate_left
          ·simp only [Act.put, List.setIfInBounds_toArray, List.set_cons_zero, List.set_cons_succ, i64_w, i32_w]
           rfl
          refine pure_ (i := 1) (N := some 65) (v := ?_) (a' := ?_) #[true, true, false, false, false, false, false, false, false, false, false, false, false, false, false, false, false, false, false] rfl rfl (any_of HT_.out (by kernel_rfl)) (fun _ _ _ h => h) (Or.inl ⟨by rfl, ?_⟩) ?_ ?_
          rotate_left
          ·intro w'
           go_simp
           with_reducible rfl
          rotate_left
          ·simp only [Act.put, List.setIfInBounds_toArray, List.set_cons_zero, List.set_cons_succ, i64_w, i32_w]
           rfl
          refine pure_ (i := 3) (N := some 67) (v := ?_) (a' := ?_) #[true, true, false, true, false, false, false, false, false, false, false, false, false, false, false, false, false, false, false] rfl rfl (any_of HT_.out (by kernel_rfl)) (fun _ _ _ h => h) (Or.inl ⟨by rfl, ?_⟩) ?_ ?_
          rotate_left
          ·intro w'
           go_simp
           with_reducible rfl
          rotate_left
          ·simp only [Act.put, List.setIfInBounds_toArray, List.set_cons_zero, List.set_cons_succ, i64_w, i32_w]
           rfl
          refine pure_ (i := 6) (N := some 70) (v := ?_) (a' := ?_) #[true, true, false, true, false, false, true, false, false, false, false, false, false, false, false, false, false, false, false] rfl rfl (any_of HT_.out (by kernel_rfl)) (fun _ _ _ h => h) (Or.inl ⟨by rfl, ?_⟩) ?_ ?_
          rotate_left
          ·intro w'
           go_simp
           with_reducible rfl
          rotate_left
          ·simp only [Act.put, List.setIfInBounds_toArray, List.set_cons_zero, List.set_cons_succ, i64_w, i32_w]
           rfl
          refine pure_ (i := 7) (N := some 71) (v := ?_) (a' := ?_) #[true, true, false, true, false, false, true, true, false, false, false, false, false, false, false, false, false, false, false] rfl rfl (any_of HT_.out (by kernel_rfl)) (fun _ _ _ h => h) (Or.inl ⟨by rfl, ?_⟩) ?_ ?_
          rotate_left
          ·intro w'
           go_simp
           with_reducible rfl
          rotate_left
          ·simp only [Act.put, List.setIfInBounds_toArray, List.set_cons_zero, List.set_cons_succ, i64_w, i32_w]
           rfl
          refine pure_ (i := 9) (N := some 73) (v := ?_) (a' := ?_) #[true, true, false, true, false, false, true, true, false, true, false, false, false, false, false, false, false, false, false] rfl rfl (any_of HT_.out (by kernel_rfl)) (fun _ _ _ h => h) (Or.inl ⟨by rfl, ?_⟩) ?_ ?_
          rotate_left
          ·intro w'
           go_simp
           with_reducible rfl
          rotate_left
          ·simp only [Act.put, List.setIfInBounds_toArray, List.set_cons_zero, List.set_cons_succ, i64_w, i32_w]
           rfl
          refine pure_ (i := 11) (N := some 75) (v := ?_) (a' := ?_) #[true, true, false, true, false, false, true, true, false, true, false, true, false, false, false, false, false, false, false] rfl rfl (any_of HT_.out (by kernel_rfl)) (fun _ _ _ h => h) (Or.inl ⟨by rfl, ?_⟩) ?_ ?_
          rotate_left
          ·intro w'
           go_simp
           with_reducible rfl
          rotate_left
          ·simp only [Act.put, List.setIfInBounds_toArray, List.set_cons_zero, List.set_cons_succ, i64_w, i32_w]
           rfl
          refine take_ (i := 2) (N := some 66) (v := ?_) (a' := ?_) #[true, true, true, true, false, false, true, true, false, true, false, true, false, false, false, false, false, false, false] rfl rfl (take_ofW HT_.out HW_.out (by kernel_rfl)) (fun _ _ _ h => h) (Or.inl ⟨by rfl, ?_⟩) hHeld ?_ ?_
          rotate_left
          ·rintro w' ⟨s0, s1, s2, s3, s4, s5, s6, s7, s8, s9⟩
           go_simp
           with_reducible rfl
          rotate_left
          ·simp only [Act.put, List.setIfInBounds_toArray, List.set_cons_zero, List.set_cons_succ, i64_w, i32_w]
           rfl
          refine pure_ (i := 4) (N := some 68) (v := ?_) (a' := ?_) #[true, true, true, true, true, false, true, true, false, true, false, true, false, false, false, false, false, false, false] rfl rfl (any_of HT_.out (by kernel_rfl)) (fun _ _ _ h => h) (Or.inl ⟨by rfl, ?_⟩) ?_ ?_
          rotate_left
          ·intro w'
           go_simp
           with_reducible rfl
          rotate_left
          ·simp only [Act.put, List.setIfInBounds_toArray, List.set_cons_zero, List.set_cons_succ, i64_w, i32_w]
           rfl
          refine take_ (i := 5) (N := some 69) (v := ?_) (a' := ?_) #[true, true, true, true, true, true, true, true, false, true, false, true, false, false, false, false, false, false, false] rfl rfl (take_ofW HT_.out HW_.out (by kernel_rfl)) (fun _ _ _ h => h) (Or.inl ⟨by rfl, ?_⟩) hHeld ?_ ?_
          rotate_left
          ·rintro w' ⟨s0, s1, s2, s3, s4, s5, s6, s7, s8, s9⟩
           go_simp
           with_reducible rfl
          rotate_left
          ·simp only [Act.put, List.setIfInBounds_toArray, List.set_cons_zero, List.set_cons_succ, i64_w, i32_w]
           rfl
          refine take_ (i := 8) (N := some 72) (v := ?_) (a' := ?_) #[true, true, true, true, true, true, true, true, true, true, false, true, false, false, false, false, false, false, false] rfl rfl (take_ofW HT_.out HW_.out (by kernel_rfl)) (fun _ _ _ h => h) (Or.inl ⟨by rfl, ?_⟩) hHeld ?_ ?_
          rotate_left
          ·rintro w' ⟨s0, s1, s2, s3, s4, s5, s6, s7, s8, s9⟩
           go_simp
           with_reducible rfl
          rotate_left
          ·simp only [Act.put, List.setIfInBounds_toArray, List.set_cons_zero, List.set_cons_succ, i64_w, i32_w]
           rfl
          refine take_ (i := 10) (N := some 74) (v := ?_) (a' := ?_) #[true, true, true, true, true, true, true, true, true, true, true, true, false, false, false, false, false, false, false] rfl rfl (take_ofW HT_.out HW_.out (by kernel_rfl)) (fun _ _ _ h => h) (Or.inl ⟨by rfl, ?_⟩) hHeld ?_ ?_
          rotate_left
          ·rintro w' ⟨s0, s1, s2, s3, s4, s5, s6, s7, s8, s9⟩
           go_simp
           with_reducible rfl
          rotate_left
          ·simp only [Act.put, List.setIfInBounds_toArray, List.set_cons_zero, List.set_cons_succ, i64_w, i32_w]
           rfl
          refine pure_ (i := 12) (N := some 76) (v := ?_) (a' := ?_) #[true, true, true, true, true, true, true, true, true, true, true, true, true, false, false, false, false, false, false] rfl rfl (any_of HT_.out (by kernel_rfl)) (fun _ _ _ h => h) (Or.inl ⟨by rfl, ?_⟩) ?_ ?_
          rotate_left
          ·intro w'
           go_simp
           with_reducible rfl
          rotate_left
          ·simp only [Act.put, List.setIfInBounds_toArray, List.set_cons_zero, List.set_cons_succ, i64_w, i32_w]
           rfl
          refine take_ (i := 13) (N := some 77) (v := ?_) (a' := ?_) #[true, true, true, true, true, true, true, true, true, true, true, true, true, true, false, false, false, false, false] rfl rfl (take_ofW HT_.out HW_.out (by kernel_rfl)) (fun _ _ _ h => h) (Or.inl ⟨by rfl, ?_⟩) hHeld ?_ ?_
          rotate_left
          ·rintro w' ⟨s0, s1, s2, s3, s4, s5, s6, s7, s8, s9⟩
           go_simp
           with_reducible rfl
          rotate_left
          ·simp only [Act.put, List.setIfInBounds_toArray, List.set_cons_zero, List.set_cons_succ, i64_w, i32_w]
           rfl
          refine one_ (i := 14) (N := some 78) #[true, true, true, true, true, true, true, true, true, true, true, true, true, true, true, false, false, false, false] rfl rfl (one_of HT_.out (by kernel_rfl)) (by decide) (fun K hK => ?_)
          refine goes_ Try.func13 (by kernel_rfl) rfl #[.int .i64 a0, .agg #[.int .u64 a2_0, .int .u64 a2_1], .agg #[.int .u64 ((rd_T28 l1_1 x8_2).f0), .int .u64 ((rd_T28 l1_1 x8_2).f1)]] (by rfl) rfl rfl (by (try simp only [List.map_toArray, List.map_cons, List.map_nil]); first | done | rfl | (simp only [List.length_drop, List.length_take]; rfl)) ?_
          with_reducible refine (tower_Mul.calls k2 a0 a2_0 a2_1 ((rd_T28 l1_1 x8_2).f0) ((rd_T28 l1_1 x8_2).f1) t228 t229 _ A50.out).mono ?_
          rintro e w56 ⟨rfl, hb⟩
          refine ⟨_, rfl, ?_⟩
          replace HO_7 := kb HO_7 hb
          replace BK219 := bb BK219 hb
          replace BK220 := bb BK220 hb
          replace HB := bh HB hb
          (try clear hb)
          (try clear hb2)
          (try clear hk)
          (try clear hi)
          refine hK.out _ _ ⟨(blk_cell BK219.out 0).trans rfl, (blk_cell BK219.out 1).trans rfl, (blk_cell BK220.out 0).trans rfl, (blk_cell BK220.out 1).trans rfl, (blk_cell BK220.out 2).trans rfl, (blk_cell BK220.out 3).trans rfl, ((HB.out.cell (World.block_lt_of_cell? w _ hw226_0)).trans hw226_0), ((HB.out.cell (World.block_lt_of_cell? w _ hw226_1)).trans hw226_1), ((HB.out.cell (World.block_lt_of_cell? w _ hw227_0)).trans hw227_0), ((HB.out.cell (World.block_lt_of_cell? w _ hw227_1)).trans hw227_1)⟩ (fun hHeld => ?_)
          clear hK K
          refine norm_ (a' := ?_) ?_ ?_
          rotate_left
          ·show Act.put _ (some 78) _ = _
           simp only [Act.put, List.setIfInBounds_toArray, List.set_cons_zero, List.set_cons_succ, i64_w, i32_w]
           rfl
          refine one_ (i := 15) (N := some 79) #[true, true, true, true, true, true, true, true, true, true, true, true, true, true, true, true, false, false, false] rfl rfl (one_of HT_.out (by kernel_rfl)) (by decide) (fun K hK => ?_)
          refine goes_ Try.func12 (by kernel_rfl) rfl #[.agg #[.int .u64 ((rd_T28 l1_0 x8_2).f0), .int .u64 ((rd_T28 l1_0 x8_2).f1)], .agg #[.int .u64 t228, .int .u64 t229]] (by rfl) rfl rfl (by (try simp only [List.map_toArray, List.map_cons, List.map_nil]); first | done | rfl | (simp only [List.length_drop, List.length_take]; rfl)) ?_
          with_reducible refine (tower_Add.calls ((rd_T28 l1_0 x8_2).f0) ((rd_T28 l1_0 x8_2).f1) t228 t229 t230 t231 _ A51.out).mono ?_
          rintro e w57 ⟨rfl, hb⟩
          refine ⟨_, rfl, ?_⟩
          replace HO_7 := kb HO_7 hb
          replace BK219 := bb BK219 hb
          replace BK220 := bb BK220 hb
          replace HB := bh HB hb
          (try clear hb)
          (try clear hb2)
          (try clear hk)
          (try clear hi)
          refine hK.out _ _ ⟨(blk_cell BK219.out 0).trans rfl, (blk_cell BK219.out 1).trans rfl, (blk_cell BK220.out 0).trans rfl, (blk_cell BK220.out 1).trans rfl, (blk_cell BK220.out 2).trans rfl, (blk_cell BK220.out 3).trans rfl, ((HB.out.cell (World.block_lt_of_cell? w _ hw226_0)).trans hw226_0), ((HB.out.cell (World.block_lt_of_cell? w _ hw226_1)).trans hw226_1), ((HB.out.cell (World.block_lt_of_cell? w _ hw227_0)).trans hw227_0), ((HB.out.cell (World.block_lt_of_cell? w _ hw227_1)).trans hw227_1)⟩ (fun hHeld => ?_)
          clear hK K
          refine norm_ (a' := ?_) ?_ ?_
          rotate_left
          ·show Act.put _ (some 79) _ = _
           simp only [Act.put, List.setIfInBounds_toArray, List.set_cons_zero, List.set_cons_succ, i64_w, i32_w]
           rfl
          refine one_ (i := 16) (N := some 80) #[true, true, true, true, true, true, true, true, true, true, true, true, true, true, true, true, true, false, false] rfl rfl (one_of HT_.out (by kernel_rfl)) (by decide) (fun K hK => ?_)
          refine value_ (w1 := ?_) (v := ?_) (by rfl) rfl ?_ ?_
          rotate_left 2
          ·go_simp
           constructor
           ·rfl
           ·rfl
          refine hK.out _ _ ⟨(blk_cell (blk_alloc BK219.out _) 0).trans rfl, (blk_cell (blk_alloc BK219.out _) 1).trans rfl, (blk_cell (blk_alloc BK220.out _) 0).trans rfl, (blk_cell (blk_alloc BK220.out _) 1).trans rfl, (blk_cell (blk_alloc BK220.out _) 2).trans rfl, (blk_cell (blk_alloc BK220.out _) 3).trans rfl, (World.cell?_alloc_lt _ _ _ (World.block_lt_of_cell? _ _ (((HB.out.cell (World.block_lt_of_cell? w _ hw226_0)).trans hw226_0)))).trans (((HB.out.cell (World.block_lt_of_cell? w _ hw226_0)).trans hw226_0)), (World.cell?_alloc_lt _ _ _ (World.block_lt_of_cell? _ _ (((HB.out.cell (World.block_lt_of_cell? w _ hw226_1)).trans hw226_1)))).trans (((HB.out.cell (World.block_lt_of_cell? w _ hw226_1)).trans hw226_1)), (World.cell?_alloc_lt _ _ _ (World.block_lt_of_cell? _ _ (((HB.out.cell (World.block_lt_of_cell? w _ hw227_0)).trans hw227_0)))).trans (((HB.out.cell (World.block_lt_of_cell? w _ hw227_0)).trans hw227_0)), (World.cell?_alloc_lt _ _ _ (World.block_lt_of_cell? _ _ (((HB.out.cell (World.block_lt_of_cell? w _ hw227_1)).trans hw227_1)))).trans (((HB.out.cell (World.block_lt_of_cell? w _ hw227_1)).trans hw227_1))⟩ (fun hHeld => ?_)
          clear hK K
          refine norm_ (a' := ?_) ?_ ?_
          rotate_left
          ·show Act.put _ (some 80) _ = _
           simp only [Act.put, List.setIfInBounds_toArray, List.set_cons_zero, List.set_cons_succ, i64_w, i32_w]
           rfl
          refine one_ (i := 17) (N := some 81) #[true, true, true, true, true, true, true, true, true, true, true, true, true, true, true, true, true, true, false] rfl rfl (one_of HT_.out (by kernel_rfl)) (by decide) (fun K hK => ?_)
          refine Kd.R_append_step k28 (w0 := w) w.heap.size (by rfl) (.tmp 64) (.tmp 80) 22 28 (.agg #[(.int .u64 0), (.int .u64 0)]) 16 rfl Try.underlying22 info28 rfl (by decide) (by omega) u7 x7_2 (⟨t230, t231⟩ : S28) [.int .u64 t230, .int .u64 t231] (fun _ => True) (fun _ => False) rfl rfl ?aP (fun _ hk => hk.elim) ?aF ?aO ?aB ?aS ?aL ?_
          (case aP => exact k28_mkM _ _ _ (⟨t230, t231⟩ : S28))
          (case aB => exact (bq HB.out))
          (case aF => exact (fun _ _ => trivial))
          (case aO => exact (kr HO_7.out))
          (case aS => exact (below_size (bq HB.out)))
          (case aL => have := LMc52.out; omega)
          intro v233 w58 ho hb hg hat
          rw [← Ny232.out] at ho
          have HO234 := Aside0.mk ho
          replace BK219 := Aside0.mk (blk_grown (g := gb219) (o := .cells #[.slice (some ad226) l1_0.length c1_0, .slice (some ad227) l1_1.length c1_1] 34 (0, 0)) (bk BK219.out) hg (Kd.R_ne HO_7.out BK219.out (by decide)))
          replace BK220 := Aside0.mk (blk_grown (g := gb220) (o := .cells #[.int .u64 a2_0, .int .u64 a2_1, .int .u64 a2_2, .int .u64 a2_3] 35 (0, 0)) (bk BK220.out) hg (Kd.R_ne HO_7.out BK220.out (by decide)))
          replace HB := Aside0.mk hb
          clear HO_7
          clear ho hb hg hat
          refine hK.out _ _ ⟨(blk_cell BK219.out 0).trans rfl, (blk_cell BK219.out 1).trans rfl, (blk_cell BK220.out 0).trans rfl, (blk_cell BK220.out 1).trans rfl, (blk_cell BK220.out 2).trans rfl, (blk_cell BK220.out 3).trans rfl, ((HB.out.cell (World.block_lt_of_cell? w _ hw226_0)).trans hw226_0), ((HB.out.cell (World.block_lt_of_cell? w _ hw226_1)).trans hw226_1), ((HB.out.cell (World.block_lt_of_cell? w _ hw227_0)).trans hw227_0), ((HB.out.cell (World.block_lt_of_cell? w _ hw227_1)).trans hw227_1)⟩ (fun hHeld => ?_)
          clear hK K
          refine norm_ (a' := ?_) ?_ ?_
          rotate_left
          ·show Act.put _ (some 81) _ = _
           simp only [Act.put, List.setIfInBounds_toArray, List.set_cons_zero, List.set_cons_succ, i64_w, i32_w]
           rfl
          refine pure_ (i := 18) (N := some 7) (v := ?_) (a' := ?_) #[true, true, true, true, true, true, true, true, true, true, true, true, true, true, true, true, true, true, true] rfl rfl (any_of HT_.out (by kernel_rfl)) (fun _ _ _ h => h) (Or.inl ⟨by rfl, ?_⟩) ?_ ?_
          rotate_left
          ·intro w'
           go_simp
           with_reducible rfl
          rotate_left
          ·simp only [Act.put, List.setIfInBounds_toArray, List.set_cons_zero, List.set_cons_succ, i64_w, i32_w]
           rfl
          refine done_ (done_of HT_.out (by kernel_rfl)) ?_
          try go_wp2
          go_roundg k2
          case measure => have := HJ3.out; have := HK2.out; omega
          case rel => exact ⟨(y232), (wrap64 (x8_2 + 1)), (by first | rfl | (simp; done) | (simp [*]; done)), H', ⟨by have := HJ3.out; have := HK2.out; omega⟩, ⟨kr HO234.out⟩, ⟨bk BK219.out⟩, ⟨bk BK220.out⟩, ⟨bq HB.out⟩⟩
         ·rw [if_neg c52] at H
          exact absurd H (by simp)
        ·rw [if_neg c49] at H
         exact absurd H (by simp)
       ·rw [if_neg c48] at H
        exact absurd H (by simp)
      ·rw [if_neg c47] at H
       have c47b0 : decide (x8_2 < (l1_0.length : Int)) = false := decide_eq_false c47
       clear c47
       replace H := Option.bind_eq_some_iff.mp H
       obtain ⟨⟨t235, t236, t237⟩, A590, H⟩ := H
       replace H : ((line_At.f k2 a0 l1_1 a2_2 a2_3).bind fun bt239 => ((line_At.f k2 a0 x7_2 a2_2 a2_3).bind fun bt243 => ((steeplelaw17_awake.f k2).bind fun t247 => (if t247 = true then (if t237 = 0 then (if bt239.2.2 = 0 then (if bt243.2.2 = 0 then ((tower_Mul.f k2 a0 a2_0 a2_1 bt239.1 bt239.2.1).bind fun bt248 => ((tower_Add.f t235 t236 bt248.1 bt248.2).bind fun bt250 => (some (bt243.1 == bt250.1 && (bt243.2.1 == bt250.2))))) else (none)) else (none)) else (none)) else (none))))) = some r := H
       have A59 := Aside0.mk A590
       clear A590
       replace H := Option.bind_eq_some_iff.mp H
       obtain ⟨⟨t239, t240, t241⟩, A600, H⟩ := H
       replace H : ((line_At.f k2 a0 x7_2 a2_2 a2_3).bind fun bt243 => ((steeplelaw17_awake.f k2).bind fun t247 => (if t247 = true then (if t237 = 0 then (if t241 = 0 then (if bt243.2.2 = 0 then ((tower_Mul.f k2 a0 a2_0 a2_1 t239 t240).bind fun bt248 => ((tower_Add.f t235 t236 bt248.1 bt248.2).bind fun bt250 => (some (bt243.1 == bt250.1 && (bt243.2.1 == bt250.2))))) else (none)) else (none)) else (none)) else (none)))) = some r := H
       have A60 := Aside0.mk A600
       clear A600
       replace H := Option.bind_eq_some_iff.mp H
       obtain ⟨⟨t243, t244, t245⟩, A610, H⟩ := H
       replace H : ((steeplelaw17_awake.f k2).bind fun t247 => (if t247 = true then (if t237 = 0 then (if t241 = 0 then (if t245 = 0 then ((tower_Mul.f k2 a0 a2_0 a2_1 t239 t240).bind fun bt248 => ((tower_Add.f t235 t236 bt248.1 bt248.2).bind fun bt250 => (some (t243 == bt250.1 && (t244 == bt250.2))))) else (none)) else (none)) else (none)) else (none))) = some r := H
       have A61 := Aside0.mk A610
       clear A610
       replace H := Option.bind_eq_some_iff.mp H
       obtain ⟨t247, A620, H⟩ := H
       replace H : (if t247 = true then (if t237 = 0 then (if t241 = 0 then (if t245 = 0 then ((tower_Mul.f k2 a0 a2_0 a2_1 t239 t240).bind fun bt248 => ((tower_Add.f t235 t236 bt248.1 bt248.2).bind fun bt250 => (some (t243 == bt250.1 && (t244 == bt250.2))))) else (none)) else (none)) else (none)) else (none)) = some r := H
       have A62 := Aside0.mk A620
       clear A620
       by_cases c63 : t247 = true
       ·subst c63
        have H1 : (if t237 = 0 then (if t241 = 0 then (if t245 = 0 then ((tower_Mul.f k2 a0 a2_0 a2_1 t239 t240).bind fun bt248 => ((tower_Add.f t235 t236 bt248.1 bt248.2).bind fun bt250 => (some (t243 == bt250.1 && (t244 == bt250.2))))) else (none)) else (none)) else (none)) = some r := by rw [if_pos rfl] at H; exact H
        clear H
        have H := H1
        clear H1
        by_cases c64 : t237 = 0
        ·rw [if_pos c64] at H
         have c64b0 : (t237 == 0) = true := beq_iff_eq.mpr c64
         have c64b1 : (t237 != 0) = false := bne_eq_false_iff_eq.mpr c64
         clear c64
         by_cases c65 : t241 = 0
         ·rw [if_pos c65] at H
          have c65b0 : (t241 == 0) = true := beq_iff_eq.mpr c65
          have c65b1 : (t241 != 0) = false := bne_eq_false_iff_eq.mpr c65
          clear c65
          by_cases c66 : t245 = 0
          ·rw [if_pos c66] at H
           have c66b0 : (t245 == 0) = true := beq_iff_eq.mpr c66
           have c66b1 : (t245 != 0) = false := bne_eq_false_iff_eq.mpr c66
           clear c66
           replace H := Option.bind_eq_some_iff.mp H
           obtain ⟨⟨t248, t249⟩, A670, H⟩ := H
           replace H : ((tower_Add.f t235 t236 t248 t249).bind fun bt250 => (some (t243 == bt250.1 && (t244 == bt250.2)))) = some r := H
           have A67 := Aside0.mk A670
           clear A670
           replace H := Option.bind_eq_some_iff.mp H
           obtain ⟨⟨t250, t251⟩, A680, H⟩ := H
           replace H : (some (t243 == t250 && (t244 == t251))) = some r := H
           have A68 := Aside0.mk A680
           clear A680
           obtain rfl := Option.some.inj H
           have hnb69 := NB219_220.out
           have hnc69 := NB220_219.out
           obtain ⟨hcz70_0, hcz70_1⟩ := zc2 BK219
           obtain ⟨hfz70_0, hfz70_1⟩ := zf2 BK219
           obtain ⟨hcz71_0, hcz71_1, hcz71_2, hcz71_3⟩ := zc4 BK220
           obtain ⟨hfz71_0, hfz71_1, hfz71_2, hfz71_3⟩ := zf4 BK220
           try go_wp2_with (first | ((with_reducible refine gate_callee (f := 10) rfl ?_); refine goesL_ (some 88) rfl rfl Try.func10 (by kernel_rfl) rfl #[.int .i64 a0, .slice A1_0 l1_0.length c1_0, .agg #[.int .u64 a2_2, .int .u64 a2_3]] rfl (by (try simp only [List.map_toArray, List.map_cons, List.map_nil]); first | done | rfl | (simp only [List.length_drop, List.length_take]; rfl)) ?_; (with_reducible refine (line_At.calls k2 a0 _ _ l1_0 a2_2 a2_3 t235 t236 t237 _ ?side1 ?side2 A59.out).mono ?_); (case side1 => repeat (first | exact (Kd.C_below HR1_0.out HB.out) | (with_reducible refine Kd.C_alloc ?_ _) | (with_reducible refine Kd.C_drewN ?_ _) | (with_reducible refine Kd.C_drew ?_))); (case side2 => exact HC1_0.out); rintro e w72 ⟨rfl, hb⟩; refine ⟨_, rfl, ?_⟩; replace HO_7 := kb HO_7 hb; replace BK219 := bb BK219 hb; replace BK220 := bb BK220 hb; replace HB := bh HB hb; (try clear hb); (try clear hb2); (try clear hk); (try clear hi)) | ((with_reducible refine gate_dst (N := 9) rfl ?_); (try (refine gate_guard (by rfl) ?_; dsimp only)); refine box_event ?hg (N := 9) ?hd (cs := #[.int .u64 0, .int .u64 0]) (t := 28) ?hr ?_; (case hd => rfl); (case hg => rfl); (case hr => first | (go_simp; done) | (go_simp; rfl)); intro gb238 hg w73 hbox hb; have BK238 := Aside0.mk hbox; have GW238 := ge hg HB; have GE238 := ge hg HB; have NB219_238 := nl hg BK219; have NB238_219 := ng hg BK219; have NB220_238 := nl hg BK220; have NB238_220 := ng hg BK220; replace HO_7 := Aside0.mk (Kd.R_below (Kd.R_elderB (kr HO_7.out) gb238 (Nat.le_of_eq hg.symm)) hb); replace BK219 := bb BK219 hb; replace BK220 := bb BK220 hb; replace HB := bh HB hb; clear hb hbox hg; have hnb74 := NB238_219.out; have hnc74 := NB219_238.out; have hnb75 := NB238_220.out; have hnc75 := NB220_238.out; obtain ⟨hcz76_0, hcz76_1⟩ := zc2 BK238; obtain ⟨hfz76_0, hfz76_1⟩ := zf2 BK238; obtain ⟨hcz77_0, hcz77_1⟩ := zc2 BK219; obtain ⟨hfz77_0, hfz77_1⟩ := zf2 BK219; obtain ⟨hcz78_0, hcz78_1, hcz78_2, hcz78_3⟩ := zc4 BK220; obtain ⟨hfz78_0, hfz78_1, hfz78_2, hfz78_3⟩ := zf4 BK220) | ((with_reducible refine gate_callee (f := 10) rfl ?_); refine goesL_ (some 97) rfl rfl Try.func10 (by kernel_rfl) rfl #[.int .i64 a0, .slice A1_1 l1_1.length c1_1, .agg #[.int .u64 a2_2, .int .u64 a2_3]] rfl (by (try simp only [List.map_toArray, List.map_cons, List.map_nil]); first | done | rfl | (simp only [List.length_drop, List.length_take]; rfl)) ?_; (with_reducible refine (line_At.calls k2 a0 _ _ l1_1 a2_2 a2_3 t239 t240 t241 _ ?side1 ?side2 A60.out).mono ?_); (case side1 => exact Kd.C_below HR1_1.out (bq HB.out)); (case side2 => exact HC1_1.out); rintro e w79 ⟨rfl, hb⟩; refine ⟨_, rfl, ?_⟩; replace HO_7 := Aside0.mk (Kd.R_below (by (with_reducible repeat refine kl ?_); exact (Kd.R_mono (Kd.R_far (p := ⟨gb238, 1, none⟩) (Kd.R_far (p := ⟨gb238, 0, none⟩) (Kd.R_mono HO_7.out (fun k_ hk => (⟨hk, hk.2⟩ : _ ∧ k_ ≠ gb238))) (fun _ hk => hk.2) (.int .u64 t235)) (fun _ hk => hk.2) (.int .u64 t236)) (fun _ h_ => h_.1))) hb); replace BK219 := Aside0.mk (blk_below (g := gb219) (o := .cells #[.slice A1_0 l1_0.length c1_0, .slice A1_1 l1_1.length c1_1] 34 (0, 0)) (by (with_reducible repeat refine bl ?_); refine blk_far ?_ NB219_238.out _; (with_reducible repeat refine bl ?_); refine blk_far ?_ NB219_238.out _; (with_reducible repeat refine bl ?_); exact BK219.out) hb); replace BK220 := Aside0.mk (blk_below (g := gb220) (o := .cells #[.int .u64 a2_0, .int .u64 a2_1, .int .u64 a2_2, .int .u64 a2_3] 35 (0, 0)) (by (with_reducible repeat refine bl ?_); refine blk_far ?_ NB220_238.out _; (with_reducible repeat refine bl ?_); refine blk_far ?_ NB220_238.out _; (with_reducible repeat refine bl ?_); exact BK220.out) hb); replace BK238 := Aside0.mk (blk_below (g := gb238) (o := .cells #[.int .u64 t235, .int .u64 t236] 28 (0, 0)) (by (with_reducible repeat refine bl ?_); refine blk_put (cs := #[.int .u64 t235, .int .u64 0]) ?_ 1 _ rfl; (with_reducible repeat refine bl ?_); refine blk_put (cs := #[.int .u64 0, .int .u64 0]) ?_ 0 _ rfl; (with_reducible repeat refine bl ?_); exact BK238.out) hb); replace HB := bh HB hb; (try clear hb); (try clear hb2); (try clear hk); (try clear hi)) | ((with_reducible refine gate_dst (N := 11) rfl ?_); (try (refine gate_guard (by rfl) ?_; dsimp only)); refine box_event ?hg (N := 11) ?hd (cs := #[.int .u64 0, .int .u64 0]) (t := 28) ?hr ?_; (case hd => rfl); (case hg => rfl); (case hr => first | (go_simp; done) | (go_simp; rfl)); intro gb242 hg w80 hbox hb; have BK242 := Aside0.mk hbox; have GW242 := ge hg HB; have GE242 := ge hg HB; have NB219_242 := nl hg BK219; have NB242_219 := ng hg BK219; have NB220_242 := nl hg BK220; have NB242_220 := ng hg BK220; have NB238_242 := nl hg BK238; have NB242_238 := ng hg BK238; replace HO_7 := Aside0.mk (Kd.R_below (Kd.R_elderB (kr HO_7.out) gb242 (Nat.le_of_eq hg.symm)) hb); replace BK219 := bb BK219 hb; replace BK220 := bb BK220 hb; replace BK238 := bb BK238 hb; replace HB := bh HB hb; clear hb hbox hg; have hnb81 := NB242_219.out; have hnc81 := NB219_242.out; have hnb82 := NB242_220.out; have hnc82 := NB220_242.out; have hnb83 := NB242_238.out; have hnc83 := NB238_242.out; obtain ⟨hcz84_0, hcz84_1⟩ := zc2 BK242; obtain ⟨hfz84_0, hfz84_1⟩ := zf2 BK242; obtain ⟨hcz85_0, hcz85_1, hcz85_2, hcz85_3⟩ := zc4 BK220; obtain ⟨hfz85_0, hfz85_1, hfz85_2, hfz85_3⟩ := zf4 BK220; obtain ⟨Ao86, co86, eo86⟩ := Kd.R_slice HO_7.out; subst eo86) | ((with_reducible refine gate_callee (f := 10) rfl ?_); refine goesL_ (some 105) rfl rfl Try.func10 (by kernel_rfl) rfl #[.int .i64 a0, .slice Ao86 x7_2.length co86, .agg #[.int .u64 a2_2, .int .u64 a2_3]] rfl (by (try simp only [List.map_toArray, List.map_cons, List.map_nil]); first | done | rfl | (simp only [List.length_drop, List.length_take]; rfl)) ?_; (with_reducible refine (line_At.calls k2 a0 _ _ x7_2 a2_2 a2_3 t243 t244 t245 _ ?side1 ?side2 A61.out).mono ?_); (case side1 => refine (Kd.R_reads' (e := 28) (base := w.heap.size) (ok := fun k_ => ((True ∧ k_ ≠ gb238) ∧ k_ ≠ gb242)) (n := x7_2.length) (c := co86) ?_).2.2; exact (by (with_reducible repeat refine kl ?_); exact (Kd.R_mono (Kd.R_far (p := ⟨gb242, 1, none⟩) (Kd.R_far (p := ⟨gb242, 0, none⟩) (Kd.R_mono HO_7.out (fun k_ hk => (⟨hk, hk.2⟩ : _ ∧ k_ ≠ gb242))) (fun _ hk => hk.2) (.int .u64 t239)) (fun _ hk => hk.2) (.int .u64 t240)) (fun _ h_ => h_.1)))); (case side2 => exact (Kd.R_reads' HO_7.out).2.1); rintro e w87 ⟨rfl, hb⟩; refine ⟨_, rfl, ?_⟩; replace HO_7 := Aside0.mk (Kd.R_below (by (with_reducible repeat refine kl ?_); exact (Kd.R_mono (Kd.R_far (p := ⟨gb242, 1, none⟩) (Kd.R_far (p := ⟨gb242, 0, none⟩) (Kd.R_mono HO_7.out (fun k_ hk => (⟨hk, hk.2⟩ : _ ∧ k_ ≠ gb242))) (fun _ hk => hk.2) (.int .u64 t239)) (fun _ hk => hk.2) (.int .u64 t240)) (fun _ h_ => h_.1))) hb); replace BK219 := Aside0.mk (blk_below (g := gb219) (o := .cells #[.slice A1_0 l1_0.length c1_0, .slice A1_1 l1_1.length c1_1] 34 (0, 0)) (by (with_reducible repeat refine bl ?_); refine blk_far ?_ NB219_242.out _; (with_reducible repeat refine bl ?_); refine blk_far ?_ NB219_242.out _; (with_reducible repeat refine bl ?_); exact BK219.out) hb); replace BK220 := Aside0.mk (blk_below (g := gb220) (o := .cells #[.int .u64 a2_0, .int .u64 a2_1, .int .u64 a2_2, .int .u64 a2_3] 35 (0, 0)) (by (with_reducible repeat refine bl ?_); refine blk_far ?_ NB220_242.out _; (with_reducible repeat refine bl ?_); refine blk_far ?_ NB220_242.out _; (with_reducible repeat refine bl ?_); exact BK220.out) hb); replace BK238 := Aside0.mk (blk_below (g := gb238) (o := .cells #[.int .u64 t235, .int .u64 t236] 28 (0, 0)) (by (with_reducible repeat refine bl ?_); refine blk_far ?_ NB238_242.out _; (with_reducible repeat refine bl ?_); refine blk_far ?_ NB238_242.out _; (with_reducible repeat refine bl ?_); exact BK238.out) hb); replace BK242 := Aside0.mk (blk_below (g := gb242) (o := .cells #[.int .u64 t239, .int .u64 t240] 28 (0, 0)) (by (with_reducible repeat refine bl ?_); refine blk_put (cs := #[.int .u64 t239, .int .u64 0]) ?_ 1 _ rfl; (with_reducible repeat refine bl ?_); refine blk_put (cs := #[.int .u64 0, .int .u64 0]) ?_ 0 _ rfl; (with_reducible repeat refine bl ?_); exact BK242.out) hb); replace HB := bh HB hb; (try clear hb); (try clear hb2); (try clear hk); (try clear hi)) | ((with_reducible refine gate_dst (N := 13) rfl ?_); (try (refine gate_guard (by rfl) ?_; dsimp only)); refine box_event ?hg (N := 13) ?hd (cs := #[.int .u64 0, .int .u64 0]) (t := 28) ?hr ?_; (case hd => rfl); (case hg => rfl); (case hr => first | (go_simp; done) | (go_simp; rfl)); intro gb246 hg w88 hbox hb; have BK246 := Aside0.mk hbox; have GW246 := ge hg HB; have GE246 := ge hg HB; have NB219_246 := nl hg BK219; have NB246_219 := ng hg BK219; have NB220_246 := nl hg BK220; have NB246_220 := ng hg BK220; have NB238_246 := nl hg BK238; have NB246_238 := ng hg BK238; have NB242_246 := nl hg BK242; have NB246_242 := ng hg BK242; replace HO_7 := Aside0.mk (Kd.R_below (Kd.R_elderB (kr HO_7.out) gb246 (Nat.le_of_eq hg.symm)) hb); replace BK219 := bb BK219 hb; replace BK220 := bb BK220 hb; replace BK238 := bb BK238 hb; replace BK242 := bb BK242 hb; replace HB := bh HB hb; clear hb hbox hg; have hnb89 := NB246_219.out; have hnc89 := NB219_246.out; have hnb90 := NB246_220.out; have hnc90 := NB220_246.out; have hnb91 := NB246_238.out; have hnc91 := NB238_246.out; have hnb92 := NB246_242.out; have hnc92 := NB242_246.out; obtain ⟨hcz93_0, hcz93_1⟩ := zc2 BK246; obtain ⟨hfz93_0, hfz93_1⟩ := zf2 BK246))
           have n0_ : Aside0 (Kd.R k28 28 ((w88.setCell ⟨gb246, 0, none⟩ (.int .u64 t243)).setCell ⟨gb246, 1, none⟩ (.int .u64 t244)) w.heap.size (fun k_ => k_ ≠ gb238 ∧ k_ ≠ gb242 ∧ k_ ≠ gb246) (.slice Ao86 x7_2.length co86) x7_2) := ⟨by (with_reducible repeat refine kl ?_); exact Kd.R_mono (Kd.R_far (p := ⟨gb246, 1, none⟩) (Kd.R_far (p := ⟨gb246, 0, none⟩) (Kd.R_mono HO_7.out (fun k_ hk => (⟨hk, hk.2⟩ : _ ∧ k_ ≠ gb246))) (fun _ hk => hk.2) (.int .u64 t243)) (fun _ hk => hk.2) (.int .u64 t244)) (fun _ hk => ⟨hk.1.1.1.2, ⟨hk.1.1.2, hk.1.2⟩⟩)⟩
           have n1_ : Aside0 (((w88.setCell ⟨gb246, 0, none⟩ (.int .u64 t243)).setCell ⟨gb246, 1, none⟩ (.int .u64 t244)).heap[gb219]? = some (.cells #[.slice A1_0 l1_0.length c1_0, .slice A1_1 l1_1.length c1_1] 34 (0, 0))) := ⟨by (with_reducible repeat refine bl ?_); refine blk_far ?_ NB219_246.out _; (with_reducible repeat refine bl ?_); refine blk_far ?_ NB219_246.out _; (with_reducible repeat refine bl ?_); exact BK219.out⟩
           have n2_ : Aside0 (((w88.setCell ⟨gb246, 0, none⟩ (.int .u64 t243)).setCell ⟨gb246, 1, none⟩ (.int .u64 t244)).heap[gb220]? = some (.cells #[.int .u64 a2_0, .int .u64 a2_1, .int .u64 a2_2, .int .u64 a2_3] 35 (0, 0))) := ⟨by (with_reducible repeat refine bl ?_); refine blk_far ?_ NB220_246.out _; (with_reducible repeat refine bl ?_); refine blk_far ?_ NB220_246.out _; (with_reducible repeat refine bl ?_); exact BK220.out⟩
           have n3_ : Aside0 (((w88.setCell ⟨gb246, 0, none⟩ (.int .u64 t243)).setCell ⟨gb246, 1, none⟩ (.int .u64 t244)).heap[gb238]? = some (.cells #[.int .u64 t235, .int .u64 t236] 28 (0, 0))) := ⟨by (with_reducible repeat refine bl ?_); refine blk_far ?_ NB238_246.out _; (with_reducible repeat refine bl ?_); refine blk_far ?_ NB238_246.out _; (with_reducible repeat refine bl ?_); exact BK238.out⟩
           have n4_ : Aside0 (((w88.setCell ⟨gb246, 0, none⟩ (.int .u64 t243)).setCell ⟨gb246, 1, none⟩ (.int .u64 t244)).heap[gb242]? = some (.cells #[.int .u64 t239, .int .u64 t240] 28 (0, 0))) := ⟨by (with_reducible repeat refine bl ?_); refine blk_far ?_ NB242_246.out _; (with_reducible repeat refine bl ?_); refine blk_far ?_ NB242_246.out _; (with_reducible repeat refine bl ?_); exact BK242.out⟩
           have n5_ : Aside0 (((w88.setCell ⟨gb246, 0, none⟩ (.int .u64 t243)).setCell ⟨gb246, 1, none⟩ (.int .u64 t244)).heap[gb246]? = some (.cells #[.int .u64 t243, .int .u64 t244] 28 (0, 0))) := ⟨by (with_reducible repeat refine bl ?_); refine blk_put (cs := #[.int .u64 t243, .int .u64 0]) ?_ 1 _ rfl; (with_reducible repeat refine bl ?_); refine blk_put (cs := #[.int .u64 0, .int .u64 0]) ?_ 0 _ rfl; (with_reducible repeat refine bl ?_); exact BK246.out⟩
           have n6_ : Aside0 (Below w.heap.size w ((w88.setCell ⟨gb246, 0, none⟩ (.int .u64 t243)).setCell ⟨gb246, 1, none⟩ (.int .u64 t244))) := ⟨bq HB.out⟩
           (try clear HO_7)
           (try clear BK219)
           (try clear BK220)
           (try clear BK238)
           (try clear BK242)
           (try clear BK246)
           (try clear HB)
           generalize ((w88.setCell ⟨gb246, 0, none⟩ (.int .u64 t243)).setCell ⟨gb246, 1, none⟩ (.int .u64 t244)) = w94 at n0_ n1_ n2_ n3_ n4_ n5_ n6_ ⊢
           have HO_7 := n0_
           have BK219 := n1_
           have BK220 := n2_
           have BK238 := n3_
           have BK242 := n4_
           have BK246 := n5_
           have HB := n6_
           clear n0_ n1_ n2_ n3_ n4_ n5_ n6_
           replace HO_7 := Aside0.mk (Kd.R_drew HO_7.out)
           replace BK219 := Aside0.mk (blk_drew BK219.out)
           replace BK220 := Aside0.mk (blk_drew BK220.out)
           replace BK238 := Aside0.mk (blk_drew BK238.out)
           replace BK242 := Aside0.mk (blk_drew BK242.out)
           replace BK246 := Aside0.mk (blk_drew BK246.out)
           replace HB := Aside0.mk (below_drew1 HB.out)
           refine start_ (n := 25) (S := fun w' => w'.cell? ⟨gb246, 0, none⟩ = some (.int .u64 t243) ∧ w'.cell? ⟨gb246, 1, none⟩ = some (.int .u64 t244) ∧ w'.cell? ⟨gb238, 0, none⟩ = some (.int .u64 t235) ∧ w'.cell? ⟨gb238, 1, none⟩ = some (.int .u64 t236) ∧ w'.cell? ⟨gb220, 0, none⟩ = some (.int .u64 a2_0) ∧ w'.cell? ⟨gb220, 1, none⟩ = some (.int .u64 a2_1) ∧ w'.cell? ⟨gb220, 2, none⟩ = some (.int .u64 a2_2) ∧ w'.cell? ⟨gb220, 3, none⟩ = some (.int .u64 a2_3) ∧ w'.cell? ⟨gb242, 0, none⟩ = some (.int .u64 t239) ∧ w'.cell? ⟨gb242, 1, none⟩ = some (.int .u64 t240)) (ds := []) #[false, false, false, false, false, false, false, false, false, false, false, false, false, false, false, false, false, false, false, false, false, false, false, false, false] (by kernel_rfl) rfl rfl ⟨(blk_cell BK246.out 0).trans rfl, (blk_cell BK246.out 1).trans rfl, (blk_cell BK238.out 0).trans rfl, (blk_cell BK238.out 1).trans rfl, (blk_cell BK220.out 0).trans rfl, (blk_cell BK220.out 1).trans rfl, (blk_cell BK220.out 2).trans rfl, (blk_cell BK220.out 3).trans rfl, (blk_cell BK242.out 0).trans rfl, (blk_cell BK242.out 1).trans rfl⟩ (fun hHeld => ?_); refine with_tabW steeplelaw17_LineSums.tab11 steeplelaw17_LineSums.bits11 (fun HT_ HW_ => ?_)
           generalize w94.drew = w95 at HO_7 BK219 BK220 BK238 BK242 BK246 HB hHeld ⊢
           refine one_ (i := 0) (N := some 108) #[true, false, false, false, false, false, false, false, false, false, false, false, false, false, false, false, false, false, false, false, false, false, false, false, false] rfl rfl (one_of HT_.out (by kernel_rfl)) (by decide) (fun K hK => ?_)
           refine goes_ Try.func9 (by kernel_rfl) rfl #[] (by rfl) rfl rfl (by (try simp only [List.map_toArray, List.map_cons, List.map_nil]); first | done | rfl | (simp only [List.length_drop, List.length_take]; rfl)) ?_
           with_reducible refine (steeplelaw17_awake.calls k2  true _ A62.out).mono ?_
           rintro e w96 ⟨rfl, hb⟩
           refine ⟨_, rfl, ?_⟩
           replace HO_7 := kb HO_7 hb
           replace BK219 := bb BK219 hb
           replace BK220 := bb BK220 hb
           replace BK238 := bb BK238 hb
           replace BK242 := bb BK242 hb
           replace BK246 := bb BK246 hb
           replace HB := bh HB hb
           (try clear hb)
           (try clear hb2)
           (try clear hk)
           (try clear hi)
           refine hK.out _ _ ⟨(blk_cell BK246.out 0).trans rfl, (blk_cell BK246.out 1).trans rfl, (blk_cell BK238.out 0).trans rfl, (blk_cell BK238.out 1).trans rfl, (blk_cell BK220.out 0).trans rfl, (blk_cell BK220.out 1).trans rfl, (blk_cell BK220.out 2).trans rfl, (blk_cell BK220.out 3).trans rfl, (blk_cell BK242.out 0).trans rfl, (blk_cell BK242.out 1).trans rfl⟩ (fun hHeld => ?_)
           clear hK K
           refine norm_ (a' := ?_) ?_ ?_
           rotate_left
           ·show Act.put _ (some 108) _ = _
            simp only [Act.put, List.setIfInBounds_toArray, List.set_cons_zero, List.set_cons_succ, i64_w, i32_w]
            rfl
           refine pure_ (i := 1) (N := some 109) (v := ?_) (a' := ?_) #[true, true, false, false, false, false, false, false, false, false, false, false, false, false, false, false, false, false, false, false, false, false, false, false, false] rfl rfl (any_of HT_.out (by kernel_rfl)) (fun _ _ _ h => h) (Or.inl ⟨by rfl, ?_⟩) ?_ ?_
           rotate_left
           ·intro w'
            go_simp
            with_reducible rfl
           rotate_left
           ·simp only [Act.put, List.setIfInBounds_toArray, List.set_cons_zero, List.set_cons_succ, i64_w, i32_w]
            rfl
           refine pure_ (i := 2) (N := some 110) (v := ?_) (a' := ?_) #[true, true, true, false, false, false, false, false, false, false, false, false, false, false, false, false, false, false, false, false, false, false, false, false, false] rfl rfl (any_of HT_.out (by kernel_rfl)) (fun _ _ _ h => h) (Or.inl ⟨by rfl, ?_⟩) ?_ ?_
           rotate_left
           ·intro w'
            go_simp
            with_reducible rfl
           rotate_left
           ·simp only [Act.put, List.setIfInBounds_toArray, List.set_cons_zero, List.set_cons_succ, i64_w, i32_w]
            rfl
           refine pure_ (i := 3) (N := some 111) (v := ?_) (a' := ?_) #[true, true, true, true, false, false, false, false, false, false, false, false, false, false, false, false, false, false, false, false, false, false, false, false, false] rfl rfl (any_of HT_.out (by kernel_rfl)) (fun _ _ _ h => h) (Or.inl ⟨by rfl, ?_⟩) ?_ ?_
           rotate_left
           ·intro w'
            go_simp
            with_reducible rfl
           rotate_left
           ·simp only [Act.put, List.setIfInBounds_toArray, List.set_cons_zero, List.set_cons_succ, i64_w, i32_w]
            rfl
           refine pure_ (i := 4) (N := some 112) (v := ?_) (a' := ?_) #[true, true, true, true, true, false, false, false, false, false, false, false, false, false, false, false, false, false, false, false, false, false, false, false, false] rfl rfl (any_of HT_.out (by kernel_rfl)) (fun _ _ _ h => h) (Or.inl ⟨by rfl, ?_⟩) ?_ ?_
           rotate_left
           ·intro w'
            go_simp
            with_reducible rfl
           rotate_left
           ·simp only [Act.put, List.setIfInBounds_toArray, List.set_cons_zero, List.set_cons_succ, i64_w, i32_w]
            rfl
           refine pure_ (i := 5) (N := some 113) (v := ?_) (a' := ?_) #[true, true, true, true, true, true, false, false, false, false, false, false, false, false, false, false, false, false, false, false, false, false, false, false, false] rfl rfl (any_of HT_.out (by kernel_rfl)) (fun _ _ _ h => h) (Or.inl ⟨by rfl, ?_⟩) ?_ ?_
           rotate_left
           ·intro w'
            go_simp
            with_reducible rfl
           rotate_left
           ·simp only [Act.put, List.setIfInBounds_toArray, List.set_cons_zero, List.set_cons_succ, i64_w, i32_w]
            rfl
           refine pure_ (i := 6) (N := some 114) (v := ?_) (a' := ?_) #[true, true, true, true, true, true, true, false, false, false, false, false, false, false, false, false, false, false, false, false, false, false, false, false, false] rfl rfl (any_of HT_.out (by kernel_rfl)) (fun _ _ _ h => h) (Or.inl ⟨by rfl, ?_⟩) ?_ ?_
           rotate_left
           ·intro w'
            go_simp
            with_reducible rfl
           rotate_left
           ·simp only [Act.put, List.setIfInBounds_toArray, List.set_cons_zero, List.set_cons_succ, i64_w, i32_w]
            rfl
           refine pure_ (i := 7) (N := some 115) (v := ?_) (a' := ?_) #[true, true, true, true, true, true, true, true, false, false, false, false, false, false, false, false, false, false, false, false, false, false, false, false, false] rfl rfl (any_of HT_.out (by kernel_rfl)) (fun _ _ _ h => h) (Or.inl ⟨by rfl, ?_⟩) ?_ ?_
           rotate_left
           ·intro w'
            go_simp
            with_reducible rfl
           rotate_left
           ·simp only [Act.put, List.setIfInBounds_toArray, List.set_cons_zero, List.set_cons_succ, i64_w, i32_w]
            rfl
           refine pure_ (i := 8) (N := some 116) (v := ?_) (a' := ?_) #[true, true, true, true, true, true, true, true, true, false, false, false, false, false, false, false, false, false, false, false, false, false, false, false, false] rfl rfl (any_of HT_.out (by kernel_rfl)) (fun _ _ _ h => h) (Or.inl ⟨by rfl, ?_⟩) ?_ ?_
           rotate_left
           ·intro w'
            go_simp
            with_reducible rfl
           rotate_left
           ·simp only [Act.put, List.setIfInBounds_toArray, List.set_cons_zero, List.set_cons_succ, i64_w, i32_w]
            rfl
           refine pure_ (i := 9) (N := some 117) (v := ?_) (a' := ?_) #[true, true, true, true, true, true, true, true, true, true, false, false, false, false, false, false, false, false, false, false, false, false, false, false, false] rfl rfl (any_of HT_.out (by kernel_rfl)) (fun _ _ _ h => h) (Or.inl ⟨by rfl, ?_⟩) ?_ ?_
           rotate_left
           ·intro w'
            go_simp
            with_reducible rfl
           rotate_left
           ·simp only [Act.put, List.setIfInBounds_toArray, List.set_cons_zero, List.set_cons_succ, i64_w, i32_w]
            rfl
           refine pure_ (i := 10) (N := some 118) (v := ?_) (a' := ?_) #[true, true, true, true, true, true, true, true, true, true, true, false, false, false, false, false, false, false, false, false, false, false, false, false, false] rfl rfl (any_of HT_.out (by kernel_rfl)) (fun _ _ _ h => h) (Or.inl ⟨by rfl, ?_⟩) ?_ ?_
           rotate_left
           ·intro w'
            go_simp
            with_reducible rfl
           rotate_left
           ·simp only [Act.put, List.setIfInBounds_toArray, List.set_cons_zero, List.set_cons_succ, i64_w, i32_w]
            rfl
           refine pure_ (i := 11) (N := some 119) (v := ?_) (a' := ?_) #[true, true, true, true, true, true, true, true, true, true, true, true, false, false, false, false, false, false, false, false, false, false, false, false, false] rfl rfl (any_of HT_.out (by kernel_rfl)) (fun _ _ _ h => h) (Or.inl ⟨by rfl, ?_⟩) ?_ ?_
           rotate_left
           ·intro w'
            go_simp
            with_reducible rfl
           rotate_left
           ·simp only [Act.put, List.setIfInBounds_toArray, List.set_cons_zero, List.set_cons_succ, i64_w, i32_w]
            rfl
           refine pure_ (i := 12) (N := some 120) (v := ?_) (a' := ?_) #[true, true, true, true, true, true, true, true, true, true, true, true, true, false, false, false, false, false, false, false, false, false, false, false, false] rfl rfl (any_of HT_.out (by kernel_rfl)) (fun _ _ _ h => h) (Or.inl ⟨by rfl, ?_⟩) ?_ ?_
           rotate_left
           ·intro w'
            go_simp
            with_reducible rfl
           rotate_left
           ·simp only [Act.put, List.setIfInBounds_toArray, List.set_cons_zero, List.set_cons_succ, i64_w, i32_w]
            rfl
           refine pure_ (i := 13) (N := some 121) (v := ?_) (a' := ?_) #[true, true, true, true, true, true, true, true, true, true, true, true, true, true, false, false, false, false, false, false, false, false, false, false, false] rfl rfl (any_of HT_.out (by kernel_rfl)) (fun _ _ _ h => h) (Or.inl ⟨by rfl, ?_⟩) ?_ ?_
           rotate_left
           ·intro w'
            go_simp
            with_reducible rfl
           rotate_left
           ·simp only [Act.put, List.setIfInBounds_toArray, List.set_cons_zero, List.set_cons_succ, i64_w, i32_w]
            rfl
           refine pure_ (i := 16) (N := some 124) (v := ?_) (a' := ?_) #[true, true, true, true, true, true, true, true, true, true, true, true, true, true, false, false, true, false, false, false, false, false, false, false, false] rfl rfl (any_of HT_.out (by kernel_rfl)) (fun _ _ _ h => h) (Or.inl ⟨by rfl, ?_⟩) ?_ ?_
           rotate_left
           ·intro w'
            go_simp
            with_reducible rfl
           rotate_left
           ·simp only [Act.put, List.setIfInBounds_toArray, List.set_cons_zero, List.set_cons_succ, i64_w, i32_w]
            rfl
           refine pure_ (i := 17) (N := some 125) (v := ?_) (a' := ?_) #[true, true, true, true, true, true, true, true, true, true, true, true, true, true, false, false, true, true, false, false, false, false, false, false, false] rfl rfl (any_of HT_.out (by kernel_rfl)) (fun _ _ _ h => h) (Or.inl ⟨by rfl, ?_⟩) ?_ ?_
           rotate_left
           ·intro w'
            go_simp
            with_reducible rfl
           rotate_left
           ·simp only [Act.put, List.setIfInBounds_toArray, List.set_cons_zero, List.set_cons_succ, i64_w, i32_w]
            rfl
           refine take_ (i := 14) (N := some 122) (v := ?_) (a' := ?_) #[true, true, true, true, true, true, true, true, true, true, true, true, true, true, true, false, true, true, false, false, false, false, false, false, false] rfl rfl (take_ofW HT_.out HW_.out (by kernel_rfl)) (fun _ _ _ h => h) (Or.inl ⟨by rfl, ?_⟩) hHeld ?_ ?_
           rotate_left
           ·rintro w' ⟨s0, s1, s2, s3, s4, s5, s6, s7, s8, s9⟩
            go_simp
            with_reducible rfl
           rotate_left
           ·simp only [Act.put, List.setIfInBounds_toArray, List.set_cons_zero, List.set_cons_succ, i64_w, i32_w]
            rfl
           refine take_ (i := 15) (N := some 123) (v := ?_) (a' := ?_) #[true, true, true, true, true, true, true, true, true, true, true, true, true, true, true, true, true, true, false, false, false, false, false, false, false] rfl rfl (take_ofW HT_.out HW_.out (by kernel_rfl)) (fun _ _ _ h => h) (Or.inl ⟨by rfl, ?_⟩) hHeld ?_ ?_
           rotate_left
           ·rintro w' ⟨s0, s1, s2, s3, s4, s5, s6, s7, s8, s9⟩
            go_simp
            with_reducible rfl
           rotate_left
           ·simp only [Act.put, List.setIfInBounds_toArray, List.set_cons_zero, List.set_cons_succ, i64_w, i32_w]
            rfl
           refine take_ (i := 18) (N := some 126) (v := ?_) (a' := ?_) #[true, true, true, true, true, true, true, true, true, true, true, true, true, true, true, true, true, true, true, false, false, false, false, false, false] rfl rfl (take_ofW HT_.out HW_.out (by kernel_rfl)) (fun _ _ _ h => h) (Or.inl ⟨by rfl, ?_⟩) hHeld ?_ ?_
           rotate_left
           ·rintro w' ⟨s0, s1, s2, s3, s4, s5, s6, s7, s8, s9⟩
            go_simp
            with_reducible rfl
           rotate_left
           ·simp only [Act.put, List.setIfInBounds_toArray, List.set_cons_zero, List.set_cons_succ, i64_w, i32_w]
            rfl
           refine take_ (i := 19) (N := some 127) (v := ?_) (a' := ?_) #[true, true, true, true, true, true, true, true, true, true, true, true, true, true, true, true, true, true, true, true, false, false, false, false, false] rfl rfl (take_ofW HT_.out HW_.out (by kernel_rfl)) (fun _ _ _ h => h) (Or.inl ⟨by rfl, ?_⟩) hHeld ?_ ?_
           rotate_left
           ·rintro w' ⟨s0, s1, s2, s3, s4, s5, s6, s7, s8, s9⟩
            go_simp
            with_reducible rfl
           rotate_left
           ·simp only [Act.put, List.setIfInBounds_toArray, List.set_cons_zero, List.set_cons_succ, i64_w, i32_w]
            rfl
           refine one_ (i := 20) (N := some 128) #[true, true, true, true, true, true, true, true, true, true, true, true, true, true, true, true, true, true, true, true, true, false, false, false, false] rfl rfl (one_of HT_.out (by kernel_rfl)) (by decide) (fun K hK => ?_)
           refine goes_ Try.func13 (by kernel_rfl) rfl #[.int .i64 a0, .agg #[.int .u64 a2_0, .int .u64 a2_1], .agg #[.int .u64 t239, .int .u64 t240]] (by rfl) rfl rfl (by (try simp only [List.map_toArray, List.map_cons, List.map_nil]); first | done | rfl | (simp only [List.length_drop, List.length_take]; rfl)) ?_
           with_reducible refine (tower_Mul.calls k2 a0 a2_0 a2_1 t239 t240 t248 t249 _ A67.out).mono ?_
           rintro e w97 ⟨rfl, hb⟩
           refine ⟨_, rfl, ?_⟩
           replace HO_7 := kb HO_7 hb
           replace BK219 := bb BK219 hb
           replace BK220 := bb BK220 hb
           replace BK238 := bb BK238 hb
           replace BK242 := bb BK242 hb
           replace BK246 := bb BK246 hb
           replace HB := bh HB hb
           (try clear hb)
           (try clear hb2)
           (try clear hk)
           (try clear hi)
           refine hK.out _ _ ⟨(blk_cell BK246.out 0).trans rfl, (blk_cell BK246.out 1).trans rfl, (blk_cell BK238.out 0).trans rfl, (blk_cell BK238.out 1).trans rfl, (blk_cell BK220.out 0).trans rfl, (blk_cell BK220.out 1).trans rfl, (blk_cell BK220.out 2).trans rfl, (blk_cell BK220.out 3).trans rfl, (blk_cell BK242.out 0).trans rfl, (blk_cell BK242.out 1).trans rfl⟩ (fun hHeld => ?_)
           clear hK K
           refine norm_ (a' := ?_) ?_ ?_
           rotate_left
           ·show Act.put _ (some 128) _ = _
            simp only [Act.put, List.setIfInBounds_toArray, List.set_cons_zero, List.set_cons_succ, i64_w, i32_w]
            rfl
           refine one_ (i := 21) (N := some 129) #[true, true, true, true, true, true, true, true, true, true, true, true, true, true, true, true, true, true, true, true, true, true, false, false, false] rfl rfl (one_of HT_.out (by kernel_rfl)) (by decide) (fun K hK => ?_)
           refine goes_ Try.func12 (by kernel_rfl) rfl #[.agg #[.int .u64 t235, .int .u64 t236], .agg #[.int .u64 t248, .int .u64 t249]] (by rfl) rfl rfl (by (try simp only [List.map_toArray, List.map_cons, List.map_nil]); first | done | rfl | (simp only [List.length_drop, List.length_take]; rfl)) ?_
           with_reducible refine (tower_Add.calls t235 t236 t248 t249 t250 t251 _ A68.out).mono ?_
           rintro e w98 ⟨rfl, hb⟩
           refine ⟨_, rfl, ?_⟩
           replace HO_7 := kb HO_7 hb
           replace BK219 := bb BK219 hb
           replace BK220 := bb BK220 hb
           replace BK238 := bb BK238 hb
           replace BK242 := bb BK242 hb
           replace BK246 := bb BK246 hb
           replace HB := bh HB hb
           (try clear hb)
           (try clear hb2)
           (try clear hk)
           (try clear hi)
           refine hK.out _ _ ⟨(blk_cell BK246.out 0).trans rfl, (blk_cell BK246.out 1).trans rfl, (blk_cell BK238.out 0).trans rfl, (blk_cell BK238.out 1).trans rfl, (blk_cell BK220.out 0).trans rfl, (blk_cell BK220.out 1).trans rfl, (blk_cell BK220.out 2).trans rfl, (blk_cell BK220.out 3).trans rfl, (blk_cell BK242.out 0).trans rfl, (blk_cell BK242.out 1).trans rfl⟩ (fun hHeld => ?_)
           clear hK K
           refine norm_ (a' := ?_) ?_ ?_
           rotate_left
           ·show Act.put _ (some 129) _ = _
            simp only [Act.put, List.setIfInBounds_toArray, List.set_cons_zero, List.set_cons_succ, i64_w, i32_w]
            rfl
           refine pure_ (i := 22) (N := some 130) (v := ?_) (a' := ?_) #[true, true, true, true, true, true, true, true, true, true, true, true, true, true, true, true, true, true, true, true, true, true, true, false, false] rfl rfl (any_of HT_.out (by kernel_rfl)) (fun _ _ _ h => h) (Or.inl ⟨by rfl, ?_⟩) ?_ ?_
           rotate_left
           ·intro w'
            go_simp
            with_reducible rfl
           rotate_left
           ·simp only [Act.put, List.setIfInBounds_toArray, List.set_cons_zero, List.set_cons_succ, i64_w, i32_w]
            rfl
           refine pure_ (i := 23) (N := some 131) (v := ?_) (a' := ?_) #[true, true, true, true, true, true, true, true, true, true, true, true, true, true, true, true, true, true, true, true, true, true, true, true, false] rfl rfl (any_of HT_.out (by kernel_rfl)) (fun _ _ _ h => h) (Or.inl ⟨by rfl, ?_⟩) ?_ ?_
           rotate_left
           ·intro w'
            go_simp
            with_reducible rfl
           rotate_left
           ·simp only [Act.put, List.setIfInBounds_toArray, List.set_cons_zero, List.set_cons_succ, i64_w, i32_w]
            rfl
           refine pure_ (i := 24) (N := some 6) (v := ?_) (a' := ?_) #[true, true, true, true, true, true, true, true, true, true, true, true, true, true, true, true, true, true, true, true, true, true, true, true, true] rfl rfl (any_of HT_.out (by kernel_rfl)) (fun _ _ _ h => h) (Or.inl ⟨by rfl, ?_⟩) ?_ ?_
           rotate_left
           ·intro w'
            go_simp
            with_reducible rfl
           rotate_left
           ·simp only [Act.put, List.setIfInBounds_toArray, List.set_cons_zero, List.set_cons_succ, i64_w, i32_w]
            rfl
           refine done_ (done_of HT_.out (by kernel_rfl)) ?_
           try go_wp2
           go_ret
           exact ⟨by first | rfl | (simp [errW_none, errW_some] <;> rfl) | (simp [*, errW_none, errW_some] <;> rfl), bq HB.out⟩
          ·rw [if_neg c66] at H
           have c66b0 : (t245 == 0) = false := beq_eq_false_iff_ne.mpr c66
           have c66b1 : (t245 != 0) = true := bne_iff_ne.mpr c66
           exact absurd H (by simp)
         ·rw [if_neg c65] at H
          have c65b0 : (t241 == 0) = false := beq_eq_false_iff_ne.mpr c65
          have c65b1 : (t241 != 0) = true := bne_iff_ne.mpr c65
          exact absurd H (by simp)
        ·rw [if_neg c64] at H
         have c64b0 : (t237 == 0) = false := beq_eq_false_iff_ne.mpr c64
         have c64b1 : (t237 != 0) = true := bne_iff_ne.mpr c64
         exact absurd H (by simp)
       ·replace c63 := Bool.eq_false_iff.mpr c63
        subst c63
        have H1 : (none) = some r := by rw [if_neg (show ¬ (false = true) by decide)] at H; exact H
        clear H
        have H := H1
        clear H1
        exact absurd H (by simp)

/-- THE ONE PURE STATEMENT of steeplelaw17_LineSums. -/
def steeplelaw17_LineSums.Pure : Prop := ∀ (x0 : Int) (x1 : S34) (x2 : S35), (Lit.int .i64 x0).wf = true → ((x1.f0.length ≤ maxLen ∧ x1.f0.length * 16 ≤ 140737488351232 ∧ ∀ y0 ∈ x1.f0, ((Lit.int .u64 y0.f0).wf = true ∧ (Lit.int .u64 y0.f1).wf = true)) ∧ (x1.f1.length ≤ maxLen ∧ x1.f1.length * 16 ≤ 140737488351232 ∧ ∀ y0 ∈ x1.f1, ((Lit.int .u64 y0.f0).wf = true ∧ (Lit.int .u64 y0.f1).wf = true))) → (((Lit.int .u64 x2.f0.f0).wf = true ∧ (Lit.int .u64 x2.f0.f1).wf = true) ∧ ((Lit.int .u64 x2.f1.f0).wf = true ∧ (Lit.int .u64 x2.f1.f1).wf = true)) → ∃ k, steeplelaw17_LineSums.f k x0 x1.f0 x1.f1 x2.f0.f0 x2.f0.f1 x2.f1.f0 x2.f1.f1 = some true

end Go.Proofs.Ythnaalocgoeddaa.P
