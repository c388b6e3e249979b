/- Written by a program of this session: functions that the law reaches, as Lean functions, and that the code comes to their answers. Conditions: those that each theorem names. -/
import Derived.Test.YtlegcabfgkccmaaPx0
import Derived.Test.YtlegcabfgkccmaaPx2
import Derived.Test.YtlegcabfgkccmaaPx6
import Derived.Test.YtlegcabfgkccmaaPx7
import Derived.Test.YtlegcabfgkccmaaPx8
import Derived.Test.YtlegcabfgkccmaaPx12
import Derived.Test.YtlegcabfgkccmaaPx13
namespace Go.Proofs.Ytlegcabfgkccmaa.P
open Go.RowKit Go.Proofs.YtlegcabfgkccmaaX Go.Proofs.YtlegcabfgkccmaaW.PrintWords Go.Proofs.YtlegcabfgkccmaaW.PrintLast Go.Proofs.YtlegcabfgkccmaaW.PrintMore
attribute [local go_sem] max2_int min2_int max_two min_two max_three min_three max_four min_four   -- for this text's walks alone
set_option linter.unusedVariables false
set_option linter.unusedSimpArgs false

attribute [local go_sem high] eqA37
/-! ### steeplelaw33_FrobDual: function 9 -/
mutual
def steeplelaw33_FrobDual.j0 : Nat → Int → Bool → Int → Int → Option (Bool)
 | 0, _, _, _, _ => none
 | k + 1, x0, x14, x346000, x346001 => if x14 = true then ((steeplelaw33_awake.f k).bind fun t346 => (some t346)) else ((frob_Dual.f k x0).bind fun t347 => (if x0 < 0 then (steeplelaw33_FrobDual.j1 k x0 t347 true x346000 x346001) else (steeplelaw33_FrobDual.j1 k x0 t347 (decide (x0 > 7)) x346000 x346001)))
def steeplelaw33_FrobDual.j1 : Nat → Int → List (S24) → Bool → Int → Int → Option (Bool)
 | 0, _, _, _, _, _ => none
 | k + 1, x0, x5, x23, x346000, x346001 => if x23 = true then ((steeplelaw33_awake.f k).bind fun t350 => (if t350 = true then (some ((x5.length : Int) == 0)) else (none))) else ((steeplelaw33_of.f x0 x346000 x346001).bind fun bt351 => ((steepleref15_Two.f k x0).bind fun t354 => (if (x5.length : Int) = t354 then (steeplelaw33_FrobDual.l0 k x0 x5 0 bt351.1 bt351.2) else (none))))
def steeplelaw33_FrobDual.l0 : Nat → Int → List (S24) → Int → Int → Int → Option (Bool)
 | 0, _, _, _, _, _ => none
 | k + 1, x0, x5, x7, x354000, x354001 => if x7 < (x5.length : Int) then (if 0 ≤ x7 then ((steepleref02_Product.f k x354000 x354001 ((rd_T24 x5 x7).f0) ((rd_T24 x5 x7).f1)).bind fun bt357 => ((steepleref33_Trace.f k x0 0 bt357.1 bt357.2).bind fun bt359 => ((steepleref02_Has.f k x354000 x354001 x7).bind fun t362 => (if ((bt359.1 == 0 && (bt359.2 == 1)) != t362) = true then (none) else (steeplelaw33_FrobDual.l0 k x0 x5 (wrap64 (x7 + 1)) x354000 x354001))))) else (none)) else ((steeplelaw33_awake.f k).bind fun t355 => (some t355))
end
def steeplelaw33_FrobDual.f (k : Nat) (a0 : Int) (a1_0 : Int) (a1_1 : Int) : Option (Bool) := if a0 > 5 then (steeplelaw33_FrobDual.j0 k a0 (decide (a0 ≤ 7)) a1_0 a1_1) else (steeplelaw33_FrobDual.j0 k a0 false a1_0 a1_1)
theorem steeplelaw33_FrobDual.mono_l : ∀ k, (∀ y0 y1 y2 y3, LeO (steeplelaw33_FrobDual.j0 k y0 y1 y2 y3) (steeplelaw33_FrobDual.j0 (k + 1) y0 y1 y2 y3)) ∧ (∀ y0 y1 y2 y3 y4, LeO (steeplelaw33_FrobDual.j1 k y0 y1 y2 y3 y4) (steeplelaw33_FrobDual.j1 (k + 1) y0 y1 y2 y3 y4)) ∧ (∀ y0 y1 y2 y3 y4, LeO (steeplelaw33_FrobDual.l0 k y0 y1 y2 y3 y4) (steeplelaw33_FrobDual.l0 (k + 1) y0 y1 y2 y3 y4))
 | 0 => ⟨fun _ _ _ _ r h => by simp [steeplelaw33_FrobDual.j0] at h, fun _ _ _ _ _ r h => by simp [steeplelaw33_FrobDual.j1] at h, fun _ _ _ _ _ r h => by simp [steeplelaw33_FrobDual.l0] at h⟩
 | k + 1 => by
  obtain ⟨ih0, ih1, ih2⟩ := steeplelaw33_FrobDual.mono_l k
  refine ⟨?_, ?_, ?_⟩
  ·intro y0 y1 y2 y3
   unfold steeplelaw33_FrobDual.j0
   repeat' first
   | (with_reducible exact ih0 _ _ _ _)
   | (with_reducible exact ih1 _ _ _ _ _)
   | (with_reducible exact ih2 _ _ _ _ _)
   | (with_reducible exact frob_Dual.mono _ _)
   | (with_reducible exact steeplelaw33_awake.mono _)
   | (with_reducible exact steepleref02_Has.mono _ _ _ _)
   | (with_reducible exact steepleref02_Product.mono _ _ _ _ _)
   | (with_reducible exact steepleref15_Two.mono _ _)
   | (with_reducible exact steepleref33_Trace.mono _ _ _ _ _)
   | (with_reducible exact LeO.refl _)
   | (with_reducible exact LeO.none _)
   | (with_reducible refine LeO.ite ?_ ?_)
   | (with_reducible refine LeO.bind ?_ (fun _ => ?_))
   | exact ih0 _ _ _ _
   | exact ih1 _ _ _ _ _
   | exact ih2 _ _ _ _ _
   | exact frob_Dual.mono _ _
   | exact steeplelaw33_awake.mono _
   | exact steepleref02_Has.mono _ _ _ _
   | exact steepleref02_Product.mono _ _ _ _ _
   | exact steepleref15_Two.mono _ _
   | exact steepleref33_Trace.mono _ _ _ _ _
   | exact LeO.none _
   | refine LeO.ite ?_ ?_
   | refine LeO.bind ?_ (fun _ => ?_)
  ·intro y0 y1 y2 y3 y4
   unfold steeplelaw33_FrobDual.j1
   repeat' first
   | (with_reducible exact ih0 _ _ _ _)
   | (with_reducible exact ih1 _ _ _ _ _)
   | (with_reducible exact ih2 _ _ _ _ _)
   | (with_reducible exact frob_Dual.mono _ _)
   | (with_reducible exact steeplelaw33_awake.mono _)
   | (with_reducible exact steepleref02_Has.mono _ _ _ _)
   | (with_reducible exact steepleref02_Product.mono _ _ _ _ _)
   | (with_reducible exact steepleref15_Two.mono _ _)
   | (with_reducible exact steepleref33_Trace.mono _ _ _ _ _)
   | (with_reducible exact LeO.refl _)
   | (with_reducible exact LeO.none _)
   | (with_reducible refine LeO.ite ?_ ?_)
   | (with_reducible refine LeO.bind ?_ (fun _ => ?_))
   | exact ih0 _ _ _ _
   | exact ih1 _ _ _ _ _
   | exact ih2 _ _ _ _ _
   | exact frob_Dual.mono _ _
   | exact steeplelaw33_awake.mono _
   | exact steepleref02_Has.mono _ _ _ _
   | exact steepleref02_Product.mono _ _ _ _ _
   | exact steepleref15_Two.mono _ _
   | exact steepleref33_Trace.mono _ _ _ _ _
   | exact LeO.none _
   | refine LeO.ite ?_ ?_
   | refine LeO.bind ?_ (fun _ => ?_)
  ·intro y0 y1 y2 y3 y4
   unfold steeplelaw33_FrobDual.l0
   repeat' first
   | (with_reducible exact ih0 _ _ _ _)
   | (with_reducible exact ih1 _ _ _ _ _)
   | (with_reducible exact ih2 _ _ _ _ _)
   | (with_reducible exact frob_Dual.mono _ _)
   | (with_reducible exact steeplelaw33_awake.mono _)
   | (with_reducible exact steepleref02_Has.mono _ _ _ _)
   | (with_reducible exact steepleref02_Product.mono _ _ _ _ _)
   | (with_reducible exact steepleref15_Two.mono _ _)
   | (with_reducible exact steepleref33_Trace.mono _ _ _ _ _)
   | (with_reducible exact LeO.refl _)
   | (with_reducible exact LeO.none _)
   | (with_reducible refine LeO.ite ?_ ?_)
   | (with_reducible refine LeO.bind ?_ (fun _ => ?_))
   | exact ih0 _ _ _ _
   | exact ih1 _ _ _ _ _
   | exact ih2 _ _ _ _ _
   | exact frob_Dual.mono _ _
   | exact steeplelaw33_awake.mono _
   | exact steepleref02_Has.mono _ _ _ _
   | exact steepleref02_Product.mono _ _ _ _ _
   | exact steepleref15_Two.mono _ _
   | exact steepleref33_Trace.mono _ _ _ _ _
   | exact LeO.none _
   | refine LeO.ite ?_ ?_
   | refine LeO.bind ?_ (fun _ => ?_)
theorem steeplelaw33_FrobDual.mono : ∀ a0 a1 a2 k, LeO (steeplelaw33_FrobDual.f k a0 a1 a2) (steeplelaw33_FrobDual.f (k + 1) a0 a1 a2) := by
 intro a0 a1 a2 k
 obtain ⟨ih0, ih1, ih2⟩ := steeplelaw33_FrobDual.mono_l k
 unfold steeplelaw33_FrobDual.f
 repeat' first
   | (with_reducible exact ih0 _ _ _ _)
   | (with_reducible exact ih1 _ _ _ _ _)
   | (with_reducible exact ih2 _ _ _ _ _)
   | (with_reducible exact frob_Dual.mono _ _)
   | (with_reducible exact steeplelaw33_awake.mono _)
   | (with_reducible exact steepleref02_Has.mono _ _ _ _)
   | (with_reducible exact steepleref02_Product.mono _ _ _ _ _)
   | (with_reducible exact steepleref15_Two.mono _ _)
   | (with_reducible exact steepleref33_Trace.mono _ _ _ _ _)
   | (with_reducible exact LeO.refl _)
   | (with_reducible exact LeO.none _)
   | (with_reducible refine LeO.ite ?_ ?_)
   | (with_reducible refine LeO.bind ?_ (fun _ => ?_))
   | exact ih0 _ _ _ _
   | exact ih1 _ _ _ _ _
   | exact ih2 _ _ _ _ _
   | exact frob_Dual.mono _ _
   | exact steeplelaw33_awake.mono _
   | exact steepleref02_Has.mono _ _ _ _
   | exact steepleref02_Product.mono _ _ _ _ _
   | exact steepleref15_Two.mono _ _
   | exact steepleref33_Trace.mono _ _ _ _ _
   | exact LeO.none _
   | refine LeO.ite ?_ ?_
   | refine LeO.bind ?_ (fun _ => ?_)
def steeplelaw33_FrobDual.T12 : Bool × List (List Nat × List Nat) := (true, [([], []), ([], []), ([], []), ([], []), ([2, 3], [2, 3]), ([4], [4]), ([1, 5], [1, 5]), ([0, 6, 6], [0, 6]), ([], []), ([8, 7, 7, 0, 1, 2, 3, 4, 5, 6, 7, 8], [7, 8])])
def steeplelaw33_FrobDual.B12 : List Nat := [0, 0, 0, 0, 12, 28, 62, 127, 0, 511]
theorem steeplelaw33_FrobDual.tab12 : rtab .any (opsOf Try.f9 12) = steeplelaw33_FrobDual.T12 := by kernel_rfl
theorem steeplelaw33_FrobDual.bits12 : waitsOk steeplelaw33_FrobDual.T12.2 steeplelaw33_FrobDual.B12 = true := by kernel_rfl
set_option maxHeartbeats 8000000 in
set_option maxRecDepth 100000 in
theorem steeplelaw33_FrobDual.calls (k : Nat) (a0 : Int) (a1_0 : Int) (a1_1 : Int) (r : Bool) (w : World) (h : steeplelaw33_FrobDual.f k a0 a1_0 a1_1 = some r) :
  Calls Try.prog 9 #[.int .i64 a0, .agg #[.int .u64 a1_0, .int .u64 a1_1]] w fun e w' => e = .returned (.bool r) ∧ Below w.heap.size w w' := by
 have hu24 := Try.underlying24
 have hu37 := Try.underlying37
 have HB := Aside0.mk (Below.refl w.heap.size w)
 have H : (if a0 > 5 then (steeplelaw33_FrobDual.j0 k a0 (decide (a0 ≤ 7)) a1_0 a1_1) else (steeplelaw33_FrobDual.j0 k a0 false a1_0 a1_1)) = some r := h
 clear h
 have HC3 := Aside0.mk H
 clear H
 go_enter Try.func9, Try.ntmps9
 go_upto_region 1 with (first | ((with_reducible refine gate_dst (N := 3) rfl ?_); (try (refine gate_guard (by rfl) ?_; dsimp only)); refine box_event ?hg (N := 3) ?hd (cs := #[.int .u64 a1_0, .int .u64 a1_1]) (t := 24) ?hr ?_; (case hd => rfl); (case hg => rfl); (case hr => first | (go_simp; done) | (go_simp; rfl)); intro gb345 hg w4 hbox hb; have BK345 := Aside0.mk hbox; have GW345 := ge hg HB; have GE345 := ge hg HB; replace HB := bh HB hb; clear hb hbox hg))
 (try simp only [Act.put, List.setIfInBounds_toArray, List.set_cons_zero, List.set_cons_succ])
 go_cut [14] (fun v14 wc => ∃ (kq : Nat) (x14_2 : Bool), v14 = .bool x14_2 ∧ Aside0 (steeplelaw33_FrobDual.j0 kq a0 x14_2 a1_0 a1_1 = some r) ∧ Aside0 (kq ≤ k) ∧ Aside0 (wc.heap[gb345]? = some (.cells #[.int .u64 a1_0, .int .u64 a1_1] 24 (0, 0))) ∧ Aside0 (Below w.heap.size w wc))
 case first =>
  have H := HC3.out
  clear HC3
  by_cases c5 : a0 > 5
  ·rw [if_pos c5] at H
   have c5b0 : decide (5 < a0) = true := decide_eq_true c5
   clear c5
   (first | rw [c5b0] | (simp only [i64_w, i32_w]; rw [c5b0]) | skip)
   have H' := Aside0.mk H
   clear H
   go_wp2
   go_meet
   case rel => exact ⟨_, (decide (a0 ≤ 7)), (by first | rfl | (simp; done) | (simp [*]; done)), H', ⟨by first | omega | exact Nat.le_refl _⟩, ⟨bk BK345.out⟩, ⟨bq HB.out⟩⟩
  ·rw [if_neg c5] at H
   have c5b0 : decide (5 < a0) = false := decide_eq_false c5
   clear c5
   (first | rw [c5b0] | (simp only [i64_w, i32_w]; rw [c5b0]) | skip)
   have H' := Aside0.mk H
   clear H
   go_wp2
   go_meet
   case rel => exact ⟨_, (false), (by first | rfl | (simp; done) | (simp [*]; done)), H', ⟨by first | omega | exact Nat.le_refl _⟩, ⟨bk BK345.out⟩, ⟨bq HB.out⟩⟩
 case rest =>
  clear HC3
  try clear p2
  try clear c5
  try clear c5b0
  obtain ⟨kq, x14_2, rfl, HA, HJ2, BK345, HB⟩ := hcut
  cases kq with
  | zero => exact absurd HA.out (by simp [steeplelaw33_FrobDual.j0])
  | succ kj2 =>
   have H := HA.out
   clear HA
   simp only [steeplelaw33_FrobDual.j0] at H
   by_cases c6 : x14_2 = true
   ·subst c6
    have H1 : ((steeplelaw33_awake.f kj2).bind fun t346 => (some t346)) = some r := by rw [if_pos rfl] at H; exact H
    clear H
    have H := H1
    clear H1
    replace H := Option.bind_eq_some_iff.mp H
    obtain ⟨t346, A70, H⟩ := H
    replace H : (some t346) = some r := H
    have A7 := Aside0.mk A70
    clear A70
    obtain rfl := Option.some.inj H
    go_wp2_with (first | ((with_reducible refine gate_callee (f := 14) rfl ?_); refine goesL_ (some 15) rfl rfl Try.func14 (by kernel_rfl) rfl #[] rfl (by (try simp only [List.map_toArray, List.map_cons, List.map_nil]); first | done | rfl | (simp only [List.length_drop, List.length_take]; rfl)) ?_; (with_reducible refine (steeplelaw33_awake.calls kj2  t346 _ A7.out).mono ?_); rintro e w8 ⟨rfl, hb⟩; refine ⟨_, rfl, ?_⟩; replace BK345 := bb BK345 hb; replace HB := bh HB hb; (try clear hb); (try clear hb2); (try clear hk); (try clear hi)))
    go_ret
    exact ⟨by first | rfl | (simp [errW_none, errW_some] <;> rfl) | (simp [*, errW_none, errW_some] <;> rfl), bq HB.out⟩
   ·replace c6 := Bool.eq_false_iff.mpr c6
    subst c6
    have H1 : ((frob_Dual.f kj2 a0).bind fun t347 => (if a0 < 0 then (steeplelaw33_FrobDual.j1 kj2 a0 t347 true a1_0 a1_1) else (steeplelaw33_FrobDual.j1 kj2 a0 t347 (decide (a0 > 7)) a1_0 a1_1))) = some r := by rw [if_neg (show ¬ (false = true) by decide)] at H; exact H
    clear H
    have H := H1
    clear H1
    replace H := Option.bind_eq_some_iff.mp H
    obtain ⟨t347, A90, H⟩ := H
    replace H : (if a0 < 0 then (steeplelaw33_FrobDual.j1 kj2 a0 t347 true a1_0 a1_1) else (steeplelaw33_FrobDual.j1 kj2 a0 t347 (decide (a0 > 7)) a1_0 a1_1)) = some r := H
    have A9 := Aside0.mk A90
    clear A90
    have HC10 := Aside0.mk H
    clear H
    go_upto_region 4 with (first | ((with_reducible refine gate_callee (f := 34) rfl ?_); refine goesL_ (some 17) rfl rfl Try.func34 (by kernel_rfl) rfl #[.int .i64 a0] rfl (by (try simp only [List.map_toArray, List.map_cons, List.map_nil]); first | done | rfl | (simp only [List.length_drop, List.length_take]; rfl)) ?_; (with_reducible refine (frob_Dual.calls kj2 a0 t347 _ A9.out).mono ?_); rintro e w11 ⟨v348, rfl, ho0, hb⟩; refine ⟨_, rfl, ?_⟩; have HO349 := Aside0.mk (Kd.R_lower (Kd.R_newB ho0 (g := gb345) (o := .cells #[.int .u64 a1_0, .int .u64 a1_1] 24 (0, 0)) (bk BK345.out)) (below_size (bq HB.out))); replace BK345 := bb BK345 hb; replace HB := bh HB hb; (try clear hb); (try clear hb2); (try clear hk); (try clear hi); (try clear ho0)))
    (try simp only [Act.put, List.setIfInBounds_toArray, List.set_cons_zero, List.set_cons_succ])
    go_cut [23] (fun v23 wc => ∃ (kq : Nat) (x23_9 : Bool), v23 = .bool x23_9 ∧ Aside0 (steeplelaw33_FrobDual.j1 kq a0 t347 x23_9 a1_0 a1_1 = some r) ∧ Aside0 (kq ≤ kj2) ∧ Aside0 (Kd.R k24 24 wc w.heap.size (fun k_ => k_ ≠ gb345) v348 t347) ∧ Aside0 (wc.heap[gb345]? = some (.cells #[.int .u64 a1_0, .int .u64 a1_1] 24 (0, 0))) ∧ Aside0 (Below w.heap.size w wc))
    case first =>
     have H := HC10.out
     clear HC10
     by_cases c12 : a0 < 0
     ·rw [if_pos c12] at H
      have c12b0 : decide (a0 < 0) = true := decide_eq_true c12
      clear c12
      (first | rw [c12b0] | (simp only [i64_w, i32_w]; rw [c12b0]) | skip)
      have H' := Aside0.mk H
      clear H
      go_wp2
      go_meet
      case rel => exact ⟨_, (true), (by first | rfl | (simp; done) | (simp [*]; done)), H', ⟨by have := HJ2.out; first | omega | exact Nat.le_refl _⟩, ⟨by (with_reducible repeat refine kl ?_); exact Kd.R_mono HO349.out (fun _ hk => hk.2)⟩, ⟨bk BK345.out⟩, ⟨bq HB.out⟩⟩
     ·rw [if_neg c12] at H
      have c12b0 : decide (a0 < 0) = false := decide_eq_false c12
      clear c12
      (first | rw [c12b0] | (simp only [i64_w, i32_w]; rw [c12b0]) | skip)
      have H' := Aside0.mk H
      clear H
      go_wp2
      go_meet
      case rel => exact ⟨_, (decide (a0 > 7)), (by first | rfl | (simp; done) | (simp [*]; done)), H', ⟨by have := HJ2.out; first | omega | exact Nat.le_refl _⟩, ⟨by (with_reducible repeat refine kl ?_); exact Kd.R_mono HO349.out (fun _ hk => hk.2)⟩, ⟨bk BK345.out⟩, ⟨bq HB.out⟩⟩
    case rest =>
     clear HC10
     try clear c1
     try clear p2
     try clear c3
     try clear c5
     try clear c5b0
     try clear c6
     try clear c9
     try clear c12
     try clear c12b0
     try clear p2
     obtain ⟨kq, x23_9, rfl, HA, HJ9, HO_5, BK345, HB⟩ := hcut
     cases kq with
     | zero => exact absurd HA.out (by simp [steeplelaw33_FrobDual.j1])
     | succ kj9 =>
      have H := HA.out
      clear HA
      simp only [steeplelaw33_FrobDual.j1] at H
      by_cases c13 : x23_9 = true
      ·subst c13
       have H1 : ((steeplelaw33_awake.f kj9).bind fun t350 => (if t350 = true then (some ((t347.length : Int) == 0)) else (none))) = some r := by rw [if_pos rfl] at H; exact H
       clear H
       have H := H1
       clear H1
       replace H := Option.bind_eq_some_iff.mp H
       obtain ⟨t350, A140, H⟩ := H
       replace H : (if t350 = true then (some ((t347.length : Int) == 0)) else (none)) = some r := H
       have A14 := Aside0.mk A140
       clear A140
       by_cases c15 : t350 = true
       ·subst c15
        have H1 : (some ((t347.length : Int) == 0)) = some r := by rw [if_pos rfl] at H; exact H
        clear H
        have H := H1
        clear H1
        obtain rfl := Option.some.inj H
        go_wp2_with (first | ((with_reducible refine gate_callee (f := 14) rfl ?_); refine goesL_ (some 24) rfl rfl Try.func14 (by kernel_rfl) rfl #[] rfl (by (try simp only [List.map_toArray, List.map_cons, List.map_nil]); first | done | rfl | (simp only [List.length_drop, List.length_take]; rfl)) ?_; (with_reducible refine (steeplelaw33_awake.calls kj9  true _ A14.out).mono ?_); rintro e w16 ⟨rfl, hb⟩; refine ⟨_, rfl, ?_⟩; replace HO_5 := kb HO_5 hb; replace BK345 := bb BK345 hb; replace HB := bh HB hb; (try clear hb); (try clear hb2); (try clear hk); (try clear hi); obtain ⟨Ao17, co17, eo17⟩ := Kd.R_slice HO_5.out; subst eo17))
        go_ret
        exact ⟨by first | rfl | (simp [errW_none, errW_some] <;> rfl) | (simp [*, errW_none, errW_some] <;> rfl), bq HB.out⟩
       ·replace c15 := Bool.eq_false_iff.mpr c15
        subst c15
        have H1 : (none) = some r := by rw [if_neg (show ¬ (false = true) by decide)] at H; exact H
        clear H
        have H := H1
        clear H1
        exact absurd H (by simp)
      ·replace c13 := Bool.eq_false_iff.mpr c13
       subst c13
       have H1 : ((steeplelaw33_of.f a0 a1_0 a1_1).bind fun bt351 => ((steepleref15_Two.f kj9 a0).bind fun t354 => (if (t347.length : Int) = t354 then (steeplelaw33_FrobDual.l0 kj9 a0 t347 0 bt351.1 bt351.2) else (none)))) = some r := by rw [if_neg (show ¬ (false = true) by decide)] at H; exact H
       clear H
       have H := H1
       clear H1
       replace H := Option.bind_eq_some_iff.mp H
       obtain ⟨⟨t351, t352⟩, A180, H⟩ := H
       replace H : ((steepleref15_Two.f kj9 a0).bind fun t354 => (if (t347.length : Int) = t354 then (steeplelaw33_FrobDual.l0 kj9 a0 t347 0 t351 t352) else (none))) = some r := H
       have A18 := Aside0.mk A180
       clear A180
       replace H := Option.bind_eq_some_iff.mp H
       obtain ⟨t354, A190, H⟩ := H
       replace H : (if (t347.length : Int) = t354 then (steeplelaw33_FrobDual.l0 kj9 a0 t347 0 t351 t352) else (none)) = some r := H
       have A19 := Aside0.mk A190
       clear A190
       by_cases c20 : (t347.length : Int) = t354
       ·rw [if_pos c20] at H
        have c20b0 : ((t347.length : Int) == t354) = true := beq_iff_eq.mpr c20
        have c20b1 : ((t347.length : Int) != t354) = false := bne_eq_false_iff_eq.mpr c20
        clear c20
        have H' := Aside0.mk H
        clear H
        obtain ⟨hcz21_0, hcz21_1⟩ := zc2 BK345
        obtain ⟨hfz21_0, hfz21_1⟩ := zf2 BK345
        go_wp2_with (first | ((with_reducible refine gate_callee (f := 10) rfl ?_); refine goesL_ (some 32) rfl rfl Try.func10 (by kernel_rfl) rfl #[.int .i64 a0, .agg #[.int .u64 a1_0, .int .u64 a1_1]] rfl (by (try simp only [List.map_toArray, List.map_cons, List.map_nil]); first | done | rfl | (simp only [List.length_drop, List.length_take]; rfl)) ?_; (with_reducible refine (steeplelaw33_of.calls a0 a1_0 a1_1 t351 t352 _ A18.out).mono ?_); rintro e w22 ⟨rfl, hb⟩; refine ⟨_, rfl, ?_⟩; replace HO_5 := kb HO_5 hb; replace BK345 := bb BK345 hb; replace HB := bh HB hb; (try clear hb); (try clear hb2); (try clear hk); (try clear hi)) | ((with_reducible refine gate_dst (N := 6) rfl ?_); (try (refine gate_guard (by rfl) ?_; dsimp only)); refine box_event ?hg (N := 6) ?hd (cs := #[.int .u64 0, .int .u64 0]) (t := 24) ?hr ?_; (case hd => rfl); (case hg => rfl); (case hr => first | (go_simp; done) | (go_simp; rfl)); intro gb353 hg w23 hbox hb; have BK353 := Aside0.mk hbox; have GW353 := ge hg HB; have GE353 := ge hg HB; have NB345_353 := nl hg BK345; have NB353_345 := ng hg BK345; replace HO_5 := Aside0.mk (Kd.R_below (Kd.R_elderB (kr HO_5.out) gb353 (Nat.le_of_eq hg.symm)) hb); replace BK345 := bb BK345 hb; replace HB := bh HB hb; clear hb hbox hg; have hnb24 := NB353_345.out; have hnc24 := NB345_353.out; obtain ⟨hcz25_0, hcz25_1⟩ := zc2 BK353; obtain ⟨hfz25_0, hfz25_1⟩ := zf2 BK353; obtain ⟨Ao26, co26, eo26⟩ := Kd.R_slice HO_5.out; subst eo26) | ((with_reducible refine gate_callee (f := 19) rfl ?_); refine goesL_ (some 36) rfl rfl Try.func19 (by kernel_rfl) rfl #[.int .i64 a0] rfl (by (try simp only [List.map_toArray, List.map_cons, List.map_nil]); first | done | rfl | (simp only [List.length_drop, List.length_take]; rfl)) ?_; (with_reducible refine (steepleref15_Two.calls kj9 a0 t354 _ A19.out).mono ?_); rintro e w' ⟨rfl, ⟨nd, rfl⟩⟩; refine ⟨_, rfl, ?_⟩))
        go_loopg [7] kj9 (fun kq v7 w' => ∃ (x7_3 : Int), v7 = .int .i64 x7_3 ∧ Aside0 (steeplelaw33_FrobDual.l0 kq a0 t347 x7_3 t351 t352 = some r) ∧ Aside0 (kq ≤ kj9) ∧ Aside0 (Kd.R k24 24 w' w.heap.size (fun k_ => k_ ≠ gb345 ∧ k_ ≠ gb353) (.slice Ao26 t347.length co26) t347) ∧ Aside0 (w'.heap[gb345]? = some (.cells #[.int .u64 a1_0, .int .u64 a1_1] 24 (0, 0))) ∧ Aside0 (w'.heap[gb353]? = some (.cells #[.int .u64 t351, .int .u64 t352] 24 (0, 0))) ∧ Aside0 (Below w.heap.size w w'))
        case atStart => exact ⟨(0), (by first | rfl | (simp; done) | (simp [*]; done)), H', ⟨Nat.le_refl _⟩, ⟨by (with_reducible repeat refine kl ?_); exact Kd.R_mono (Kd.R_far (p := ⟨gb353, 1, none⟩) (Kd.R_far (p := ⟨gb353, 0, none⟩) (Kd.R_mono HO_5.out (fun k_ hk => (⟨hk, hk.2⟩ : _ ∧ k_ ≠ gb353))) (fun _ hk => hk.2) (.int .u64 t351)) (fun _ hk => hk.2) (.int .u64 t352)) (fun _ hk => ⟨hk.1.1, hk.1.2⟩)⟩, ⟨by (with_reducible repeat refine bl ?_); refine blk_far ?_ NB345_353.out _; (with_reducible repeat refine bl ?_); refine blk_far ?_ NB345_353.out _; (with_reducible repeat refine bl ?_); exact BK345.out⟩, ⟨by (with_reducible repeat refine bl ?_); refine blk_put (cs := #[.int .u64 t351, .int .u64 0]) ?_ 1 _ rfl; (with_reducible repeat refine bl ?_); refine blk_put (cs := #[.int .u64 0, .int .u64 0]) ?_ 0 _ rfl; (with_reducible repeat refine bl ?_); exact BK353.out⟩, ⟨bq HB.out⟩⟩
        case round =>
         clear H'
         try clear c1
         try clear c2
         try clear p2
         try clear c3
         try clear c5
         try clear c5b0
         try clear c6
         try clear c9
         try clear c10
         try clear c12
         try clear c12b0
         try clear c13
         try clear c14
         try clear c15
         try clear c19
         try clear c20
         try clear c20b0
         try clear c20b1
         try clear c24
         try clear hcz21_0
         try clear hcz21_1
         try clear hcz25_0
         try clear hcz25_1
         try clear hfz21_0
         try clear hfz21_1
         try clear hfz25_0
         try clear hfz25_1
         try clear p2
         obtain ⟨x7_3, rfl, HA, HK3, HO_5, BK345, BK353, HB⟩ := hrel
         cases gk with
         | zero => exact absurd HA.out (by simp [steeplelaw33_FrobDual.l0])
         | succ k3 =>
          have H := HA.out
          clear HA
          simp only [steeplelaw33_FrobDual.l0] at H
          by_cases c27 : x7_3 < (t347.length : Int)
          ·rw [if_pos c27] at H
           have c27b0 : decide (x7_3 < (t347.length : Int)) = true := decide_eq_true c27
           clear c27
           by_cases c28 : 0 ≤ x7_3
           ·rw [if_pos c28] at H
            have c28b0 : decide (0 ≤ x7_3) = true := decide_eq_true c28
            clear c28
            replace H := Option.bind_eq_some_iff.mp H
            obtain ⟨⟨t357, t358⟩, A290, H⟩ := H
            replace H : ((steepleref33_Trace.f k3 a0 0 t357 t358).bind fun bt359 => ((steepleref02_Has.f k3 t351 t352 x7_3).bind fun t362 => (if ((bt359.1 == 0 && (bt359.2 == 1)) != t362) = true then (none) else (steeplelaw33_FrobDual.l0 k3 a0 t347 (wrap64 (x7_3 + 1)) t351 t352)))) = some r := H
            have A29 := Aside0.mk A290
            clear A290
            replace H := Option.bind_eq_some_iff.mp H
            obtain ⟨⟨t359, t360⟩, A300, H⟩ := H
            replace H : ((steepleref02_Has.f k3 t351 t352 x7_3).bind fun t362 => (if ((t359 == 0 && (t360 == 1)) != t362) = true then (none) else (steeplelaw33_FrobDual.l0 k3 a0 t347 (wrap64 (x7_3 + 1)) t351 t352))) = some r := H
            have A30 := Aside0.mk A300
            clear A300
            replace H := Option.bind_eq_some_iff.mp H
            obtain ⟨t362, A310, H⟩ := H
            replace H : (if ((t359 == 0 && (t360 == 1)) != t362) = true then (none) else (steeplelaw33_FrobDual.l0 k3 a0 t347 (wrap64 (x7_3 + 1)) t351 t352)) = some r := H
            have A31 := Aside0.mk A310
            clear A310
            by_cases c32 : ((t359 == 0 && (t360 == 1)) != t362) = true
            ·rw [if_pos c32] at H
             exact absurd H (by simp)
            ·rw [if_neg c32] at H
             have c32b0 : ((t359 == 0 && (t360 == 1)) != t362) = false := by simpa using c32
             (try (have c32b1 : decide ((t359 == 0 && (t360 == 1)) = t362) = true := by simpa using c32))
             (try (have c32b2 : ((t359 == 0 && (t360 == 1)) == t362) = true := by simpa using c32))
             clear c32
             have H' := Aside0.mk H
             clear H
             try go_wp2
             replace HO_5 := Aside0.mk (Kd.R_drew HO_5.out)
             replace BK345 := Aside0.mk (blk_drew BK345.out)
             replace BK353 := Aside0.mk (blk_drew BK353.out)
             replace HB := Aside0.mk (below_drew1 HB.out)
             have p356 : 0 ≤ (x7_3 : Int) := of_decide_eq_true (by first | (with_reducible assumption) | assumption)
             have q356 : x7_3 < (t347.length : Int) := of_decide_eq_true (by first | (with_reducible assumption) | assumption)
             (try (obtain ⟨Ap_, cp_, ep_⟩ := Kd.R_slice HO_5.out; subst ep_))
             obtain ⟨ad356, e356, hx356_0, hx356_1⟩ := at_T24 (Kd.R_reads' HO_5.out).2.2 x7_3 p356 q356
             cases e356
             replace p356 := eq_true p356
             replace q356 := eq_true q356
             refine start_ (n := 10) (S := fun w' => w'.cell? ⟨gb353, 0, none⟩ = some (.int .u64 t351) ∧ w'.cell? ⟨gb353, 1, none⟩ = some (.int .u64 t352) ∧ w'.cell? (ad356.add ((x7_3).toNat * 2)) = some (.int .u64 ((rd_T24 t347 x7_3).f0)) ∧ w'.cell? ⟨(ad356.add ((x7_3).toNat * 2)).block, (ad356.add ((x7_3).toNat * 2)).off + 1, none⟩ = some (.int .u64 ((rd_T24 t347 x7_3).f1))) (ds := []) #[false, false, false, false, false, false, false, false, false, false] (by kernel_rfl) rfl rfl ⟨(blk_cell BK353.out 0).trans rfl, (blk_cell BK353.out 1).trans rfl, hx356_0, hx356_1⟩ (fun hHeld => ?_); refine with_tabW steeplelaw33_FrobDual.tab12 steeplelaw33_FrobDual.bits12 (fun HT_ HW_ => ?_)
             generalize wr.drew = w33 at HO_5 BK345 BK353 HB hx356_0 hx356_1 hHeld ⊢
             refine pure_ (i := 0) (N := some 44) (v := ?_) (a' := ?_) #[true, false, false, false, false, false, false, false, false, false] rfl rfl (any_of HT_.out (by kernel_rfl)) (fun _ _ _ h => h) (Or.inl ⟨by rfl, ?_⟩) ?_ ?_
             rotate_left
             ·intro w'
              go_simp
              with_reducible rfl
             rotate_left
             ·simp only [Act.put, List.setIfInBounds_toArray, List.set_cons_zero, List.set_cons_succ, i64_w, i32_w]
              rfl
             refine pure_ (i := 2) (N := some 46) (v := ?_) (a' := ?_) #[true, false, true, false, false, false, false, false, false, false] rfl rfl (any_of HT_.out (by kernel_rfl)) (fun _ _ _ h => h) (Or.inl ⟨by rfl, ?_⟩) ?_ ?_
             rotate_left
             ·intro w'
              go_simp
              with_reducible rfl
             rotate_left
             ·simp only [Act.put, List.setIfInBounds_toArray, List.set_cons_zero, List.set_cons_succ, i64_w, i32_w]
              rfl
             refine pure_ (i := 3) (N := some 47) (v := ?_) (a' := ?_) #[true, false, true, true, false, false, false, false, false, false] rfl rfl (any_of HT_.out (by kernel_rfl)) (fun _ _ _ h => h) (Or.inl ⟨by rfl, ?_⟩) ?_ ?_
             rotate_left
             ·intro w'
              go_simp
              with_reducible rfl
             rotate_left
             ·simp only [Act.put, List.setIfInBounds_toArray, List.set_cons_zero, List.set_cons_succ, i64_w, i32_w]
              rfl
             refine pure_ (i := 4) (N := some 48) (v := ?_) (a' := ?_) #[true, false, true, true, true, false, false, false, false, false] rfl rfl (any_of HT_.out (by kernel_rfl)) (fun _ _ _ h => h) (Or.inl ⟨by rfl, ?_⟩) ?_ ?_
             rotate_left
             ·intro w'
              go_simp
              with_reducible rfl
             rotate_left
             ·simp only [Act.put, List.setIfInBounds_toArray, List.set_cons_zero, List.set_cons_succ, i64_w, i32_w]
              rfl
             refine take_ (i := 1) (N := some 45) (v := ?_) (a' := ?_) #[true, true, true, true, true, false, false, false, false, false] rfl rfl (take_ofW HT_.out HW_.out (by kernel_rfl)) (fun _ _ _ h => h) (Or.inl ⟨by rfl, ?_⟩) hHeld ?_ ?_
             rotate_left
             ·rintro w' ⟨s0, s1, s2, s3⟩
              go_simp
              with_reducible rfl
             rotate_left
             ·simp only [Act.put, List.setIfInBounds_toArray, List.set_cons_zero, List.set_cons_succ, i64_w, i32_w]
              rfl
             refine take_ (i := 5) (N := some 49) (v := ?_) (a' := ?_) #[true, true, true, true, true, true, false, false, false, false] rfl rfl (take_ofW HT_.out HW_.out (by kernel_rfl)) (fun _ _ _ h => h) (Or.inl ⟨by rfl, ?_⟩) hHeld ?_ ?_
             rotate_left
             ·rintro w' ⟨s0, s1, s2, s3⟩
              go_simp
              with_reducible rfl
             rotate_left
             ·simp only [Act.put, List.setIfInBounds_toArray, List.set_cons_zero, List.set_cons_succ, i64_w, i32_w]
              rfl
             refine join_ (σ := Nat) 1 #[true, true, true, true, true, true, true, true, true, false] (fun s_ => [(50, .agg #[.int .u64 t357, .int .u64 t358]), (51, .agg #[.int .u64 t359, .int .u64 t360]), (8, .pointer (some ⟨s_, 0, none⟩))]) (fun s_ w' => (w'.cell? ⟨gb353, 0, none⟩ = some (.int .u64 t351) ∧ w'.cell? ⟨gb353, 1, none⟩ = some (.int .u64 t352) ∧ w'.cell? (ad356.add ((x7_3).toNat * 2)) = some (.int .u64 ((rd_T24 t347 x7_3).f0)) ∧ w'.cell? ⟨(ad356.add ((x7_3).toNat * 2)).block, (ad356.add ((x7_3).toNat * 2)).off + 1, none⟩ = some (.int .u64 ((rd_T24 t347 x7_3).f1))) ∧ (Kd.R k24 24 w' w.heap.size (fun k_ => k_ ≠ gb345 ∧ k_ ≠ gb353) (.slice (some ad356) t347.length co26) t347) ∧ (w'.heap[gb345]? = some (.cells #[.int .u64 a1_0, .int .u64 a1_1] 24 (0, 0))) ∧ (w'.heap[gb353]? = some (.cells #[.int .u64 t351, .int .u64 t352] 24 (0, 0))) ∧ (w'.heap[s_]? = some (.cells #[.int .u64 0, .int .u64 0] 37 (0, 0))) ∧ (w.heap.size ≤ s_) ∧ (w.heap.size ≤ s_) ∧ (gb345 ≠ s_) ∧ (s_ ≠ gb345) ∧ (gb353 ≠ s_) ∧ (s_ ≠ gb353) ∧ (Below w.heap.size w w')) ?_ ?_
             rotate_left
             ·intro hCont
              refine two_ (i := 6) (j := 8) (Ni := some 50) (Nj := some 8) #[true, true, true, true, true, true, true, false, false, false] #[true, true, true, true, true, true, false, false, true, false] rfl rfl rfl rfl (two_of HT_.out (by kernel_rfl)) (by decide) (by decide) (fun K hK => ?_) (fun K hK => ?_)
              ·skip
               refine goes_ Try.func22 (by kernel_rfl) rfl #[.agg #[.int .u64 t351, .int .u64 t352], .agg #[.int .u64 ((rd_T24 t347 x7_3).f0), .int .u64 ((rd_T24 t347 x7_3).f1)]] (by rfl) rfl rfl (by (try simp only [List.map_toArray, List.map_cons, List.map_nil]); first | done | rfl | (simp only [List.length_drop, List.length_take]; rfl)) ?_
               with_reducible refine (steepleref02_Product.calls k3 t351 t352 ((rd_T24 t347 x7_3).f0) ((rd_T24 t347 x7_3).f1) t357 t358 _ A29.out).mono ?_
               rintro e w34 ⟨rfl, hb⟩
               have HS2_ := (hb.cell (World.block_lt_of_cell? _ _ (hHeld.2.2.1))).trans (hHeld.2.2.1)
               have HS3_ := (hb.cell (World.block_lt_of_cell? _ _ (hHeld.2.2.2))).trans (hHeld.2.2.2)
               refine ⟨_, rfl, ?_⟩
               replace HO_5 := kb HO_5 hb
               replace BK345 := bb BK345 hb
               replace BK353 := bb BK353 hb
               replace HB := bh HB hb
               (try clear hb)
               (try clear hb2)
               (try clear hk)
               (try clear hi)
               refine hK.out _ _ ⟨(blk_cell BK353.out 0).trans rfl, (blk_cell BK353.out 1).trans rfl, HS2_, HS3_⟩ (fun hHeld => ?_)
               clear hK K
               refine norm_ (a' := ?_) ?_ ?_
               rotate_left
               ·show Act.put _ (some 50) _ = _
                simp only [Act.put, List.setIfInBounds_toArray, List.set_cons_zero, List.set_cons_succ, i64_w, i32_w]
                rfl
               refine two_ (i := 7) (j := 8) (Ni := some 51) (Nj := some 8) #[true, true, true, true, true, true, true, true, false, false] #[true, true, true, true, true, true, true, false, true, false] rfl rfl rfl rfl (two_of HT_.out (by kernel_rfl)) (by decide) (by decide) (fun K hK => ?_) (fun K hK => ?_)
               ·skip
                refine goes_ Try.func31 (by kernel_rfl) rfl #[.int .i64 a0, .int .i64 0, .agg #[.int .u64 t357, .int .u64 t358]] (by rfl) rfl rfl (by (try simp only [List.map_toArray, List.map_cons, List.map_nil]); first | done | rfl | (simp only [List.length_drop, List.length_take]; rfl)) ?_
                with_reducible refine (steepleref33_Trace.calls k3 a0 0 t357 t358 t359 t360 _ A30.out).mono ?_
                rintro e w35 ⟨rfl, hb⟩
                have HS2_ := (hb.cell (World.block_lt_of_cell? _ _ (hHeld.2.2.1))).trans (hHeld.2.2.1)
                have HS3_ := (hb.cell (World.block_lt_of_cell? _ _ (hHeld.2.2.2))).trans (hHeld.2.2.2)
                refine ⟨_, rfl, ?_⟩
                replace HO_5 := kb HO_5 hb
                replace BK345 := bb BK345 hb
                replace BK353 := bb BK353 hb
                replace HB := bh HB hb
                (try clear hb)
                (try clear hb2)
                (try clear hk)
                (try clear hi)
                refine hK.out _ _ ⟨(blk_cell BK353.out 0).trans rfl, (blk_cell BK353.out 1).trans rfl, HS2_, HS3_⟩ (fun hHeld => ?_)
                clear hK K
                refine norm_ (a' := ?_) ?_ ?_
                rotate_left
                ·show Act.put _ (some 51) _ = _
                 simp only [Act.put, List.setIfInBounds_toArray, List.set_cons_zero, List.set_cons_succ, i64_w, i32_w]
                 rfl
                refine one_ (i := 8) (N := some 8) #[true, true, true, true, true, true, true, true, true, false] rfl rfl (one_of HT_.out (by kernel_rfl)) (by decide) (fun K hK => ?_)
                refine box_step ?hg (N := 8) ?hd (cs := #[.int .u64 0, .int .u64 0]) (t := 37) ?hr ?_; (case hd => rfl); (case hg => rfl); (case hr => first | (go_simp; done) | (go_simp; rfl))
                intro gb361 hg w36 hbox hb
                have HS2_ := (hb.cell (World.block_lt_of_cell? _ _ (hHeld.2.2.1))).trans (hHeld.2.2.1)
                have HS3_ := (hb.cell (World.block_lt_of_cell? _ _ (hHeld.2.2.2))).trans (hHeld.2.2.2)
                have BK361 := Aside0.mk hbox
                have GW361 := ge hg HB
                have GE361 := ge hg HB
                have NB345_361 := nl hg BK345
                have NB361_345 := ng hg BK345
                have NB353_361 := nl hg BK353
                have NB361_353 := ng hg BK353
                replace HO_5 := kb HO_5 hb
                replace BK345 := bb BK345 hb
                replace BK353 := bb BK353 hb
                replace HB := bh HB hb
                clear hb hbox hg
                refine hK.out _ _ ⟨(blk_cell BK353.out 0).trans rfl, (blk_cell BK353.out 1).trans rfl, HS2_, HS3_⟩ (fun hHeld => ?_)
                clear hK K
                refine norm_ (a' := ?_) ?_ ?_
                rotate_left
                ·show Act.put _ (some 8) _ = _
                 simp only [Act.put, List.setIfInBounds_toArray, List.set_cons_zero, List.set_cons_succ, i64_w, i32_w]
                 rfl
                exact norm_ (by simp only [putAll, Act.put, List.setIfInBounds_toArray, List.set_cons_zero, List.set_cons_succ]) (hCont (gb361) _ ⟨hHeld, (kr HO_5.out), (bk BK345.out), (bk BK353.out), (bk BK361.out), GW361.out, GE361.out, NB345_361.out, NB361_345.out, NB353_361.out, NB361_353.out, (bq HB.out)⟩)
               ·skip
                refine box_step ?hg (N := 8) ?hd (cs := #[.int .u64 0, .int .u64 0]) (t := 37) ?hr ?_; (case hd => rfl); (case hg => rfl); (case hr => first | (go_simp; done) | (go_simp; rfl))
                intro gb361 hg w35 hbox hb
                have HS2_ := (hb.cell (World.block_lt_of_cell? _ _ (hHeld.2.2.1))).trans (hHeld.2.2.1)
                have HS3_ := (hb.cell (World.block_lt_of_cell? _ _ (hHeld.2.2.2))).trans (hHeld.2.2.2)
                have BK361 := Aside0.mk hbox
                have GW361 := ge hg HB
                have GE361 := ge hg HB
                have NB345_361 := nl hg BK345
                have NB361_345 := ng hg BK345
                have NB353_361 := nl hg BK353
                have NB361_353 := ng hg BK353
                replace HO_5 := kb HO_5 hb
                replace BK345 := bb BK345 hb
                replace BK353 := bb BK353 hb
                replace HB := bh HB hb
                clear hb hbox hg
                refine hK.out _ _ ⟨(blk_cell BK353.out 0).trans rfl, (blk_cell BK353.out 1).trans rfl, HS2_, HS3_⟩ (fun hHeld => ?_)
                clear hK K
                refine norm_ (a' := ?_) ?_ ?_
                rotate_left
                ·show Act.put _ (some 8) _ = _
                 simp only [Act.put, List.setIfInBounds_toArray, List.set_cons_zero, List.set_cons_succ, i64_w, i32_w]
                 rfl
                refine one_ (i := 7) (N := some 51) #[true, true, true, true, true, true, true, true, true, false] rfl rfl (one_of HT_.out (by kernel_rfl)) (by decide) (fun K hK => ?_)
                refine goes_ Try.func31 (by kernel_rfl) rfl #[.int .i64 a0, .int .i64 0, .agg #[.int .u64 t357, .int .u64 t358]] (by rfl) rfl rfl (by (try simp only [List.map_toArray, List.map_cons, List.map_nil]); first | done | rfl | (simp only [List.length_drop, List.length_take]; rfl)) ?_
                with_reducible refine (steepleref33_Trace.calls k3 a0 0 t357 t358 t359 t360 _ A30.out).mono ?_
                rintro e w36 ⟨rfl, hb⟩
                have HS2_ := (hb.cell (World.block_lt_of_cell? _ _ (hHeld.2.2.1))).trans (hHeld.2.2.1)
                have HS3_ := (hb.cell (World.block_lt_of_cell? _ _ (hHeld.2.2.2))).trans (hHeld.2.2.2)
                refine ⟨_, rfl, ?_⟩
                replace HO_5 := kb HO_5 hb
                replace BK345 := bb BK345 hb
                replace BK353 := bb BK353 hb
                replace BK361 := bb BK361 hb
                replace HB := bh HB hb
                (try clear hb)
                (try clear hb2)
                (try clear hk)
                (try clear hi)
                refine hK.out _ _ ⟨(blk_cell BK353.out 0).trans rfl, (blk_cell BK353.out 1).trans rfl, HS2_, HS3_⟩ (fun hHeld => ?_)
                clear hK K
                refine norm_ (a' := ?_) ?_ ?_
                rotate_left
                ·show Act.put _ (some 51) _ = _
                 simp only [Act.put, List.setIfInBounds_toArray, List.set_cons_zero, List.set_cons_succ, i64_w, i32_w]
                 rfl
                exact norm_ (by simp only [putAll, Act.put, List.setIfInBounds_toArray, List.set_cons_zero, List.set_cons_succ]) (hCont (gb361) _ ⟨hHeld, (kr HO_5.out), (bk BK345.out), (bk BK353.out), (bk BK361.out), GW361.out, GE361.out, NB345_361.out, NB361_345.out, NB353_361.out, NB361_353.out, (bq HB.out)⟩)
              ·skip
               refine box_step ?hg (N := 8) ?hd (cs := #[.int .u64 0, .int .u64 0]) (t := 37) ?hr ?_; (case hd => rfl); (case hg => rfl); (case hr => first | (go_simp; done) | (go_simp; rfl))
               intro gb361 hg w34 hbox hb
               have HS2_ := (hb.cell (World.block_lt_of_cell? _ _ (hHeld.2.2.1))).trans (hHeld.2.2.1)
               have HS3_ := (hb.cell (World.block_lt_of_cell? _ _ (hHeld.2.2.2))).trans (hHeld.2.2.2)
               have BK361 := Aside0.mk hbox
               have GW361 := ge hg HB
               have GE361 := ge hg HB
               have NB345_361 := nl hg BK345
               have NB361_345 := ng hg BK345
               have NB353_361 := nl hg BK353
               have NB361_353 := ng hg BK353
               replace HO_5 := kb HO_5 hb
               replace BK345 := bb BK345 hb
               replace BK353 := bb BK353 hb
               replace HB := bh HB hb
               clear hb hbox hg
               refine hK.out _ _ ⟨(blk_cell BK353.out 0).trans rfl, (blk_cell BK353.out 1).trans rfl, HS2_, HS3_⟩ (fun hHeld => ?_)
               clear hK K
               refine norm_ (a' := ?_) ?_ ?_
               rotate_left
               ·show Act.put _ (some 8) _ = _
                simp only [Act.put, List.setIfInBounds_toArray, List.set_cons_zero, List.set_cons_succ, i64_w, i32_w]
                rfl
               refine one_ (i := 6) (N := some 50) #[true, true, true, true, true, true, true, false, true, false] rfl rfl (one_of HT_.out (by kernel_rfl)) (by decide) (fun K hK => ?_)
               refine goes_ Try.func22 (by kernel_rfl) rfl #[.agg #[.int .u64 t351, .int .u64 t352], .agg #[.int .u64 ((rd_T24 t347 x7_3).f0), .int .u64 ((rd_T24 t347 x7_3).f1)]] (by rfl) rfl rfl (by (try simp only [List.map_toArray, List.map_cons, List.map_nil]); first | done | rfl | (simp only [List.length_drop, List.length_take]; rfl)) ?_
               with_reducible refine (steepleref02_Product.calls k3 t351 t352 ((rd_T24 t347 x7_3).f0) ((rd_T24 t347 x7_3).f1) t357 t358 _ A29.out).mono ?_
               rintro e w35 ⟨rfl, hb⟩
               have HS2_ := (hb.cell (World.block_lt_of_cell? _ _ (hHeld.2.2.1))).trans (hHeld.2.2.1)
               have HS3_ := (hb.cell (World.block_lt_of_cell? _ _ (hHeld.2.2.2))).trans (hHeld.2.2.2)
               refine ⟨_, rfl, ?_⟩
               replace HO_5 := kb HO_5 hb
               replace BK345 := bb BK345 hb
               replace BK353 := bb BK353 hb
               replace BK361 := bb BK361 hb
               replace HB := bh HB hb
               (try clear hb)
               (try clear hb2)
               (try clear hk)
               (try clear hi)
               refine hK.out _ _ ⟨(blk_cell BK353.out 0).trans rfl, (blk_cell BK353.out 1).trans rfl, HS2_, HS3_⟩ (fun hHeld => ?_)
               clear hK K
               refine norm_ (a' := ?_) ?_ ?_
               rotate_left
               ·show Act.put _ (some 50) _ = _
                simp only [Act.put, List.setIfInBounds_toArray, List.set_cons_zero, List.set_cons_succ, i64_w, i32_w]
                rfl
               refine one_ (i := 7) (N := some 51) #[true, true, true, true, true, true, true, true, true, false] rfl rfl (one_of HT_.out (by kernel_rfl)) (by decide) (fun K hK => ?_)
               refine goes_ Try.func31 (by kernel_rfl) rfl #[.int .i64 a0, .int .i64 0, .agg #[.int .u64 t357, .int .u64 t358]] (by rfl) rfl rfl (by (try simp only [List.map_toArray, List.map_cons, List.map_nil]); first | done | rfl | (simp only [List.length_drop, List.length_take]; rfl)) ?_
               with_reducible refine (steepleref33_Trace.calls k3 a0 0 t357 t358 t359 t360 _ A30.out).mono ?_
               rintro e w36 ⟨rfl, hb⟩
               have HS2_ := (hb.cell (World.block_lt_of_cell? _ _ (hHeld.2.2.1))).trans (hHeld.2.2.1)
               have HS3_ := (hb.cell (World.block_lt_of_cell? _ _ (hHeld.2.2.2))).trans (hHeld.2.2.2)
               refine ⟨_, rfl, ?_⟩
               replace HO_5 := kb HO_5 hb
               replace BK345 := bb BK345 hb
               replace BK353 := bb BK353 hb
               replace BK361 := bb BK361 hb
               replace HB := bh HB hb
               (try clear hb)
               (try clear hb2)
               (try clear hk)
               (try clear hi)
               refine hK.out _ _ ⟨(blk_cell BK353.out 0).trans rfl, (blk_cell BK353.out 1).trans rfl, HS2_, HS3_⟩ (fun hHeld => ?_)
               clear hK K
               refine norm_ (a' := ?_) ?_ ?_
               rotate_left
               ·show Act.put _ (some 51) _ = _
                simp only [Act.put, List.setIfInBounds_toArray, List.set_cons_zero, List.set_cons_succ, i64_w, i32_w]
                rfl
               exact norm_ (by simp only [putAll, Act.put, List.setIfInBounds_toArray, List.set_cons_zero, List.set_cons_succ]) (hCont (gb361) _ ⟨hHeld, (kr HO_5.out), (bk BK345.out), (bk BK353.out), (bk BK361.out), GW361.out, GE361.out, NB345_361.out, NB361_345.out, NB353_361.out, NB361_353.out, (bq HB.out)⟩)
             rintro gb361 w37 ⟨hS_, h0_, h1_, h2_, h3_, h4_, h5_, h6_, h7_, h8_, h9_, h10_⟩
             have n0_ : Aside0 (Kd.R k24 24 w37 w.heap.size (fun k_ => k_ ≠ gb345 ∧ k_ ≠ gb353) (.slice (some ad356) t347.length co26) t347) := ⟨h0_⟩
             have n1_ : Aside0 (w37.heap[gb345]? = some (.cells #[.int .u64 a1_0, .int .u64 a1_1] 24 (0, 0))) := ⟨h1_⟩
             have n2_ : Aside0 (w37.heap[gb353]? = some (.cells #[.int .u64 t351, .int .u64 t352] 24 (0, 0))) := ⟨h2_⟩
             have n3_ : Aside0 (w37.heap[gb361]? = some (.cells #[.int .u64 0, .int .u64 0] 37 (0, 0))) := ⟨h3_⟩
             have n4_ : Aside0 (w.heap.size ≤ gb361) := ⟨h4_⟩
             have n5_ : Aside0 (w.heap.size ≤ gb361) := ⟨h5_⟩
             have n6_ : Aside0 (gb345 ≠ gb361) := ⟨h6_⟩
             have n7_ : Aside0 (gb361 ≠ gb345) := ⟨h7_⟩
             have n8_ : Aside0 (gb353 ≠ gb361) := ⟨h8_⟩
             have n9_ : Aside0 (gb361 ≠ gb353) := ⟨h9_⟩
             have n10_ : Aside0 (Below w.heap.size w w37) := ⟨h10_⟩
             clear HO_5
             clear BK345
             clear BK353
             clear HB
             clear h0_ h1_ h2_ h3_ h4_ h5_ h6_ h7_ h8_ h9_ h10_
             have HO_5 := n0_
             have BK345 := n1_
             have BK353 := n2_
             have BK361 := n3_
             have GW361 := Aside1.mk n4_.out
             have GE361 := Aside1.mk n5_.out
             have NB345_361 := n6_
             have NB361_345 := n7_
             have NB353_361 := n8_
             have NB361_353 := n9_
             have HB := n10_
             clear n0_ n1_ n2_ n3_ n4_ n5_ n6_ n7_ n8_ n9_ n10_
             have hHeld : w37.cell? ⟨gb353, 0, none⟩ = some (.int .u64 t351) ∧ w37.cell? ⟨gb353, 1, none⟩ = some (.int .u64 t352) ∧ w37.cell? (ad356.add ((x7_3).toNat * 2)) = some (.int .u64 ((rd_T24 t347 x7_3).f0)) ∧ w37.cell? ⟨(ad356.add ((x7_3).toNat * 2)).block, (ad356.add ((x7_3).toNat * 2)).off + 1, none⟩ = some (.int .u64 ((rd_T24 t347 x7_3).f1)) := hS_
             refine norm_ (a' := ?_) ?_ ?_
             rotate_left
             ·simp only [putAll, Act.put, List.setIfInBounds_toArray, List.set_cons_zero, List.set_cons_succ]
              rfl
             refine one_ (i := 9) (N := none) #[true, true, true, true, true, true, true, true, true, true] rfl rfl (one_of HT_.out (by kernel_rfl)) (by decide) (fun K hK => ?_)
             have hs38 : w37.cell? ⟨gb361, 0, none⟩ = some (.int .u64 0) := (blk_cell BK361.out 0).trans rfl
             have hfs38 := blk_frozen BK361.out 0
             have hns38_0 := NB345_361.out
             have hns38_1 := NB353_361.out
             have hms38_0 := NB361_345.out
             have hms38_1 := NB361_353.out
             have hs39 : w37.cell? ⟨gb361, 1, none⟩ = some (.int .u64 0) := (blk_cell BK361.out 1).trans rfl
             have hfs39 := blk_frozen BK361.out 1
             have hns39_0 := NB345_361.out
             have hns39_1 := NB353_361.out
             have hms39_0 := NB361_345.out
             have hms39_1 := NB361_353.out
             refine skip_ (w1 := ?_) (by rfl) rfl ?_ ?_
             rotate_left
             ·go_simp
              rfl
             refine hK.out _ _ ⟨((cell_far (p := ⟨gb361, _, none⟩) NB353_361.out _).trans (((cell_far (p := ⟨gb361, _, none⟩) NB353_361.out _).trans (hHeld.1)))), ((cell_far (p := ⟨gb361, _, none⟩) NB353_361.out _).trans (((cell_far (p := ⟨gb361, _, none⟩) NB353_361.out _).trans (hHeld.2.1)))), ((cell_far (p := ⟨gb361, _, none⟩) (by first | exact Kd.own_blk (Kd.R_ne HO_5.out BK361.out (by decide)) | (rw [add_block]; exact Kd.own_blk (Kd.R_ne HO_5.out BK361.out (by decide))) | (show (Addr.add _ _).block ≠ _; rw [add_block]; exact Kd.own_blk (Kd.R_ne HO_5.out BK361.out (by decide))) | (dsimp only; exact Kd.own_blk (Kd.R_ne HO_5.out BK361.out (by decide)))) _).trans (((cell_far (p := ⟨gb361, _, none⟩) (by first | exact Kd.own_blk (Kd.R_ne HO_5.out BK361.out (by decide)) | (rw [add_block]; exact Kd.own_blk (Kd.R_ne HO_5.out BK361.out (by decide))) | (show (Addr.add _ _).block ≠ _; rw [add_block]; exact Kd.own_blk (Kd.R_ne HO_5.out BK361.out (by decide))) | (dsimp only; exact Kd.own_blk (Kd.R_ne HO_5.out BK361.out (by decide)))) _).trans (hHeld.2.2.1)))), ((cell_far (p := ⟨gb361, _, none⟩) (by first | exact Kd.own_blk (Kd.R_ne HO_5.out BK361.out (by decide)) | (rw [add_block]; exact Kd.own_blk (Kd.R_ne HO_5.out BK361.out (by decide))) | (show (Addr.add _ _).block ≠ _; rw [add_block]; exact Kd.own_blk (Kd.R_ne HO_5.out BK361.out (by decide))) | (dsimp only; exact Kd.own_blk (Kd.R_ne HO_5.out BK361.out (by decide)))) _).trans (((cell_far (p := ⟨gb361, _, none⟩) (by first | exact Kd.own_blk (Kd.R_ne HO_5.out BK361.out (by decide)) | (rw [add_block]; exact Kd.own_blk (Kd.R_ne HO_5.out BK361.out (by decide))) | (show (Addr.add _ _).block ≠ _; rw [add_block]; exact Kd.own_blk (Kd.R_ne HO_5.out BK361.out (by decide))) | (dsimp only; exact Kd.own_blk (Kd.R_ne HO_5.out BK361.out (by decide)))) _).trans (hHeld.2.2.2))))⟩ (fun hHeld => ?_)
             clear hK K
             refine done_ (done_of HT_.out (by kernel_rfl)) ?_
             try go_wp2
             have n0_ : Aside0 (Kd.R k24 24 ((w37.setCell ⟨gb361, 0, none⟩ (.int .u64 t359)).setCell ⟨gb361, 1, none⟩ (.int .u64 t360)) w.heap.size (fun k_ => k_ ≠ gb345 ∧ k_ ≠ gb353) (.slice (some ad356) t347.length co26) t347) := ⟨by (with_reducible repeat refine kl ?_); exact Kd.R_mono (Kd.R_far (p := ⟨gb361, 1, none⟩) (Kd.R_far (p := ⟨gb361, 0, none⟩) (Kd.R_types HO_5.out BK361.out (by decide)) (fun _ hk => hk.2) (.int .u64 t359)) (fun _ hk => hk.2) (.int .u64 t360)) (fun _ hk => ⟨hk.1.1, hk.1.2⟩)⟩
             have n1_ : Aside0 (((w37.setCell ⟨gb361, 0, none⟩ (.int .u64 t359)).setCell ⟨gb361, 1, none⟩ (.int .u64 t360)).heap[gb345]? = some (.cells #[.int .u64 a1_0, .int .u64 a1_1] 24 (0, 0))) := ⟨by (with_reducible repeat refine bl ?_); refine blk_far ?_ NB345_361.out _; (with_reducible repeat refine bl ?_); refine blk_far ?_ NB345_361.out _; (with_reducible repeat refine bl ?_); exact BK345.out⟩
             have n2_ : Aside0 (((w37.setCell ⟨gb361, 0, none⟩ (.int .u64 t359)).setCell ⟨gb361, 1, none⟩ (.int .u64 t360)).heap[gb353]? = some (.cells #[.int .u64 t351, .int .u64 t352] 24 (0, 0))) := ⟨by (with_reducible repeat refine bl ?_); refine blk_far ?_ NB353_361.out _; (with_reducible repeat refine bl ?_); refine blk_far ?_ NB353_361.out _; (with_reducible repeat refine bl ?_); exact BK353.out⟩
             have n3_ : Aside0 (((w37.setCell ⟨gb361, 0, none⟩ (.int .u64 t359)).setCell ⟨gb361, 1, none⟩ (.int .u64 t360)).heap[gb361]? = some (.cells #[.int .u64 t359, .int .u64 t360] 37 (0, 0))) := ⟨by (with_reducible repeat refine bl ?_); refine blk_put (cs := #[.int .u64 t359, .int .u64 0]) ?_ 1 _ rfl; (with_reducible repeat refine bl ?_); refine blk_put (cs := #[.int .u64 0, .int .u64 0]) ?_ 0 _ rfl; (with_reducible repeat refine bl ?_); exact BK361.out⟩
             have n4_ : Aside0 (Below w.heap.size w ((w37.setCell ⟨gb361, 0, none⟩ (.int .u64 t359)).setCell ⟨gb361, 1, none⟩ (.int .u64 t360))) := ⟨bq HB.out⟩
             (try clear HO_5)
             (try clear BK345)
             (try clear BK353)
             (try clear BK361)
             (try clear HB)
             generalize ((w37.setCell ⟨gb361, 0, none⟩ (.int .u64 t359)).setCell ⟨gb361, 1, none⟩ (.int .u64 t360)) = w40 at n0_ n1_ n2_ n3_ n4_ ⊢
             have HO_5 := n0_
             have BK345 := n1_
             have BK353 := n2_
             have BK361 := n3_
             have HB := n4_
             clear n0_ n1_ n2_ n3_ n4_
             replace HO_5 := Aside0.mk (Kd.R_drew HO_5.out)
             replace BK345 := Aside0.mk (blk_drew BK345.out)
             replace BK353 := Aside0.mk (blk_drew BK353.out)
             replace BK361 := Aside0.mk (blk_drew BK361.out)
             replace HB := Aside0.mk (below_drew1 HB.out)
             refine start_ (n := 7) (S := fun w' => w'.cell? ⟨gb361, 0, none⟩ = some (.int .u64 t359) ∧ w'.cell? ⟨gb361, 1, none⟩ = some (.int .u64 t360) ∧ w'.cell? ⟨gb353, 0, none⟩ = some (.int .u64 t351) ∧ w'.cell? ⟨gb353, 1, none⟩ = some (.int .u64 t352)) (ds := []) #[false, false, false, false, false, false, false] (by kernel_rfl) rfl rfl ⟨(blk_cell BK361.out 0).trans rfl, (blk_cell BK361.out 1).trans rfl, (blk_cell BK353.out 0).trans rfl, (blk_cell BK353.out 1).trans rfl⟩ (fun hHeld => ?_)
             generalize w40.drew = w41 at HO_5 BK345 BK353 BK361 HB hHeld ⊢
             refine pure_ (i := 1) (N := some 53) (v := ?_) (a' := ?_) #[false, true, false, false, false, false, false] rfl rfl (by kernel_rfl) (fun _ _ _ h => h) (Or.inl ⟨by rfl, ?_⟩) ?_ ?_
             rotate_left
             ·intro w'
              go_simp
              with_reducible rfl
             rotate_left
             ·simp only [Act.put, List.setIfInBounds_toArray, List.set_cons_zero, List.set_cons_succ, i64_w, i32_w]
              rfl
             refine pure_ (i := 4) (N := some 56) (v := ?_) (a' := ?_) #[false, true, false, false, true, false, false] rfl rfl (by kernel_rfl) (fun _ _ _ h => h) (Or.inl ⟨by rfl, ?_⟩) ?_ ?_
             rotate_left
             ·intro w'
              go_simp
              with_reducible rfl
             rotate_left
             ·simp only [Act.put, List.setIfInBounds_toArray, List.set_cons_zero, List.set_cons_succ, i64_w, i32_w]
              rfl
             refine take_ (i := 0) (N := some 52) (v := ?_) (a' := ?_) #[true, true, false, false, true, false, false] rfl rfl (by kernel_rfl) (fun _ _ _ h => h) (Or.inl ⟨by rfl, ?_⟩) hHeld ?_ ?_
             rotate_left
             ·rintro w' ⟨s0, s1, s2, s3⟩
              go_simp
              with_reducible rfl
             rotate_left
             ·simp only [Act.put, List.setIfInBounds_toArray, List.set_cons_zero, List.set_cons_succ, i64_w, i32_w]
              rfl
             refine pure_ (i := 2) (N := some 54) (v := ?_) (a' := ?_) #[true, true, true, false, true, false, false] rfl rfl (by kernel_rfl) (fun _ _ _ h => h) (Or.inl ⟨by rfl, ?_⟩) ?_ ?_
             rotate_left
             ·intro w'
              go_simp
              with_reducible rfl
             rotate_left
             ·simp only [Act.put, List.setIfInBounds_toArray, List.set_cons_zero, List.set_cons_succ, i64_w, i32_w]
              rfl
             refine take_ (i := 3) (N := some 55) (v := ?_) (a' := ?_) #[true, true, true, true, true, false, false] rfl rfl (by kernel_rfl) (fun _ _ _ h => h) (Or.inl ⟨by rfl, ?_⟩) hHeld ?_ ?_
             rotate_left
             ·rintro w' ⟨s0, s1, s2, s3⟩
              go_simp
              with_reducible rfl
             rotate_left
             ·simp only [Act.put, List.setIfInBounds_toArray, List.set_cons_zero, List.set_cons_succ, i64_w, i32_w]
              rfl
             refine one_ (i := 5) (N := some 57) #[true, true, true, true, true, true, false] rfl rfl (by kernel_rfl) (by decide) (fun K hK => ?_)
             refine goes_ Try.func35 (by kernel_rfl) rfl #[.agg #[.int .u64 t351, .int .u64 t352], .int .i64 x7_3] (by rfl) rfl rfl (by (try simp only [List.map_toArray, List.map_cons, List.map_nil]); first | done | rfl | (simp only [List.length_drop, List.length_take]; rfl)) ?_
             with_reducible refine (steepleref02_Has.calls k3 t351 t352 x7_3 t362 _ A31.out).mono ?_
             rintro e w42 ⟨rfl, hb⟩
             refine ⟨_, rfl, ?_⟩
             replace HO_5 := kb HO_5 hb
             replace BK345 := bb BK345 hb
             replace BK353 := bb BK353 hb
             replace BK361 := bb BK361 hb
             replace HB := bh HB hb
             (try clear hb)
             (try clear hb2)
             (try clear hk)
             (try clear hi)
             refine hK.out _ _ ⟨(blk_cell BK361.out 0).trans rfl, (blk_cell BK361.out 1).trans rfl, (blk_cell BK353.out 0).trans rfl, (blk_cell BK353.out 1).trans rfl⟩ (fun hHeld => ?_)
             clear hK K
             refine norm_ (a' := ?_) ?_ ?_
             rotate_left
             ·show Act.put _ (some 57) _ = _
              simp only [Act.put, List.setIfInBounds_toArray, List.set_cons_zero, List.set_cons_succ, i64_w, i32_w]
              rfl
             refine pure_ (i := 6) (N := some 58) (v := ?_) (a' := ?_) #[true, true, true, true, true, true, true] rfl rfl (by kernel_rfl) (fun _ _ _ h => h) (Or.inl ⟨by rfl, ?_⟩) ?_ ?_
             rotate_left
             ·intro w'
              go_simp
              with_reducible rfl
             rotate_left
             ·simp only [Act.put, List.setIfInBounds_toArray, List.set_cons_zero, List.set_cons_succ, i64_w, i32_w]
              rfl
             refine done_ (by kernel_rfl) ?_
             try go_wp2
             go_roundg k3
             case measure => have := HJ2.out; have := HJ9.out; have := HK3.out; omega
             case rel => exact ⟨(wrap64 (x7_3 + 1)), (by first | rfl | (simp; done) | (simp [*]; done)), H', ⟨by have := HJ2.out; have := HJ9.out; have := HK3.out; omega⟩, ⟨kr HO_5.out⟩, ⟨bk BK345.out⟩, ⟨bk BK353.out⟩, ⟨bq HB.out⟩⟩
           ·rw [if_neg c28] at H
            exact absurd H (by simp)
          ·rw [if_neg c27] at H
           have c27b0 : decide (x7_3 < (t347.length : Int)) = false := decide_eq_false c27
           clear c27
           replace H := Option.bind_eq_some_iff.mp H
           obtain ⟨t355, A430, H⟩ := H
           replace H : (some t355) = some r := H
           have A43 := Aside0.mk A430
           clear A430
           obtain rfl := Option.some.inj H
           go_wp2_with (first | ((with_reducible refine gate_callee (f := 14) rfl ?_); refine goesL_ (some 59) rfl rfl Try.func14 (by kernel_rfl) rfl #[] rfl (by (try simp only [List.map_toArray, List.map_cons, List.map_nil]); first | done | rfl | (simp only [List.length_drop, List.length_take]; rfl)) ?_; (with_reducible refine (steeplelaw33_awake.calls k3  t355 _ A43.out).mono ?_); rintro e w44 ⟨rfl, hb⟩; refine ⟨_, rfl, ?_⟩; replace HO_5 := kb HO_5 hb; replace BK345 := bb BK345 hb; replace BK353 := bb BK353 hb; replace HB := bh HB hb; (try clear hb); (try clear hb2); (try clear hk); (try clear hi)))
           go_ret
           exact ⟨by first | rfl | (simp [errW_none, errW_some] <;> rfl) | (simp [*, errW_none, errW_some] <;> rfl), bq HB.out⟩
       ·rw [if_neg c20] at H
        exact absurd H (by simp)

/-- THE ONE PURE STATEMENT of steeplelaw33_FrobDual. -/
def steeplelaw33_FrobDual.Pure : Prop := ∀ (x0 : Int) (x1 : S24), (Lit.int .i64 x0).wf = true → ((Lit.int .u64 x1.f0).wf = true ∧ (Lit.int .u64 x1.f1).wf = true) → ∃ k, steeplelaw33_FrobDual.f k x0 x1.f0 x1.f1 = some true

end Go.Proofs.Ytlegcabfgkccmaa.P
