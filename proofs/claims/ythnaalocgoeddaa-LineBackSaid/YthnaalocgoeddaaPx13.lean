/- Written by a program of this session: functions that the law reaches, as Lean functions, and that the code comes to their answers. Conditions: those that each theorem names. -/
import Derived.Test.YthnaalocgoeddaaPx0
import Derived.Test.YthnaalocgoeddaaPx1
import Derived.Test.YthnaalocgoeddaaPx3
import Derived.Test.YthnaalocgoeddaaPx5
import Derived.Test.YthnaalocgoeddaaPx7
import Derived.Test.YthnaalocgoeddaaHLat
namespace Go.Proofs.Ythnaalocgoeddaa.P
open Go.RowKit Go.Proofs.YthnaalocgoeddaaX Go.Proofs.YthnaalocgoeddaaW.PrintWords Go.Proofs.YthnaalocgoeddaaW.PrintLast Go.Proofs.YthnaalocgoeddaaW.PrintMore
attribute [local go_sem] max2_int min2_int max_two min_two max_three min_three max_four min_four   -- for this text's walks alone
set_option linter.unusedVariables false
set_option linter.unusedSimpArgs false

attribute [local go_sem high] eqA28
/-! ### steeplelaw17_LineApart: function 4 -/
mutual
def steeplelaw17_LineApart.j0 : Nat → Int → List (S28) → List (S28) → Bool → Option (Bool)
 | 0, _, _, _, _ => none
 | k + 1, x0, x1, x2, x41 => if x41 = true then ((steeplelaw17_awake.f k).bind fun t360 => (some t360)) else (steeplelaw17_LineApart.l0 k x0 x1 x2 0 0)
def steeplelaw17_LineApart.l0 : Nat → Int → List (S28) → List (S28) → Int → Int → Option (Bool)
 | 0, _, _, _, _, _ => none
 | k + 1, x0, x1, x2, x7, x8 => (some (([2, 4, 16, 256] : List Int) : List Int)).bind fun y361 => (if 0 ≤ x0 then (if x0 < (y361.length : Int) then (if x8 < (rd y361 x0) then ((line_At.f k x0 x1 0 (IntKind.u64.wrap (x8))).bind fun bt366 => ((line_At.f k x0 x2 0 (IntKind.u64.wrap (x8))).bind fun bt370 => (if bt366.2.2 = 0 then (if bt370.2.2 = 0 then (if (bt366.1 == bt370.1 && (bt366.2.1 == bt370.2.1)) = true then (steeplelaw17_LineApart.l0 k x0 x1 x2 (wrap64 (x7 + 1)) (wrap64 (x8 + 1))) else (steeplelaw17_LineApart.l0 k x0 x1 x2 x7 (wrap64 (x8 + 1)))) else (none)) else (none)))) else (steeplelaw17_LineApart.l1 k x0 x1 x2 x7 true 0)) else (none)) else (none))
def steeplelaw17_LineApart.l1 : Nat → Int → List (S28) → List (S28) → Int → Bool → Int → Option (Bool)
 | 0, _, _, _, _, _, _ => none
 | k + 1, x0, x1, x2, x7, x14, x15 => if x15 < (x1.length : Int) then (if x14 = true then (if 0 ≤ x15 then (if x15 < (x2.length : Int) then (steeplelaw17_LineApart.l1 k x0 x1 x2 x7 (((rd_T28 x1 x15).f0) == ((rd_T28 x2 x15).f0) && (((rd_T28 x1 x15).f1) == ((rd_T28 x2 x15).f1))) (wrap64 (x15 + 1))) else (none)) else (none)) else (steeplelaw17_LineApart.l1 k x0 x1 x2 x7 false (wrap64 (x15 + 1)))) else (if x14 = true then ((steeplelaw17_awake.f k).bind fun t376 => (if t376 = true then ((some (([2, 4, 16, 256] : List Int) : List Int)).bind fun y377 => (if 0 ≤ x0 then (if x0 < (y377.length : Int) then (some (x7 == (rd y377 x0))) else (none)) else (none))) else (none))) else ((steeplelaw17_awake.f k).bind fun t381 => (if t381 = true then (some (decide (x7 ≤ (wrap64 ((x1.length : Int) - 1))))) else (none))))
end
def steeplelaw17_LineApart.f (k : Nat) (a0 : Int) (l1 : List (S28)) (l2 : List (S28)) : Option (Bool) := if a0 > 3 then (steeplelaw17_LineApart.j0 k a0 l1 l2 true) else (if (l1.length : Int) > 9 then (steeplelaw17_LineApart.j0 k a0 l1 l2 true) else (if (l1.length : Int) = (l2.length : Int) then ((steeplelaw17_may.f k a0 l1).bind fun t358 => (if t358 = 0 then ((steeplelaw17_may.f k a0 l2).bind fun t359 => (steeplelaw17_LineApart.j0 k a0 l1 l2 (t359 != 0))) else (steeplelaw17_LineApart.j0 k a0 l1 l2 true))) else (steeplelaw17_LineApart.j0 k a0 l1 l2 true)))
theorem steeplelaw17_LineApart.mono_l : ∀ k, (∀ y0 y1 y2 y3, LeO (steeplelaw17_LineApart.j0 k y0 y1 y2 y3) (steeplelaw17_LineApart.j0 (k + 1) y0 y1 y2 y3)) ∧ (∀ y0 y1 y2 y3 y4, LeO (steeplelaw17_LineApart.l0 k y0 y1 y2 y3 y4) (steeplelaw17_LineApart.l0 (k + 1) y0 y1 y2 y3 y4)) ∧ (∀ y0 y1 y2 y3 y4 y5, LeO (steeplelaw17_LineApart.l1 k y0 y1 y2 y3 y4 y5) (steeplelaw17_LineApart.l1 (k + 1) y0 y1 y2 y3 y4 y5))
 | 0 => ⟨fun _ _ _ _ r h => by simp [steeplelaw17_LineApart.j0] at h, fun _ _ _ _ _ r h => by simp [steeplelaw17_LineApart.l0] at h, fun _ _ _ _ _ _ r h => by simp [steeplelaw17_LineApart.l1] at h⟩
 | k + 1 => by
  obtain ⟨ih0, ih1, ih2⟩ := steeplelaw17_LineApart.mono_l k
  refine ⟨?_, ?_, ?_⟩
  ·intro y0 y1 y2 y3
   unfold steeplelaw17_LineApart.j0
   repeat' first
   | (with_reducible exact ih0 _ _ _ _)
   | (with_reducible exact ih1 _ _ _ _ _)
   | (with_reducible exact ih2 _ _ _ _ _ _)
   | (with_reducible exact line_At.mono _ _ _ _ _)
   | (with_reducible exact steeplelaw17_awake.mono _)
   | (with_reducible exact steeplelaw17_may.mono _ _ _)
   | (with_reducible exact LeO.refl _)
   | (with_reducible exact LeO.none _)
   | (with_reducible refine LeO.ite ?_ ?_)
   | (with_reducible refine LeO.bind ?_ (fun _ => ?_))
   | exact ih0 _ _ _ _
   | exact ih1 _ _ _ _ _
   | exact ih2 _ _ _ _ _ _
   | exact line_At.mono _ _ _ _ _
   | exact steeplelaw17_awake.mono _
   | exact steeplelaw17_may.mono _ _ _
   | exact LeO.none _
   | refine LeO.ite ?_ ?_
   | refine LeO.bind ?_ (fun _ => ?_)
  ·intro y0 y1 y2 y3 y4
   unfold steeplelaw17_LineApart.l0
   repeat' first
   | (with_reducible exact ih0 _ _ _ _)
   | (with_reducible exact ih1 _ _ _ _ _)
   | (with_reducible exact ih2 _ _ _ _ _ _)
   | (with_reducible exact line_At.mono _ _ _ _ _)
   | (with_reducible exact steeplelaw17_awake.mono _)
   | (with_reducible exact steeplelaw17_may.mono _ _ _)
   | (with_reducible exact LeO.refl _)
   | (with_reducible exact LeO.none _)
   | (with_reducible refine LeO.ite ?_ ?_)
   | (with_reducible refine LeO.bind ?_ (fun _ => ?_))
   | exact ih0 _ _ _ _
   | exact ih1 _ _ _ _ _
   | exact ih2 _ _ _ _ _ _
   | exact line_At.mono _ _ _ _ _
   | exact steeplelaw17_awake.mono _
   | exact steeplelaw17_may.mono _ _ _
   | exact LeO.none _
   | refine LeO.ite ?_ ?_
   | refine LeO.bind ?_ (fun _ => ?_)
  ·intro y0 y1 y2 y3 y4 y5
   unfold steeplelaw17_LineApart.l1
   repeat' first
   | (with_reducible exact ih0 _ _ _ _)
   | (with_reducible exact ih1 _ _ _ _ _)
   | (with_reducible exact ih2 _ _ _ _ _ _)
   | (with_reducible exact line_At.mono _ _ _ _ _)
   | (with_reducible exact steeplelaw17_awake.mono _)
   | (with_reducible exact steeplelaw17_may.mono _ _ _)
   | (with_reducible exact LeO.refl _)
   | (with_reducible exact LeO.none _)
   | (with_reducible refine LeO.ite ?_ ?_)
   | (with_reducible refine LeO.bind ?_ (fun _ => ?_))
   | exact ih0 _ _ _ _
   | exact ih1 _ _ _ _ _
   | exact ih2 _ _ _ _ _ _
   | exact line_At.mono _ _ _ _ _
   | exact steeplelaw17_awake.mono _
   | exact steeplelaw17_may.mono _ _ _
   | exact LeO.none _
   | refine LeO.ite ?_ ?_
   | refine LeO.bind ?_ (fun _ => ?_)
theorem steeplelaw17_LineApart.mono : ∀ a0 a1 a2 k, LeO (steeplelaw17_LineApart.f k a0 a1 a2) (steeplelaw17_LineApart.f (k + 1) a0 a1 a2) := by
 intro a0 a1 a2 k
 obtain ⟨ih0, ih1, ih2⟩ := steeplelaw17_LineApart.mono_l k
 unfold steeplelaw17_LineApart.f
 repeat' first
   | (with_reducible exact ih0 _ _ _ _)
   | (with_reducible exact ih1 _ _ _ _ _)
   | (with_reducible exact ih2 _ _ _ _ _ _)
   | (with_reducible exact line_At.mono _ _ _ _ _)
   | (with_reducible exact steeplelaw17_awake.mono _)
   | (with_reducible exact steeplelaw17_may.mono _ _ _)
   | (with_reducible exact LeO.refl _)
   | (with_reducible exact LeO.none _)
   | (with_reducible refine LeO.ite ?_ ?_)
   | (with_reducible refine LeO.bind ?_ (fun _ => ?_))
   | exact ih0 _ _ _ _
   | exact ih1 _ _ _ _ _
   | exact ih2 _ _ _ _ _ _
   | exact line_At.mono _ _ _ _ _
   | exact steeplelaw17_awake.mono _
   | exact steeplelaw17_may.mono _ _ _
   | exact LeO.none _
   | refine LeO.ite ?_ ?_
   | refine LeO.bind ?_ (fun _ => ?_)
set_option maxHeartbeats 8000000 in
set_option maxRecDepth 100000 in
theorem steeplelaw17_LineApart.calls (k : Nat) (a0 : Int) (A1 : Option Addr) (c1 : Nat) (l1 : List (S28)) (A2 : Option Addr) (c2 : Nat) (l2 : List (S28)) (r : Bool) (w : World) (hr1 : Kd.C k28 w A1 l1.length l1) (hc1 : l1.length ≤ c1) (hr2 : Kd.C k28 w A2 l2.length l2) (hc2 : l2.length ≤ c2) (h : steeplelaw17_LineApart.f k a0 l1 l2 = some r) :
  Calls Try.prog 4 #[.int .i64 a0, .slice A1 l1.length c1, .slice A2 l2.length c2] w fun e w' => e = .returned (.bool r) ∧ Below w.heap.size w w' := by
 have hu28 := Try.underlying28
 have HR1 := Aside0.mk hr1
 have HC1 := Aside0.mk hc1
 clear hr1 hc1
 have HR2 := Aside0.mk hr2
 have HC2 := Aside0.mk hc2
 clear hr2 hc2
 have HB := Aside0.mk (Below.refl w.heap.size w)
 have H : (if a0 > 3 then (steeplelaw17_LineApart.j0 k a0 l1 l2 true) else (if (l1.length : Int) > 9 then (steeplelaw17_LineApart.j0 k a0 l1 l2 true) else (if (l1.length : Int) = (l2.length : Int) then ((steeplelaw17_may.f k a0 l1).bind fun t358 => (if t358 = 0 then ((steeplelaw17_may.f k a0 l2).bind fun t359 => (steeplelaw17_LineApart.j0 k a0 l1 l2 (t359 != 0))) else (steeplelaw17_LineApart.j0 k a0 l1 l2 true))) else (steeplelaw17_LineApart.j0 k a0 l1 l2 true)))) = some r := h
 clear h
 have HC4 := Aside0.mk H
 clear H
 go_enter Try.func4, Try.ntmps4
 go_upto_region 1 with (fail)
 repeat (go_quiet (fail); go_upto_region 1 with (fail))
 go_cut [41] (fun v41 wc => ∃ (kq : Nat) (x41_3 : Bool), v41 = .bool x41_3 ∧ Aside0 (steeplelaw17_LineApart.j0 kq a0 l1 l2 x41_3 = some r) ∧ Aside0 (kq ≤ k) ∧ Aside0 (Below w.heap.size w wc))
 case first =>
  have H := HC4.out
  clear HC4
  by_cases c5 : a0 > 3
  ·rw [if_pos c5] at H
   have c5b0 : decide (3 < a0) = true := decide_eq_true c5
   clear c5
   (first | rw [c5b0] | (simp only [i64_w, i32_w]; rw [c5b0]) | skip)
   have H' := Aside0.mk H
   clear H
   go_wp2
   repeat (go_quiet (fail); try go_wp2)
   go_meet
   case rel => exact ⟨_, (true), (by first | rfl | (simp; done) | (simp [*]; done)), H', ⟨by first | omega | exact Nat.le_refl _⟩, ⟨bq HB.out⟩⟩
  ·rw [if_neg c5] at H
   have c5b0 : decide (3 < a0) = false := decide_eq_false c5
   clear c5
   (first | rw [c5b0] | (simp only [i64_w, i32_w]; rw [c5b0]) | skip)
   by_cases c6 : (l1.length : Int) > 9
   ·rw [if_pos c6] at H
    have c6b0 : decide (9 < (l1.length : Int)) = true := decide_eq_true c6
    have c6b1 : decide (9 < l1.length) = true := decide_eq_true (by omega)
    clear c6
    have H' := Aside0.mk H
    clear H
    go_wp2
    repeat (go_quiet (fail); try go_wp2)
    go_meet
    case rel => exact ⟨_, (true), (by first | rfl | (simp; done) | (simp [*]; done)), H', ⟨by first | omega | exact Nat.le_refl _⟩, ⟨bq HB.out⟩⟩
   ·rw [if_neg c6] at H
    have c6b0 : decide (9 < (l1.length : Int)) = false := decide_eq_false c6
    have c6b1 : decide (9 < l1.length) = false := decide_eq_false (by omega)
    clear c6
    by_cases c7 : (l1.length : Int) = (l2.length : Int)
    ·rw [if_pos c7] at H
     have c7b0 : ((l1.length : Int) == (l2.length : Int)) = true := beq_iff_eq.mpr c7
     have c7b1 : ((l1.length : Int) != (l2.length : Int)) = false := bne_eq_false_iff_eq.mpr c7
     have c7b2 : (l1.length == l2.length) = true := by first | simpa using c7 | (simp at c7 ⊢; omega)
     clear c7
     replace H := Option.bind_eq_some_iff.mp H
     obtain ⟨t358, A80, H⟩ := H
     replace H : (if t358 = 0 then ((steeplelaw17_may.f k a0 l2).bind fun t359 => (steeplelaw17_LineApart.j0 k a0 l1 l2 (t359 != 0))) else (steeplelaw17_LineApart.j0 k a0 l1 l2 true)) = some r := H
     have A8 := Aside0.mk A80
     clear A80
     by_cases c9 : t358 = 0
     ·rw [if_pos c9] at H
      have c9b0 : (t358 == 0) = true := beq_iff_eq.mpr c9
      have c9b1 : (t358 != 0) = false := bne_eq_false_iff_eq.mpr c9
      clear c9
      replace H := Option.bind_eq_some_iff.mp H
      obtain ⟨t359, A100, H⟩ := H
      replace H : (steeplelaw17_LineApart.j0 k a0 l1 l2 (t359 != 0)) = some r := H
      have A10 := Aside0.mk A100
      clear A100
      have H' := Aside0.mk H
      clear H
      go_wp2_with (first | (go_at_call 8; (with_reducible refine (steeplelaw17_may.calls k a0 _ _ l1 t358 _ ?side1 ?side2 A8.out).mono ?_); (case side1 => repeat (first | exact (Kd.C_below HR1.out HB.out) | (with_reducible refine Kd.C_alloc ?_ _) | (with_reducible refine Kd.C_drewN ?_ _) | (with_reducible refine Kd.C_drew ?_))); (case side2 => exact HC1.out); rintro e w11 ⟨rfl, hb⟩; replace HB := bh HB hb; (try clear hb); (try clear hb2); (try clear hk); (try clear hi)) | (go_at_call 8; (with_reducible refine (steeplelaw17_may.calls k a0 _ _ l2 t359 _ ?side1 ?side2 A10.out).mono ?_); (case side1 => repeat (first | exact (Kd.C_below HR2.out HB.out) | (with_reducible refine Kd.C_alloc ?_ _) | (with_reducible refine Kd.C_drewN ?_ _) | (with_reducible refine Kd.C_drew ?_))); (case side2 => exact HC2.out); rintro e w12 ⟨rfl, hb⟩; replace HB := bh HB hb; (try clear hb); (try clear hb2); (try clear hk); (try clear hi)))
      repeat (go_quiet (first | (go_at_call 8; (with_reducible refine (steeplelaw17_may.calls k a0 _ _ l1 t358 _ ?side1 ?side2 A8.out).mono ?_); (case side1 => repeat (first | exact (Kd.C_below HR1.out HB.out) | (with_reducible refine Kd.C_alloc ?_ _) | (with_reducible refine Kd.C_drewN ?_ _) | (with_reducible refine Kd.C_drew ?_))); (case side2 => exact HC1.out); rintro e w11 ⟨rfl, hb⟩; replace HB := bh HB hb; (try clear hb); (try clear hb2); (try clear hk); (try clear hi)) | (go_at_call 8; (with_reducible refine (steeplelaw17_may.calls k a0 _ _ l2 t359 _ ?side1 ?side2 A10.out).mono ?_); (case side1 => repeat (first | exact (Kd.C_below HR2.out HB.out) | (with_reducible refine Kd.C_alloc ?_ _) | (with_reducible refine Kd.C_drewN ?_ _) | (with_reducible refine Kd.C_drew ?_))); (case side2 => exact HC2.out); rintro e w12 ⟨rfl, hb⟩; replace HB := bh HB hb; (try clear hb); (try clear hb2); (try clear hk); (try clear hi))); try go_wp2_with (first | (go_at_call 8; (with_reducible refine (steeplelaw17_may.calls k a0 _ _ l1 t358 _ ?side1 ?side2 A8.out).mono ?_); (case side1 => repeat (first | exact (Kd.C_below HR1.out HB.out) | (with_reducible refine Kd.C_alloc ?_ _) | (with_reducible refine Kd.C_drewN ?_ _) | (with_reducible refine Kd.C_drew ?_))); (case side2 => exact HC1.out); rintro e w11 ⟨rfl, hb⟩; replace HB := bh HB hb; (try clear hb); (try clear hb2); (try clear hk); (try clear hi)) | (go_at_call 8; (with_reducible refine (steeplelaw17_may.calls k a0 _ _ l2 t359 _ ?side1 ?side2 A10.out).mono ?_); (case side1 => repeat (first | exact (Kd.C_below HR2.out HB.out) | (with_reducible refine Kd.C_alloc ?_ _) | (with_reducible refine Kd.C_drewN ?_ _) | (with_reducible refine Kd.C_drew ?_))); (case side2 => exact HC2.out); rintro e w12 ⟨rfl, hb⟩; replace HB := bh HB hb; (try clear hb); (try clear hb2); (try clear hk); (try clear hi))))
      go_meet
      case rel => exact ⟨_, ((t359 != 0)), (by first | rfl | (simp; done) | (simp [*]; done)), H', ⟨by first | omega | exact Nat.le_refl _⟩, ⟨bq HB.out⟩⟩
     ·rw [if_neg c9] at H
      have c9b0 : (t358 == 0) = false := beq_eq_false_iff_ne.mpr c9
      have c9b1 : (t358 != 0) = true := bne_iff_ne.mpr c9
      have H' := Aside0.mk H
      clear H
      go_wp2_with (first | (go_at_call 8; (with_reducible refine (steeplelaw17_may.calls k a0 _ _ l1 t358 _ ?side1 ?side2 A8.out).mono ?_); (case side1 => repeat (first | exact (Kd.C_below HR1.out HB.out) | (with_reducible refine Kd.C_alloc ?_ _) | (with_reducible refine Kd.C_drewN ?_ _) | (with_reducible refine Kd.C_drew ?_))); (case side2 => exact HC1.out); rintro e w13 ⟨rfl, hb⟩; replace HB := bh HB hb; (try clear hb); (try clear hb2); (try clear hk); (try clear hi)))
      repeat (go_quiet (first | (go_at_call 8; (with_reducible refine (steeplelaw17_may.calls k a0 _ _ l1 t358 _ ?side1 ?side2 A8.out).mono ?_); (case side1 => repeat (first | exact (Kd.C_below HR1.out HB.out) | (with_reducible refine Kd.C_alloc ?_ _) | (with_reducible refine Kd.C_drewN ?_ _) | (with_reducible refine Kd.C_drew ?_))); (case side2 => exact HC1.out); rintro e w13 ⟨rfl, hb⟩; replace HB := bh HB hb; (try clear hb); (try clear hb2); (try clear hk); (try clear hi))); try go_wp2_with (first | (go_at_call 8; (with_reducible refine (steeplelaw17_may.calls k a0 _ _ l1 t358 _ ?side1 ?side2 A8.out).mono ?_); (case side1 => repeat (first | exact (Kd.C_below HR1.out HB.out) | (with_reducible refine Kd.C_alloc ?_ _) | (with_reducible refine Kd.C_drewN ?_ _) | (with_reducible refine Kd.C_drew ?_))); (case side2 => exact HC1.out); rintro e w13 ⟨rfl, hb⟩; replace HB := bh HB hb; (try clear hb); (try clear hb2); (try clear hk); (try clear hi))))
      go_meet
      case rel => exact ⟨_, (true), (by first | rfl | (simp; done) | (simp [*]; done)), H', ⟨by first | omega | exact Nat.le_refl _⟩, ⟨bq HB.out⟩⟩
    ·rw [if_neg c7] at H
     have c7b0 : ((l1.length : Int) == (l2.length : Int)) = false := beq_eq_false_iff_ne.mpr c7
     have c7b1 : ((l1.length : Int) != (l2.length : Int)) = true := bne_iff_ne.mpr c7
     have c7b2 : (l1.length == l2.length) = false := by first | simpa using c7 | (simp at c7 ⊢; omega)
     have H' := Aside0.mk H
     clear H
     go_wp2
     repeat (go_quiet (fail); try go_wp2)
     go_meet
     case rel => exact ⟨_, (true), (by first | rfl | (simp; done) | (simp [*]; done)), H', ⟨by first | omega | exact Nat.le_refl _⟩, ⟨bq HB.out⟩⟩
 case rest =>
  clear HC4
  try clear c1
  try clear c2
  try clear p2
  try clear c4
  try clear c5
  try clear c5b0
  try clear c6
  try clear c6b0
  try clear c6b1
  try clear c7
  try clear c7b0
  try clear c7b1
  try clear c7b2
  try clear c9
  try clear c9b0
  try clear c9b1
  obtain ⟨kq, x41_3, rfl, HA, HJ3, HB⟩ := hcut
  cases kq with
  | zero => exact absurd HA.out (by simp [steeplelaw17_LineApart.j0])
  | succ kj3 =>
   have H := HA.out
   clear HA
   simp only [steeplelaw17_LineApart.j0] at H
   by_cases c14 : x41_3 = true
   ·subst c14
    have H1 : ((steeplelaw17_awake.f kj3).bind fun t360 => (some t360)) = some r := by rw [if_pos rfl] at H; exact H
    clear H
    have H := H1
    clear H1
    replace H := Option.bind_eq_some_iff.mp H
    obtain ⟨t360, A150, H⟩ := H
    replace H : (some t360) = some r := H
    have A15 := Aside0.mk A150
    clear A150
    obtain rfl := Option.some.inj H
    go_wp2_with (first | (go_at_call 9; (with_reducible refine (steeplelaw17_awake.calls kj3  t360 _ A15.out).mono ?_); rintro e w16 ⟨rfl, hb⟩; replace HB := bh HB hb; (try clear hb); (try clear hb2); (try clear hk); (try clear hi)))
    repeat (go_quiet (first | (go_at_call 9; (with_reducible refine (steeplelaw17_awake.calls kj3  t360 _ A15.out).mono ?_); rintro e w16 ⟨rfl, hb⟩; replace HB := bh HB hb; (try clear hb); (try clear hb2); (try clear hk); (try clear hi))); try go_wp2_with (first | (go_at_call 9; (with_reducible refine (steeplelaw17_awake.calls kj3  t360 _ A15.out).mono ?_); rintro e w16 ⟨rfl, hb⟩; replace HB := bh HB hb; (try clear hb); (try clear hb2); (try clear hk); (try clear hi))))
    go_ret
    exact ⟨by first | rfl | (simp [errW_none, errW_some] <;> rfl) | (simp [*, errW_none, errW_some] <;> rfl), bq HB.out⟩
   ·replace c14 := Bool.eq_false_iff.mpr c14
    subst c14
    have H1 : (steeplelaw17_LineApart.l0 kj3 a0 l1 l2 0 0) = some r := by rw [if_neg (show ¬ (false = true) by decide)] at H; exact H
    clear H
    have H := H1
    clear H1
    have H' := Aside0.mk H
    clear H
    go_wp2
    repeat (go_quiet (fail); try go_wp2)
    go_loopg [7, 8] kj3 (fun kq v7 v8 w' => ∃ (x7_2 : Int) (x8_2 : Int), v7 = .int .i64 x7_2 ∧ v8 = .int .i64 x8_2 ∧ Aside0 (steeplelaw17_LineApart.l0 kq a0 l1 l2 x7_2 x8_2 = some r) ∧ Aside0 (kq ≤ kj3) ∧ Aside0 (Below w.heap.size w w'))
    case atStart => exact ⟨(0), (0), (by first | rfl | (simp; done) | (simp [*]; done)), (by first | rfl | (simp; done) | (simp [*]; done)), H', ⟨Nat.le_refl _⟩, ⟨bq HB.out⟩⟩
    case round =>
     clear H'
     try clear c1
     try clear c2
     try clear p2
     try clear c4
     try clear c5
     try clear c5b0
     try clear c6
     try clear c6b0
     try clear c6b1
     try clear c7
     try clear c7b0
     try clear c7b1
     try clear c7b2
     try clear c9
     try clear c9b0
     try clear c9b1
     try clear c14
     try clear p2
     obtain ⟨x7_2, x8_2, rfl, rfl, HA, HK2, HB⟩ := hrel
     cases gk with
     | zero => exact absurd HA.out (by simp [steeplelaw17_LineApart.l0])
     | succ k2 =>
      have H := HA.out
      clear HA
      simp only [steeplelaw17_LineApart.l0] at H
      obtain ⟨y361, hy361⟩ : ∃ y_ : List Int, y_ = (([2, 4, 16, 256] : List Int)) := ⟨_, rfl⟩
      replace H : (if 0 ≤ a0 then (if a0 < (y361.length : Int) then (if x8_2 < (rd y361 a0) then ((line_At.f k2 a0 l1 0 (IntKind.u64.wrap (x8_2))).bind fun bt366 => ((line_At.f k2 a0 l2 0 (IntKind.u64.wrap (x8_2))).bind fun bt370 => (if bt366.2.2 = 0 then (if bt370.2.2 = 0 then (if (bt366.1 == bt370.1 && (bt366.2.1 == bt370.2.1)) = true then (steeplelaw17_LineApart.l0 k2 a0 l1 l2 (wrap64 (x7_2 + 1)) (wrap64 (x8_2 + 1))) else (steeplelaw17_LineApart.l0 k2 a0 l1 l2 x7_2 (wrap64 (x8_2 + 1)))) else (none)) else (none)))) else (steeplelaw17_LineApart.l1 k2 a0 l1 l2 x7_2 true 0)) else (none)) else (none)) = some r := by first | (rw [hy361]; with_reducible exact H) | (have H2_ := (Option.bind_some _ _).symm.trans H; rw [hy361]; with_reducible exact H2_) | (have H2_ := (Option.bind_some _ _).symm.trans H; with_reducible exact H2_) | with_reducible exact H | (rw [hy361]; exact H) | exact H
      have Ny361 := Aside0.mk hy361
      clear hy361
      by_cases c17 : 0 ≤ a0
      ·rw [if_pos c17] at H
       have c17b0 : decide (0 ≤ a0) = true := decide_eq_true c17
       clear c17
       by_cases c18 : a0 < (y361.length : Int)
       ·rw [if_pos c18] at H
        have c18b0 : decide (a0 < (y361.length : Int)) = true := decide_eq_true c18
        clear c18
        by_cases c19 : x8_2 < (rd y361 a0)
        ·rw [if_pos c19] at H
         have c19b0 : decide (x8_2 < (rd y361 a0)) = true := decide_eq_true c19
         clear c19
         replace H := Option.bind_eq_some_iff.mp H
         obtain ⟨⟨t366, t367, t368⟩, A200, H⟩ := H
         replace H : ((line_At.f k2 a0 l2 0 (IntKind.u64.wrap (x8_2))).bind fun bt370 => (if t368 = 0 then (if bt370.2.2 = 0 then (if (t366 == bt370.1 && (t367 == bt370.2.1)) = true then (steeplelaw17_LineApart.l0 k2 a0 l1 l2 (wrap64 (x7_2 + 1)) (wrap64 (x8_2 + 1))) else (steeplelaw17_LineApart.l0 k2 a0 l1 l2 x7_2 (wrap64 (x8_2 + 1)))) else (none)) else (none))) = some r := H
         have A20 := Aside0.mk A200
         clear A200
         replace H := Option.bind_eq_some_iff.mp H
         obtain ⟨⟨t370, t371, t372⟩, A210, H⟩ := H
         replace H : (if t368 = 0 then (if t372 = 0 then (if (t366 == t370 && (t367 == t371)) = true then (steeplelaw17_LineApart.l0 k2 a0 l1 l2 (wrap64 (x7_2 + 1)) (wrap64 (x8_2 + 1))) else (steeplelaw17_LineApart.l0 k2 a0 l1 l2 x7_2 (wrap64 (x8_2 + 1)))) else (none)) else (none)) = some r := H
         have A21 := Aside0.mk A210
         clear A210
         by_cases c22 : t368 = 0
         ·rw [if_pos c22] at H
          have c22b0 : (t368 == 0) = true := beq_iff_eq.mpr c22
          have c22b1 : (t368 != 0) = false := bne_eq_false_iff_eq.mpr c22
          clear c22
          by_cases c23 : t372 = 0
          ·rw [if_pos c23] at H
           have c23b0 : (t372 == 0) = true := beq_iff_eq.mpr c23
           have c23b1 : (t372 != 0) = false := bne_eq_false_iff_eq.mpr c23
           clear c23
           by_cases c24 : (t366 == t370 && (t367 == t371)) = true
           ·rw [if_pos c24] at H
            have c24b0 : (t366 == t370 && (t367 == t371)) = true := c24
            (try (have c24b1 : decide (t366 = t370 && (t367 == t371)) = true := by simpa using c24))
            (try (have c24b2 : (t366 == t370 && (t367 == t371)) = true := by simpa using c24))
            clear c24
            have H' := Aside0.mk H
            clear H
            go_wp2_with (first | ((with_reducible refine gate_dst (N := 44) rfl ?_); (try (refine gate_guard (by rfl) ?_; dsimp only)); refine Kd.R_lit (Kd.int .i64) _ 3 ?hg (N := 44) ?hd (xs := ([2, 4, 16, 256] : List Int)) (inner := [.int .i64 2, .int .i64 4, .int .i64 16, .int .i64 256]) (ok := fun _ => True) (okp := fun _ => True) ?hr ?hp (fun _ hk => hk) trivial (Below.refl _ _) (Nat.le_refl _) (by simp) ?_; (case hd => rfl); (case hg => rfl); (case hr => first | (go_simp; done) | (go_simp; rfl)); (case hp => exact (Reps.one (show Kd.M (Kd.int .i64) _ _ _ 2 [.int .i64 2] from rfl) (Reps.one (show Kd.M (Kd.int .i64) _ _ _ 4 [.int .i64 4] from rfl) (Reps.one (show Kd.M (Kd.int .i64) _ _ _ 16 [.int .i64 16] from rfl) (Reps.one (show Kd.M (Kd.int .i64) _ _ _ 256 [.int .i64 256] from rfl) (Reps.none _ _)))))); intro v362 w25 ho26 hb hg_ hnew_; clear hg_ hnew_; (first | rw [← Ny361.out] at ho26 | (simp only [Int.reduceToNat] at ho26; rw [← Ny361.out] at ho26)); have HO363 := kw ho26 HB; replace HB := bh HB hb; clear hb ho26; obtain ⟨Ao27, co27, eo27⟩ := Kd.R_slice HO363.out; subst eo27; have p364 : 0 ≤ (a0 : Int) := of_decide_eq_true (by first | (with_reducible assumption) | assumption); have q364 : a0 < (y361.length : Int) := of_decide_eq_true (by first | (with_reducible assumption) | assumption); obtain ⟨ad364, e364, hx364_0⟩ := Kd.at_int (Kd.R_reads' HO363.out).2.2 a0 p364 q364; cases e364; replace p364 := eq_true p364; replace q364 := eq_true q364) | ((with_reducible refine gate_dst (N := 9) rfl ?_); (try (refine gate_guard (by rfl) ?_; dsimp only)); refine box_event ?hg (N := 9) ?hd (cs := #[.int .u64 0, .int .u64 0]) (t := 28) ?hr ?_; (case hd => rfl); (case hg => rfl); (case hr => first | (go_simp; done) | (go_simp; rfl)); intro gb365 hg w28 hbox hb; have BK365 := Aside0.mk hbox; have GW365 := ge hg HB; have GE365 := ge hg HB; replace HO363 := kb HO363 hb; replace HB := bh HB hb; clear hb hbox hg; obtain ⟨hcz29_0, hcz29_1⟩ := zc2 BK365; obtain ⟨hfz29_0, hfz29_1⟩ := zf2 BK365) | (go_at_call 10; (with_reducible refine (line_At.calls k2 a0 _ _ l1 0 (IntKind.u64.wrap (x8_2)) t366 t367 t368 _ ?side1 ?side2 A20.out).mono ?_); (case side1 => exact Kd.C_below HR1.out (bq HB.out)); (case side2 => exact HC1.out); rintro e w30 ⟨rfl, hb⟩; replace HO363 := Aside0.mk (Kd.R_below (by (with_reducible repeat refine kl ?_); exact (kf2 HO363 BK365 (by decide))) hb); replace BK365 := Aside0.mk (blk_below (g := gb365) (o := .cells #[.int .u64 0, .int .u64 (IntKind.u64.wrap (x8_2))] 28 (0, 0)) (by (with_reducible repeat refine bl ?_); refine blk_put (cs := #[.int .u64 0, .int .u64 0]) ?_ 1 _ rfl; (with_reducible repeat refine bl ?_); refine blk_put (cs := #[.int .u64 0, .int .u64 0]) ?_ 0 _ rfl; (with_reducible repeat refine bl ?_); exact BK365.out) hb); replace HB := bh HB hb; (try clear hb); (try clear hb2); (try clear hk); (try clear hi)) | ((with_reducible refine gate_dst (N := 10) rfl ?_); (try (refine gate_guard (by rfl) ?_; dsimp only)); refine box_event ?hg (N := 10) ?hd (cs := #[.int .u64 0, .int .u64 0]) (t := 28) ?hr ?_; (case hd => rfl); (case hg => rfl); (case hr => first | (go_simp; done) | (go_simp; rfl)); intro gb369 hg w31 hbox hb; have BK369 := Aside0.mk hbox; have GW369 := ge hg HB; have GE369 := ge hg HB; have NB365_369 := nl hg BK365; have NB369_365 := ng hg BK365; replace HO363 := kb HO363 hb; replace BK365 := bb BK365 hb; replace HB := bh HB hb; clear hb hbox hg; have hnb32 := NB369_365.out; have hnc32 := NB365_369.out; obtain ⟨hcz33_0, hcz33_1⟩ := zc2 BK369; obtain ⟨hfz33_0, hfz33_1⟩ := zf2 BK369; obtain ⟨hcz34_0, hcz34_1⟩ := zc2 BK365; obtain ⟨hfz34_0, hfz34_1⟩ := zf2 BK365) | (go_at_call 10; (with_reducible refine (line_At.calls k2 a0 _ _ l2 0 (IntKind.u64.wrap (x8_2)) t370 t371 t372 _ ?side1 ?side2 A21.out).mono ?_); (case side1 => exact Kd.C_below HR2.out (bq HB.out)); (case side2 => exact HC2.out); rintro e w35 ⟨rfl, hb⟩; replace HO363 := Aside0.mk (Kd.R_below (by (with_reducible repeat refine kl ?_); exact (kf2 HO363 BK369 (by decide))) hb); replace BK365 := Aside0.mk (blk_below (g := gb365) (o := .cells #[.int .u64 0, .int .u64 (IntKind.u64.wrap (x8_2))] 28 (0, 0)) (by (with_reducible repeat refine bl ?_); refine blk_far ?_ NB365_369.out _; (with_reducible repeat refine bl ?_); refine blk_far ?_ NB365_369.out _; (with_reducible repeat refine bl ?_); exact BK365.out) hb); replace BK369 := Aside0.mk (blk_below (g := gb369) (o := .cells #[.int .u64 t366, .int .u64 t367] 28 (0, 0)) (by (with_reducible repeat refine bl ?_); refine blk_put (cs := #[.int .u64 t366, .int .u64 0]) ?_ 1 _ rfl; (with_reducible repeat refine bl ?_); refine blk_put (cs := #[.int .u64 0, .int .u64 0]) ?_ 0 _ rfl; (with_reducible repeat refine bl ?_); exact BK369.out) hb); replace HB := bh HB hb; (try clear hb); (try clear hb2); (try clear hk); (try clear hi)) | ((with_reducible refine gate_dst (N := 12) rfl ?_); (try (refine gate_guard (by rfl) ?_; dsimp only)); refine box_event ?hg (N := 12) ?hd (cs := #[.int .u64 0, .int .u64 0]) (t := 28) ?hr ?_; (case hd => rfl); (case hg => rfl); (case hr => first | (go_simp; done) | (go_simp; rfl)); intro gb373 hg w36 hbox hb; have BK373 := Aside0.mk hbox; have GW373 := ge hg HB; have GE373 := ge hg HB; have NB365_373 := nl hg BK365; have NB373_365 := ng hg BK365; have NB369_373 := nl hg BK369; have NB373_369 := ng hg BK369; replace HO363 := kb HO363 hb; replace BK365 := bb BK365 hb; replace BK369 := bb BK369 hb; replace HB := bh HB hb; clear hb hbox hg; have hnb37 := NB373_365.out; have hnc37 := NB365_373.out; have hnb38 := NB373_369.out; have hnc38 := NB369_373.out; obtain ⟨hcz39_0, hcz39_1⟩ := zc2 BK373; obtain ⟨hfz39_0, hfz39_1⟩ := zf2 BK373; obtain ⟨hcz40_0, hcz40_1⟩ := zc2 BK369; obtain ⟨hfz40_0, hfz40_1⟩ := zf2 BK369))
            repeat (go_quiet (first | ((with_reducible refine gate_dst (N := 44) rfl ?_); (try (refine gate_guard (by rfl) ?_; dsimp only)); refine Kd.R_lit (Kd.int .i64) _ 3 ?hg (N := 44) ?hd (xs := ([2, 4, 16, 256] : List Int)) (inner := [.int .i64 2, .int .i64 4, .int .i64 16, .int .i64 256]) (ok := fun _ => True) (okp := fun _ => True) ?hr ?hp (fun _ hk => hk) trivial (Below.refl _ _) (Nat.le_refl _) (by simp) ?_; (case hd => rfl); (case hg => rfl); (case hr => first | (go_simp; done) | (go_simp; rfl)); (case hp => exact (Reps.one (show Kd.M (Kd.int .i64) _ _ _ 2 [.int .i64 2] from rfl) (Reps.one (show Kd.M (Kd.int .i64) _ _ _ 4 [.int .i64 4] from rfl) (Reps.one (show Kd.M (Kd.int .i64) _ _ _ 16 [.int .i64 16] from rfl) (Reps.one (show Kd.M (Kd.int .i64) _ _ _ 256 [.int .i64 256] from rfl) (Reps.none _ _)))))); intro v362 w25 ho26 hb hg_ hnew_; clear hg_ hnew_; (first | rw [← Ny361.out] at ho26 | (simp only [Int.reduceToNat] at ho26; rw [← Ny361.out] at ho26)); have HO363 := kw ho26 HB; replace HB := bh HB hb; clear hb ho26; obtain ⟨Ao27, co27, eo27⟩ := Kd.R_slice HO363.out; subst eo27; have p364 : 0 ≤ (a0 : Int) := of_decide_eq_true (by first | (with_reducible assumption) | assumption); have q364 : a0 < (y361.length : Int) := of_decide_eq_true (by first | (with_reducible assumption) | assumption); obtain ⟨ad364, e364, hx364_0⟩ := Kd.at_int (Kd.R_reads' HO363.out).2.2 a0 p364 q364; cases e364; replace p364 := eq_true p364; replace q364 := eq_true q364) | ((with_reducible refine gate_dst (N := 9) rfl ?_); (try (refine gate_guard (by rfl) ?_; dsimp only)); refine box_event ?hg (N := 9) ?hd (cs := #[.int .u64 0, .int .u64 0]) (t := 28) ?hr ?_; (case hd => rfl); (case hg => rfl); (case hr => first | (go_simp; done) | (go_simp; rfl)); intro gb365 hg w28 hbox hb; have BK365 := Aside0.mk hbox; have GW365 := ge hg HB; have GE365 := ge hg HB; replace HO363 := kb HO363 hb; replace HB := bh HB hb; clear hb hbox hg; obtain ⟨hcz29_0, hcz29_1⟩ := zc2 BK365; obtain ⟨hfz29_0, hfz29_1⟩ := zf2 BK365) | (go_at_call 10; (with_reducible refine (line_At.calls k2 a0 _ _ l1 0 (IntKind.u64.wrap (x8_2)) t366 t367 t368 _ ?side1 ?side2 A20.out).mono ?_); (case side1 => exact Kd.C_below HR1.out (bq HB.out)); (case side2 => exact HC1.out); rintro e w30 ⟨rfl, hb⟩; replace HO363 := Aside0.mk (Kd.R_below (by (with_reducible repeat refine kl ?_); exact (kf2 HO363 BK365 (by decide))) hb); replace BK365 := Aside0.mk (blk_below (g := gb365) (o := .cells #[.int .u64 0, .int .u64 (IntKind.u64.wrap (x8_2))] 28 (0, 0)) (by (with_reducible repeat refine bl ?_); refine blk_put (cs := #[.int .u64 0, .int .u64 0]) ?_ 1 _ rfl; (with_reducible repeat refine bl ?_); refine blk_put (cs := #[.int .u64 0, .int .u64 0]) ?_ 0 _ rfl; (with_reducible repeat refine bl ?_); exact BK365.out) hb); replace HB := bh HB hb; (try clear hb); (try clear hb2); (try clear hk); (try clear hi)) | ((with_reducible refine gate_dst (N := 10) rfl ?_); (try (refine gate_guard (by rfl) ?_; dsimp only)); refine box_event ?hg (N := 10) ?hd (cs := #[.int .u64 0, .int .u64 0]) (t := 28) ?hr ?_; (case hd => rfl); (case hg => rfl); (case hr => first | (go_simp; done) | (go_simp; rfl)); intro gb369 hg w31 hbox hb; have BK369 := Aside0.mk hbox; have GW369 := ge hg HB; have GE369 := ge hg HB; have NB365_369 := nl hg BK365; have NB369_365 := ng hg BK365; replace HO363 := kb HO363 hb; replace BK365 := bb BK365 hb; replace HB := bh HB hb; clear hb hbox hg; have hnb32 := NB369_365.out; have hnc32 := NB365_369.out; obtain ⟨hcz33_0, hcz33_1⟩ := zc2 BK369; obtain ⟨hfz33_0, hfz33_1⟩ := zf2 BK369; obtain ⟨hcz34_0, hcz34_1⟩ := zc2 BK365; obtain ⟨hfz34_0, hfz34_1⟩ := zf2 BK365) | (go_at_call 10; (with_reducible refine (line_At.calls k2 a0 _ _ l2 0 (IntKind.u64.wrap (x8_2)) t370 t371 t372 _ ?side1 ?side2 A21.out).mono ?_); (case side1 => exact Kd.C_below HR2.out (bq HB.out)); (case side2 => exact HC2.out); rintro e w35 ⟨rfl, hb⟩; replace HO363 := Aside0.mk (Kd.R_below (by (with_reducible repeat refine kl ?_); exact (kf2 HO363 BK369 (by decide))) hb); replace BK365 := Aside0.mk (blk_below (g := gb365) (o := .cells #[.int .u64 0, .int .u64 (IntKind.u64.wrap (x8_2))] 28 (0, 0)) (by (with_reducible repeat refine bl ?_); refine blk_far ?_ NB365_369.out _; (with_reducible repeat refine bl ?_); refine blk_far ?_ NB365_369.out _; (with_reducible repeat refine bl ?_); exact BK365.out) hb); replace BK369 := Aside0.mk (blk_below (g := gb369) (o := .cells #[.int .u64 t366, .int .u64 t367] 28 (0, 0)) (by (with_reducible repeat refine bl ?_); refine blk_put (cs := #[.int .u64 t366, .int .u64 0]) ?_ 1 _ rfl; (with_reducible repeat refine bl ?_); refine blk_put (cs := #[.int .u64 0, .int .u64 0]) ?_ 0 _ rfl; (with_reducible repeat refine bl ?_); exact BK369.out) hb); replace HB := bh HB hb; (try clear hb); (try clear hb2); (try clear hk); (try clear hi)) | ((with_reducible refine gate_dst (N := 12) rfl ?_); (try (refine gate_guard (by rfl) ?_; dsimp only)); refine box_event ?hg (N := 12) ?hd (cs := #[.int .u64 0, .int .u64 0]) (t := 28) ?hr ?_; (case hd => rfl); (case hg => rfl); (case hr => first | (go_simp; done) | (go_simp; rfl)); intro gb373 hg w36 hbox hb; have BK373 := Aside0.mk hbox; have GW373 := ge hg HB; have GE373 := ge hg HB; have NB365_373 := nl hg BK365; have NB373_365 := ng hg BK365; have NB369_373 := nl hg BK369; have NB373_369 := ng hg BK369; replace HO363 := kb HO363 hb; replace BK365 := bb BK365 hb; replace BK369 := bb BK369 hb; replace HB := bh HB hb; clear hb hbox hg; have hnb37 := NB373_365.out; have hnc37 := NB365_373.out; have hnb38 := NB373_369.out; have hnc38 := NB369_373.out; obtain ⟨hcz39_0, hcz39_1⟩ := zc2 BK373; obtain ⟨hfz39_0, hfz39_1⟩ := zf2 BK373; obtain ⟨hcz40_0, hcz40_1⟩ := zc2 BK369; obtain ⟨hfz40_0, hfz40_1⟩ := zf2 BK369)); try go_wp2_with (first | ((with_reducible refine gate_dst (N := 44) rfl ?_); (try (refine gate_guard (by rfl) ?_; dsimp only)); refine Kd.R_lit (Kd.int .i64) _ 3 ?hg (N := 44) ?hd (xs := ([2, 4, 16, 256] : List Int)) (inner := [.int .i64 2, .int .i64 4, .int .i64 16, .int .i64 256]) (ok := fun _ => True) (okp := fun _ => True) ?hr ?hp (fun _ hk => hk) trivial (Below.refl _ _) (Nat.le_refl _) (by simp) ?_; (case hd => rfl); (case hg => rfl); (case hr => first | (go_simp; done) | (go_simp; rfl)); (case hp => exact (Reps.one (show Kd.M (Kd.int .i64) _ _ _ 2 [.int .i64 2] from rfl) (Reps.one (show Kd.M (Kd.int .i64) _ _ _ 4 [.int .i64 4] from rfl) (Reps.one (show Kd.M (Kd.int .i64) _ _ _ 16 [.int .i64 16] from rfl) (Reps.one (show Kd.M (Kd.int .i64) _ _ _ 256 [.int .i64 256] from rfl) (Reps.none _ _)))))); intro v362 w25 ho26 hb hg_ hnew_; clear hg_ hnew_; (first | rw [← Ny361.out] at ho26 | (simp only [Int.reduceToNat] at ho26; rw [← Ny361.out] at ho26)); have HO363 := kw ho26 HB; replace HB := bh HB hb; clear hb ho26; obtain ⟨Ao27, co27, eo27⟩ := Kd.R_slice HO363.out; subst eo27; have p364 : 0 ≤ (a0 : Int) := of_decide_eq_true (by first | (with_reducible assumption) | assumption); have q364 : a0 < (y361.length : Int) := of_decide_eq_true (by first | (with_reducible assumption) | assumption); obtain ⟨ad364, e364, hx364_0⟩ := Kd.at_int (Kd.R_reads' HO363.out).2.2 a0 p364 q364; cases e364; replace p364 := eq_true p364; replace q364 := eq_true q364) | ((with_reducible refine gate_dst (N := 9) rfl ?_); (try (refine gate_guard (by rfl) ?_; dsimp only)); refine box_event ?hg (N := 9) ?hd (cs := #[.int .u64 0, .int .u64 0]) (t := 28) ?hr ?_; (case hd => rfl); (case hg => rfl); (case hr => first | (go_simp; done) | (go_simp; rfl)); intro gb365 hg w28 hbox hb; have BK365 := Aside0.mk hbox; have GW365 := ge hg HB; have GE365 := ge hg HB; replace HO363 := kb HO363 hb; replace HB := bh HB hb; clear hb hbox hg; obtain ⟨hcz29_0, hcz29_1⟩ := zc2 BK365; obtain ⟨hfz29_0, hfz29_1⟩ := zf2 BK365) | (go_at_call 10; (with_reducible refine (line_At.calls k2 a0 _ _ l1 0 (IntKind.u64.wrap (x8_2)) t366 t367 t368 _ ?side1 ?side2 A20.out).mono ?_); (case side1 => exact Kd.C_below HR1.out (bq HB.out)); (case side2 => exact HC1.out); rintro e w30 ⟨rfl, hb⟩; replace HO363 := Aside0.mk (Kd.R_below (by (with_reducible repeat refine kl ?_); exact (kf2 HO363 BK365 (by decide))) hb); replace BK365 := Aside0.mk (blk_below (g := gb365) (o := .cells #[.int .u64 0, .int .u64 (IntKind.u64.wrap (x8_2))] 28 (0, 0)) (by (with_reducible repeat refine bl ?_); refine blk_put (cs := #[.int .u64 0, .int .u64 0]) ?_ 1 _ rfl; (with_reducible repeat refine bl ?_); refine blk_put (cs := #[.int .u64 0, .int .u64 0]) ?_ 0 _ rfl; (with_reducible repeat refine bl ?_); exact BK365.out) hb); replace HB := bh HB hb; (try clear hb); (try clear hb2); (try clear hk); (try clear hi)) | ((with_reducible refine gate_dst (N := 10) rfl ?_); (try (refine gate_guard (by rfl) ?_; dsimp only)); refine box_event ?hg (N := 10) ?hd (cs := #[.int .u64 0, .int .u64 0]) (t := 28) ?hr ?_; (case hd => rfl); (case hg => rfl); (case hr => first | (go_simp; done) | (go_simp; rfl)); intro gb369 hg w31 hbox hb; have BK369 := Aside0.mk hbox; have GW369 := ge hg HB; have GE369 := ge hg HB; have NB365_369 := nl hg BK365; have NB369_365 := ng hg BK365; replace HO363 := kb HO363 hb; replace BK365 := bb BK365 hb; replace HB := bh HB hb; clear hb hbox hg; have hnb32 := NB369_365.out; have hnc32 := NB365_369.out; obtain ⟨hcz33_0, hcz33_1⟩ := zc2 BK369; obtain ⟨hfz33_0, hfz33_1⟩ := zf2 BK369; obtain ⟨hcz34_0, hcz34_1⟩ := zc2 BK365; obtain ⟨hfz34_0, hfz34_1⟩ := zf2 BK365) | (go_at_call 10; (with_reducible refine (line_At.calls k2 a0 _ _ l2 0 (IntKind.u64.wrap (x8_2)) t370 t371 t372 _ ?side1 ?side2 A21.out).mono ?_); (case side1 => exact Kd.C_below HR2.out (bq HB.out)); (case side2 => exact HC2.out); rintro e w35 ⟨rfl, hb⟩; replace HO363 := Aside0.mk (Kd.R_below (by (with_reducible repeat refine kl ?_); exact (kf2 HO363 BK369 (by decide))) hb); replace BK365 := Aside0.mk (blk_below (g := gb365) (o := .cells #[.int .u64 0, .int .u64 (IntKind.u64.wrap (x8_2))] 28 (0, 0)) (by (with_reducible repeat refine bl ?_); refine blk_far ?_ NB365_369.out _; (with_reducible repeat refine bl ?_); refine blk_far ?_ NB365_369.out _; (with_reducible repeat refine bl ?_); exact BK365.out) hb); replace BK369 := Aside0.mk (blk_below (g := gb369) (o := .cells #[.int .u64 t366, .int .u64 t367] 28 (0, 0)) (by (with_reducible repeat refine bl ?_); refine blk_put (cs := #[.int .u64 t366, .int .u64 0]) ?_ 1 _ rfl; (with_reducible repeat refine bl ?_); refine blk_put (cs := #[.int .u64 0, .int .u64 0]) ?_ 0 _ rfl; (with_reducible repeat refine bl ?_); exact BK369.out) hb); replace HB := bh HB hb; (try clear hb); (try clear hb2); (try clear hk); (try clear hi)) | ((with_reducible refine gate_dst (N := 12) rfl ?_); (try (refine gate_guard (by rfl) ?_; dsimp only)); refine box_event ?hg (N := 12) ?hd (cs := #[.int .u64 0, .int .u64 0]) (t := 28) ?hr ?_; (case hd => rfl); (case hg => rfl); (case hr => first | (go_simp; done) | (go_simp; rfl)); intro gb373 hg w36 hbox hb; have BK373 := Aside0.mk hbox; have GW373 := ge hg HB; have GE373 := ge hg HB; have NB365_373 := nl hg BK365; have NB373_365 := ng hg BK365; have NB369_373 := nl hg BK369; have NB373_369 := ng hg BK369; replace HO363 := kb HO363 hb; replace BK365 := bb BK365 hb; replace BK369 := bb BK369 hb; replace HB := bh HB hb; clear hb hbox hg; have hnb37 := NB373_365.out; have hnc37 := NB365_373.out; have hnb38 := NB373_369.out; have hnc38 := NB369_373.out; obtain ⟨hcz39_0, hcz39_1⟩ := zc2 BK373; obtain ⟨hfz39_0, hfz39_1⟩ := zf2 BK373; obtain ⟨hcz40_0, hcz40_1⟩ := zc2 BK369; obtain ⟨hfz40_0, hfz40_1⟩ := zf2 BK369)))
            go_roundg k2
            case measure => have := HJ3.out; have := HK2.out; omega
            case rel => exact ⟨(wrap64 (x7_2 + 1)), (wrap64 (x8_2 + 1)), (by first | rfl | (simp; done) | (simp [*]; done)), (by first | rfl | (simp; done) | (simp [*]; done)), H', ⟨by have := HJ3.out; have := HK2.out; omega⟩, ⟨bq HB.out⟩⟩
           ·rw [if_neg c24] at H
            have c24b0 : (t366 == t370 && (t367 == t371)) = false := by simpa using c24
            (try (have c24b1 : decide (t366 = t370 && (t367 == t371)) = false := by simpa using c24))
            (try (have c24b2 : (t366 == t370 && (t367 == t371)) = false := by simpa using c24))
            (try (have c24b3 : ¬ (t366 = t370 && (t367 == t371)) := by simpa using c24))
            clear c24
            have H' := Aside0.mk H
            clear H
            go_wp2_with (first | ((with_reducible refine gate_dst (N := 44) rfl ?_); (try (refine gate_guard (by rfl) ?_; dsimp only)); refine Kd.R_lit (Kd.int .i64) _ 3 ?hg (N := 44) ?hd (xs := ([2, 4, 16, 256] : List Int)) (inner := [.int .i64 2, .int .i64 4, .int .i64 16, .int .i64 256]) (ok := fun _ => True) (okp := fun _ => True) ?hr ?hp (fun _ hk => hk) trivial (Below.refl _ _) (Nat.le_refl _) (by simp) ?_; (case hd => rfl); (case hg => rfl); (case hr => first | (go_simp; done) | (go_simp; rfl)); (case hp => exact (Reps.one (show Kd.M (Kd.int .i64) _ _ _ 2 [.int .i64 2] from rfl) (Reps.one (show Kd.M (Kd.int .i64) _ _ _ 4 [.int .i64 4] from rfl) (Reps.one (show Kd.M (Kd.int .i64) _ _ _ 16 [.int .i64 16] from rfl) (Reps.one (show Kd.M (Kd.int .i64) _ _ _ 256 [.int .i64 256] from rfl) (Reps.none _ _)))))); intro v362 w41 ho42 hb hg_ hnew_; clear hg_ hnew_; (first | rw [← Ny361.out] at ho42 | (simp only [Int.reduceToNat] at ho42; rw [← Ny361.out] at ho42)); have HO363 := kw ho42 HB; replace HB := bh HB hb; clear hb ho42; obtain ⟨Ao43, co43, eo43⟩ := Kd.R_slice HO363.out; subst eo43; have p364 : 0 ≤ (a0 : Int) := of_decide_eq_true (by first | (with_reducible assumption) | assumption); have q364 : a0 < (y361.length : Int) := of_decide_eq_true (by first | (with_reducible assumption) | assumption); obtain ⟨ad364, e364, hx364_0⟩ := Kd.at_int (Kd.R_reads' HO363.out).2.2 a0 p364 q364; cases e364; replace p364 := eq_true p364; replace q364 := eq_true q364) | ((with_reducible refine gate_dst (N := 9) rfl ?_); (try (refine gate_guard (by rfl) ?_; dsimp only)); refine box_event ?hg (N := 9) ?hd (cs := #[.int .u64 0, .int .u64 0]) (t := 28) ?hr ?_; (case hd => rfl); (case hg => rfl); (case hr => first | (go_simp; done) | (go_simp; rfl)); intro gb365 hg w44 hbox hb; have BK365 := Aside0.mk hbox; have GW365 := ge hg HB; have GE365 := ge hg HB; replace HO363 := kb HO363 hb; replace HB := bh HB hb; clear hb hbox hg; obtain ⟨hcz45_0, hcz45_1⟩ := zc2 BK365; obtain ⟨hfz45_0, hfz45_1⟩ := zf2 BK365) | (go_at_call 10; (with_reducible refine (line_At.calls k2 a0 _ _ l1 0 (IntKind.u64.wrap (x8_2)) t366 t367 t368 _ ?side1 ?side2 A20.out).mono ?_); (case side1 => exact Kd.C_below HR1.out (bq HB.out)); (case side2 => exact HC1.out); rintro e w46 ⟨rfl, hb⟩; replace HO363 := Aside0.mk (Kd.R_below (by (with_reducible repeat refine kl ?_); exact (kf2 HO363 BK365 (by decide))) hb); replace BK365 := Aside0.mk (blk_below (g := gb365) (o := .cells #[.int .u64 0, .int .u64 (IntKind.u64.wrap (x8_2))] 28 (0, 0)) (by (with_reducible repeat refine bl ?_); refine blk_put (cs := #[.int .u64 0, .int .u64 0]) ?_ 1 _ rfl; (with_reducible repeat refine bl ?_); refine blk_put (cs := #[.int .u64 0, .int .u64 0]) ?_ 0 _ rfl; (with_reducible repeat refine bl ?_); exact BK365.out) hb); replace HB := bh HB hb; (try clear hb); (try clear hb2); (try clear hk); (try clear hi)) | ((with_reducible refine gate_dst (N := 10) rfl ?_); (try (refine gate_guard (by rfl) ?_; dsimp only)); refine box_event ?hg (N := 10) ?hd (cs := #[.int .u64 0, .int .u64 0]) (t := 28) ?hr ?_; (case hd => rfl); (case hg => rfl); (case hr => first | (go_simp; done) | (go_simp; rfl)); intro gb369 hg w47 hbox hb; have BK369 := Aside0.mk hbox; have GW369 := ge hg HB; have GE369 := ge hg HB; have NB365_369 := nl hg BK365; have NB369_365 := ng hg BK365; replace HO363 := kb HO363 hb; replace BK365 := bb BK365 hb; replace HB := bh HB hb; clear hb hbox hg; have hnb48 := NB369_365.out; have hnc48 := NB365_369.out; obtain ⟨hcz49_0, hcz49_1⟩ := zc2 BK369; obtain ⟨hfz49_0, hfz49_1⟩ := zf2 BK369; obtain ⟨hcz50_0, hcz50_1⟩ := zc2 BK365; obtain ⟨hfz50_0, hfz50_1⟩ := zf2 BK365) | (go_at_call 10; (with_reducible refine (line_At.calls k2 a0 _ _ l2 0 (IntKind.u64.wrap (x8_2)) t370 t371 t372 _ ?side1 ?side2 A21.out).mono ?_); (case side1 => exact Kd.C_below HR2.out (bq HB.out)); (case side2 => exact HC2.out); rintro e w51 ⟨rfl, hb⟩; replace HO363 := Aside0.mk (Kd.R_below (by (with_reducible repeat refine kl ?_); exact (kf2 HO363 BK369 (by decide))) hb); replace BK365 := Aside0.mk (blk_below (g := gb365) (o := .cells #[.int .u64 0, .int .u64 (IntKind.u64.wrap (x8_2))] 28 (0, 0)) (by (with_reducible repeat refine bl ?_); refine blk_far ?_ NB365_369.out _; (with_reducible repeat refine bl ?_); refine blk_far ?_ NB365_369.out _; (with_reducible repeat refine bl ?_); exact BK365.out) hb); replace BK369 := Aside0.mk (blk_below (g := gb369) (o := .cells #[.int .u64 t366, .int .u64 t367] 28 (0, 0)) (by (with_reducible repeat refine bl ?_); refine blk_put (cs := #[.int .u64 t366, .int .u64 0]) ?_ 1 _ rfl; (with_reducible repeat refine bl ?_); refine blk_put (cs := #[.int .u64 0, .int .u64 0]) ?_ 0 _ rfl; (with_reducible repeat refine bl ?_); exact BK369.out) hb); replace HB := bh HB hb; (try clear hb); (try clear hb2); (try clear hk); (try clear hi)) | ((with_reducible refine gate_dst (N := 12) rfl ?_); (try (refine gate_guard (by rfl) ?_; dsimp only)); refine box_event ?hg (N := 12) ?hd (cs := #[.int .u64 0, .int .u64 0]) (t := 28) ?hr ?_; (case hd => rfl); (case hg => rfl); (case hr => first | (go_simp; done) | (go_simp; rfl)); intro gb373 hg w52 hbox hb; have BK373 := Aside0.mk hbox; have GW373 := ge hg HB; have GE373 := ge hg HB; have NB365_373 := nl hg BK365; have NB373_365 := ng hg BK365; have NB369_373 := nl hg BK369; have NB373_369 := ng hg BK369; replace HO363 := kb HO363 hb; replace BK365 := bb BK365 hb; replace BK369 := bb BK369 hb; replace HB := bh HB hb; clear hb hbox hg; have hnb53 := NB373_365.out; have hnc53 := NB365_373.out; have hnb54 := NB373_369.out; have hnc54 := NB369_373.out; obtain ⟨hcz55_0, hcz55_1⟩ := zc2 BK373; obtain ⟨hfz55_0, hfz55_1⟩ := zf2 BK373; obtain ⟨hcz56_0, hcz56_1⟩ := zc2 BK369; obtain ⟨hfz56_0, hfz56_1⟩ := zf2 BK369))
            repeat (go_quiet (first | ((with_reducible refine gate_dst (N := 44) rfl ?_); (try (refine gate_guard (by rfl) ?_; dsimp only)); refine Kd.R_lit (Kd.int .i64) _ 3 ?hg (N := 44) ?hd (xs := ([2, 4, 16, 256] : List Int)) (inner := [.int .i64 2, .int .i64 4, .int .i64 16, .int .i64 256]) (ok := fun _ => True) (okp := fun _ => True) ?hr ?hp (fun _ hk => hk) trivial (Below.refl _ _) (Nat.le_refl _) (by simp) ?_; (case hd => rfl); (case hg => rfl); (case hr => first | (go_simp; done) | (go_simp; rfl)); (case hp => exact (Reps.one (show Kd.M (Kd.int .i64) _ _ _ 2 [.int .i64 2] from rfl) (Reps.one (show Kd.M (Kd.int .i64) _ _ _ 4 [.int .i64 4] from rfl) (Reps.one (show Kd.M (Kd.int .i64) _ _ _ 16 [.int .i64 16] from rfl) (Reps.one (show Kd.M (Kd.int .i64) _ _ _ 256 [.int .i64 256] from rfl) (Reps.none _ _)))))); intro v362 w41 ho42 hb hg_ hnew_; clear hg_ hnew_; (first | rw [← Ny361.out] at ho42 | (simp only [Int.reduceToNat] at ho42; rw [← Ny361.out] at ho42)); have HO363 := kw ho42 HB; replace HB := bh HB hb; clear hb ho42; obtain ⟨Ao43, co43, eo43⟩ := Kd.R_slice HO363.out; subst eo43; have p364 : 0 ≤ (a0 : Int) := of_decide_eq_true (by first | (with_reducible assumption) | assumption); have q364 : a0 < (y361.length : Int) := of_decide_eq_true (by first | (with_reducible assumption) | assumption); obtain ⟨ad364, e364, hx364_0⟩ := Kd.at_int (Kd.R_reads' HO363.out).2.2 a0 p364 q364; cases e364; replace p364 := eq_true p364; replace q364 := eq_true q364) | ((with_reducible refine gate_dst (N := 9) rfl ?_); (try (refine gate_guard (by rfl) ?_; dsimp only)); refine box_event ?hg (N := 9) ?hd (cs := #[.int .u64 0, .int .u64 0]) (t := 28) ?hr ?_; (case hd => rfl); (case hg => rfl); (case hr => first | (go_simp; done) | (go_simp; rfl)); intro gb365 hg w44 hbox hb; have BK365 := Aside0.mk hbox; have GW365 := ge hg HB; have GE365 := ge hg HB; replace HO363 := kb HO363 hb; replace HB := bh HB hb; clear hb hbox hg; obtain ⟨hcz45_0, hcz45_1⟩ := zc2 BK365; obtain ⟨hfz45_0, hfz45_1⟩ := zf2 BK365) | (go_at_call 10; (with_reducible refine (line_At.calls k2 a0 _ _ l1 0 (IntKind.u64.wrap (x8_2)) t366 t367 t368 _ ?side1 ?side2 A20.out).mono ?_); (case side1 => exact Kd.C_below HR1.out (bq HB.out)); (case side2 => exact HC1.out); rintro e w46 ⟨rfl, hb⟩; replace HO363 := Aside0.mk (Kd.R_below (by (with_reducible repeat refine kl ?_); exact (kf2 HO363 BK365 (by decide))) hb); replace BK365 := Aside0.mk (blk_below (g := gb365) (o := .cells #[.int .u64 0, .int .u64 (IntKind.u64.wrap (x8_2))] 28 (0, 0)) (by (with_reducible repeat refine bl ?_); refine blk_put (cs := #[.int .u64 0, .int .u64 0]) ?_ 1 _ rfl; (with_reducible repeat refine bl ?_); refine blk_put (cs := #[.int .u64 0, .int .u64 0]) ?_ 0 _ rfl; (with_reducible repeat refine bl ?_); exact BK365.out) hb); replace HB := bh HB hb; (try clear hb); (try clear hb2); (try clear hk); (try clear hi)) | ((with_reducible refine gate_dst (N := 10) rfl ?_); (try (refine gate_guard (by rfl) ?_; dsimp only)); refine box_event ?hg (N := 10) ?hd (cs := #[.int .u64 0, .int .u64 0]) (t := 28) ?hr ?_; (case hd => rfl); (case hg => rfl); (case hr => first | (go_simp; done) | (go_simp; rfl)); intro gb369 hg w47 hbox hb; have BK369 := Aside0.mk hbox; have GW369 := ge hg HB; have GE369 := ge hg HB; have NB365_369 := nl hg BK365; have NB369_365 := ng hg BK365; replace HO363 := kb HO363 hb; replace BK365 := bb BK365 hb; replace HB := bh HB hb; clear hb hbox hg; have hnb48 := NB369_365.out; have hnc48 := NB365_369.out; obtain ⟨hcz49_0, hcz49_1⟩ := zc2 BK369; obtain ⟨hfz49_0, hfz49_1⟩ := zf2 BK369; obtain ⟨hcz50_0, hcz50_1⟩ := zc2 BK365; obtain ⟨hfz50_0, hfz50_1⟩ := zf2 BK365) | (go_at_call 10; (with_reducible refine (line_At.calls k2 a0 _ _ l2 0 (IntKind.u64.wrap (x8_2)) t370 t371 t372 _ ?side1 ?side2 A21.out).mono ?_); (case side1 => exact Kd.C_below HR2.out (bq HB.out)); (case side2 => exact HC2.out); rintro e w51 ⟨rfl, hb⟩; replace HO363 := Aside0.mk (Kd.R_below (by (with_reducible repeat refine kl ?_); exact (kf2 HO363 BK369 (by decide))) hb); replace BK365 := Aside0.mk (blk_below (g := gb365) (o := .cells #[.int .u64 0, .int .u64 (IntKind.u64.wrap (x8_2))] 28 (0, 0)) (by (with_reducible repeat refine bl ?_); refine blk_far ?_ NB365_369.out _; (with_reducible repeat refine bl ?_); refine blk_far ?_ NB365_369.out _; (with_reducible repeat refine bl ?_); exact BK365.out) hb); replace BK369 := Aside0.mk (blk_below (g := gb369) (o := .cells #[.int .u64 t366, .int .u64 t367] 28 (0, 0)) (by (with_reducible repeat refine bl ?_); refine blk_put (cs := #[.int .u64 t366, .int .u64 0]) ?_ 1 _ rfl; (with_reducible repeat refine bl ?_); refine blk_put (cs := #[.int .u64 0, .int .u64 0]) ?_ 0 _ rfl; (with_reducible repeat refine bl ?_); exact BK369.out) hb); replace HB := bh HB hb; (try clear hb); (try clear hb2); (try clear hk); (try clear hi)) | ((with_reducible refine gate_dst (N := 12) rfl ?_); (try (refine gate_guard (by rfl) ?_; dsimp only)); refine box_event ?hg (N := 12) ?hd (cs := #[.int .u64 0, .int .u64 0]) (t := 28) ?hr ?_; (case hd => rfl); (case hg => rfl); (case hr => first | (go_simp; done) | (go_simp; rfl)); intro gb373 hg w52 hbox hb; have BK373 := Aside0.mk hbox; have GW373 := ge hg HB; have GE373 := ge hg HB; have NB365_373 := nl hg BK365; have NB373_365 := ng hg BK365; have NB369_373 := nl hg BK369; have NB373_369 := ng hg BK369; replace HO363 := kb HO363 hb; replace BK365 := bb BK365 hb; replace BK369 := bb BK369 hb; replace HB := bh HB hb; clear hb hbox hg; have hnb53 := NB373_365.out; have hnc53 := NB365_373.out; have hnb54 := NB373_369.out; have hnc54 := NB369_373.out; obtain ⟨hcz55_0, hcz55_1⟩ := zc2 BK373; obtain ⟨hfz55_0, hfz55_1⟩ := zf2 BK373; obtain ⟨hcz56_0, hcz56_1⟩ := zc2 BK369; obtain ⟨hfz56_0, hfz56_1⟩ := zf2 BK369)); try go_wp2_with (first | ((with_reducible refine gate_dst (N := 44) rfl ?_); (try (refine gate_guard (by rfl) ?_; dsimp only)); refine Kd.R_lit (Kd.int .i64) _ 3 ?hg (N := 44) ?hd (xs := ([2, 4, 16, 256] : List Int)) (inner := [.int .i64 2, .int .i64 4, .int .i64 16, .int .i64 256]) (ok := fun _ => True) (okp := fun _ => True) ?hr ?hp (fun _ hk => hk) trivial (Below.refl _ _) (Nat.le_refl _) (by simp) ?_; (case hd => rfl); (case hg => rfl); (case hr => first | (go_simp; done) | (go_simp; rfl)); (case hp => exact (Reps.one (show Kd.M (Kd.int .i64) _ _ _ 2 [.int .i64 2] from rfl) (Reps.one (show Kd.M (Kd.int .i64) _ _ _ 4 [.int .i64 4] from rfl) (Reps.one (show Kd.M (Kd.int .i64) _ _ _ 16 [.int .i64 16] from rfl) (Reps.one (show Kd.M (Kd.int .i64) _ _ _ 256 [.int .i64 256] from rfl) (Reps.none _ _)))))); intro v362 w41 ho42 hb hg_ hnew_; clear hg_ hnew_; (first | rw [← Ny361.out] at ho42 | (simp only [Int.reduceToNat] at ho42; rw [← Ny361.out] at ho42)); have HO363 := kw ho42 HB; replace HB := bh HB hb; clear hb ho42; obtain ⟨Ao43, co43, eo43⟩ := Kd.R_slice HO363.out; subst eo43; have p364 : 0 ≤ (a0 : Int) := of_decide_eq_true (by first | (with_reducible assumption) | assumption); have q364 : a0 < (y361.length : Int) := of_decide_eq_true (by first | (with_reducible assumption) | assumption); obtain ⟨ad364, e364, hx364_0⟩ := Kd.at_int (Kd.R_reads' HO363.out).2.2 a0 p364 q364; cases e364; replace p364 := eq_true p364; replace q364 := eq_true q364) | ((with_reducible refine gate_dst (N := 9) rfl ?_); (try (refine gate_guard (by rfl) ?_; dsimp only)); refine box_event ?hg (N := 9) ?hd (cs := #[.int .u64 0, .int .u64 0]) (t := 28) ?hr ?_; (case hd => rfl); (case hg => rfl); (case hr => first | (go_simp; done) | (go_simp; rfl)); intro gb365 hg w44 hbox hb; have BK365 := Aside0.mk hbox; have GW365 := ge hg HB; have GE365 := ge hg HB; replace HO363 := kb HO363 hb; replace HB := bh HB hb; clear hb hbox hg; obtain ⟨hcz45_0, hcz45_1⟩ := zc2 BK365; obtain ⟨hfz45_0, hfz45_1⟩ := zf2 BK365) | (go_at_call 10; (with_reducible refine (line_At.calls k2 a0 _ _ l1 0 (IntKind.u64.wrap (x8_2)) t366 t367 t368 _ ?side1 ?side2 A20.out).mono ?_); (case side1 => exact Kd.C_below HR1.out (bq HB.out)); (case side2 => exact HC1.out); rintro e w46 ⟨rfl, hb⟩; replace HO363 := Aside0.mk (Kd.R_below (by (with_reducible repeat refine kl ?_); exact (kf2 HO363 BK365 (by decide))) hb); replace BK365 := Aside0.mk (blk_below (g := gb365) (o := .cells #[.int .u64 0, .int .u64 (IntKind.u64.wrap (x8_2))] 28 (0, 0)) (by (with_reducible repeat refine bl ?_); refine blk_put (cs := #[.int .u64 0, .int .u64 0]) ?_ 1 _ rfl; (with_reducible repeat refine bl ?_); refine blk_put (cs := #[.int .u64 0, .int .u64 0]) ?_ 0 _ rfl; (with_reducible repeat refine bl ?_); exact BK365.out) hb); replace HB := bh HB hb; (try clear hb); (try clear hb2); (try clear hk); (try clear hi)) | ((with_reducible refine gate_dst (N := 10) rfl ?_); (try (refine gate_guard (by rfl) ?_; dsimp only)); refine box_event ?hg (N := 10) ?hd (cs := #[.int .u64 0, .int .u64 0]) (t := 28) ?hr ?_; (case hd => rfl); (case hg => rfl); (case hr => first | (go_simp; done) | (go_simp; rfl)); intro gb369 hg w47 hbox hb; have BK369 := Aside0.mk hbox; have GW369 := ge hg HB; have GE369 := ge hg HB; have NB365_369 := nl hg BK365; have NB369_365 := ng hg BK365; replace HO363 := kb HO363 hb; replace BK365 := bb BK365 hb; replace HB := bh HB hb; clear hb hbox hg; have hnb48 := NB369_365.out; have hnc48 := NB365_369.out; obtain ⟨hcz49_0, hcz49_1⟩ := zc2 BK369; obtain ⟨hfz49_0, hfz49_1⟩ := zf2 BK369; obtain ⟨hcz50_0, hcz50_1⟩ := zc2 BK365; obtain ⟨hfz50_0, hfz50_1⟩ := zf2 BK365) | (go_at_call 10; (with_reducible refine (line_At.calls k2 a0 _ _ l2 0 (IntKind.u64.wrap (x8_2)) t370 t371 t372 _ ?side1 ?side2 A21.out).mono ?_); (case side1 => exact Kd.C_below HR2.out (bq HB.out)); (case side2 => exact HC2.out); rintro e w51 ⟨rfl, hb⟩; replace HO363 := Aside0.mk (Kd.R_below (by (with_reducible repeat refine kl ?_); exact (kf2 HO363 BK369 (by decide))) hb); replace BK365 := Aside0.mk (blk_below (g := gb365) (o := .cells #[.int .u64 0, .int .u64 (IntKind.u64.wrap (x8_2))] 28 (0, 0)) (by (with_reducible repeat refine bl ?_); refine blk_far ?_ NB365_369.out _; (with_reducible repeat refine bl ?_); refine blk_far ?_ NB365_369.out _; (with_reducible repeat refine bl ?_); exact BK365.out) hb); replace BK369 := Aside0.mk (blk_below (g := gb369) (o := .cells #[.int .u64 t366, .int .u64 t367] 28 (0, 0)) (by (with_reducible repeat refine bl ?_); refine blk_put (cs := #[.int .u64 t366, .int .u64 0]) ?_ 1 _ rfl; (with_reducible repeat refine bl ?_); refine blk_put (cs := #[.int .u64 0, .int .u64 0]) ?_ 0 _ rfl; (with_reducible repeat refine bl ?_); exact BK369.out) hb); replace HB := bh HB hb; (try clear hb); (try clear hb2); (try clear hk); (try clear hi)) | ((with_reducible refine gate_dst (N := 12) rfl ?_); (try (refine gate_guard (by rfl) ?_; dsimp only)); refine box_event ?hg (N := 12) ?hd (cs := #[.int .u64 0, .int .u64 0]) (t := 28) ?hr ?_; (case hd => rfl); (case hg => rfl); (case hr => first | (go_simp; done) | (go_simp; rfl)); intro gb373 hg w52 hbox hb; have BK373 := Aside0.mk hbox; have GW373 := ge hg HB; have GE373 := ge hg HB; have NB365_373 := nl hg BK365; have NB373_365 := ng hg BK365; have NB369_373 := nl hg BK369; have NB373_369 := ng hg BK369; replace HO363 := kb HO363 hb; replace BK365 := bb BK365 hb; replace BK369 := bb BK369 hb; replace HB := bh HB hb; clear hb hbox hg; have hnb53 := NB373_365.out; have hnc53 := NB365_373.out; have hnb54 := NB373_369.out; have hnc54 := NB369_373.out; obtain ⟨hcz55_0, hcz55_1⟩ := zc2 BK373; obtain ⟨hfz55_0, hfz55_1⟩ := zf2 BK373; obtain ⟨hcz56_0, hcz56_1⟩ := zc2 BK369; obtain ⟨hfz56_0, hfz56_1⟩ := zf2 BK369)))
            go_roundg k2
            case measure => have := HJ3.out; have := HK2.out; omega
            case rel => exact ⟨(x7_2), (wrap64 (x8_2 + 1)), (by first | rfl | (simp; done) | (simp [*]; done)), (by first | rfl | (simp; done) | (simp [*]; done)), H', ⟨by have := HJ3.out; have := HK2.out; omega⟩, ⟨bq HB.out⟩⟩
          ·rw [if_neg c23] at H
           exact absurd H (by simp)
         ·rw [if_neg c22] at H
          exact absurd H (by simp)
        ·rw [if_neg c19] at H
         have c19b0 : decide (x8_2 < (rd y361 a0)) = false := decide_eq_false c19
         clear c19
         have H' := Aside0.mk H
         clear H
         go_wp2_with (first | ((with_reducible refine gate_dst (N := 44) rfl ?_); (try (refine gate_guard (by rfl) ?_; dsimp only)); refine Kd.R_lit (Kd.int .i64) _ 3 ?hg (N := 44) ?hd (xs := ([2, 4, 16, 256] : List Int)) (inner := [.int .i64 2, .int .i64 4, .int .i64 16, .int .i64 256]) (ok := fun _ => True) (okp := fun _ => True) ?hr ?hp (fun _ hk => hk) trivial (Below.refl _ _) (Nat.le_refl _) (by simp) ?_; (case hd => rfl); (case hg => rfl); (case hr => first | (go_simp; done) | (go_simp; rfl)); (case hp => exact (Reps.one (show Kd.M (Kd.int .i64) _ _ _ 2 [.int .i64 2] from rfl) (Reps.one (show Kd.M (Kd.int .i64) _ _ _ 4 [.int .i64 4] from rfl) (Reps.one (show Kd.M (Kd.int .i64) _ _ _ 16 [.int .i64 16] from rfl) (Reps.one (show Kd.M (Kd.int .i64) _ _ _ 256 [.int .i64 256] from rfl) (Reps.none _ _)))))); intro v362 w57 ho58 hb hg_ hnew_; clear hg_ hnew_; (first | rw [← Ny361.out] at ho58 | (simp only [Int.reduceToNat] at ho58; rw [← Ny361.out] at ho58)); have HO363 := kw ho58 HB; replace HB := bh HB hb; clear hb ho58; obtain ⟨Ao59, co59, eo59⟩ := Kd.R_slice HO363.out; subst eo59; have p364 : 0 ≤ (a0 : Int) := of_decide_eq_true (by first | (with_reducible assumption) | assumption); have q364 : a0 < (y361.length : Int) := of_decide_eq_true (by first | (with_reducible assumption) | assumption); obtain ⟨ad364, e364, hx364_0⟩ := Kd.at_int (Kd.R_reads' HO363.out).2.2 a0 p364 q364; cases e364; replace p364 := eq_true p364; replace q364 := eq_true q364))
         repeat (go_quiet (first | ((with_reducible refine gate_dst (N := 44) rfl ?_); (try (refine gate_guard (by rfl) ?_; dsimp only)); refine Kd.R_lit (Kd.int .i64) _ 3 ?hg (N := 44) ?hd (xs := ([2, 4, 16, 256] : List Int)) (inner := [.int .i64 2, .int .i64 4, .int .i64 16, .int .i64 256]) (ok := fun _ => True) (okp := fun _ => True) ?hr ?hp (fun _ hk => hk) trivial (Below.refl _ _) (Nat.le_refl _) (by simp) ?_; (case hd => rfl); (case hg => rfl); (case hr => first | (go_simp; done) | (go_simp; rfl)); (case hp => exact (Reps.one (show Kd.M (Kd.int .i64) _ _ _ 2 [.int .i64 2] from rfl) (Reps.one (show Kd.M (Kd.int .i64) _ _ _ 4 [.int .i64 4] from rfl) (Reps.one (show Kd.M (Kd.int .i64) _ _ _ 16 [.int .i64 16] from rfl) (Reps.one (show Kd.M (Kd.int .i64) _ _ _ 256 [.int .i64 256] from rfl) (Reps.none _ _)))))); intro v362 w57 ho58 hb hg_ hnew_; clear hg_ hnew_; (first | rw [← Ny361.out] at ho58 | (simp only [Int.reduceToNat] at ho58; rw [← Ny361.out] at ho58)); have HO363 := kw ho58 HB; replace HB := bh HB hb; clear hb ho58; obtain ⟨Ao59, co59, eo59⟩ := Kd.R_slice HO363.out; subst eo59; have p364 : 0 ≤ (a0 : Int) := of_decide_eq_true (by first | (with_reducible assumption) | assumption); have q364 : a0 < (y361.length : Int) := of_decide_eq_true (by first | (with_reducible assumption) | assumption); obtain ⟨ad364, e364, hx364_0⟩ := Kd.at_int (Kd.R_reads' HO363.out).2.2 a0 p364 q364; cases e364; replace p364 := eq_true p364; replace q364 := eq_true q364)); try go_wp2_with (first | ((with_reducible refine gate_dst (N := 44) rfl ?_); (try (refine gate_guard (by rfl) ?_; dsimp only)); refine Kd.R_lit (Kd.int .i64) _ 3 ?hg (N := 44) ?hd (xs := ([2, 4, 16, 256] : List Int)) (inner := [.int .i64 2, .int .i64 4, .int .i64 16, .int .i64 256]) (ok := fun _ => True) (okp := fun _ => True) ?hr ?hp (fun _ hk => hk) trivial (Below.refl _ _) (Nat.le_refl _) (by simp) ?_; (case hd => rfl); (case hg => rfl); (case hr => first | (go_simp; done) | (go_simp; rfl)); (case hp => exact (Reps.one (show Kd.M (Kd.int .i64) _ _ _ 2 [.int .i64 2] from rfl) (Reps.one (show Kd.M (Kd.int .i64) _ _ _ 4 [.int .i64 4] from rfl) (Reps.one (show Kd.M (Kd.int .i64) _ _ _ 16 [.int .i64 16] from rfl) (Reps.one (show Kd.M (Kd.int .i64) _ _ _ 256 [.int .i64 256] from rfl) (Reps.none _ _)))))); intro v362 w57 ho58 hb hg_ hnew_; clear hg_ hnew_; (first | rw [← Ny361.out] at ho58 | (simp only [Int.reduceToNat] at ho58; rw [← Ny361.out] at ho58)); have HO363 := kw ho58 HB; replace HB := bh HB hb; clear hb ho58; obtain ⟨Ao59, co59, eo59⟩ := Kd.R_slice HO363.out; subst eo59; have p364 : 0 ≤ (a0 : Int) := of_decide_eq_true (by first | (with_reducible assumption) | assumption); have q364 : a0 < (y361.length : Int) := of_decide_eq_true (by first | (with_reducible assumption) | assumption); obtain ⟨ad364, e364, hx364_0⟩ := Kd.at_int (Kd.R_reads' HO363.out).2.2 a0 p364 q364; cases e364; replace p364 := eq_true p364; replace q364 := eq_true q364)))
         go_loopg [14, 15] k2 (fun kq v14 v15 w' => ∃ (x14_3 : Bool) (x15_3 : Int), v14 = .bool x14_3 ∧ v15 = .int .i64 x15_3 ∧ Aside0 (steeplelaw17_LineApart.l1 kq a0 l1 l2 x7_2 x14_3 x15_3 = some r) ∧ Aside0 (kq ≤ k2) ∧ Aside0 (Below w.heap.size w w'))
         case atStart => exact ⟨(true), (0), (by first | rfl | (simp; done) | (simp [*]; done)), (by first | rfl | (simp; done) | (simp [*]; done)), H', ⟨Nat.le_refl _⟩, ⟨bq HB.out⟩⟩
         case round =>
          clear H'
          try clear c1
          try clear c2
          try clear p2
          try clear c3
          try clear p3
          try clear q3
          try clear hx3
          try clear c4
          try clear c5
          try clear c5b0
          try clear c6
          try clear c6b0
          try clear c6b1
          try clear p6
          try clear c7
          try clear c7b0
          try clear c7b1
          try clear c7b2
          try clear c9
          try clear c9b0
          try clear c9b1
          try clear c14
          try clear c17
          try clear c17b0
          try clear c18
          try clear c18b0
          try clear c19
          try clear c19b0
          try clear c22
          try clear c22b0
          try clear c22b1
          try clear c23
          try clear c23b0
          try clear c23b1
          try clear c24
          try clear c24b0
          try clear c24b1
          try clear c24b2
          try clear c32
          try clear p36
          try clear q36
          try clear hx36
          try clear c37
          try clear c38
          try clear c48
          try clear c53
          try clear c54
          try clear hcz29_0
          try clear hcz29_1
          try clear hcz33_0
          try clear hcz33_1
          try clear hcz34_0
          try clear hcz34_1
          try clear hcz39_0
          try clear hcz39_1
          try clear hcz40_0
          try clear hcz40_1
          try clear hcz45_0
          try clear hcz45_1
          try clear hcz49_0
          try clear hcz49_1
          try clear hcz50_0
          try clear hcz50_1
          try clear hcz55_0
          try clear hcz55_1
          try clear hcz56_0
          try clear hcz56_1
          try clear hfz29_0
          try clear hfz29_1
          try clear hfz33_0
          try clear hfz33_1
          try clear hfz34_0
          try clear hfz34_1
          try clear hfz39_0
          try clear hfz39_1
          try clear hfz40_0
          try clear hfz40_1
          try clear hfz45_0
          try clear hfz45_1
          try clear hfz49_0
          try clear hfz49_1
          try clear hfz50_0
          try clear hfz50_1
          try clear hfz55_0
          try clear hfz55_1
          try clear hfz56_0
          try clear hfz56_1
          try clear hx364_0
          try clear p2
          try clear p364
          try clear q364
          obtain ⟨x14_3, x15_3, rfl, rfl, HA, HK3, HB⟩ := hrel
          cases gk with
          | zero => exact absurd HA.out (by simp [steeplelaw17_LineApart.l1])
          | succ k3 =>
           have H := HA.out
           clear HA
           simp only [steeplelaw17_LineApart.l1] at H
           by_cases c60 : x15_3 < (l1.length : Int)
           ·rw [if_pos c60] at H
            have c60b0 : decide (x15_3 < (l1.length : Int)) = true := decide_eq_true c60
            clear c60
            by_cases c61 : x14_3 = true
            ·subst c61
             have H1 : (if 0 ≤ x15_3 then (if x15_3 < (l2.length : Int) then (steeplelaw17_LineApart.l1 k3 a0 l1 l2 x7_2 (((rd_T28 l1 x15_3).f0) == ((rd_T28 l2 x15_3).f0) && (((rd_T28 l1 x15_3).f1) == ((rd_T28 l2 x15_3).f1))) (wrap64 (x15_3 + 1))) else (none)) else (none)) = some r := by rw [if_pos rfl] at H; exact H
             clear H
             have H := H1
             clear H1
             by_cases c62 : 0 ≤ x15_3
             ·rw [if_pos c62] at H
              have c62b0 : decide (0 ≤ x15_3) = true := decide_eq_true c62
              clear c62
              by_cases c63 : x15_3 < (l2.length : Int)
              ·rw [if_pos c63] at H
               have c63b0 : decide (x15_3 < (l2.length : Int)) = true := decide_eq_true c63
               clear c63
               have H' := Aside0.mk H
               clear H
               have p374 : 0 ≤ (x15_3 : Int) := of_decide_eq_true (by first | (with_reducible assumption) | assumption)
               have q374 : x15_3 < (l1.length : Int) := of_decide_eq_true (by first | (with_reducible assumption) | assumption)
               obtain ⟨ad374, e374, hx374_0, hx374_1⟩ := at_T28 HR1.out x15_3 p374 q374
               cases e374
               replace hx374_0 := (HB.out.cell (World.block_lt_of_cell? w _ hx374_0)).trans hx374_0
               replace hx374_1 := (HB.out.cell (World.block_lt_of_cell? w _ hx374_1)).trans hx374_1
               replace p374 := eq_true p374
               replace q374 := eq_true q374
               have p375 : 0 ≤ (x15_3 : Int) := of_decide_eq_true (by first | (with_reducible assumption) | assumption)
               have q375 : x15_3 < (l2.length : Int) := of_decide_eq_true (by first | (with_reducible assumption) | assumption)
               obtain ⟨ad375, e375, hx375_0, hx375_1⟩ := at_T28 HR2.out x15_3 p375 q375
               cases e375
               replace hx375_0 := (HB.out.cell (World.block_lt_of_cell? w _ hx375_0)).trans hx375_0
               replace hx375_1 := (HB.out.cell (World.block_lt_of_cell? w _ hx375_1)).trans hx375_1
               replace p375 := eq_true p375
               replace q375 := eq_true q375
               go_wp2
               repeat (go_quiet (fail); try go_wp2)
               go_roundg k3
               case measure => have := HJ3.out; have := HK2.out; have := HK3.out; omega
               case rel => exact ⟨((((rd_T28 l1 x15_3).f0) == ((rd_T28 l2 x15_3).f0) && (((rd_T28 l1 x15_3).f1) == ((rd_T28 l2 x15_3).f1)))), (wrap64 (x15_3 + 1)), (by first | rfl | (simp; done) | (simp [*]; done)), (by first | rfl | (simp; done) | (simp [*]; done)), H', ⟨by have := HJ3.out; have := HK2.out; have := HK3.out; omega⟩, ⟨bq HB.out⟩⟩
              ·rw [if_neg c63] at H
               exact absurd H (by simp)
             ·rw [if_neg c62] at H
              exact absurd H (by simp)
            ·replace c61 := Bool.eq_false_iff.mpr c61
             subst c61
             have H1 : (steeplelaw17_LineApart.l1 k3 a0 l1 l2 x7_2 false (wrap64 (x15_3 + 1))) = some r := by rw [if_neg (show ¬ (false = true) by decide)] at H; exact H
             clear H
             have H := H1
             clear H1
             have H' := Aside0.mk H
             clear H
             go_wp2
             repeat (go_quiet (fail); try go_wp2)
             go_roundg k3
             case measure => have := HJ3.out; have := HK2.out; have := HK3.out; omega
             case rel => exact ⟨(false), (wrap64 (x15_3 + 1)), (by first | rfl | (simp; done) | (simp [*]; done)), (by first | rfl | (simp; done) | (simp [*]; done)), H', ⟨by have := HJ3.out; have := HK2.out; have := HK3.out; omega⟩, ⟨bq HB.out⟩⟩
           ·rw [if_neg c60] at H
            have c60b0 : decide (x15_3 < (l1.length : Int)) = false := decide_eq_false c60
            clear c60
            by_cases c64 : x14_3 = true
            ·subst c64
             have H1 : ((steeplelaw17_awake.f k3).bind fun t376 => (if t376 = true then ((some (([2, 4, 16, 256] : List Int) : List Int)).bind fun y377 => (if 0 ≤ a0 then (if a0 < (y377.length : Int) then (some (x7_2 == (rd y377 a0))) else (none)) else (none))) else (none))) = some r := by rw [if_pos rfl] at H; exact H
             clear H
             have H := H1
             clear H1
             replace H := Option.bind_eq_some_iff.mp H
             obtain ⟨t376, A650, H⟩ := H
             replace H : (if t376 = true then ((some (([2, 4, 16, 256] : List Int) : List Int)).bind fun y377 => (if 0 ≤ a0 then (if a0 < (y377.length : Int) then (some (x7_2 == (rd y377 a0))) else (none)) else (none))) else (none)) = some r := H
             have A65 := Aside0.mk A650
             clear A650
             by_cases c66 : t376 = true
             ·subst c66
              have H1 : ((some (([2, 4, 16, 256] : List Int) : List Int)).bind fun y377 => (if 0 ≤ a0 then (if a0 < (y377.length : Int) then (some (x7_2 == (rd y377 a0))) else (none)) else (none))) = some r := by rw [if_pos rfl] at H; exact H
              clear H
              have H := H1
              clear H1
              obtain ⟨y377, hy377⟩ : ∃ y_ : List Int, y_ = (([2, 4, 16, 256] : List Int)) := ⟨_, rfl⟩
              replace H : (if 0 ≤ a0 then (if a0 < (y377.length : Int) then (some (x7_2 == (rd y377 a0))) else (none)) else (none)) = some r := by first | (rw [hy377]; with_reducible exact H) | (have H2_ := (Option.bind_some _ _).symm.trans H; rw [hy377]; with_reducible exact H2_) | (have H2_ := (Option.bind_some _ _).symm.trans H; with_reducible exact H2_) | with_reducible exact H | (rw [hy377]; exact H) | exact H
              have Ny377 := Aside0.mk hy377
              clear hy377
              by_cases c67 : 0 ≤ a0
              ·rw [if_pos c67] at H
               have c67b0 : decide (0 ≤ a0) = true := decide_eq_true c67
               clear c67
               by_cases c68 : a0 < (y377.length : Int)
               ·rw [if_pos c68] at H
                have c68b0 : decide (a0 < (y377.length : Int)) = true := decide_eq_true c68
                clear c68
                obtain rfl := Option.some.inj H
                go_wp2_with (first | (go_at_call 9; (with_reducible refine (steeplelaw17_awake.calls k3  true _ A65.out).mono ?_); rintro e w69 ⟨rfl, hb⟩; replace HB := bh HB hb; (try clear hb); (try clear hb2); (try clear hk); (try clear hi)) | ((with_reducible refine gate_dst (N := 101) rfl ?_); (try (refine gate_guard (by rfl) ?_; dsimp only)); refine Kd.R_lit (Kd.int .i64) _ 3 ?hg (N := 101) ?hd (xs := ([2, 4, 16, 256] : List Int)) (inner := [.int .i64 2, .int .i64 4, .int .i64 16, .int .i64 256]) (ok := fun _ => True) (okp := fun _ => True) ?hr ?hp (fun _ hk => hk) trivial (Below.refl _ _) (Nat.le_refl _) (by simp) ?_; (case hd => rfl); (case hg => rfl); (case hr => first | (go_simp; done) | (go_simp; rfl)); (case hp => exact (Reps.one (show Kd.M (Kd.int .i64) _ _ _ 2 [.int .i64 2] from rfl) (Reps.one (show Kd.M (Kd.int .i64) _ _ _ 4 [.int .i64 4] from rfl) (Reps.one (show Kd.M (Kd.int .i64) _ _ _ 16 [.int .i64 16] from rfl) (Reps.one (show Kd.M (Kd.int .i64) _ _ _ 256 [.int .i64 256] from rfl) (Reps.none _ _)))))); intro v378 w70 ho71 hb hg_ hnew_; clear hg_ hnew_; (first | rw [← Ny377.out] at ho71 | (simp only [Int.reduceToNat] at ho71; rw [← Ny377.out] at ho71)); have HO379 := kw ho71 HB; replace HB := bh HB hb; clear hb ho71; obtain ⟨Ao72, co72, eo72⟩ := Kd.R_slice HO379.out; subst eo72; have p380 : 0 ≤ (a0 : Int) := of_decide_eq_true (by first | (with_reducible assumption) | assumption); have q380 : a0 < (y377.length : Int) := of_decide_eq_true (by first | (with_reducible assumption) | assumption); obtain ⟨ad380, e380, hx380_0⟩ := Kd.at_int (Kd.R_reads' HO379.out).2.2 a0 p380 q380; cases e380; replace p380 := eq_true p380; replace q380 := eq_true q380))
                repeat (go_quiet (first | (go_at_call 9; (with_reducible refine (steeplelaw17_awake.calls k3  true _ A65.out).mono ?_); rintro e w69 ⟨rfl, hb⟩; replace HB := bh HB hb; (try clear hb); (try clear hb2); (try clear hk); (try clear hi)) | ((with_reducible refine gate_dst (N := 101) rfl ?_); (try (refine gate_guard (by rfl) ?_; dsimp only)); refine Kd.R_lit (Kd.int .i64) _ 3 ?hg (N := 101) ?hd (xs := ([2, 4, 16, 256] : List Int)) (inner := [.int .i64 2, .int .i64 4, .int .i64 16, .int .i64 256]) (ok := fun _ => True) (okp := fun _ => True) ?hr ?hp (fun _ hk => hk) trivial (Below.refl _ _) (Nat.le_refl _) (by simp) ?_; (case hd => rfl); (case hg => rfl); (case hr => first | (go_simp; done) | (go_simp; rfl)); (case hp => exact (Reps.one (show Kd.M (Kd.int .i64) _ _ _ 2 [.int .i64 2] from rfl) (Reps.one (show Kd.M (Kd.int .i64) _ _ _ 4 [.int .i64 4] from rfl) (Reps.one (show Kd.M (Kd.int .i64) _ _ _ 16 [.int .i64 16] from rfl) (Reps.one (show Kd.M (Kd.int .i64) _ _ _ 256 [.int .i64 256] from rfl) (Reps.none _ _)))))); intro v378 w70 ho71 hb hg_ hnew_; clear hg_ hnew_; (first | rw [← Ny377.out] at ho71 | (simp only [Int.reduceToNat] at ho71; rw [← Ny377.out] at ho71)); have HO379 := kw ho71 HB; replace HB := bh HB hb; clear hb ho71; obtain ⟨Ao72, co72, eo72⟩ := Kd.R_slice HO379.out; subst eo72; have p380 : 0 ≤ (a0 : Int) := of_decide_eq_true (by first | (with_reducible assumption) | assumption); have q380 : a0 < (y377.length : Int) := of_decide_eq_true (by first | (with_reducible assumption) | assumption); obtain ⟨ad380, e380, hx380_0⟩ := Kd.at_int (Kd.R_reads' HO379.out).2.2 a0 p380 q380; cases e380; replace p380 := eq_true p380; replace q380 := eq_true q380)); try go_wp2_with (first | (go_at_call 9; (with_reducible refine (steeplelaw17_awake.calls k3  true _ A65.out).mono ?_); rintro e w69 ⟨rfl, hb⟩; replace HB := bh HB hb; (try clear hb); (try clear hb2); (try clear hk); (try clear hi)) | ((with_reducible refine gate_dst (N := 101) rfl ?_); (try (refine gate_guard (by rfl) ?_; dsimp only)); refine Kd.R_lit (Kd.int .i64) _ 3 ?hg (N := 101) ?hd (xs := ([2, 4, 16, 256] : List Int)) (inner := [.int .i64 2, .int .i64 4, .int .i64 16, .int .i64 256]) (ok := fun _ => True) (okp := fun _ => True) ?hr ?hp (fun _ hk => hk) trivial (Below.refl _ _) (Nat.le_refl _) (by simp) ?_; (case hd => rfl); (case hg => rfl); (case hr => first | (go_simp; done) | (go_simp; rfl)); (case hp => exact (Reps.one (show Kd.M (Kd.int .i64) _ _ _ 2 [.int .i64 2] from rfl) (Reps.one (show Kd.M (Kd.int .i64) _ _ _ 4 [.int .i64 4] from rfl) (Reps.one (show Kd.M (Kd.int .i64) _ _ _ 16 [.int .i64 16] from rfl) (Reps.one (show Kd.M (Kd.int .i64) _ _ _ 256 [.int .i64 256] from rfl) (Reps.none _ _)))))); intro v378 w70 ho71 hb hg_ hnew_; clear hg_ hnew_; (first | rw [← Ny377.out] at ho71 | (simp only [Int.reduceToNat] at ho71; rw [← Ny377.out] at ho71)); have HO379 := kw ho71 HB; replace HB := bh HB hb; clear hb ho71; obtain ⟨Ao72, co72, eo72⟩ := Kd.R_slice HO379.out; subst eo72; have p380 : 0 ≤ (a0 : Int) := of_decide_eq_true (by first | (with_reducible assumption) | assumption); have q380 : a0 < (y377.length : Int) := of_decide_eq_true (by first | (with_reducible assumption) | assumption); obtain ⟨ad380, e380, hx380_0⟩ := Kd.at_int (Kd.R_reads' HO379.out).2.2 a0 p380 q380; cases e380; replace p380 := eq_true p380; replace q380 := eq_true q380)))
                go_ret
                exact ⟨by first | rfl | (simp [errW_none, errW_some] <;> rfl) | (simp [*, errW_none, errW_some] <;> rfl), bq HB.out⟩
               ·rw [if_neg c68] at H
                exact absurd H (by simp)
              ·rw [if_neg c67] at H
               exact absurd H (by simp)
             ·replace c66 := Bool.eq_false_iff.mpr c66
              subst c66
              have H1 : (none) = some r := by rw [if_neg (show ¬ (false = true) by decide)] at H; exact H
              clear H
              have H := H1
              clear H1
              exact absurd H (by simp)
            ·replace c64 := Bool.eq_false_iff.mpr c64
             subst c64
             have H1 : ((steeplelaw17_awake.f k3).bind fun t381 => (if t381 = true then (some (decide (x7_2 ≤ (wrap64 ((l1.length : Int) - 1))))) else (none))) = some r := by rw [if_neg (show ¬ (false = true) by decide)] at H; exact H
             clear H
             have H := H1
             clear H1
             replace H := Option.bind_eq_some_iff.mp H
             obtain ⟨t381, A730, H⟩ := H
             replace H : (if t381 = true then (some (decide (x7_2 ≤ (wrap64 ((l1.length : Int) - 1))))) else (none)) = some r := H
             have A73 := Aside0.mk A730
             clear A730
             by_cases c74 : t381 = true
             ·subst c74
              have H1 : (some (decide (x7_2 ≤ (wrap64 ((l1.length : Int) - 1))))) = some r := by rw [if_pos rfl] at H; exact H
              clear H
              have H := H1
              clear H1
              obtain rfl := Option.some.inj H
              go_wp2_with (first | (go_at_call 9; (with_reducible refine (steeplelaw17_awake.calls k3  true _ A73.out).mono ?_); rintro e w75 ⟨rfl, hb⟩; replace HB := bh HB hb; (try clear hb); (try clear hb2); (try clear hk); (try clear hi)))
              repeat (go_quiet (first | (go_at_call 9; (with_reducible refine (steeplelaw17_awake.calls k3  true _ A73.out).mono ?_); rintro e w75 ⟨rfl, hb⟩; replace HB := bh HB hb; (try clear hb); (try clear hb2); (try clear hk); (try clear hi))); try go_wp2_with (first | (go_at_call 9; (with_reducible refine (steeplelaw17_awake.calls k3  true _ A73.out).mono ?_); rintro e w75 ⟨rfl, hb⟩; replace HB := bh HB hb; (try clear hb); (try clear hb2); (try clear hk); (try clear hi))))
              go_ret
              exact ⟨by first | rfl | (simp [errW_none, errW_some] <;> rfl) | (simp [*, errW_none, errW_some] <;> rfl), bq HB.out⟩
             ·replace c74 := Bool.eq_false_iff.mpr c74
              subst c74
              have H1 : (none) = some r := by rw [if_neg (show ¬ (false = true) by decide)] at H; exact H
              clear H
              have H := H1
              clear H1
              exact absurd H (by simp)
       ·rw [if_neg c18] at H
        exact absurd H (by simp)
      ·rw [if_neg c17] at H
       exact absurd H (by simp)

/-- THE ONE PURE STATEMENT of steeplelaw17_LineApart. -/
def steeplelaw17_LineApart.Pure : Prop := ∀ (x0 : Int) (x1 : List (S28)) (x2 : List (S28)), (Lit.int .i64 x0).wf = true → (x1.length ≤ maxLen ∧ x1.length * 16 ≤ 140737488351232 ∧ ∀ y0 ∈ x1, ((Lit.int .u64 y0.f0).wf = true ∧ (Lit.int .u64 y0.f1).wf = true)) → (x2.length ≤ maxLen ∧ x2.length * 16 ≤ 140737488351232 ∧ ∀ y0 ∈ x2, ((Lit.int .u64 y0.f0).wf = true ∧ (Lit.int .u64 y0.f1).wf = true)) → ∃ k, steeplelaw17_LineApart.f k x0 x1 x2 = some true

/-! ### line_horner: function 39 -/
def line_horner.l0 : Nat → Int → List (S28) → Int → Int → Int → Int → Int → Option (Int × Int)
 | 0, _, _, _, _, _, _, _ => none
 | k + 1, x0, x1, x8, x383000, x383001, x385000, x385001 => if x8 ≥ 0 then ((tower_Mul.f k x0 x385000 x385001 x383000 x383001).bind fun bt385 => (if 0 ≤ x8 then (if x8 < (x1.length : Int) then ((tower_Add.f bt385.1 bt385.2 ((rd_T28 x1 x8).f0) ((rd_T28 x1 x8).f1)).bind fun bt388 => (line_horner.l0 k x0 x1 (wrap64 (x8 - 1)) x383000 x383001 bt388.1 bt388.2)) else (none)) else (none))) else (some (x385000, x385001))
def line_horner.f (k : Nat) (a0 : Int) (l1 : List (S28)) (a2_0 : Int) (a2_1 : Int) : Option (Int × Int) := line_horner.l0 k a0 l1 (wrap64 ((l1.length : Int) - 1)) a2_0 a2_1 0 0
theorem line_horner.mono_l : ∀ k, (∀ y0 y1 y2 y3 y4 y5 y6, LeO (line_horner.l0 k y0 y1 y2 y3 y4 y5 y6) (line_horner.l0 (k + 1) y0 y1 y2 y3 y4 y5 y6))
 | 0 => fun _ _ _ _ _ _ _ r h => by simp [line_horner.l0] at h
 | k + 1 => by
  have ih0 := line_horner.mono_l k
  ·intro y0 y1 y2 y3 y4 y5 y6
   unfold line_horner.l0
   repeat' first
   | (with_reducible exact ih0 _ _ _ _ _ _ _)
   | (with_reducible exact tower_Mul.mono _ _ _ _ _ _)
   | (with_reducible exact LeO.refl _)
   | (with_reducible exact LeO.none _)
   | (with_reducible refine LeO.ite ?_ ?_)
   | (with_reducible refine LeO.bind ?_ (fun _ => ?_))
   | exact ih0 _ _ _ _ _ _ _
   | exact tower_Mul.mono _ _ _ _ _ _
   | exact LeO.none _
   | refine LeO.ite ?_ ?_
   | refine LeO.bind ?_ (fun _ => ?_)
theorem line_horner.mono : ∀ a0 a1 a2 a3 k, LeO (line_horner.f k a0 a1 a2 a3) (line_horner.f (k + 1) a0 a1 a2 a3) := by
 intro a0 a1 a2 a3 k
 have ih0 := line_horner.mono_l k
 unfold line_horner.f
 repeat' first
   | (with_reducible exact ih0 _ _ _ _ _ _ _)
   | (with_reducible exact tower_Mul.mono _ _ _ _ _ _)
   | (with_reducible exact LeO.refl _)
   | (with_reducible exact LeO.none _)
   | (with_reducible refine LeO.ite ?_ ?_)
   | (with_reducible refine LeO.bind ?_ (fun _ => ?_))
   | exact ih0 _ _ _ _ _ _ _
   | exact tower_Mul.mono _ _ _ _ _ _
   | exact LeO.none _
   | refine LeO.ite ?_ ?_
   | refine LeO.bind ?_ (fun _ => ?_)
def line_horner.T5 : Bool × List (List Nat × List Nat) := (true, [([], []), ([], []), ([], []), ([0, 1, 2], [0, 1, 2]), ([], []), ([], []), ([4, 5], [4, 5]), ([6], [6]), ([3, 7, 3], [3, 7]), ([8, 8, 0, 1, 2, 3, 4, 5, 6, 7, 8], [8])])
def line_horner.B5 : List Nat := [0, 0, 0, 7, 0, 0, 48, 112, 255, 511]
theorem line_horner.tab5 : rtab .any (opsOf Try.f39 5) = line_horner.T5 := by kernel_rfl
theorem line_horner.bits5 : waitsOk line_horner.T5.2 line_horner.B5 = true := by kernel_rfl
set_option maxHeartbeats 8000000 in
set_option maxRecDepth 100000 in
theorem line_horner.calls (k : Nat) (a0 : Int) (A1 : Option Addr) (c1 : Nat) (l1 : List (S28)) (a2_0 : Int) (a2_1 : Int) (r1 : Int) (r2 : Int) (w : World) (hr1 : Kd.C k28 w A1 l1.length l1) (hc1 : l1.length ≤ c1) (h : line_horner.f k a0 l1 a2_0 a2_1 = some (r1, r2)) :
  Calls Try.prog 39 #[.int .i64 a0, .slice A1 l1.length c1, .agg #[.int .u64 a2_0, .int .u64 a2_1]] w fun e w' => e = .returned (.agg #[.int .u64 r1, .int .u64 r2]) ∧ Below w.heap.size w w' := by
 have hu28 := Try.underlying28
 have HR1 := Aside0.mk hr1
 have HC1 := Aside0.mk hc1
 clear hr1 hc1
 have HB := Aside0.mk (Below.refl w.heap.size w)
 have H : (line_horner.l0 k a0 l1 (wrap64 ((l1.length : Int) - 1)) a2_0 a2_1 0 0) = some (r1, r2) := h
 clear h
 have H' := Aside0.mk H
 clear H
 go_enter Try.func39, Try.ntmps39
 go_wp2_with (first | ((with_reducible refine gate_dst (N := 5) rfl ?_); refine box_event ?hg (N := 5) ?hd (cs := #[.int .u64 a2_0, .int .u64 a2_1]) (t := 28) ?hr ?_; (case hd => rfl); (case hg => rfl); (case hr => first | (go_simp; done) | (go_simp; rfl)); intro gb382 hg w4 hbox hb; have BK382 := Aside0.mk hbox; have GW382 := ge hg HB; have GE382 := ge hg HB; replace HB := bh HB hb; clear hb hbox hg) | ((with_reducible refine gate_dst (N := 6) rfl ?_); refine box_event ?hg (N := 6) ?hd (cs := #[.int .u64 0, .int .u64 0]) (t := 28) ?hr ?_; (case hd => rfl); (case hg => rfl); (case hr => first | (go_simp; done) | (go_simp; rfl)); intro gb383 hg w5 hbox hb; have BK383 := Aside0.mk hbox; have GW383 := ge hg HB; have GE383 := ge hg HB; have NB382_383 := nl hg BK382; have NB383_382 := ng hg BK382; replace BK382 := bb BK382 hb; replace HB := bh HB hb; clear hb hbox hg) | ((with_reducible refine gate_dst (N := 7) rfl ?_); refine box_event ?hg (N := 7) ?hd (cs := #[.int .u64 0, .int .u64 0]) (t := 28) ?hr ?_; (case hd => rfl); (case hg => rfl); (case hr => first | (go_simp; done) | (go_simp; rfl)); intro gb384 hg w6 hbox hb; have BK384 := Aside0.mk hbox; have GW384 := ge hg HB; have GE384 := ge hg HB; have NB382_384 := nl hg BK382; have NB384_382 := ng hg BK382; have NB383_384 := nl hg BK383; have NB384_383 := ng hg BK383; replace BK382 := bb BK382 hb; replace BK383 := bb BK383 hb; replace HB := bh HB hb; clear hb hbox hg))
 go_loopg [8] k (fun kq v8 w' => ∃ (x8_1 : Int) (x385000_1 : Int) (x385001_1 : Int), v8 = .int .i64 x8_1 ∧ Aside0 (line_horner.l0 kq a0 l1 x8_1 a2_0 a2_1 x385000_1 x385001_1 = some (r1, r2)) ∧ Aside0 (kq ≤ k) ∧ Aside0 (w'.heap[gb382]? = some (.cells #[.int .u64 a2_0, .int .u64 a2_1] 28 (0, 0))) ∧ Aside0 (w'.heap[gb383]? = some (.cells #[.int .u64 0, .int .u64 0] 28 (0, 0))) ∧ Aside0 (w'.heap[gb384]? = some (.cells #[.int .u64 x385000_1, .int .u64 x385001_1] 28 (0, 0))) ∧ Aside0 (Below w.heap.size w w'))
 case atStart => exact ⟨(wrap64 ((l1.length : Int) - 1)), (0), (0), (by first | rfl | (simp; done) | (simp [*]; done)), H', ⟨Nat.le_refl _⟩, ⟨bk BK382.out⟩, ⟨bk BK383.out⟩, ⟨bk BK384.out⟩, ⟨bq HB.out⟩⟩
 case round =>
  clear H'
  try clear c1
  try clear p2
  try clear c3
  try clear p6
  obtain ⟨x8_1, x385000_1, x385001_1, rfl, HA, HK1, BK382, BK383, BK384, HB⟩ := hrel
  cases gk with
  | zero => exact absurd HA.out (by simp [line_horner.l0])
  | succ k1 =>
   have H := HA.out
   clear HA
   simp only [line_horner.l0] at H
   by_cases c7 : x8_1 ≥ 0
   ·rw [if_pos c7] at H
    have c7b0 : decide (0 ≤ x8_1) = true := decide_eq_true c7
    clear c7
    replace H := Option.bind_eq_some_iff.mp H
    obtain ⟨⟨t385, t386⟩, A80, H⟩ := H
    replace H : (if 0 ≤ x8_1 then (if x8_1 < (l1.length : Int) then ((tower_Add.f t385 t386 ((rd_T28 l1 x8_1).f0) ((rd_T28 l1 x8_1).f1)).bind fun bt388 => (line_horner.l0 k1 a0 l1 (wrap64 (x8_1 - 1)) a2_0 a2_1 bt388.1 bt388.2)) else (none)) else (none)) = some (r1, r2) := H
    have A8 := Aside0.mk A80
    clear A80
    by_cases c9 : 0 ≤ x8_1
    ·rw [if_pos c9] at H
     have c9b0 : decide (0 ≤ x8_1) = true := decide_eq_true c9
     clear c9
     by_cases c10 : x8_1 < (l1.length : Int)
     ·rw [if_pos c10] at H
      have c10b0 : decide (x8_1 < (l1.length : Int)) = true := decide_eq_true c10
      clear c10
      replace H := Option.bind_eq_some_iff.mp H
      obtain ⟨⟨t388, t389⟩, A110, H⟩ := H
      replace H : (line_horner.l0 k1 a0 l1 (wrap64 (x8_1 - 1)) a2_0 a2_1 t388 t389) = some (r1, r2) := H
      have A11 := Aside0.mk A110
      clear A110
      have H' := Aside0.mk H
      clear H
      try go_wp2
      replace BK382 := Aside0.mk (blk_drew BK382.out)
      replace BK383 := Aside0.mk (blk_drew BK383.out)
      replace BK384 := Aside0.mk (blk_drew BK384.out)
      replace HB := Aside0.mk (below_drew1 HB.out)
      have p387 : 0 ≤ (x8_1 : Int) := of_decide_eq_true (by first | (with_reducible assumption) | assumption)
      have q387 : x8_1 < (l1.length : Int) := of_decide_eq_true (by first | (with_reducible assumption) | assumption)
      obtain ⟨ad387, e387, hx387_0, hx387_1⟩ := at_T28 HR1.out x8_1 p387 q387
      have hw387_1 := hx387_1
      have hw387_0 := hx387_0
      cases e387
      replace hx387_0 := (HB.out.cell (World.block_lt_of_cell? w _ hx387_0)).trans hx387_0
      replace hx387_1 := (HB.out.cell (World.block_lt_of_cell? w _ hx387_1)).trans hx387_1
      replace p387 := eq_true p387
      replace q387 := eq_true q387
      refine start_ (n := 10) (S := fun w' => w'.cell? ⟨gb384, 0, none⟩ = some (.int .u64 x385000_1) ∧ w'.cell? ⟨gb384, 1, none⟩ = some (.int .u64 x385001_1) ∧ w'.cell? ⟨gb382, 0, none⟩ = some (.int .u64 a2_0) ∧ w'.cell? ⟨gb382, 1, none⟩ = some (.int .u64 a2_1) ∧ w'.cell? (ad387.add ((x8_1).toNat * 2)) = some (.int .u64 ((rd_T28 l1 x8_1).f0)) ∧ w'.cell? ⟨(ad387.add ((x8_1).toNat * 2)).block, (ad387.add ((x8_1).toNat * 2)).off + 1, none⟩ = some (.int .u64 ((rd_T28 l1 x8_1).f1))) (ds := [9]) #[false, false, false, false, false, false, false, false, false, false] (by kernel_rfl) rfl rfl ⟨(blk_cell BK384.out 0).trans rfl, (blk_cell BK384.out 1).trans rfl, (blk_cell BK382.out 0).trans rfl, (blk_cell BK382.out 1).trans rfl, ((HB.out.cell (World.block_lt_of_cell? w _ hw387_0)).trans hw387_0), ((HB.out.cell (World.block_lt_of_cell? w _ hw387_1)).trans hw387_1)⟩ (fun hHeld => ?_); refine with_tabW line_horner.tab5 line_horner.bits5 (fun HT_ HW_ => ?_)
      generalize wr.drew = w12 at BK382 BK383 BK384 HB hx387_0 hx387_1 hHeld ⊢
      refine pure_ (i := 0) (N := some 16) (v := ?_) (a' := ?_) #[true, false, false, false, false, false, false, false, false, false] rfl rfl (any_of HT_.out (by kernel_rfl)) (fun _ _ _ h => h) (Or.inl ⟨by rfl, ?_⟩) ?_ ?_
      rotate_left
      ·intro w'
       go_simp
       with_reducible rfl
      rotate_left
      ·simp only [Act.put, List.setIfInBounds_toArray, List.set_cons_zero, List.set_cons_succ, i64_w, i32_w]
       rfl
      refine pure_ (i := 4) (N := some 20) (v := ?_) (a' := ?_) #[true, false, false, false, true, false, false, false, false, false] rfl rfl (any_of HT_.out (by kernel_rfl)) (fun _ _ _ h => h) (Or.inl ⟨by rfl, ?_⟩) ?_ ?_
      rotate_left
      ·intro w'
       go_simp
       with_reducible rfl
      rotate_left
      ·simp only [Act.put, List.setIfInBounds_toArray, List.set_cons_zero, List.set_cons_succ, i64_w, i32_w]
       rfl
      refine pure_ (i := 5) (N := some 21) (v := ?_) (a' := ?_) #[true, false, false, false, true, true, false, false, false, false] rfl rfl (any_of HT_.out (by kernel_rfl)) (fun _ _ _ h => h) (Or.inl ⟨by rfl, ?_⟩) ?_ ?_
      rotate_left
      ·intro w'
       go_simp
       with_reducible rfl
      rotate_left
      ·simp only [Act.put, List.setIfInBounds_toArray, List.set_cons_zero, List.set_cons_succ, i64_w, i32_w]
       rfl
      refine pure_ (i := 6) (N := some 22) (v := ?_) (a' := ?_) #[true, false, false, false, true, true, true, false, false, false] rfl rfl (any_of HT_.out (by kernel_rfl)) (fun _ _ _ h => h) (Or.inl ⟨by rfl, ?_⟩) ?_ ?_
      rotate_left
      ·intro w'
       go_simp
       with_reducible rfl
      rotate_left
      ·simp only [Act.put, List.setIfInBounds_toArray, List.set_cons_zero, List.set_cons_succ, i64_w, i32_w]
       rfl
      refine take_ (i := 1) (N := some 17) (v := ?_) (a' := ?_) #[true, true, false, false, true, true, true, false, false, false] rfl rfl (take_ofW HT_.out HW_.out (by kernel_rfl)) (fun _ _ _ h => h) (Or.inl ⟨by rfl, ?_⟩) hHeld ?_ ?_
      rotate_left
      ·rintro w' ⟨s0, s1, s2, s3, s4, s5⟩
       go_simp
       with_reducible rfl
      rotate_left
      ·simp only [Act.put, List.setIfInBounds_toArray, List.set_cons_zero, List.set_cons_succ, i64_w, i32_w]
       rfl
      refine take_ (i := 2) (N := some 18) (v := ?_) (a' := ?_) #[true, true, true, false, true, true, true, false, false, false] rfl rfl (take_ofW HT_.out HW_.out (by kernel_rfl)) (fun _ _ _ h => h) (Or.inl ⟨by rfl, ?_⟩) hHeld ?_ ?_
      rotate_left
      ·rintro w' ⟨s0, s1, s2, s3, s4, s5⟩
       go_simp
       with_reducible rfl
      rotate_left
      ·simp only [Act.put, List.setIfInBounds_toArray, List.set_cons_zero, List.set_cons_succ, i64_w, i32_w]
       rfl
      refine take_ (i := 7) (N := some 23) (v := ?_) (a' := ?_) #[true, true, true, false, true, true, true, true, false, false] rfl rfl (take_ofW HT_.out HW_.out (by kernel_rfl)) (fun _ _ _ h => h) (Or.inl ⟨by rfl, ?_⟩) hHeld ?_ ?_
      rotate_left
      ·rintro w' ⟨s0, s1, s2, s3, s4, s5⟩
       go_simp
       with_reducible rfl
      rotate_left
      ·simp only [Act.put, List.setIfInBounds_toArray, List.set_cons_zero, List.set_cons_succ, i64_w, i32_w]
       rfl
      refine one_ (i := 3) (N := some 19) #[true, true, true, true, true, true, true, true, false, false] rfl rfl (one_of HT_.out (by kernel_rfl)) (by decide) (fun K hK => ?_)
      refine goes_ Try.func13 (by kernel_rfl) rfl #[.int .i64 a0, .agg #[.int .u64 x385000_1, .int .u64 x385001_1], .agg #[.int .u64 a2_0, .int .u64 a2_1]] (by rfl) rfl rfl (by (try simp only [List.map_toArray, List.map_cons, List.map_nil]); first | done | rfl | (simp only [List.length_drop, List.length_take]; rfl)) ?_
      with_reducible refine (tower_Mul.calls k1 a0 x385000_1 x385001_1 a2_0 a2_1 t385 t386 _ A8.out).mono ?_
      rintro e w13 ⟨rfl, hb⟩
      refine ⟨_, rfl, ?_⟩
      replace BK382 := bb BK382 hb
      replace BK383 := bb BK383 hb
      replace BK384 := bb BK384 hb
      replace HB := bh HB hb
      (try clear hb)
      (try clear hb2)
      (try clear hk)
      (try clear hi)
      refine hK.out _ _ ⟨(blk_cell BK384.out 0).trans rfl, (blk_cell BK384.out 1).trans rfl, (blk_cell BK382.out 0).trans rfl, (blk_cell BK382.out 1).trans rfl, ((HB.out.cell (World.block_lt_of_cell? w _ hw387_0)).trans hw387_0), ((HB.out.cell (World.block_lt_of_cell? w _ hw387_1)).trans hw387_1)⟩ (fun hHeld => ?_)
      clear hK K
      refine norm_ (a' := ?_) ?_ ?_
      rotate_left
      ·show Act.put _ (some 19) _ = _
       simp only [Act.put, List.setIfInBounds_toArray, List.set_cons_zero, List.set_cons_succ, i64_w, i32_w]
       rfl
      refine one_ (i := 8) (N := some 24) #[true, true, true, true, true, true, true, true, true, false] rfl rfl (one_of HT_.out (by kernel_rfl)) (by decide) (fun K hK => ?_)
      refine goes_ Try.func12 (by kernel_rfl) rfl #[.agg #[.int .u64 t385, .int .u64 t386], .agg #[.int .u64 ((rd_T28 l1 x8_1).f0), .int .u64 ((rd_T28 l1 x8_1).f1)]] (by rfl) rfl rfl (by (try simp only [List.map_toArray, List.map_cons, List.map_nil]); first | done | rfl | (simp only [List.length_drop, List.length_take]; rfl)) ?_
      with_reducible refine (tower_Add.calls t385 t386 ((rd_T28 l1 x8_1).f0) ((rd_T28 l1 x8_1).f1) t388 t389 _ A11.out).mono ?_
      rintro e w14 ⟨rfl, hb⟩
      refine ⟨_, rfl, ?_⟩
      replace BK382 := bb BK382 hb
      replace BK383 := bb BK383 hb
      replace BK384 := bb BK384 hb
      replace HB := bh HB hb
      (try clear hb)
      (try clear hb2)
      (try clear hk)
      (try clear hi)
      refine hK.out _ _ ⟨(blk_cell BK384.out 0).trans rfl, (blk_cell BK384.out 1).trans rfl, (blk_cell BK382.out 0).trans rfl, (blk_cell BK382.out 1).trans rfl, ((HB.out.cell (World.block_lt_of_cell? w _ hw387_0)).trans hw387_0), ((HB.out.cell (World.block_lt_of_cell? w _ hw387_1)).trans hw387_1)⟩ (fun hHeld => ?_)
      clear hK K
      refine norm_ (a' := ?_) ?_ ?_
      rotate_left
      ·show Act.put _ (some 24) _ = _
       simp only [Act.put, List.setIfInBounds_toArray, List.set_cons_zero, List.set_cons_succ, i64_w, i32_w]
       rfl
      refine last_ (i := 9) (N := none) #[true, true, true, true, true, true, true, true, true, true] rfl rfl (one_of HT_.out (by kernel_rfl)) (by decide) (fun K hK => ?_)
      have hs15 : w14.cell? ⟨gb384, 0, none⟩ = some (.int .u64 x385000_1) := (blk_cell BK384.out 0).trans rfl
      have hfs15 := blk_frozen BK384.out 0
      have hns15_0 := NB382_384.out
      have hns15_1 := NB383_384.out
      have hms15_0 := NB384_382.out
      have hms15_1 := NB384_383.out
      have hs16 : w14.cell? ⟨gb384, 1, none⟩ = some (.int .u64 x385001_1) := (blk_cell BK384.out 1).trans rfl
      have hfs16 := blk_frozen BK384.out 1
      have hns16_0 := NB382_384.out
      have hns16_1 := NB383_384.out
      have hms16_0 := NB384_382.out
      have hms16_1 := NB384_383.out
      refine skip_ (w1 := ?_) (by rfl) rfl ?_ ?_
      rotate_left
      ·go_simp
       rfl
      refine hK.out _ _ ?_
      clear hK K
      refine done_ (done_of HT_.out (by kernel_rfl)) ?_
      try go_wp2
      go_roundg k1
      case measure => have := HK1.out; omega
      case rel => exact ⟨(wrap64 (x8_1 - 1)), (t388), (t389), (by first | rfl | (simp; done) | (simp [*]; done)), H', ⟨by have := HK1.out; omega⟩, ⟨by (with_reducible repeat refine bl ?_); refine blk_far ?_ NB382_384.out _; (with_reducible repeat refine bl ?_); refine blk_far ?_ NB382_384.out _; (with_reducible repeat refine bl ?_); exact BK382.out⟩, ⟨by (with_reducible repeat refine bl ?_); refine blk_far ?_ NB383_384.out _; (with_reducible repeat refine bl ?_); refine blk_far ?_ NB383_384.out _; (with_reducible repeat refine bl ?_); exact BK383.out⟩, ⟨by (with_reducible repeat refine bl ?_); refine blk_put (cs := #[.int .u64 t388, .int .u64 x385001_1]) ?_ 1 _ rfl; (with_reducible repeat refine bl ?_); refine blk_put (cs := #[.int .u64 x385000_1, .int .u64 x385001_1]) ?_ 0 _ rfl; (with_reducible repeat refine bl ?_); exact BK384.out⟩, ⟨bq HB.out⟩⟩
     ·rw [if_neg c10] at H
      exact absurd H (by simp)
    ·rw [if_neg c9] at H
     exact absurd H (by simp)
   ·rw [if_neg c7] at H
    have c7b0 : decide (0 ≤ x8_1) = false := decide_eq_false c7
    clear c7
    simp only [Option.some.injEq, Prod.mk.injEq] at H
    obtain ⟨rfl, rfl⟩ := H
    have hnb18 := NB384_383.out
    have hnc18 := NB383_384.out
    obtain ⟨hcz19_0, hcz19_1⟩ := zc2 BK384
    obtain ⟨hfz19_0, hfz19_1⟩ := zf2 BK384
    obtain ⟨hcz21_0, hcz21_1⟩ := zc2 BK383
    obtain ⟨hfz21_0, hfz21_1⟩ := zf2 BK383
    go_wp2
    refine bodyPost_ret (results_cell_row rfl _ _ gb383 28 #[.int .u64 x385000_1, .int .u64 x385001_1] (0, 0) _ rfl (by (with_reducible repeat refine bl ?_); refine blk_put (cs := #[.int .u64 x385000_1, .int .u64 0]) ?_ 1 _ rfl; (with_reducible repeat refine bl ?_); refine blk_put (cs := #[.int .u64 0, .int .u64 0]) ?_ 0 _ rfl; (with_reducible repeat refine bl ?_); exact BK383.out) Try.underlying28 rfl (by kernel_rfl)) rfl ?_
    exact ⟨by first | rfl | (simp [errW_none, errW_some] <;> rfl) | (simp [*, errW_none, errW_some] <;> rfl), bq HB.out⟩

end Go.Proofs.Ythnaalocgoeddaa.P
