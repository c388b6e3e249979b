/- Written by a program of this session: functions that the law reaches, as Lean functions, and that the code comes to their answers. Conditions: those that each theorem names. -/
import Derived.Test.YthnaalocgoeddaaPx0
import Derived.Test.YthnaalocgoeddaaPx1
import Derived.Test.YthnaalocgoeddaaPx2
import Derived.Test.YthnaalocgoeddaaPx3
import Derived.Test.YthnaalocgoeddaaPx4
import Derived.Test.YthnaalocgoeddaaPx5
import Derived.Test.YthnaalocgoeddaaPx9
import Derived.Test.YthnaalocgoeddaaPx10
import Derived.Test.YthnaalocgoeddaaPx13
namespace Go.Proofs.Ythnaalocgoeddaa.P
open Go.RowKit Go.Proofs.YthnaalocgoeddaaX Go.Proofs.YthnaalocgoeddaaW.PrintWords Go.Proofs.YthnaalocgoeddaaW.PrintLast Go.Proofs.YthnaalocgoeddaaW.PrintMore
attribute [local go_sem] max2_int min2_int max_two min_two max_three min_three max_four min_four   -- for this text's walks alone
set_option linter.unusedVariables false
set_option linter.unusedSimpArgs false

attribute [local go_sem high] eqA28 eqA37
/-! ### line_Values: function 21 -/
mutual
def line_Values.j0 : Nat → Int → List (S28) → Int → Bool → Option ((List (S28)) × Int)
 | 0, _, _, _, _ => none
 | k + 1, x0, x1, x2, x19 => if x19 = true then (some (([] : List (S28)), 6)) else ((line_ask.f k x0 x2 x1).bind fun t436 => (if t436 = 0 then (line_Values.l0 k x0 x1 ([] : List (S28)) (wrap64 (x2 + 1)) 0) else (some (([] : List (S28)), t436))))
def line_Values.l0 : Nat → Int → List (S28) → List (S28) → Int → Int → Option ((List (S28)) × Int)
 | 0, _, _, _, _, _ => none
 | k + 1, x0, x1, x9, x28, x29 => if x29 < x28 then ((line_place.f x29).bind fun bt437 => ((line_horner.f k x0 x1 bt437.1 bt437.2).bind fun bt439 => (if x9.length < 8796093022208 then (line_Values.l0 k x0 x1 (x9 ++ [(⟨bt439.1, bt439.2⟩ : S28)]) x28 (wrap64 (x29 + 1))) else (none)))) else (some (x9, 0))
end
def line_Values.f (k : Nat) (a0 : Int) (l1 : List (S28)) (a2 : Int) : Option ((List (S28)) × Int) := (octet_Wide.f k a0).bind fun t434 => (if t434 = 0 then (line_Values.j0 k a0 l1 a2 false) else ((line_Fits.f k a0 a2).bind fun t435 => (line_Values.j0 k a0 l1 a2 (!t435))))
theorem line_Values.mono_l : ∀ k, (∀ y0 y1 y2 y3, LeO (line_Values.j0 k y0 y1 y2 y3) (line_Values.j0 (k + 1) y0 y1 y2 y3)) ∧ (∀ y0 y1 y2 y3 y4, LeO (line_Values.l0 k y0 y1 y2 y3 y4) (line_Values.l0 (k + 1) y0 y1 y2 y3 y4))
 | 0 => ⟨fun _ _ _ _ r h => by simp [line_Values.j0] at h, fun _ _ _ _ _ r h => by simp [line_Values.l0] at h⟩
 | k + 1 => by
  obtain ⟨ih0, ih1⟩ := line_Values.mono_l k
  refine ⟨?_, ?_⟩
  ·intro y0 y1 y2 y3
   unfold line_Values.j0
   repeat' first
   | (with_reducible exact ih0 _ _ _ _)
   | (with_reducible exact ih1 _ _ _ _ _)
   | (with_reducible exact line_Fits.mono _ _ _)
   | (with_reducible exact line_ask.mono _ _ _ _)
   | (with_reducible exact line_horner.mono _ _ _ _ _)
   | (with_reducible exact octet_Wide.mono _ _)
   | (with_reducible exact LeO.refl _)
   | (with_reducible exact LeO.none _)
   | (with_reducible refine LeO.ite ?_ ?_)
   | (with_reducible refine LeO.bind ?_ (fun _ => ?_))
   | exact ih0 _ _ _ _
   | exact ih1 _ _ _ _ _
   | exact line_Fits.mono _ _ _
   | exact line_ask.mono _ _ _ _
   | exact line_horner.mono _ _ _ _ _
   | exact octet_Wide.mono _ _
   | exact LeO.none _
   | refine LeO.ite ?_ ?_
   | refine LeO.bind ?_ (fun _ => ?_)
  ·intro y0 y1 y2 y3 y4
   unfold line_Values.l0
   repeat' first
   | (with_reducible exact ih0 _ _ _ _)
   | (with_reducible exact ih1 _ _ _ _ _)
   | (with_reducible exact line_Fits.mono _ _ _)
   | (with_reducible exact line_ask.mono _ _ _ _)
   | (with_reducible exact line_horner.mono _ _ _ _ _)
   | (with_reducible exact octet_Wide.mono _ _)
   | (with_reducible exact LeO.refl _)
   | (with_reducible exact LeO.none _)
   | (with_reducible refine LeO.ite ?_ ?_)
   | (with_reducible refine LeO.bind ?_ (fun _ => ?_))
   | exact ih0 _ _ _ _
   | exact ih1 _ _ _ _ _
   | exact line_Fits.mono _ _ _
   | exact line_ask.mono _ _ _ _
   | exact line_horner.mono _ _ _ _ _
   | exact octet_Wide.mono _ _
   | exact LeO.none _
   | refine LeO.ite ?_ ?_
   | refine LeO.bind ?_ (fun _ => ?_)
theorem line_Values.mono : ∀ a0 a1 a2 k, LeO (line_Values.f k a0 a1 a2) (line_Values.f (k + 1) a0 a1 a2) := by
 intro a0 a1 a2 k
 obtain ⟨ih0, ih1⟩ := line_Values.mono_l k
 unfold line_Values.f
 repeat' first
   | (with_reducible exact ih0 _ _ _ _)
   | (with_reducible exact ih1 _ _ _ _ _)
   | (with_reducible exact line_Fits.mono _ _ _)
   | (with_reducible exact line_ask.mono _ _ _ _)
   | (with_reducible exact line_horner.mono _ _ _ _ _)
   | (with_reducible exact octet_Wide.mono _ _)
   | (with_reducible exact LeO.refl _)
   | (with_reducible exact LeO.none _)
   | (with_reducible refine LeO.ite ?_ ?_)
   | (with_reducible refine LeO.bind ?_ (fun _ => ?_))
   | exact ih0 _ _ _ _
   | exact ih1 _ _ _ _ _
   | exact line_Fits.mono _ _ _
   | exact line_ask.mono _ _ _ _
   | exact line_horner.mono _ _ _ _ _
   | exact octet_Wide.mono _ _
   | exact LeO.none _
   | refine LeO.ite ?_ ?_
   | refine LeO.bind ?_ (fun _ => ?_)
set_option maxHeartbeats 8000000 in
set_option maxRecDepth 100000 in
theorem line_Values.calls (k : Nat) (a0 : Int) (A1 : Option Addr) (c1 : Nat) (l1 : List (S28)) (a2 : Int) (r1 : List (S28)) (r2 : Int) (w : World) (hr1 : Kd.C k28 w A1 l1.length l1) (hc1 : l1.length ≤ c1) (h : line_Values.f k a0 l1 a2 = some (r1, r2)) :
  Calls Try.prog 21 #[.int .i64 a0, .slice A1 l1.length c1, .int .i64 a2] w fun e w' => ∃ v0_ : Value, e = .returned (.tuple #[v0_, .int .i64 r2]) ∧ Kd.R k28 28 w' w.heap.size (fun _ => True) v0_ r1 ∧ Below w.heap.size w w' := by
 have HR1 := Aside0.mk hr1
 have HC1 := Aside0.mk hc1
 clear hr1 hc1
 have HB := Aside0.mk (Below.refl w.heap.size w)
 have H : ((octet_Wide.f k a0).bind fun t434 => (if t434 = 0 then (line_Values.j0 k a0 l1 a2 false) else ((line_Fits.f k a0 a2).bind fun t435 => (line_Values.j0 k a0 l1 a2 (!t435))))) = some (r1, r2) := h
 clear h
 have HC4 := Aside0.mk H
 clear H
 go_enter Try.func21, Try.ntmps21
 go_upto_region 1 with (fail)
 go_cut [19] (fun v19 wc => ∃ (kq : Nat) (x19_3 : Bool), v19 = .bool x19_3 ∧ Aside0 (line_Values.j0 kq a0 l1 a2 x19_3 = some (r1, r2)) ∧ Aside0 (kq ≤ k) ∧ Aside0 (Below w.heap.size w wc))
 case first =>
  have H := HC4.out
  clear HC4
  replace H := Option.bind_eq_some_iff.mp H
  obtain ⟨t434, A50, H⟩ := H
  replace H : (if t434 = 0 then (line_Values.j0 k a0 l1 a2 false) else ((line_Fits.f k a0 a2).bind fun t435 => (line_Values.j0 k a0 l1 a2 (!t435)))) = some (r1, r2) := H
  have A5 := Aside0.mk A50
  clear A50
  by_cases c6 : t434 = 0
  ·rw [if_pos c6] at H
   have c6b0 : (t434 == 0) = true := beq_iff_eq.mpr c6
   have c6b1 : (t434 != 0) = false := bne_eq_false_iff_eq.mpr c6
   clear c6
   (first | rw [c6b0] | (simp only [i64_w, i32_w]; rw [c6b0]) | skip)
   have H' := Aside0.mk H
   clear H
   go_wp2_with (first | ((with_reducible refine gate_callee (f := 33) rfl ?_); refine goesL_ (some 12) rfl rfl Try.func33 (by kernel_rfl) rfl #[.int .i64 a0] rfl (by (try simp only [List.map_toArray, List.map_cons, List.map_nil]); first | done | rfl | (simp only [List.length_drop, List.length_take]; rfl)) ?_; (with_reducible refine (octet_Wide.calls k a0 t434 _ A5.out).mono ?_); rintro e w' ⟨rfl, ⟨nd, rfl⟩⟩; refine ⟨_, rfl, ?_⟩))
   go_meet
   case rel => exact ⟨_, (false), (by first | rfl | (simp; done) | (simp [*]; done)), H', ⟨by first | omega | exact Nat.le_refl _⟩, ⟨bq HB.out⟩⟩
  ·rw [if_neg c6] at H
   have c6b0 : (t434 == 0) = false := beq_eq_false_iff_ne.mpr c6
   have c6b1 : (t434 != 0) = true := bne_iff_ne.mpr c6
   (first | rw [c6b0] | (simp only [i64_w, i32_w]; rw [c6b0]) | skip)
   replace H := Option.bind_eq_some_iff.mp H
   obtain ⟨t435, A70, H⟩ := H
   replace H : (line_Values.j0 k a0 l1 a2 (!t435)) = some (r1, r2) := H
   have A7 := Aside0.mk A70
   clear A70
   have H' := Aside0.mk H
   clear H
   go_wp2_with (first | ((with_reducible refine gate_callee (f := 33) rfl ?_); refine goesL_ (some 12) rfl rfl Try.func33 (by kernel_rfl) rfl #[.int .i64 a0] rfl (by (try simp only [List.map_toArray, List.map_cons, List.map_nil]); first | done | rfl | (simp only [List.length_drop, List.length_take]; rfl)) ?_; (with_reducible refine (octet_Wide.calls k a0 t434 _ A5.out).mono ?_); rintro e w' ⟨rfl, ⟨nd, rfl⟩⟩; refine ⟨_, rfl, ?_⟩) | (go_at_call 16; (with_reducible refine (line_Fits.calls k a0 a2 t435 _ A7.out).mono ?_); rintro e w8 ⟨rfl, hb⟩; replace HB := bh HB hb; (try clear hb); (try clear hb2); (try clear hk); (try clear hi)))
   go_meet
   case rel => exact ⟨_, (!t435), (by first | rfl | (simp; done) | (simp [*]; done)), H', ⟨by first | omega | exact Nat.le_refl _⟩, ⟨bq HB.out⟩⟩
 case rest =>
  clear HC4
  try clear c1
  try clear c2
  try clear p2
  try clear c3
  try clear c6
  try clear c6b0
  try clear c6b1
  obtain ⟨kq, x19_3, rfl, HA, HJ3, HB⟩ := hcut
  cases kq with
  | zero => exact absurd HA.out (by simp [line_Values.j0])
  | succ kj3 =>
   have H := HA.out
   clear HA
   simp only [line_Values.j0] at H
   by_cases c9 : x19_3 = true
   ·subst c9
    have H1 : (some (([] : List (S28)), 6)) = some (r1, r2) := by rw [if_pos rfl] at H; exact H
    clear H
    have H := H1
    clear H1
    simp only [Option.some.injEq, Prod.mk.injEq] at H
    obtain ⟨rfl, rfl⟩ := H
    go_wp2
    go_ret2
    exact ⟨_, by first | rfl | (simp [errW_none, errW_some] <;> rfl) | (simp [*, errW_none, errW_some] <;> rfl), by first | exact Kd.R_nil _ _ _ _ _ | exact Kd.N_nil _ _ _ _ _ | exact Kd.V_nil _ _ _ _ _ | exact Kd.Q_nil _ _ _ _ _ | exact Kd.S_nil _ _ _ _ _, bq HB.out⟩
   ·replace c9 := Bool.eq_false_iff.mpr c9
    subst c9
    have H1 : ((line_ask.f kj3 a0 a2 l1).bind fun t436 => (if t436 = 0 then (line_Values.l0 kj3 a0 l1 ([] : List (S28)) (wrap64 (a2 + 1)) 0) else (some (([] : List (S28)), t436)))) = some (r1, r2) := by rw [if_neg (show ¬ (false = true) by decide)] at H; exact H
    clear H
    have H := H1
    clear H1
    replace H := Option.bind_eq_some_iff.mp H
    obtain ⟨t436, A100, H⟩ := H
    replace H : (if t436 = 0 then (line_Values.l0 kj3 a0 l1 ([] : List (S28)) (wrap64 (a2 + 1)) 0) else (some (([] : List (S28)), t436))) = some (r1, r2) := H
    have A10 := Aside0.mk A100
    clear A100
    by_cases c11 : t436 = 0
    ·rw [if_pos c11] at H
     have c11b0 : (t436 == 0) = true := beq_iff_eq.mpr c11
     have c11b1 : (t436 != 0) = false := bne_eq_false_iff_eq.mpr c11
     clear c11
     have H' := Aside0.mk H
     clear H
     go_wp2_with (first | ((with_reducible refine gate_callee (f := 25) rfl ?_); refine goesL_ (some 23) rfl rfl Try.func25 (by kernel_rfl) rfl #[.int .i64 a0, .int .i64 a2, .slice A1 l1.length c1] rfl (by (try simp only [List.map_toArray, List.map_cons, List.map_nil]); first | done | rfl | (simp only [List.length_drop, List.length_take]; rfl)) ?_; (with_reducible refine (line_ask.calls kj3 a0 a2 _ _ l1 t436 _ ?side1 ?side2 A10.out).mono ?_); (case side1 => repeat (first | exact (Kd.C_below HR1.out HB.out) | (with_reducible refine Kd.C_alloc ?_ _) | (with_reducible refine Kd.C_drewN ?_ _) | (with_reducible refine Kd.C_drew ?_))); (case side2 => exact HC1.out); rintro e w12 ⟨rfl, hb⟩; refine ⟨_, rfl, ?_⟩; replace HB := bh HB hb; (try clear hb); (try clear hb2); (try clear hk); (try clear hi)))
     go_loopg [9, 29] kj3 (fun kq v9 v29 w' => ∃ (x9_2 : List (S28)) (x29_2 : Int), v29 = .int .i64 x29_2 ∧ Aside0 (line_Values.l0 kq a0 l1 x9_2 (wrap64 (a2 + 1)) x29_2 = some (r1, r2)) ∧ Aside0 (kq ≤ kj3) ∧ Aside0 (Kd.R k28 28 w' w.heap.size (fun _ => True) v9 x9_2) ∧ Aside0 (Below w.heap.size w w'))
     case atStart => exact ⟨(([] : List (S28))), (0), (by first | rfl | (simp; done) | (simp [*]; done)), H', ⟨Nat.le_refl _⟩, ⟨by first | exact Kd.R_nil _ _ _ _ _ | exact Kd.N_nil _ _ _ _ _ | exact Kd.V_nil _ _ _ _ _ | exact Kd.Q_nil _ _ _ _ _ | exact Kd.S_nil _ _ _ _ _⟩, ⟨bq HB.out⟩⟩
     case round =>
      clear H'
      try clear c1
      try clear c2
      try clear p2
      try clear c3
      try clear c6
      try clear c6b0
      try clear c6b1
      try clear p6
      try clear c9
      try clear c11
      try clear c11b0
      try clear c11b1
      try clear p2
      obtain ⟨x9_2, x29_2, rfl, HA, HK2, HO_9, HB⟩ := hrel
      cases gk with
      | zero => exact absurd HA.out (by simp [line_Values.l0])
      | succ k2 =>
       have H := HA.out
       clear HA
       simp only [line_Values.l0] at H
       by_cases c13 : x29_2 < (wrap64 (a2 + 1))
       ·rw [if_pos c13] at H
        have c13b0 : decide (x29_2 < (wrap64 (a2 + 1))) = true := decide_eq_true c13
        clear c13
        replace H := Option.bind_eq_some_iff.mp H
        obtain ⟨⟨t437, t438⟩, A140, H⟩ := H
        replace H : ((line_horner.f k2 a0 l1 t437 t438).bind fun bt439 => (if x9_2.length < 8796093022208 then (line_Values.l0 k2 a0 l1 (x9_2 ++ [(⟨bt439.1, bt439.2⟩ : S28)]) (wrap64 (a2 + 1)) (wrap64 (x29_2 + 1))) else (none))) = some (r1, r2) := H
        have A14 := Aside0.mk A140
        clear A140
        replace H := Option.bind_eq_some_iff.mp H
        obtain ⟨⟨t439, t440⟩, A150, H⟩ := H
        replace H : (if x9_2.length < 8796093022208 then (line_Values.l0 k2 a0 l1 (x9_2 ++ [(⟨t439, t440⟩ : S28)]) (wrap64 (a2 + 1)) (wrap64 (x29_2 + 1))) else (none)) = some (r1, r2) := H
        have A15 := Aside0.mk A150
        clear A150
        by_cases c16 : x9_2.length < 8796093022208
        ·rw [if_pos c16] at H
         have LMc16 := Aside0.mk c16
         clear c16
         obtain ⟨y441, hy441⟩ : ∃ y_ : List (S28), y_ = (x9_2 ++ [(⟨t439, t440⟩ : S28)]) := ⟨_, rfl⟩
         replace H : (line_Values.l0 k2 a0 l1 y441 (wrap64 (a2 + 1)) (wrap64 (x29_2 + 1))) = some (r1, r2) := by first | (rw [hy441]; with_reducible exact H) | (have H2_ := (Option.bind_some _ _).symm.trans H; rw [hy441]; with_reducible exact H2_) | (have H2_ := (Option.bind_some _ _).symm.trans H; with_reducible exact H2_) | with_reducible exact H | (rw [hy441]; exact H) | exact H
         have Ny441 := Aside0.mk hy441
         clear hy441
         have H' := Aside0.mk H
         clear H
         go_wp2_with (first | ((with_reducible refine gate_callee (f := 34) rfl ?_); refine goesL_ (some 36) rfl rfl Try.func34 (by kernel_rfl) rfl #[.int .i64 x29_2] rfl (by (try simp only [List.map_toArray, List.map_cons, List.map_nil]); first | done | rfl | (simp only [List.length_drop, List.length_take]; rfl)) ?_; (with_reducible refine (line_place.calls x29_2 t437 t438 _ A14.out).mono ?_); rintro e w17 ⟨rfl, hb⟩; refine ⟨_, rfl, ?_⟩; replace HO_9 := kb HO_9 hb; replace HB := bh HB hb; (try clear hb); (try clear hb2); (try clear hk); (try clear hi)) | ((with_reducible refine gate_callee (f := 39) rfl ?_); refine goesL_ (some 37) rfl rfl Try.func39 (by kernel_rfl) rfl #[.int .i64 a0, .slice A1 l1.length c1, .agg #[.int .u64 t437, .int .u64 t438]] rfl (by (try simp only [List.map_toArray, List.map_cons, List.map_nil]); first | done | rfl | (simp only [List.length_drop, List.length_take]; rfl)) ?_; (with_reducible refine (line_horner.calls k2 a0 _ _ l1 t437 t438 t439 t440 _ ?side1 ?side2 A15.out).mono ?_); (case side1 => repeat (first | exact (Kd.C_below HR1.out HB.out) | (with_reducible refine Kd.C_alloc ?_ _) | (with_reducible refine Kd.C_drewN ?_ _) | (with_reducible refine Kd.C_drew ?_))); (case side2 => exact HC1.out); rintro e w18 ⟨rfl, hb⟩; refine ⟨_, rfl, ?_⟩; replace HO_9 := kb HO_9 hb; replace HB := bh HB hb; (try clear hb); (try clear hb2); (try clear hk); (try clear hi)) | ((with_reducible refine gate_builtin (b := .append) (xs := #[.tmp 32, .tmp 38]) rfl ?_); at_builtin; refine Kd.R_append k28 (w0 := w) w.heap.size rfl (.tmp 32) (.tmp 38) 22 28 (.agg #[(.int .u64 0), (.int .u64 0)]) 16 rfl Try.underlying22 info28 rfl (by decide) (by omega) u9 x9_2 (⟨t439, t440⟩ : S28) [.int .u64 t439, .int .u64 t440] (fun _ => True) (fun _ => False) rfl rfl ?aP (fun _ hk => hk.elim) ?aF ?aO ?aB ?aS ?aL ?_; (case aP => exact k28_mkM _ _ _ (⟨t439, t440⟩ : S28)); (case aB => exact (bq HB.out)); (case aF => exact (fun _ _ => trivial)); (case aO => exact (kr HO_9.out)); (case aS => exact (below_size (bq HB.out))); (case aL => have := LMc16.out; omega); intro v442 w19 ho hb hg hat; rw [← Ny441.out] at ho; have HO443 := Aside0.mk ho; replace HB := Aside0.mk hb; clear HO_9; clear ho hb hg hat))
         go_roundg k2
         case measure => have := HJ3.out; have := HK2.out; omega
         case rel => exact ⟨(y441), (wrap64 (x29_2 + 1)), (by first | rfl | (simp; done) | (simp [*]; done)), H', ⟨by have := HJ3.out; have := HK2.out; omega⟩, ⟨kr HO443.out⟩, ⟨bq HB.out⟩⟩
        ·rw [if_neg c16] at H
         exact absurd H (by simp)
       ·rw [if_neg c13] at H
        have c13b0 : decide (x29_2 < (wrap64 (a2 + 1))) = false := decide_eq_false c13
        clear c13
        simp only [Option.some.injEq, Prod.mk.injEq] at H
        obtain ⟨rfl, rfl⟩ := H
        go_wp2
        go_ret2
        exact ⟨_, by first | rfl | (simp [errW_none, errW_some] <;> rfl) | (simp [*, errW_none, errW_some] <;> rfl), by (with_reducible repeat refine kl ?_); exact HO_9.out, bq HB.out⟩
    ·rw [if_neg c11] at H
     have c11b0 : (t436 == 0) = false := beq_eq_false_iff_ne.mpr c11
     have c11b1 : (t436 != 0) = true := bne_iff_ne.mpr c11
     simp only [Option.some.injEq, Prod.mk.injEq] at H
     obtain ⟨rfl, rfl⟩ := H
     go_wp2_with (first | ((with_reducible refine gate_callee (f := 25) rfl ?_); refine goesL_ (some 23) rfl rfl Try.func25 (by kernel_rfl) rfl #[.int .i64 a0, .int .i64 a2, .slice A1 l1.length c1] rfl (by (try simp only [List.map_toArray, List.map_cons, List.map_nil]); first | done | rfl | (simp only [List.length_drop, List.length_take]; rfl)) ?_; (with_reducible refine (line_ask.calls kj3 a0 a2 _ _ l1 t436 _ ?side1 ?side2 A10.out).mono ?_); (case side1 => repeat (first | exact (Kd.C_below HR1.out HB.out) | (with_reducible refine Kd.C_alloc ?_ _) | (with_reducible refine Kd.C_drewN ?_ _) | (with_reducible refine Kd.C_drew ?_))); (case side2 => exact HC1.out); rintro e w20 ⟨rfl, hb⟩; refine ⟨_, rfl, ?_⟩; replace HB := bh HB hb; (try clear hb); (try clear hb2); (try clear hk); (try clear hi)))
     go_ret2
     exact ⟨_, by first | rfl | (simp [errW_none, errW_some] <;> rfl) | (simp [*, errW_none, errW_some] <;> rfl), by first | exact Kd.R_nil _ _ _ _ _ | exact Kd.N_nil _ _ _ _ _ | exact Kd.V_nil _ _ _ _ _ | exact Kd.Q_nil _ _ _ _ _ | exact Kd.S_nil _ _ _ _ _, bq HB.out⟩

/-! ### steeplelaw01_Same: function 22 -/
def steeplelaw01_Same.l0 : Nat → List (S28) → List (S37) → Int → Option (Bool)
 | 0, _, _, _ => none
 | k + 1, x0, x1, x5 => if x5 < (x0.length : Int) then (if 0 ≤ x5 then (if x5 < (x1.length : Int) then (if (!(((rd_T28 x0 x5).f0) == ((rd_T37 x1 x5).f0)) || (!(((rd_T28 x0 x5).f1) == ((rd_T37 x1 x5).f1)))) = true then (none) else (steeplelaw01_Same.l0 k x0 x1 (wrap64 (x5 + 1)))) else (none)) else (none)) else (some true)
def steeplelaw01_Same.f (k : Nat) (l0 : List (S28)) (l1 : List (S37)) : Option (Bool) := if (l0.length : Int) = (l1.length : Int) then (steeplelaw01_Same.l0 k l0 l1 0) else (none)
theorem steeplelaw01_Same.mono_l : ∀ k, (∀ y0 y1 y2, LeO (steeplelaw01_Same.l0 k y0 y1 y2) (steeplelaw01_Same.l0 (k + 1) y0 y1 y2))
 | 0 => fun _ _ _ r h => by simp [steeplelaw01_Same.l0] at h
 | k + 1 => by
  have ih0 := steeplelaw01_Same.mono_l k
  ·intro y0 y1 y2
   unfold steeplelaw01_Same.l0
   repeat' first
   | (with_reducible exact ih0 _ _ _)
   | (with_reducible exact LeO.refl _)
   | (with_reducible exact LeO.none _)
   | (with_reducible refine LeO.ite ?_ ?_)
   | (with_reducible refine LeO.bind ?_ (fun _ => ?_))
   | exact ih0 _ _ _
   | exact LeO.none _
   | refine LeO.ite ?_ ?_
   | refine LeO.bind ?_ (fun _ => ?_)
theorem steeplelaw01_Same.mono : ∀ a0 a1 k, LeO (steeplelaw01_Same.f k a0 a1) (steeplelaw01_Same.f (k + 1) a0 a1) := by
 intro a0 a1 k
 have ih0 := steeplelaw01_Same.mono_l k
 unfold steeplelaw01_Same.f
 repeat' first
   | (with_reducible exact ih0 _ _ _)
   | (with_reducible exact LeO.refl _)
   | (with_reducible exact LeO.none _)
   | (with_reducible refine LeO.ite ?_ ?_)
   | (with_reducible refine LeO.bind ?_ (fun _ => ?_))
   | exact ih0 _ _ _
   | exact LeO.none _
   | refine LeO.ite ?_ ?_
   | refine LeO.bind ?_ (fun _ => ?_)
set_option maxHeartbeats 8000000 in
set_option maxRecDepth 100000 in
theorem steeplelaw01_Same.calls (k : Nat) (A0 : Option Addr) (c0 : Nat) (l0 : List (S28)) (A1 : Option Addr) (c1 : Nat) (l1 : List (S37)) (r : Bool) (w : World) (hr0 : Kd.C k28 w A0 l0.length l0) (hc0 : l0.length ≤ c0) (hr1 : Kd.C k37 w A1 l1.length l1) (hc1 : l1.length ≤ c1) (h : steeplelaw01_Same.f k l0 l1 = some r) :
  Calls Try.prog 22 #[.slice A0 l0.length c0, .slice A1 l1.length c1] w fun e w' => e = .returned (.bool r) ∧ Drawn0 w w' := by
 have hu28 := Try.underlying28
 have hu37 := Try.underlying37
 have HR0 := Aside0.mk hr0
 have HC0 := Aside0.mk hc0
 clear hr0 hc0
 have HR1 := Aside0.mk hr1
 have HC1 := Aside0.mk hc1
 clear hr1 hc1
 have H : (if (l0.length : Int) = (l1.length : Int) then (steeplelaw01_Same.l0 k l0 l1 0) else (none)) = some r := h
 clear h
 by_cases c3 : (l0.length : Int) = (l1.length : Int)
 ·rw [if_pos c3] at H
  have c3b0 : ((l0.length : Int) == (l1.length : Int)) = true := beq_iff_eq.mpr c3
  have c3b1 : ((l0.length : Int) != (l1.length : Int)) = false := bne_eq_false_iff_eq.mpr c3
  have c3b2 : (l0.length == l1.length) = true := by first | simpa using c3 | (simp at c3 ⊢; omega)
  clear c3
  have H' := Aside0.mk H
  clear H
  go_enter Try.func22, Try.ntmps22
  go_wp2
  repeat (go_quiet (fail); try go_wp2)
  go_loopg [5] k (fun kq v5 w' => ∃ (x5_1 : Int), v5 = .int .i64 x5_1 ∧ Aside0 (steeplelaw01_Same.l0 kq l0 l1 x5_1 = some r) ∧ Aside0 (kq ≤ k) ∧ Drawn0 w w')
  case atStart => exact ⟨(0), (by first | rfl | (simp; done) | (simp [*]; done)), H', ⟨Nat.le_refl _⟩, by repeat (first | exact Drawn0.refl _ | apply Drawn0.step)⟩
  case round =>
   clear H'
   try clear c1
   try clear c2
   try clear p2
   try clear c3
   try clear c3b0
   try clear c3b1
   try clear c3b2
   obtain ⟨x5_1, rfl, HA, HK1, ⟨m1, rfl⟩⟩ := hrel
   cases gk with
   | zero => exact absurd HA.out (by simp [steeplelaw01_Same.l0])
   | succ k1 =>
    have H := HA.out
    clear HA
    simp only [steeplelaw01_Same.l0] at H
    by_cases c4 : x5_1 < (l0.length : Int)
    ·rw [if_pos c4] at H
     have c4b0 : decide (x5_1 < (l0.length : Int)) = true := decide_eq_true c4
     clear c4
     by_cases c5 : 0 ≤ x5_1
     ·rw [if_pos c5] at H
      have c5b0 : decide (0 ≤ x5_1) = true := decide_eq_true c5
      clear c5
      by_cases c6 : x5_1 < (l1.length : Int)
      ·rw [if_pos c6] at H
       have c6b0 : decide (x5_1 < (l1.length : Int)) = true := decide_eq_true c6
       clear c6
       by_cases c7 : (!(((rd_T28 l0 x5_1).f0) == ((rd_T37 l1 x5_1).f0)) || (!(((rd_T28 l0 x5_1).f1) == ((rd_T37 l1 x5_1).f1)))) = true
       ·rw [if_pos c7] at H
        exact absurd H (by simp)
       ·rw [if_neg c7] at H
        have c7b0 : (!(((rd_T28 l0 x5_1).f0) == ((rd_T37 l1 x5_1).f0)) || (!(((rd_T28 l0 x5_1).f1) == ((rd_T37 l1 x5_1).f1)))) = false := by simpa using c7
        clear c7
        have H' := Aside0.mk H
        clear H
        have p444 : 0 ≤ (x5_1 : Int) := of_decide_eq_true (by first | (with_reducible assumption) | assumption)
        have q444 : x5_1 < (l0.length : Int) := of_decide_eq_true (by first | (with_reducible assumption) | assumption)
        obtain ⟨ad444, e444, hx444_0, hx444_1⟩ := at_T28 HR0.out x5_1 p444 q444
        cases e444
        replace p444 := eq_true p444
        replace q444 := eq_true q444
        have p445 : 0 ≤ (x5_1 : Int) := of_decide_eq_true (by first | (with_reducible assumption) | assumption)
        have q445 : x5_1 < (l1.length : Int) := of_decide_eq_true (by first | (with_reducible assumption) | assumption)
        obtain ⟨ad445, e445, hx445_0, hx445_1⟩ := at_T37 HR1.out x5_1 p445 q445
        cases e445
        replace p445 := eq_true p445
        replace q445 := eq_true q445
        go_wp2
        repeat (go_quiet (fail); try go_wp2)
        go_roundg k1
        case measure => have := HK1.out; omega
        case rel => exact ⟨(wrap64 (x5_1 + 1)), (by first | rfl | (simp; done) | (simp [*]; done)), H', ⟨by have := HK1.out; omega⟩, by repeat (first | exact Drawn0.refl _ | apply Drawn0.step)⟩
      ·rw [if_neg c6] at H
       exact absurd H (by simp)
     ·rw [if_neg c5] at H
      exact absurd H (by simp)
    ·rw [if_neg c4] at H
     have c4b0 : decide (x5_1 < (l0.length : Int)) = false := decide_eq_false c4
     clear c4
     obtain rfl := Option.some.inj H
     go_wp2
     repeat (go_quiet (fail); try go_wp2)
     go_ret
     exact ⟨by first | rfl | (simp; done) | (simp [*]; done), by repeat (first | exact Drawn0.refl _ | apply Drawn0.step)⟩
 ·rw [if_neg c3] at H
  exact absurd H (by simp)

/-! ### steepleref06_At: function 23 -/
mutual
def steepleref06_At.j0 : Nat → List (S37) → Bool → Int → Int → Int → Int → Option (Int × Int)
 | 0, _, _, _, _, _, _ => none
 | k + 1, x1, x19, x447000, x447001, x449000, x449001 => if x19 = true then (some (x449000, x449001)) else (steepleref06_At.l0 k x1 0 x447000 x447001 x449000 x449001 0 1)
def steepleref06_At.l0 : Nat → List (S37) → Int → Int → Int → Int → Int → Int → Int → Option (Int × Int)
 | 0, _, _, _, _, _, _, _, _ => none
 | k + 1, x1, x9, x447000, x447001, x449000, x449001, x452000, x452001 => if x9 < (x1.length : Int) then (if 0 ≤ x9 then ((steepleref02_Product.f k ((rd_T37 x1 x9).f0) ((rd_T37 x1 x9).f1) x452000 x452001).bind fun bt453 => ((steepleref02_Add.f x449000 x449001 bt453.1 bt453.2).bind fun bt455 => ((steepleref02_Product.f k x452000 x452001 x447000 x447001).bind fun bt457 => (steepleref06_At.l0 k x1 (wrap64 (x9 + 1)) x447000 x447001 bt455.1 bt455.2 bt457.1 bt457.2)))) else (none)) else (some (x449000, x449001))
end
def steepleref06_At.f (k : Nat) (a0 : Int) (l1 : List (S37)) (a2_0 : Int) (a2_1 : Int) : Option (Int × Int) := (steepleref01_Of.f k a0 a2_0 a2_1).bind fun t449 => (if t449 = true then ((steepleref06_All.f k a0 l1).bind fun t450 => (steepleref06_At.j0 k l1 (!t450) a2_0 a2_1 0 0)) else (steepleref06_At.j0 k l1 true a2_0 a2_1 0 0))
theorem steepleref06_At.mono_l : ∀ k, (∀ y0 y1 y2 y3 y4 y5, LeO (steepleref06_At.j0 k y0 y1 y2 y3 y4 y5) (steepleref06_At.j0 (k + 1) y0 y1 y2 y3 y4 y5)) ∧ (∀ y0 y1 y2 y3 y4 y5 y6 y7, LeO (steepleref06_At.l0 k y0 y1 y2 y3 y4 y5 y6 y7) (steepleref06_At.l0 (k + 1) y0 y1 y2 y3 y4 y5 y6 y7))
 | 0 => ⟨fun _ _ _ _ _ _ r h => by simp [steepleref06_At.j0] at h, fun _ _ _ _ _ _ _ _ r h => by simp [steepleref06_At.l0] at h⟩
 | k + 1 => by
  obtain ⟨ih0, ih1⟩ := steepleref06_At.mono_l k
  refine ⟨?_, ?_⟩
  ·intro y0 y1 y2 y3 y4 y5
   unfold steepleref06_At.j0
   repeat' first
   | (with_reducible exact ih0 _ _ _ _ _ _)
   | (with_reducible exact ih1 _ _ _ _ _ _ _ _)
   | (with_reducible exact steepleref01_Of.mono _ _ _ _)
   | (with_reducible exact steepleref02_Product.mono _ _ _ _ _)
   | (with_reducible exact steepleref06_All.mono _ _ _)
   | (with_reducible exact LeO.refl _)
   | (with_reducible exact LeO.none _)
   | (with_reducible refine LeO.ite ?_ ?_)
   | (with_reducible refine LeO.bind ?_ (fun _ => ?_))
   | exact ih0 _ _ _ _ _ _
   | exact ih1 _ _ _ _ _ _ _ _
   | exact steepleref01_Of.mono _ _ _ _
   | exact steepleref02_Product.mono _ _ _ _ _
   | exact steepleref06_All.mono _ _ _
   | exact LeO.none _
   | refine LeO.ite ?_ ?_
   | refine LeO.bind ?_ (fun _ => ?_)
  ·intro y0 y1 y2 y3 y4 y5 y6 y7
   unfold steepleref06_At.l0
   repeat' first
   | (with_reducible exact ih0 _ _ _ _ _ _)
   | (with_reducible exact ih1 _ _ _ _ _ _ _ _)
   | (with_reducible exact steepleref01_Of.mono _ _ _ _)
   | (with_reducible exact steepleref02_Product.mono _ _ _ _ _)
   | (with_reducible exact steepleref06_All.mono _ _ _)
   | (with_reducible exact LeO.refl _)
   | (with_reducible exact LeO.none _)
   | (with_reducible refine LeO.ite ?_ ?_)
   | (with_reducible refine LeO.bind ?_ (fun _ => ?_))
   | exact ih0 _ _ _ _ _ _
   | exact ih1 _ _ _ _ _ _ _ _
   | exact steepleref01_Of.mono _ _ _ _
   | exact steepleref02_Product.mono _ _ _ _ _
   | exact steepleref06_All.mono _ _ _
   | exact LeO.none _
   | refine LeO.ite ?_ ?_
   | refine LeO.bind ?_ (fun _ => ?_)
theorem steepleref06_At.mono : ∀ a0 a1 a2 a3 k, LeO (steepleref06_At.f k a0 a1 a2 a3) (steepleref06_At.f (k + 1) a0 a1 a2 a3) := by
 intro a0 a1 a2 a3 k
 obtain ⟨ih0, ih1⟩ := steepleref06_At.mono_l k
 unfold steepleref06_At.f
 repeat' first
   | (with_reducible exact ih0 _ _ _ _ _ _)
   | (with_reducible exact ih1 _ _ _ _ _ _ _ _)
   | (with_reducible exact steepleref01_Of.mono _ _ _ _)
   | (with_reducible exact steepleref02_Product.mono _ _ _ _ _)
   | (with_reducible exact steepleref06_All.mono _ _ _)
   | (with_reducible exact LeO.refl _)
   | (with_reducible exact LeO.none _)
   | (with_reducible refine LeO.ite ?_ ?_)
   | (with_reducible refine LeO.bind ?_ (fun _ => ?_))
   | exact ih0 _ _ _ _ _ _
   | exact ih1 _ _ _ _ _ _ _ _
   | exact steepleref01_Of.mono _ _ _ _
   | exact steepleref02_Product.mono _ _ _ _ _
   | exact steepleref06_All.mono _ _ _
   | exact LeO.none _
   | refine LeO.ite ?_ ?_
   | refine LeO.bind ?_ (fun _ => ?_)
def steepleref06_At.T8 : Bool × List (List Nat × List Nat) := (true, [([], []), ([], []), ([], []), ([1, 2], [1, 2]), ([3], [3]), ([], []), ([4, 5], [4, 5]), ([0, 6, 6], [0, 6]), ([7, 7, 0, 1, 2, 3, 4, 5, 6, 7], [7])])
def steepleref06_At.B8 : List Nat := [0, 0, 0, 6, 14, 0, 62, 127, 255]
theorem steepleref06_At.tab8 : rtab .any (opsOf Try.f23 8) = steepleref06_At.T8 := by kernel_rfl
theorem steepleref06_At.bits8 : waitsOk steepleref06_At.T8.2 steepleref06_At.B8 = true := by kernel_rfl
set_option maxHeartbeats 8000000 in
set_option maxRecDepth 100000 in
theorem steepleref06_At.calls (k : Nat) (a0 : Int) (A1 : Option Addr) (c1 : Nat) (l1 : List (S37)) (a2_0 : Int) (a2_1 : Int) (r1 : Int) (r2 : Int) (w : World) (hr1 : Kd.C k37 w A1 l1.length l1) (hc1 : l1.length ≤ c1) (h : steepleref06_At.f k a0 l1 a2_0 a2_1 = some (r1, r2)) :
  Calls Try.prog 23 #[.int .i64 a0, .slice A1 l1.length c1, .agg #[.int .u64 a2_0, .int .u64 a2_1]] w fun e w' => e = .returned (.agg #[.int .u64 r1, .int .u64 r2]) ∧ Below w.heap.size w w' := by
 have hu37 := Try.underlying37
 have HR1 := Aside0.mk hr1
 have HC1 := Aside0.mk hc1
 clear hr1 hc1
 have HB := Aside0.mk (Below.refl w.heap.size w)
 have H : ((steepleref01_Of.f k a0 a2_0 a2_1).bind fun t449 => (if t449 = true then ((steepleref06_All.f k a0 l1).bind fun t450 => (steepleref06_At.j0 k l1 (!t450) a2_0 a2_1 0 0)) else (steepleref06_At.j0 k l1 true a2_0 a2_1 0 0))) = some (r1, r2) := h
 clear h
 have HC4 := Aside0.mk H
 clear H
 go_enter Try.func23, Try.ntmps23
 go_upto_region 2 with (first | ((with_reducible refine gate_dst (N := 5) rfl ?_); refine box_event ?hg (N := 5) ?hd (cs := #[.int .u64 a2_0, .int .u64 a2_1]) (t := 37) ?hr ?_; (case hd => rfl); (case hg => rfl); (case hr => first | (go_simp; done) | (go_simp; rfl)); intro gb446 hg w5 hbox hb; have BK446 := Aside0.mk hbox; have GW446 := ge hg HB; have GE446 := ge hg HB; replace HB := bh HB hb; clear hb hbox hg) | ((with_reducible refine gate_dst (N := 6) rfl ?_); refine box_event ?hg (N := 6) ?hd (cs := #[.int .u64 0, .int .u64 0]) (t := 37) ?hr ?_; (case hd => rfl); (case hg => rfl); (case hr => first | (go_simp; done) | (go_simp; rfl)); intro gb447 hg w6 hbox hb; have BK447 := Aside0.mk hbox; have GW447 := ge hg HB; have GE447 := ge hg HB; have NB446_447 := nl hg BK446; have NB447_446 := ng hg BK446; replace BK446 := bb BK446 hb; replace HB := bh HB hb; clear hb hbox hg) | ((with_reducible refine gate_dst (N := 7) rfl ?_); refine box_event ?hg (N := 7) ?hd (cs := #[.int .u64 0, .int .u64 0]) (t := 37) ?hr ?_; (case hd => rfl); (case hg => rfl); (case hr => first | (go_simp; done) | (go_simp; rfl)); intro gb448 hg w7 hbox hb; have BK448 := Aside0.mk hbox; have GW448 := ge hg HB; have GE448 := ge hg HB; have NB446_448 := nl hg BK446; have NB448_446 := ng hg BK446; have NB447_448 := nl hg BK447; have NB448_447 := ng hg BK447; replace BK446 := bb BK446 hb; replace BK447 := bb BK447 hb; replace HB := bh HB hb; clear hb hbox hg))
 (try simp only [Act.put, List.setIfInBounds_toArray, List.set_cons_zero, List.set_cons_succ])
 go_cut [19] (fun v19 wc => ∃ (kq : Nat) (x19_3 : Bool), v19 = .bool x19_3 ∧ Aside0 (steepleref06_At.j0 kq l1 x19_3 a2_0 a2_1 0 0 = some (r1, r2)) ∧ Aside0 (kq ≤ k) ∧ Aside0 (wc.heap[gb446]? = some (.cells #[.int .u64 a2_0, .int .u64 a2_1] 37 (0, 0))) ∧ Aside0 (wc.heap[gb447]? = some (.cells #[.int .u64 0, .int .u64 0] 37 (0, 0))) ∧ Aside0 (wc.heap[gb448]? = some (.cells #[.int .u64 0, .int .u64 0] 37 (0, 0))) ∧ Aside0 (Below w.heap.size w wc))
 case first =>
  have H := HC4.out
  clear HC4
  replace H := Option.bind_eq_some_iff.mp H
  obtain ⟨t449, A80, H⟩ := H
  replace H : (if t449 = true then ((steepleref06_All.f k a0 l1).bind fun t450 => (steepleref06_At.j0 k l1 (!t450) a2_0 a2_1 0 0)) else (steepleref06_At.j0 k l1 true a2_0 a2_1 0 0)) = some (r1, r2) := H
  have A8 := Aside0.mk A80
  clear A80
  by_cases c9 : t449 = true
  ·subst c9
   have H1 : ((steepleref06_All.f k a0 l1).bind fun t450 => (steepleref06_At.j0 k l1 (!t450) a2_0 a2_1 0 0)) = some (r1, r2) := by rw [if_pos rfl] at H; exact H
   clear H
   have H := H1
   clear H1
   replace H := Option.bind_eq_some_iff.mp H
   obtain ⟨t450, A100, H⟩ := H
   replace H : (steepleref06_At.j0 k l1 (!t450) a2_0 a2_1 0 0) = some (r1, r2) := H
   have A10 := Aside0.mk A100
   clear A100
   have H' := Aside0.mk H
   clear H
   obtain ⟨hcz13_0, hcz13_1⟩ := zc2 BK446
   obtain ⟨hfz13_0, hfz13_1⟩ := zf2 BK446
   go_wp2_with (first | ((with_reducible refine gate_callee (f := 11) rfl ?_); refine goesL_ (some 12) rfl rfl Try.func11 (by kernel_rfl) rfl #[.int .i64 a0, .agg #[.int .u64 a2_0, .int .u64 a2_1]] rfl (by (try simp only [List.map_toArray, List.map_cons, List.map_nil]); first | done | rfl | (simp only [List.length_drop, List.length_take]; rfl)) ?_; (with_reducible refine (steepleref01_Of.calls k a0 a2_0 a2_1 true _ A8.out).mono ?_); rintro e w14 ⟨rfl, hb⟩; refine ⟨_, rfl, ?_⟩; replace BK446 := bb BK446 hb; replace BK447 := bb BK447 hb; replace BK448 := bb BK448 hb; replace HB := bh HB hb; (try clear hb); (try clear hb2); (try clear hk); (try clear hi)) | (go_at_call 24; (with_reducible refine (steepleref06_All.calls k a0 _ _ l1 t450 _ ?side1 ?side2 A10.out).mono ?_); (case side1 => repeat (first | exact (Kd.C_below HR1.out HB.out) | (with_reducible refine Kd.C_alloc ?_ _) | (with_reducible refine Kd.C_drewN ?_ _) | (with_reducible refine Kd.C_drew ?_))); (case side2 => exact HC1.out); rintro e w15 ⟨rfl, hb⟩; replace BK446 := bb BK446 hb; replace BK447 := bb BK447 hb; replace BK448 := bb BK448 hb; replace HB := bh HB hb; (try clear hb); (try clear hb2); (try clear hk); (try clear hi)))
   go_meet
   case rel => exact ⟨_, (!t450), (by first | rfl | (simp; done) | (simp [*]; done)), H', ⟨by first | omega | exact Nat.le_refl _⟩, ⟨bk BK446.out⟩, ⟨bk BK447.out⟩, ⟨bk BK448.out⟩, ⟨bq HB.out⟩⟩
  ·replace c9 := Bool.eq_false_iff.mpr c9
   subst c9
   have H1 : (steepleref06_At.j0 k l1 true a2_0 a2_1 0 0) = some (r1, r2) := by rw [if_neg (show ¬ (false = true) by decide)] at H; exact H
   clear H
   have H := H1
   clear H1
   have H' := Aside0.mk H
   clear H
   obtain ⟨hcz18_0, hcz18_1⟩ := zc2 BK446
   obtain ⟨hfz18_0, hfz18_1⟩ := zf2 BK446
   go_wp2_with (first | ((with_reducible refine gate_callee (f := 11) rfl ?_); refine goesL_ (some 12) rfl rfl Try.func11 (by kernel_rfl) rfl #[.int .i64 a0, .agg #[.int .u64 a2_0, .int .u64 a2_1]] rfl (by (try simp only [List.map_toArray, List.map_cons, List.map_nil]); first | done | rfl | (simp only [List.length_drop, List.length_take]; rfl)) ?_; (with_reducible refine (steepleref01_Of.calls k a0 a2_0 a2_1 false _ A8.out).mono ?_); rintro e w19 ⟨rfl, hb⟩; refine ⟨_, rfl, ?_⟩; replace BK446 := bb BK446 hb; replace BK447 := bb BK447 hb; replace BK448 := bb BK448 hb; replace HB := bh HB hb; (try clear hb); (try clear hb2); (try clear hk); (try clear hi)))
   go_meet
   case rel => exact ⟨_, (true), (by first | rfl | (simp; done) | (simp [*]; done)), H', ⟨by first | omega | exact Nat.le_refl _⟩, ⟨bk BK446.out⟩, ⟨bk BK447.out⟩, ⟨bk BK448.out⟩, ⟨bq HB.out⟩⟩
 case rest =>
  clear HC4
  try clear c1
  try clear c2
  try clear p2
  try clear c9
  try clear c11
  try clear c12
  try clear c16
  try clear c17
  try clear hcz13_0
  try clear hcz13_1
  try clear hcz18_0
  try clear hcz18_1
  try clear hfz13_0
  try clear hfz13_1
  try clear hfz18_0
  try clear hfz18_1
  obtain ⟨kq, x19_3, rfl, HA, HJ3, BK446, BK447, BK448, HB⟩ := hcut
  cases kq with
  | zero => exact absurd HA.out (by simp [steepleref06_At.j0])
  | succ kj3 =>
   have H := HA.out
   clear HA
   simp only [steepleref06_At.j0] at H
   by_cases c20 : x19_3 = true
   ·subst c20
    have H1 : (some (0, 0)) = some (r1, r2) := by rw [if_pos rfl] at H; exact H
    clear H
    have H := H1
    clear H1
    simp only [Option.some.injEq, Prod.mk.injEq] at H
    obtain ⟨rfl, rfl⟩ := H
    have hnb22 := NB448_447.out
    have hnc22 := NB447_448.out
    obtain ⟨hcz23_0, hcz23_1⟩ := zc2 BK448
    obtain ⟨hfz23_0, hfz23_1⟩ := zf2 BK448
    obtain ⟨hcz25_0, hcz25_1⟩ := zc2 BK447
    obtain ⟨hfz25_0, hfz25_1⟩ := zf2 BK447
    go_wp2
    refine bodyPost_ret (results_cell_row rfl _ _ gb447 37 #[.int .u64 0, .int .u64 0] (0, 0) _ rfl (by (with_reducible repeat refine bl ?_); refine blk_put (cs := #[.int .u64 0, .int .u64 0]) ?_ 1 _ rfl; (with_reducible repeat refine bl ?_); refine blk_put (cs := #[.int .u64 0, .int .u64 0]) ?_ 0 _ rfl; (with_reducible repeat refine bl ?_); exact BK447.out) Try.underlying37 rfl (by kernel_rfl)) rfl ?_
    exact ⟨by first | rfl | (simp [errW_none, errW_some] <;> rfl) | (simp [*, errW_none, errW_some] <;> rfl), bq HB.out⟩
   ·replace c20 := Bool.eq_false_iff.mpr c20
    subst c20
    have H1 : (steepleref06_At.l0 kj3 l1 0 a2_0 a2_1 0 0 0 1) = some (r1, r2) := by rw [if_neg (show ¬ (false = true) by decide)] at H; exact H
    clear H
    have H := H1
    clear H1
    have H' := Aside0.mk H
    clear H
    go_wp2_with (first | ((with_reducible refine gate_dst (N := 8) rfl ?_); refine box_event ?hg (N := 8) ?hd (cs := #[.int .u64 0, .int .u64 0]) (t := 37) ?hr ?_; (case hd => rfl); (case hg => rfl); (case hr => first | (go_simp; done) | (go_simp; rfl)); intro gb451 hg w26 hbox hb; have BK451 := Aside0.mk hbox; have GW451 := ge hg HB; have GE451 := ge hg HB; have NB446_451 := nl hg BK446; have NB451_446 := ng hg BK446; have NB447_451 := nl hg BK447; have NB451_447 := ng hg BK447; have NB448_451 := nl hg BK448; have NB451_448 := ng hg BK448; replace BK446 := bb BK446 hb; replace BK447 := bb BK447 hb; replace BK448 := bb BK448 hb; replace HB := bh HB hb; clear hb hbox hg; obtain ⟨hcz30_0, hcz30_1⟩ := zc2 BK451; obtain ⟨hfz30_0, hfz30_1⟩ := zf2 BK451))
    go_loopg [9] kj3 (fun kq v9 w' => ∃ (x9_2 : Int) (x449000_2 : Int) (x449001_2 : Int) (x452000_2 : Int) (x452001_2 : Int), v9 = .int .i64 x9_2 ∧ Aside0 (steepleref06_At.l0 kq l1 x9_2 a2_0 a2_1 x449000_2 x449001_2 x452000_2 x452001_2 = some (r1, r2)) ∧ Aside0 (kq ≤ kj3) ∧ Aside0 (w'.heap[gb446]? = some (.cells #[.int .u64 a2_0, .int .u64 a2_1] 37 (0, 0))) ∧ Aside0 (w'.heap[gb447]? = some (.cells #[.int .u64 0, .int .u64 0] 37 (0, 0))) ∧ Aside0 (w'.heap[gb448]? = some (.cells #[.int .u64 x449000_2, .int .u64 x449001_2] 37 (0, 0))) ∧ Aside0 (w'.heap[gb451]? = some (.cells #[.int .u64 x452000_2, .int .u64 x452001_2] 37 (0, 0))) ∧ Aside0 (Below w.heap.size w w'))
    case atStart => exact ⟨(0), (0), (0), (0), (1), (by first | rfl | (simp; done) | (simp [*]; done)), H', ⟨Nat.le_refl _⟩, ⟨by (with_reducible repeat refine bl ?_); refine blk_far ?_ NB446_451.out _; (with_reducible repeat refine bl ?_); refine blk_far ?_ NB446_451.out _; (with_reducible repeat refine bl ?_); exact BK446.out⟩, ⟨by (with_reducible repeat refine bl ?_); refine blk_far ?_ NB447_451.out _; (with_reducible repeat refine bl ?_); refine blk_far ?_ NB447_451.out _; (with_reducible repeat refine bl ?_); exact BK447.out⟩, ⟨by (with_reducible repeat refine bl ?_); refine blk_far ?_ NB448_451.out _; (with_reducible repeat refine bl ?_); refine blk_far ?_ NB448_451.out _; (with_reducible repeat refine bl ?_); exact BK448.out⟩, ⟨by (with_reducible repeat refine bl ?_); refine blk_put (cs := #[.int .u64 0, .int .u64 0]) ?_ 1 _ rfl; (with_reducible repeat refine bl ?_); refine blk_put (cs := #[.int .u64 0, .int .u64 0]) ?_ 0 _ rfl; (with_reducible repeat refine bl ?_); exact BK451.out⟩, ⟨bq HB.out⟩⟩
    case round =>
     clear H'
     try clear c1
     try clear c2
     try clear p2
     try clear c9
     try clear c11
     try clear c12
     try clear c16
     try clear c17
     try clear c20
     try clear c21
     try clear c22
     try clear c23
     try clear c24
     try clear c27
     try clear c28
     try clear c29
     try clear hcz13_0
     try clear hcz13_1
     try clear hcz18_0
     try clear hcz18_1
     try clear hcz23_0
     try clear hcz23_1
     try clear hcz25_0
     try clear hcz25_1
     try clear hcz30_0
     try clear hcz30_1
     try clear hfz13_0
     try clear hfz13_1
     try clear hfz18_0
     try clear hfz18_1
     try clear hfz23_0
     try clear hfz23_1
     try clear hfz25_0
     try clear hfz25_1
     try clear hfz30_0
     try clear hfz30_1
     try clear p2
     obtain ⟨x9_2, x449000_2, x449001_2, x452000_2, x452001_2, rfl, HA, HK2, BK446, BK447, BK448, BK451, HB⟩ := hrel
     cases gk with
     | zero => exact absurd HA.out (by simp [steepleref06_At.l0])
     | succ k2 =>
      have H := HA.out
      clear HA
      simp only [steepleref06_At.l0] at H
      by_cases c31 : x9_2 < (l1.length : Int)
      ·rw [if_pos c31] at H
       have c31b0 : decide (x9_2 < (l1.length : Int)) = true := decide_eq_true c31
       clear c31
       by_cases c32 : 0 ≤ x9_2
       ·rw [if_pos c32] at H
        have c32b0 : decide (0 ≤ x9_2) = true := decide_eq_true c32
        clear c32
        replace H := Option.bind_eq_some_iff.mp H
        obtain ⟨⟨t453, t454⟩, A330, H⟩ := H
        replace H : ((steepleref02_Add.f x449000_2 x449001_2 t453 t454).bind fun bt455 => ((steepleref02_Product.f k2 x452000_2 x452001_2 a2_0 a2_1).bind fun bt457 => (steepleref06_At.l0 k2 l1 (wrap64 (x9_2 + 1)) a2_0 a2_1 bt455.1 bt455.2 bt457.1 bt457.2))) = some (r1, r2) := H
        have A33 := Aside0.mk A330
        clear A330
        replace H := Option.bind_eq_some_iff.mp H
        obtain ⟨⟨t455, t456⟩, A340, H⟩ := H
        replace H : ((steepleref02_Product.f k2 x452000_2 x452001_2 a2_0 a2_1).bind fun bt457 => (steepleref06_At.l0 k2 l1 (wrap64 (x9_2 + 1)) a2_0 a2_1 t455 t456 bt457.1 bt457.2)) = some (r1, r2) := H
        have A34 := Aside0.mk A340
        clear A340
        replace H := Option.bind_eq_some_iff.mp H
        obtain ⟨⟨t457, t458⟩, A350, H⟩ := H
        replace H : (steepleref06_At.l0 k2 l1 (wrap64 (x9_2 + 1)) a2_0 a2_1 t455 t456 t457 t458) = some (r1, r2) := H
        have A35 := Aside0.mk A350
        clear A350
        have H' := Aside0.mk H
        clear H
        try go_wp2
        replace BK446 := Aside0.mk (blk_drew BK446.out)
        replace BK447 := Aside0.mk (blk_drew BK447.out)
        replace BK448 := Aside0.mk (blk_drew BK448.out)
        replace BK451 := Aside0.mk (blk_drew BK451.out)
        replace HB := Aside0.mk (below_drew1 HB.out)
        have p452 : 0 ≤ (x9_2 : Int) := of_decide_eq_true (by first | (with_reducible assumption) | assumption)
        have q452 : x9_2 < (l1.length : Int) := of_decide_eq_true (by first | (with_reducible assumption) | assumption)
        obtain ⟨ad452, e452, hx452_0, hx452_1⟩ := at_T37 HR1.out x9_2 p452 q452
        have hw452_1 := hx452_1
        have hw452_0 := hx452_0
        cases e452
        replace hx452_0 := (HB.out.cell (World.block_lt_of_cell? w _ hx452_0)).trans hx452_0
        replace hx452_1 := (HB.out.cell (World.block_lt_of_cell? w _ hx452_1)).trans hx452_1
        replace p452 := eq_true p452
        replace q452 := eq_true q452
        refine start_ (n := 9) (S := fun w' => w'.cell? ⟨gb448, 0, none⟩ = some (.int .u64 x449000_2) ∧ w'.cell? ⟨gb448, 1, none⟩ = some (.int .u64 x449001_2) ∧ w'.cell? ⟨gb451, 0, none⟩ = some (.int .u64 x452000_2) ∧ w'.cell? ⟨gb451, 1, none⟩ = some (.int .u64 x452001_2) ∧ w'.cell? (ad452.add ((x9_2).toNat * 2)) = some (.int .u64 ((rd_T37 l1 x9_2).f0)) ∧ w'.cell? ⟨(ad452.add ((x9_2).toNat * 2)).block, (ad452.add ((x9_2).toNat * 2)).off + 1, none⟩ = some (.int .u64 ((rd_T37 l1 x9_2).f1))) (ds := [8]) #[false, false, false, false, false, false, false, false, false] (by kernel_rfl) rfl rfl ⟨(blk_cell BK448.out 0).trans rfl, (blk_cell BK448.out 1).trans rfl, (blk_cell BK451.out 0).trans rfl, (blk_cell BK451.out 1).trans rfl, ((HB.out.cell (World.block_lt_of_cell? w _ hw452_0)).trans hw452_0), ((HB.out.cell (World.block_lt_of_cell? w _ hw452_1)).trans hw452_1)⟩ (fun hHeld => ?_); refine with_tabW steepleref06_At.tab8 steepleref06_At.bits8 (fun HT_ HW_ => ?_)
        generalize wr.drew = w36 at BK446 BK447 BK448 BK451 HB hx452_0 hx452_1 hHeld ⊢
        refine pure_ (i := 1) (N := some 29) (v := ?_) (a' := ?_) #[false, true, false, false, false, false, false, false, false] rfl rfl (any_of HT_.out (by kernel_rfl)) (fun _ _ _ h => h) (Or.inl ⟨by rfl, ?_⟩) ?_ ?_
        rotate_left
        ·intro w'
         go_simp
         with_reducible rfl
        rotate_left
        ·simp only [Act.put, List.setIfInBounds_toArray, List.set_cons_zero, List.set_cons_succ, i64_w, i32_w]
         rfl
        refine pure_ (i := 2) (N := some 30) (v := ?_) (a' := ?_) #[false, true, true, false, false, false, false, false, false] rfl rfl (any_of HT_.out (by kernel_rfl)) (fun _ _ _ h => h) (Or.inl ⟨by rfl, ?_⟩) ?_ ?_
        rotate_left
        ·intro w'
         go_simp
         with_reducible rfl
        rotate_left
        ·simp only [Act.put, List.setIfInBounds_toArray, List.set_cons_zero, List.set_cons_succ, i64_w, i32_w]
         rfl
        refine pure_ (i := 3) (N := some 31) (v := ?_) (a' := ?_) #[false, true, true, true, false, false, false, false, false] rfl rfl (any_of HT_.out (by kernel_rfl)) (fun _ _ _ h => h) (Or.inl ⟨by rfl, ?_⟩) ?_ ?_
        rotate_left
        ·intro w'
         go_simp
         with_reducible rfl
        rotate_left
        ·simp only [Act.put, List.setIfInBounds_toArray, List.set_cons_zero, List.set_cons_succ, i64_w, i32_w]
         rfl
        refine take_ (i := 0) (N := some 28) (v := ?_) (a' := ?_) #[true, true, true, true, false, false, false, false, false] rfl rfl (take_ofW HT_.out HW_.out (by kernel_rfl)) (fun _ _ _ h => h) (Or.inl ⟨by rfl, ?_⟩) hHeld ?_ ?_
        rotate_left
        ·rintro w' ⟨s0, s1, s2, s3, s4, s5⟩
         go_simp
         with_reducible rfl
        rotate_left
        ·simp only [Act.put, List.setIfInBounds_toArray, List.set_cons_zero, List.set_cons_succ, i64_w, i32_w]
         rfl
        refine take_ (i := 4) (N := some 32) (v := ?_) (a' := ?_) #[true, true, true, true, true, false, false, false, false] rfl rfl (take_ofW HT_.out HW_.out (by kernel_rfl)) (fun _ _ _ h => h) (Or.inl ⟨by rfl, ?_⟩) hHeld ?_ ?_
        rotate_left
        ·rintro w' ⟨s0, s1, s2, s3, s4, s5⟩
         go_simp
         with_reducible rfl
        rotate_left
        ·simp only [Act.put, List.setIfInBounds_toArray, List.set_cons_zero, List.set_cons_succ, i64_w, i32_w]
         rfl
        refine take_ (i := 5) (N := some 33) (v := ?_) (a' := ?_) #[true, true, true, true, true, true, false, false, false] rfl rfl (take_ofW HT_.out HW_.out (by kernel_rfl)) (fun _ _ _ h => h) (Or.inl ⟨by rfl, ?_⟩) hHeld ?_ ?_
        rotate_left
        ·rintro w' ⟨s0, s1, s2, s3, s4, s5⟩
         go_simp
         with_reducible rfl
        rotate_left
        ·simp only [Act.put, List.setIfInBounds_toArray, List.set_cons_zero, List.set_cons_succ, i64_w, i32_w]
         rfl
        refine one_ (i := 6) (N := some 34) #[true, true, true, true, true, true, true, false, false] rfl rfl (one_of HT_.out (by kernel_rfl)) (by decide) (fun K hK => ?_)
        refine goes_ Try.func35 (by kernel_rfl) rfl #[.agg #[.int .u64 ((rd_T37 l1 x9_2).f0), .int .u64 ((rd_T37 l1 x9_2).f1)], .agg #[.int .u64 x452000_2, .int .u64 x452001_2]] (by rfl) rfl rfl (by (try simp only [List.map_toArray, List.map_cons, List.map_nil]); first | done | rfl | (simp only [List.length_drop, List.length_take]; rfl)) ?_
        with_reducible refine (steepleref02_Product.calls k2 ((rd_T37 l1 x9_2).f0) ((rd_T37 l1 x9_2).f1) x452000_2 x452001_2 t453 t454 _ A33.out).mono ?_
        rintro e w37 ⟨rfl, hb⟩
        refine ⟨_, rfl, ?_⟩
        replace BK446 := bb BK446 hb
        replace BK447 := bb BK447 hb
        replace BK448 := bb BK448 hb
        replace BK451 := bb BK451 hb
        replace HB := bh HB hb
        (try clear hb)
        (try clear hb2)
        (try clear hk)
        (try clear hi)
        refine hK.out _ _ ⟨(blk_cell BK448.out 0).trans rfl, (blk_cell BK448.out 1).trans rfl, (blk_cell BK451.out 0).trans rfl, (blk_cell BK451.out 1).trans rfl, ((HB.out.cell (World.block_lt_of_cell? w _ hw452_0)).trans hw452_0), ((HB.out.cell (World.block_lt_of_cell? w _ hw452_1)).trans hw452_1)⟩ (fun hHeld => ?_)
        clear hK K
        refine norm_ (a' := ?_) ?_ ?_
        rotate_left
        ·show Act.put _ (some 34) _ = _
         simp only [Act.put, List.setIfInBounds_toArray, List.set_cons_zero, List.set_cons_succ, i64_w, i32_w]
         rfl
        refine one_ (i := 7) (N := some 35) #[true, true, true, true, true, true, true, true, false] rfl rfl (one_of HT_.out (by kernel_rfl)) (by decide) (fun K hK => ?_)
        refine goes_ Try.func14 (by kernel_rfl) rfl #[.agg #[.int .u64 x449000_2, .int .u64 x449001_2], .agg #[.int .u64 t453, .int .u64 t454]] (by rfl) rfl rfl (by (try simp only [List.map_toArray, List.map_cons, List.map_nil]); first | done | rfl | (simp only [List.length_drop, List.length_take]; rfl)) ?_
        with_reducible refine (steepleref02_Add.calls x449000_2 x449001_2 t453 t454 t455 t456 _ A34.out).mono ?_
        rintro e w38 ⟨rfl, hb⟩
        refine ⟨_, rfl, ?_⟩
        replace BK446 := bb BK446 hb
        replace BK447 := bb BK447 hb
        replace BK448 := bb BK448 hb
        replace BK451 := bb BK451 hb
        replace HB := bh HB hb
        (try clear hb)
        (try clear hb2)
        (try clear hk)
        (try clear hi)
        refine hK.out _ _ ⟨(blk_cell BK448.out 0).trans rfl, (blk_cell BK448.out 1).trans rfl, (blk_cell BK451.out 0).trans rfl, (blk_cell BK451.out 1).trans rfl, ((HB.out.cell (World.block_lt_of_cell? w _ hw452_0)).trans hw452_0), ((HB.out.cell (World.block_lt_of_cell? w _ hw452_1)).trans hw452_1)⟩ (fun hHeld => ?_)
        clear hK K
        refine norm_ (a' := ?_) ?_ ?_
        rotate_left
        ·show Act.put _ (some 35) _ = _
         simp only [Act.put, List.setIfInBounds_toArray, List.set_cons_zero, List.set_cons_succ, i64_w, i32_w]
         rfl
        refine last_ (i := 8) (N := none) #[true, true, true, true, true, true, true, true, true] rfl rfl (one_of HT_.out (by kernel_rfl)) (by decide) (fun K hK => ?_)
        have hs39 : w38.cell? ⟨gb448, 0, none⟩ = some (.int .u64 x449000_2) := (blk_cell BK448.out 0).trans rfl
        have hfs39 := blk_frozen BK448.out 0
        have hns39_0 := NB446_448.out
        have hns39_1 := NB447_448.out
        have hns39_3 := NB451_448.out
        have hms39_0 := NB448_446.out
        have hms39_1 := NB448_447.out
        have hms39_3 := NB448_451.out
        have hs40 : w38.cell? ⟨gb448, 1, none⟩ = some (.int .u64 x449001_2) := (blk_cell BK448.out 1).trans rfl
        have hfs40 := blk_frozen BK448.out 1
        have hns40_0 := NB446_448.out
        have hns40_1 := NB447_448.out
        have hns40_3 := NB451_448.out
        have hms40_0 := NB448_446.out
        have hms40_1 := NB448_447.out
        have hms40_3 := NB448_451.out
        refine skip_ (w1 := ?_) (by rfl) rfl ?_ ?_
        rotate_left
        ·go_simp
         rfl
        refine hK.out _ _ ?_
        clear hK K
        refine done_ (done_of HT_.out (by kernel_rfl)) ?_
        have hnb41 := NB451_446.out
        have hnc41 := NB446_451.out
        obtain ⟨hcz44_0, hcz44_1⟩ := zc2 BK451
        obtain ⟨hfz44_0, hfz44_1⟩ := zf2 BK451
        obtain ⟨hcz47_0, hcz47_1⟩ := zc2 BK446
        obtain ⟨hfz47_0, hfz47_1⟩ := zf2 BK446
        try go_wp2_with (first | ((with_reducible refine gate_callee (f := 35) rfl ?_); refine goesL_ (some 38) rfl rfl Try.func35 (by kernel_rfl) rfl #[.agg #[.int .u64 x452000_2, .int .u64 x452001_2], .agg #[.int .u64 a2_0, .int .u64 a2_1]] rfl (by (try simp only [List.map_toArray, List.map_cons, List.map_nil]); first | done | rfl | (simp only [List.length_drop, List.length_take]; rfl)) ?_; (with_reducible refine (steepleref02_Product.calls k2 x452000_2 x452001_2 a2_0 a2_1 t457 t458 _ A35.out).mono ?_); rintro e w48 ⟨rfl, hb⟩; refine ⟨_, rfl, ?_⟩; replace BK446 := Aside0.mk (blk_below (g := gb446) (o := .cells #[.int .u64 a2_0, .int .u64 a2_1] 37 (0, 0)) (by (with_reducible repeat refine bl ?_); refine blk_far ?_ NB446_448.out _; (with_reducible repeat refine bl ?_); refine blk_far ?_ NB446_448.out _; (with_reducible repeat refine bl ?_); exact BK446.out) hb); replace BK447 := Aside0.mk (blk_below (g := gb447) (o := .cells #[.int .u64 0, .int .u64 0] 37 (0, 0)) (by (with_reducible repeat refine bl ?_); refine blk_far ?_ NB447_448.out _; (with_reducible repeat refine bl ?_); refine blk_far ?_ NB447_448.out _; (with_reducible repeat refine bl ?_); exact BK447.out) hb); replace BK448 := Aside0.mk (blk_below (g := gb448) (o := .cells #[.int .u64 t455, .int .u64 t456] 37 (0, 0)) (by (with_reducible repeat refine bl ?_); refine blk_put (cs := #[.int .u64 t455, .int .u64 x449001_2]) ?_ 1 _ rfl; (with_reducible repeat refine bl ?_); refine blk_put (cs := #[.int .u64 x449000_2, .int .u64 x449001_2]) ?_ 0 _ rfl; (with_reducible repeat refine bl ?_); exact BK448.out) hb); replace BK451 := Aside0.mk (blk_below (g := gb451) (o := .cells #[.int .u64 x452000_2, .int .u64 x452001_2] 37 (0, 0)) (by (with_reducible repeat refine bl ?_); refine blk_far ?_ NB451_448.out _; (with_reducible repeat refine bl ?_); refine blk_far ?_ NB451_448.out _; (with_reducible repeat refine bl ?_); exact BK451.out) hb); replace HB := bh HB hb; (try clear hb); (try clear hb2); (try clear hk); (try clear hi); obtain ⟨hcz49_0, hcz49_1⟩ := zc2 BK451; obtain ⟨hfz49_0, hfz49_1⟩ := zf2 BK451))
        go_roundg k2
        case measure => have := HJ3.out; have := HK2.out; omega
        case rel => exact ⟨(wrap64 (x9_2 + 1)), (t455), (t456), (t457), (t458), (by first | rfl | (simp; done) | (simp [*]; done)), H', ⟨by have := HJ3.out; have := HK2.out; omega⟩, ⟨by (with_reducible repeat refine bl ?_); refine blk_far ?_ NB446_451.out _; (with_reducible repeat refine bl ?_); refine blk_far ?_ NB446_451.out _; (with_reducible repeat refine bl ?_); exact BK446.out⟩, ⟨by (with_reducible repeat refine bl ?_); refine blk_far ?_ NB447_451.out _; (with_reducible repeat refine bl ?_); refine blk_far ?_ NB447_451.out _; (with_reducible repeat refine bl ?_); exact BK447.out⟩, ⟨by (with_reducible repeat refine bl ?_); refine blk_far ?_ NB448_451.out _; (with_reducible repeat refine bl ?_); refine blk_far ?_ NB448_451.out _; (with_reducible repeat refine bl ?_); exact BK448.out⟩, ⟨by (with_reducible repeat refine bl ?_); refine blk_put (cs := #[.int .u64 t457, .int .u64 x452001_2]) ?_ 1 _ rfl; (with_reducible repeat refine bl ?_); refine blk_put (cs := #[.int .u64 x452000_2, .int .u64 x452001_2]) ?_ 0 _ rfl; (with_reducible repeat refine bl ?_); exact BK451.out⟩, ⟨bq HB.out⟩⟩
       ·rw [if_neg c32] at H
        exact absurd H (by simp)
      ·rw [if_neg c31] at H
       have c31b0 : decide (x9_2 < (l1.length : Int)) = false := decide_eq_false c31
       clear c31
       simp only [Option.some.injEq, Prod.mk.injEq] at H
       obtain ⟨rfl, rfl⟩ := H
       have hnb51 := NB448_447.out
       have hnc51 := NB447_448.out
       obtain ⟨hcz53_0, hcz53_1⟩ := zc2 BK448
       obtain ⟨hfz53_0, hfz53_1⟩ := zf2 BK448
       obtain ⟨hcz56_0, hcz56_1⟩ := zc2 BK447
       obtain ⟨hfz56_0, hfz56_1⟩ := zf2 BK447
       go_wp2
       refine bodyPost_ret (results_cell_row rfl _ _ gb447 37 #[.int .u64 x449000_2, .int .u64 x449001_2] (0, 0) _ rfl (by (with_reducible repeat refine bl ?_); refine blk_put (cs := #[.int .u64 x449000_2, .int .u64 0]) ?_ 1 _ rfl; (with_reducible repeat refine bl ?_); refine blk_put (cs := #[.int .u64 0, .int .u64 0]) ?_ 0 _ rfl; (with_reducible repeat refine bl ?_); exact BK447.out) Try.underlying37 rfl (by kernel_rfl)) rfl ?_
       exact ⟨by first | rfl | (simp [errW_none, errW_some] <;> rfl) | (simp [*, errW_none, errW_some] <;> rfl), bq HB.out⟩

end Go.Proofs.Ythnaalocgoeddaa.P
