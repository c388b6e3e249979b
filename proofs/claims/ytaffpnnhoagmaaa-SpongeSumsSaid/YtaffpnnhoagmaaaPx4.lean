/- Written by a program of this session: functions that the law reaches, as Lean functions, and that the code comes to their answers. Conditions: those that each theorem names. -/
import Derived.Test.YtaffpnnhoagmaaaPx0
import Derived.Test.YtaffpnnhoagmaaaPx3
namespace Go.Proofs.Ytaffpnnhoagmaaa.P
open Go.RowKit Go.Proofs.YtaffpnnhoagmaaaX Go.Proofs.YtaffpnnhoagmaaaW.PrintWords Go.Proofs.YtaffpnnhoagmaaaW.PrintLast Go.Proofs.YtaffpnnhoagmaaaW.PrintMore
attribute [local go_sem] max2_int min2_int max_two min_two max_three min_three max_four min_four   -- for this text's walks alone
set_option linter.unusedVariables false
set_option linter.unusedSimpArgs false
set_option maxRecDepth 100000 in
theorem fld_lo4b (w : World) (a b : Int) : Sem.run Try.prog (Instr.field 88 (Value.agg #[Value.int IntKind.u64 a, Value.int IntKind.u64 b]) 1) w = Result.ok (Value.int IntKind.u64 b) w := by
  have hu := Try.underlying88
  go_simp
  rfl
attribute [local go_sem] fld_lo4b
set_option maxRecDepth 100000 in
theorem fld_lo4a (w : World) (a b : Int) : Sem.run Try.prog (Instr.field 81 (Value.agg #[Value.int IntKind.u64 a, Value.int IntKind.u64 b]) 1) w = Result.ok (Value.int IntKind.u64 b) w := by
  have hu := Try.underlying81
  go_simp
  rfl
attribute [local go_sem] fld_lo4a

/-! ### steepleref01_Of: function 74 -/
mutual
def steepleref01_Of.j0 : Nat → Int → List Int → Bool → Int → Int → Option (Bool)
 | 0, _, _, _, _, _ => none
 | k + 1, x0, x5, x13, x194000, x194001 => if x13 = true then (some false) else (if 0 ≤ x0 then (if x0 < (x5.length : Int) then (steepleref01_Of.l0 k (rd x5 x0) x194000 x194001) else (none)) else (none))
def steepleref01_Of.l0 : Nat → Int → Int → Int → Option (Bool)
 | 0, _, _, _ => none
 | k + 1, x6, x194000, x194001 => if x6 < 128 then ((steepleref01_bit.f x194000 x194001 x6).bind fun t198 => (if t198 = 1 then (some false) else (steepleref01_Of.l0 k (wrap64 (x6 + 1)) x194000 x194001))) else (some true)
end
def steepleref01_Of.f (k : Nat) (a0 : Int) (a1_0 : Int) (a1_1 : Int) : Option (Bool) := (some (([1, 2, 4, 8, 16, 32, 64, 128] : List Int) : List Int)).bind fun y194 => (if a0 < 0 then (steepleref01_Of.j0 k a0 y194 true a1_0 a1_1) else (steepleref01_Of.j0 k a0 y194 (decide (a0 > 7)) a1_0 a1_1))
theorem steepleref01_Of.mono_l : ∀ k, (∀ y0 y1 y2 y3 y4, LeO (steepleref01_Of.j0 k y0 y1 y2 y3 y4) (steepleref01_Of.j0 (k + 1) y0 y1 y2 y3 y4)) ∧ (∀ y0 y1 y2, LeO (steepleref01_Of.l0 k y0 y1 y2) (steepleref01_Of.l0 (k + 1) y0 y1 y2))
 | 0 => ⟨fun _ _ _ _ _ r h => by simp [steepleref01_Of.j0] at h, fun _ _ _ r h => by simp [steepleref01_Of.l0] at h⟩
 | k + 1 => by
  obtain ⟨ih0, ih1⟩ := steepleref01_Of.mono_l k
  refine ⟨?_, ?_⟩
  ·intro y0 y1 y2 y3 y4
   unfold steepleref01_Of.j0
   repeat' first
   | (with_reducible exact ih0 _ _ _ _ _)
   | (with_reducible exact ih1 _ _ _)
   | (with_reducible exact LeO.refl _)
   | (with_reducible exact LeO.none _)
   | (with_reducible refine LeO.ite ?_ ?_)
   | (with_reducible refine LeO.bind ?_ (fun _ => ?_))
   | exact ih0 _ _ _ _ _
   | exact ih1 _ _ _
   | exact LeO.none _
   | refine LeO.ite ?_ ?_
   | refine LeO.bind ?_ (fun _ => ?_)
  ·intro y0 y1 y2
   unfold steepleref01_Of.l0
   repeat' first
   | (with_reducible exact ih0 _ _ _ _ _)
   | (with_reducible exact ih1 _ _ _)
   | (with_reducible exact LeO.refl _)
   | (with_reducible exact LeO.none _)
   | (with_reducible refine LeO.ite ?_ ?_)
   | (with_reducible refine LeO.bind ?_ (fun _ => ?_))
   | exact ih0 _ _ _ _ _
   | exact ih1 _ _ _
   | exact LeO.none _
   | refine LeO.ite ?_ ?_
   | refine LeO.bind ?_ (fun _ => ?_)
theorem steepleref01_Of.mono : ∀ a0 a1 a2 k, LeO (steepleref01_Of.f k a0 a1 a2) (steepleref01_Of.f (k + 1) a0 a1 a2) := by
 intro a0 a1 a2 k
 obtain ⟨ih0, ih1⟩ := steepleref01_Of.mono_l k
 unfold steepleref01_Of.f
 repeat' first
   | (with_reducible exact ih0 _ _ _ _ _)
   | (with_reducible exact ih1 _ _ _)
   | (with_reducible exact LeO.refl _)
   | (with_reducible exact LeO.none _)
   | (with_reducible refine LeO.ite ?_ ?_)
   | (with_reducible refine LeO.bind ?_ (fun _ => ?_))
   | exact ih0 _ _ _ _ _
   | exact ih1 _ _ _
   | exact LeO.none _
   | refine LeO.ite ?_ ?_
   | refine LeO.bind ?_ (fun _ => ?_)
set_option maxHeartbeats 8000000 in
set_option maxRecDepth 100000 in
theorem steepleref01_Of.calls (k : Nat) (a0 : Int) (a1_0 : Int) (a1_1 : Int) (r : Bool) (w : World) (h : steepleref01_Of.f k a0 a1_0 a1_1 = some r) :
  Calls Try.prog 74 #[.int .i64 a0, .agg #[.int .u64 a1_0, .int .u64 a1_1]] w fun e w' => e = .returned (.bool r) ∧ Below w.heap.size w w' := by
 have hu88 := Try.underlying88
 have HB := Aside0.mk (Below.refl w.heap.size w)
 have H : ((some (([1, 2, 4, 8, 16, 32, 64, 128] : List Int) : List Int)).bind fun y194 => (if a0 < 0 then (steepleref01_Of.j0 k a0 y194 true a1_0 a1_1) else (steepleref01_Of.j0 k a0 y194 (decide (a0 > 7)) a1_0 a1_1))) = some r := h
 clear h
 obtain ⟨y194, hy194⟩ : ∃ y_ : List Int, y_ = (([1, 2, 4, 8, 16, 32, 64, 128] : List Int)) := ⟨_, rfl⟩
 replace H : (if a0 < 0 then (steepleref01_Of.j0 k a0 y194 true a1_0 a1_1) else (steepleref01_Of.j0 k a0 y194 (decide (a0 > 7)) a1_0 a1_1)) = some r := by first | (rw [hy194]; with_reducible exact H) | (have H2_ := (Option.bind_some _ _).symm.trans H; rw [hy194]; with_reducible exact H2_) | (have H2_ := (Option.bind_some _ _).symm.trans H; with_reducible exact H2_) | with_reducible exact H | (rw [hy194]; exact H) | exact H
 have Ny194 := Aside0.mk hy194
 clear hy194
 have HC3 := Aside0.mk H
 clear H
 go_enter Try.func74, Try.ntmps74
 go_upto_region 2 with (first | ((with_reducible refine gate_dst (N := 3) rfl ?_); refine box_event ?hg (N := 3) ?hd (cs := #[.int .u64 a1_0, .int .u64 a1_1]) (t := 88) ?hr ?_; (case hd => rfl); (case hg => rfl); (case hr => first | (go_simp; done) | (go_simp; rfl)); intro gb193 hg w4 hbox hb; have BK193 := Aside0.mk hbox; have GW193 := ge hg HB; have GE193 := ge hg HB; replace HB := bh HB hb; clear hb hbox hg) | ((with_reducible refine gate_dst (N := 7) rfl ?_); refine Kd.R_lit (Kd.int .i64) _ 3 ?hg (N := 7) ?hd (xs := ([1, 2, 4, 8, 16, 32, 64, 128] : List Int)) (inner := [.int .i64 1, .int .i64 2, .int .i64 4, .int .i64 8, .int .i64 16, .int .i64 32, .int .i64 64, .int .i64 128]) (ok := fun _ => True) (okp := fun _ => True) ?hr ?hp (fun _ hk => hk) trivial (Below.refl _ _) (Nat.le_refl _) (by simp) ?_; (case hd => rfl); (case hg => rfl); (case hr => first | (go_simp; done) | (go_simp; rfl)); (case hp => exact (Reps.one (show Kd.M (Kd.int .i64) _ _ _ 1 [.int .i64 1] from rfl) (Reps.one (show Kd.M (Kd.int .i64) _ _ _ 2 [.int .i64 2] from rfl) (Reps.one (show Kd.M (Kd.int .i64) _ _ _ 4 [.int .i64 4] from rfl) (Reps.one (show Kd.M (Kd.int .i64) _ _ _ 8 [.int .i64 8] from rfl) (Reps.one (show Kd.M (Kd.int .i64) _ _ _ 16 [.int .i64 16] from rfl) (Reps.one (show Kd.M (Kd.int .i64) _ _ _ 32 [.int .i64 32] from rfl) (Reps.one (show Kd.M (Kd.int .i64) _ _ _ 64 [.int .i64 64] from rfl) (Reps.one (show Kd.M (Kd.int .i64) _ _ _ 128 [.int .i64 128] from rfl) (Reps.none _ _)))))))))); intro v195 w5 ho6 hb hg_ hnew_; clear hg_ hnew_; (first | rw [← Ny194.out] at ho6 | (simp only [Int.reduceToNat] at ho6; rw [← Ny194.out] at ho6)); have HO196 := kw ho6 HB; replace BK193 := bb BK193 hb; replace HB := bh HB hb; clear hb ho6))
 (try simp only [Act.put, List.setIfInBounds_toArray, List.set_cons_zero, List.set_cons_succ])
 go_cut [13] (fun v13 wc => ∃ (kq : Nat) (x13_2 : Bool), v13 = .bool x13_2 ∧ Aside0 (steepleref01_Of.j0 kq a0 y194 x13_2 a1_0 a1_1 = some r) ∧ Aside0 (kq ≤ k) ∧ Aside0 (Kd.R (Kd.int .i64) 3 wc w.heap.size (fun _ => True) v195 y194) ∧ Aside0 (wc.heap[gb193]? = some (.cells #[.int .u64 a1_0, .int .u64 a1_1] 88 (0, 0))) ∧ Aside0 (Below w.heap.size w wc))
 case first =>
  have H := HC3.out
  clear HC3
  by_cases c7 : a0 < 0
  ·rw [if_pos c7] at H
   have c7b0 : decide (a0 < 0) = true := decide_eq_true c7
   clear c7
   (first | rw [c7b0] | (simp only [i64_w, i32_w]; rw [c7b0]) | skip)
   have H' := Aside0.mk H
   clear H
   go_wp2
   go_meet
   case rel => exact ⟨_, (true), (by first | rfl | (simp; done) | (simp [*]; done)), H', ⟨by first | omega | exact Nat.le_refl _⟩, ⟨kr HO196.out⟩, ⟨bk BK193.out⟩, ⟨bq HB.out⟩⟩
  ·rw [if_neg c7] at H
   have c7b0 : decide (a0 < 0) = false := decide_eq_false c7
   clear c7
   (first | rw [c7b0] | (simp only [i64_w, i32_w]; rw [c7b0]) | skip)
   have H' := Aside0.mk H
   clear H
   go_wp2
   go_meet
   case rel => exact ⟨_, (decide (a0 > 7)), (by first | rfl | (simp; done) | (simp [*]; done)), H', ⟨by first | omega | exact Nat.le_refl _⟩, ⟨kr HO196.out⟩, ⟨bk BK193.out⟩, ⟨bq HB.out⟩⟩
 case rest =>
  clear HC3
  try clear p2
  try clear c7
  try clear c7b0
  obtain ⟨kq, x13_2, rfl, HA, HJ2, HO_5, BK193, HB⟩ := hcut
  cases kq with
  | zero => exact absurd HA.out (by simp [steepleref01_Of.j0])
  | succ kj2 =>
   have H := HA.out
   clear HA
   simp only [steepleref01_Of.j0] at H
   by_cases c8 : x13_2 = true
   ·subst c8
    have H1 : (some false) = some r := by rw [if_pos rfl] at H; exact H
    clear H
    have H := H1
    clear H1
    obtain rfl := Option.some.inj H
    go_wp2
    go_ret
    exact ⟨by first | rfl | (simp [errW_none, errW_some] <;> rfl) | (simp [*, errW_none, errW_some] <;> rfl), bq HB.out⟩
   ·replace c8 := Bool.eq_false_iff.mpr c8
    subst c8
    have H1 : (if 0 ≤ a0 then (if a0 < (y194.length : Int) then (steepleref01_Of.l0 kj2 (rd y194 a0) a1_0 a1_1) else (none)) else (none)) = some r := by rw [if_neg (show ¬ (false = true) by decide)] at H; exact H
    clear H
    have H := H1
    clear H1
    by_cases c9 : 0 ≤ a0
    ·rw [if_pos c9] at H
     have c9b0 : decide (0 ≤ a0) = true := decide_eq_true c9
     clear c9
     by_cases c10 : a0 < (y194.length : Int)
     ·rw [if_pos c10] at H
      have c10b0 : decide (a0 < (y194.length : Int)) = true := decide_eq_true c10
      clear c10
      have H' := Aside0.mk H
      clear H
      obtain ⟨Ao11, co11, eo11⟩ := Kd.R_slice HO_5.out
      subst eo11
      have p197 : 0 ≤ (a0 : Int) := of_decide_eq_true (by first | (with_reducible assumption) | assumption)
      have q197 : a0 < (y194.length : Int) := of_decide_eq_true (by first | (with_reducible assumption) | assumption)
      (try (obtain ⟨Ap_, cp_, ep_⟩ := Kd.R_slice HO_5.out; subst ep_))
      obtain ⟨ad197, e197, hx197_0⟩ := Kd.at_int (Kd.R_reads' HO_5.out).2.2 a0 p197 q197
      cases e197
      replace p197 := eq_true p197
      replace q197 := eq_true q197
      go_wp2
      go_loopg [6] kj2 (fun kq v6 w' => ∃ (x6_2 : Int), v6 = .int .i64 x6_2 ∧ Aside0 (steepleref01_Of.l0 kq x6_2 a1_0 a1_1 = some r) ∧ Aside0 (kq ≤ kj2) ∧ Aside0 (w'.heap[gb193]? = some (.cells #[.int .u64 a1_0, .int .u64 a1_1] 88 (0, 0))) ∧ Aside0 (Below w.heap.size w w'))
      case atStart => exact ⟨(rd y194 a0), (by first | rfl | (simp; done) | (simp [*]; done)), H', ⟨Nat.le_refl _⟩, ⟨bk BK193.out⟩, ⟨bq HB.out⟩⟩
      case round =>
       clear H'
       try clear c1
       try clear p1
       try clear q1
       try clear hx1
       try clear p2
       try clear c7
       try clear c7b0
       try clear c8
       try clear c9
       try clear c9b0
       try clear c10
       try clear c10b0
       try clear hx197_0
       try clear p197
       try clear p2
       try clear q197
       obtain ⟨x6_2, rfl, HA, HK2, BK193, HB⟩ := hrel
       cases gk with
       | zero => exact absurd HA.out (by simp [steepleref01_Of.l0])
       | succ k2 =>
        have H := HA.out
        clear HA
        simp only [steepleref01_Of.l0] at H
        by_cases c12 : x6_2 < 128
        ·rw [if_pos c12] at H
         have c12b0 : decide (x6_2 < 128) = true := decide_eq_true c12
         clear c12
         replace H := Option.bind_eq_some_iff.mp H
         obtain ⟨t198, A130, H⟩ := H
         replace H : (if t198 = 1 then (some false) else (steepleref01_Of.l0 k2 (wrap64 (x6_2 + 1)) a1_0 a1_1)) = some r := H
         have A13 := Aside0.mk A130
         clear A130
         by_cases c14 : t198 = 1
         ·rw [if_pos c14] at H
          have c14b0 : (t198 == 1) = true := beq_iff_eq.mpr c14
          have c14b1 : (t198 != 1) = false := bne_eq_false_iff_eq.mpr c14
          clear c14
          obtain rfl := Option.some.inj H
          obtain ⟨hcz15_0, hcz15_1⟩ := zc2 BK193
          obtain ⟨hfz15_0, hfz15_1⟩ := zf2 BK193
          go_wp2_with (first | ((with_reducible refine gate_callee (f := 86) rfl ?_); refine goesL_ (some 24) rfl rfl Try.func86 (by kernel_rfl) rfl #[.agg #[.int .u64 a1_0, .int .u64 a1_1], .int .i64 x6_2] rfl (by (try simp only [List.map_toArray, List.map_cons, List.map_nil]); first | done | rfl | (simp only [List.length_drop, List.length_take]; rfl)) ?_; (with_reducible refine (steepleref01_bit.calls a1_0 a1_1 x6_2 t198 _ A13.out).mono ?_); rintro e w16 ⟨rfl, hb⟩; refine ⟨_, rfl, ?_⟩; replace BK193 := bb BK193 hb; replace HB := bh HB hb; (try clear hb); (try clear hb2); (try clear hk); (try clear hi)))
          go_ret
          exact ⟨by first | rfl | (simp [errW_none, errW_some] <;> rfl) | (simp [*, errW_none, errW_some] <;> rfl), bq HB.out⟩
         ·rw [if_neg c14] at H
          have c14b0 : (t198 == 1) = false := beq_eq_false_iff_ne.mpr c14
          have c14b1 : (t198 != 1) = true := bne_iff_ne.mpr c14
          have H' := Aside0.mk H
          clear H
          obtain ⟨hcz17_0, hcz17_1⟩ := zc2 BK193
          obtain ⟨hfz17_0, hfz17_1⟩ := zf2 BK193
          go_wp2_with (first | ((with_reducible refine gate_callee (f := 86) rfl ?_); refine goesL_ (some 24) rfl rfl Try.func86 (by kernel_rfl) rfl #[.agg #[.int .u64 a1_0, .int .u64 a1_1], .int .i64 x6_2] rfl (by (try simp only [List.map_toArray, List.map_cons, List.map_nil]); first | done | rfl | (simp only [List.length_drop, List.length_take]; rfl)) ?_; (with_reducible refine (steepleref01_bit.calls a1_0 a1_1 x6_2 t198 _ A13.out).mono ?_); rintro e w18 ⟨rfl, hb⟩; refine ⟨_, rfl, ?_⟩; replace BK193 := bb BK193 hb; replace HB := bh HB hb; (try clear hb); (try clear hb2); (try clear hk); (try clear hi)))
          go_roundg k2
          case measure => have := HJ2.out; have := HK2.out; omega
          case rel => exact ⟨(wrap64 (x6_2 + 1)), (by first | rfl | (simp; done) | (simp [*]; done)), H', ⟨by have := HJ2.out; have := HK2.out; omega⟩, ⟨bk BK193.out⟩, ⟨bq HB.out⟩⟩
        ·rw [if_neg c12] at H
         have c12b0 : decide (x6_2 < 128) = false := decide_eq_false c12
         clear c12
         obtain rfl := Option.some.inj H
         go_wp2
         go_ret
         exact ⟨by first | rfl | (simp [errW_none, errW_some] <;> rfl) | (simp [*, errW_none, errW_some] <;> rfl), bq HB.out⟩
     ·rw [if_neg c10] at H
      exact absurd H (by simp)
    ·rw [if_neg c9] at H
     exact absurd H (by simp)

/-! ### steepleref02_Inv: function 54 -/
def steepleref02_Inv.l0 : Nat → Int → List Int → Int → Int → Int → Int → Int → Option (Int × Int)
 | 0, _, _, _, _, _, _, _ => none
 | k + 1, x0, x5, x8, x206000, x206001, x207000, x207001 => if 0 ≤ x0 then (if x0 < (x5.length : Int) then (if x8 < (rd x5 x0) then ((steepleref02_Product.f k x207000 x207001 x207000 x207001).bind fun bt208 => ((steepleref02_Product.f k x206000 x206001 bt208.1 bt208.2).bind fun bt210 => (steepleref02_Inv.l0 k x0 x5 (wrap64 (x8 + 1)) bt210.1 bt210.2 bt208.1 bt208.2))) else (some (x206000, x206001))) else (none)) else (none)
def steepleref02_Inv.f (k : Nat) (a0 : Int) (a1_0 : Int) (a1_1 : Int) : Option (Int × Int) := (steepleref01_Of.f k a0 a1_0 a1_1).bind fun t201 => (if t201 = true then (if a0 = 0 then (some (a1_0, a1_1)) else (steepleref02_Inv.l0 k a0 (([1, 2, 4, 8, 16, 32, 64, 128] : List Int)) 1 0 1 a1_0 a1_1)) else (some (0, 0)))
theorem steepleref02_Inv.mono_l : ∀ k, (∀ y0 y1 y2 y3 y4 y5 y6, LeO (steepleref02_Inv.l0 k y0 y1 y2 y3 y4 y5 y6) (steepleref02_Inv.l0 (k + 1) y0 y1 y2 y3 y4 y5 y6))
 | 0 => fun _ _ _ _ _ _ _ r h => by simp [steepleref02_Inv.l0] at h
 | k + 1 => by
  have ih0 := steepleref02_Inv.mono_l k
  ·intro y0 y1 y2 y3 y4 y5 y6
   unfold steepleref02_Inv.l0
   repeat' first
   | (with_reducible exact ih0 _ _ _ _ _ _ _)
   | (with_reducible exact steepleref01_Of.mono _ _ _ _)
   | (with_reducible exact steepleref02_Product.mono _ _ _ _ _)
   | (with_reducible exact LeO.refl _)
   | (with_reducible exact LeO.none _)
   | (with_reducible refine LeO.ite ?_ ?_)
   | (with_reducible refine LeO.bind ?_ (fun _ => ?_))
   | exact ih0 _ _ _ _ _ _ _
   | exact steepleref01_Of.mono _ _ _ _
   | exact steepleref02_Product.mono _ _ _ _ _
   | exact LeO.none _
   | refine LeO.ite ?_ ?_
   | refine LeO.bind ?_ (fun _ => ?_)
theorem steepleref02_Inv.mono : ∀ a0 a1 a2 k, LeO (steepleref02_Inv.f k a0 a1 a2) (steepleref02_Inv.f (k + 1) a0 a1 a2) := by
 intro a0 a1 a2 k
 have ih0 := steepleref02_Inv.mono_l k
 unfold steepleref02_Inv.f
 repeat' first
   | (with_reducible exact ih0 _ _ _ _ _ _ _)
   | (with_reducible exact steepleref01_Of.mono _ _ _ _)
   | (with_reducible exact steepleref02_Product.mono _ _ _ _ _)
   | (with_reducible exact LeO.refl _)
   | (with_reducible exact LeO.none _)
   | (with_reducible refine LeO.ite ?_ ?_)
   | (with_reducible refine LeO.bind ?_ (fun _ => ?_))
   | exact ih0 _ _ _ _ _ _ _
   | exact steepleref01_Of.mono _ _ _ _
   | exact steepleref02_Product.mono _ _ _ _ _
   | exact LeO.none _
   | refine LeO.ite ?_ ?_
   | refine LeO.bind ?_ (fun _ => ?_)
set_option maxHeartbeats 8000000 in
set_option maxRecDepth 100000 in
theorem steepleref02_Inv.calls (k : Nat) (a0 : Int) (a1_0 : Int) (a1_1 : Int) (r1 : Int) (r2 : Int) (w : World) (h : steepleref02_Inv.f k a0 a1_0 a1_1 = some (r1, r2)) :
  Calls Try.prog 54 #[.int .i64 a0, .agg #[.int .u64 a1_0, .int .u64 a1_1]] w fun e w' => e = .returned (.agg #[.int .u64 r1, .int .u64 r2]) ∧ Below w.heap.size w w' := by
 have hu88 := Try.underlying88
 have HB := Aside0.mk (Below.refl w.heap.size w)
 have H : ((steepleref01_Of.f k a0 a1_0 a1_1).bind fun t201 => (if t201 = true then (if a0 = 0 then (some (a1_0, a1_1)) else (steepleref02_Inv.l0 k a0 (([1, 2, 4, 8, 16, 32, 64, 128] : List Int)) 1 0 1 a1_0 a1_1)) else (some (0, 0)))) = some (r1, r2) := h
 clear h
 replace H := Option.bind_eq_some_iff.mp H
 obtain ⟨t201, A30, H⟩ := H
 replace H : (if t201 = true then (if a0 = 0 then (some (a1_0, a1_1)) else (steepleref02_Inv.l0 k a0 (([1, 2, 4, 8, 16, 32, 64, 128] : List Int)) 1 0 1 a1_0 a1_1)) else (some (0, 0))) = some (r1, r2) := H
 have A3 := Aside0.mk A30
 clear A30
 by_cases c4 : t201 = true
 ·subst c4
  have H1 : (if a0 = 0 then (some (a1_0, a1_1)) else (steepleref02_Inv.l0 k a0 (([1, 2, 4, 8, 16, 32, 64, 128] : List Int)) 1 0 1 a1_0 a1_1)) = some (r1, r2) := by rw [if_pos rfl] at H; exact H
  clear H
  have H := H1
  clear H1
  obtain ⟨y202, hy202⟩ : ∃ y_ : List Int, y_ = (([1, 2, 4, 8, 16, 32, 64, 128] : List Int)) := ⟨_, rfl⟩
  replace H : (if a0 = 0 then (some (a1_0, a1_1)) else (steepleref02_Inv.l0 k a0 y202 1 0 1 a1_0 a1_1)) = some (r1, r2) := by first | (rw [hy202]; with_reducible exact H) | (have H2_ := (Option.bind_some _ _).symm.trans H; rw [hy202]; with_reducible exact H2_) | (have H2_ := (Option.bind_some _ _).symm.trans H; with_reducible exact H2_) | with_reducible exact H | (rw [hy202]; exact H) | exact H
  have Ny202 := Aside0.mk hy202
  clear hy202
  by_cases c5 : a0 = 0
  ·rw [if_pos c5] at H
   have c5b0 : (a0 == 0) = true := beq_iff_eq.mpr c5
   have c5b1 : (a0 != 0) = false := bne_eq_false_iff_eq.mpr c5
   clear c5
   simp only [Option.some.injEq, Prod.mk.injEq] at H
   obtain ⟨rfl, rfl⟩ := H
   go_enter Try.func54, Try.ntmps54
   go_wp2_with (first | ((with_reducible refine gate_dst (N := 3) rfl ?_); refine box_event ?hg (N := 3) ?hd (cs := #[.int .u64 a1_0, .int .u64 a1_1]) (t := 88) ?hr ?_; (case hd => rfl); (case hg => rfl); (case hr => first | (go_simp; done) | (go_simp; rfl)); intro gb199 hg w6 hbox hb; have BK199 := Aside0.mk hbox; have GW199 := ge hg HB; have GE199 := ge hg HB; replace HB := bh HB hb; clear hb hbox hg) | ((with_reducible refine gate_dst (N := 4) rfl ?_); refine box_event ?hg (N := 4) ?hd (cs := #[.int .u64 0, .int .u64 0]) (t := 88) ?hr ?_; (case hd => rfl); (case hg => rfl); (case hr => first | (go_simp; done) | (go_simp; rfl)); intro gb200 hg w7 hbox hb; have BK200 := Aside0.mk hbox; have GW200 := ge hg HB; have GE200 := ge hg HB; have NB199_200 := nl hg BK199; have NB200_199 := ng hg BK199; replace BK199 := bb BK199 hb; replace HB := bh HB hb; clear hb hbox hg; have hnb8 := NB199_200.out; have hnc8 := NB200_199.out; obtain ⟨hcz9_0, hcz9_1⟩ := zc2 BK199; obtain ⟨hfz9_0, hfz9_1⟩ := zf2 BK199) | ((with_reducible refine gate_callee (f := 74) rfl ?_); refine goesL_ (some 11) rfl rfl Try.func74 (by kernel_rfl) rfl #[.int .i64 a0, .agg #[.int .u64 a1_0, .int .u64 a1_1]] rfl (by (try simp only [List.map_toArray, List.map_cons, List.map_nil]); first | done | rfl | (simp only [List.length_drop, List.length_take]; rfl)) ?_; (with_reducible refine (steepleref01_Of.calls k a0 a1_0 a1_1 true _ A3.out).mono ?_); rintro e w10 ⟨rfl, hb⟩; refine ⟨_, rfl, ?_⟩; replace BK199 := bb BK199 hb; replace BK200 := bb BK200 hb; replace HB := bh HB hb; (try clear hb); (try clear hb2); (try clear hk); (try clear hi)) | ((with_reducible refine gate_dst (N := 14) rfl ?_); refine Kd.R_lit (Kd.int .i64) _ 3 ?hg (N := 14) ?hd (xs := ([1, 2, 4, 8, 16, 32, 64, 128] : List Int)) (inner := [.int .i64 1, .int .i64 2, .int .i64 4, .int .i64 8, .int .i64 16, .int .i64 32, .int .i64 64, .int .i64 128]) (ok := fun _ => True) (okp := fun _ => True) ?hr ?hp (fun _ hk => hk) trivial (Below.refl _ _) (Nat.le_refl _) (by simp) ?_; (case hd => rfl); (case hg => rfl); (case hr => first | (go_simp; done) | (go_simp; rfl)); (case hp => exact (Reps.one (show Kd.M (Kd.int .i64) _ _ _ 1 [.int .i64 1] from rfl) (Reps.one (show Kd.M (Kd.int .i64) _ _ _ 2 [.int .i64 2] from rfl) (Reps.one (show Kd.M (Kd.int .i64) _ _ _ 4 [.int .i64 4] from rfl) (Reps.one (show Kd.M (Kd.int .i64) _ _ _ 8 [.int .i64 8] from rfl) (Reps.one (show Kd.M (Kd.int .i64) _ _ _ 16 [.int .i64 16] from rfl) (Reps.one (show Kd.M (Kd.int .i64) _ _ _ 32 [.int .i64 32] from rfl) (Reps.one (show Kd.M (Kd.int .i64) _ _ _ 64 [.int .i64 64] from rfl) (Reps.one (show Kd.M (Kd.int .i64) _ _ _ 128 [.int .i64 128] from rfl) (Reps.none _ _)))))))))); intro v203 w11 ho12 hb hg_ hnew_; clear hg_ hnew_; (first | rw [← Ny202.out] at ho12 | (simp only [Int.reduceToNat] at ho12; rw [← Ny202.out] at ho12)); have HO204 := kw ho12 HB; replace BK199 := bb BK199 hb; replace BK200 := bb BK200 hb; replace HB := bh HB hb; clear hb ho12; obtain ⟨hcz13_0, hcz13_1⟩ := zc2 BK199; obtain ⟨hfz13_0, hfz13_1⟩ := zf2 BK199; obtain ⟨hcz14_0, hcz14_1⟩ := zc2 BK200; obtain ⟨hfz14_0, hfz14_1⟩ := zf2 BK200))
   refine bodyPost_ret (results_cell_row rfl _ _ gb200 88 #[.int .u64 a1_0, .int .u64 a1_1] (0, 0) _ rfl (by (with_reducible repeat refine bl ?_); refine blk_put (cs := #[.int .u64 a1_0, .int .u64 0]) ?_ 1 _ rfl; (with_reducible repeat refine bl ?_); refine blk_put (cs := #[.int .u64 0, .int .u64 0]) ?_ 0 _ rfl; (with_reducible repeat refine bl ?_); exact BK200.out) Try.underlying88 rfl (by kernel_rfl)) rfl ?_
   exact ⟨by first | rfl | (simp [errW_none, errW_some] <;> rfl) | (simp [*, errW_none, errW_some] <;> rfl), bq HB.out⟩
  ·rw [if_neg c5] at H
   have c5b0 : (a0 == 0) = false := beq_eq_false_iff_ne.mpr c5
   have c5b1 : (a0 != 0) = true := bne_iff_ne.mpr c5
   have H' := Aside0.mk H
   clear H
   go_enter Try.func54, Try.ntmps54
   go_wp2_with (first | ((with_reducible refine gate_dst (N := 3) rfl ?_); refine box_event ?hg (N := 3) ?hd (cs := #[.int .u64 a1_0, .int .u64 a1_1]) (t := 88) ?hr ?_; (case hd => rfl); (case hg => rfl); (case hr => first | (go_simp; done) | (go_simp; rfl)); intro gb199 hg w15 hbox hb; have BK199 := Aside0.mk hbox; have GW199 := ge hg HB; have GE199 := ge hg HB; replace HB := bh HB hb; clear hb hbox hg) | ((with_reducible refine gate_dst (N := 4) rfl ?_); refine box_event ?hg (N := 4) ?hd (cs := #[.int .u64 0, .int .u64 0]) (t := 88) ?hr ?_; (case hd => rfl); (case hg => rfl); (case hr => first | (go_simp; done) | (go_simp; rfl)); intro gb200 hg w16 hbox hb; have BK200 := Aside0.mk hbox; have GW200 := ge hg HB; have GE200 := ge hg HB; have NB199_200 := nl hg BK199; have NB200_199 := ng hg BK199; replace BK199 := bb BK199 hb; replace HB := bh HB hb; clear hb hbox hg; have hnb17 := NB199_200.out; have hnc17 := NB200_199.out; obtain ⟨hcz18_0, hcz18_1⟩ := zc2 BK199; obtain ⟨hfz18_0, hfz18_1⟩ := zf2 BK199) | ((with_reducible refine gate_callee (f := 74) rfl ?_); refine goesL_ (some 11) rfl rfl Try.func74 (by kernel_rfl) rfl #[.int .i64 a0, .agg #[.int .u64 a1_0, .int .u64 a1_1]] rfl (by (try simp only [List.map_toArray, List.map_cons, List.map_nil]); first | done | rfl | (simp only [List.length_drop, List.length_take]; rfl)) ?_; (with_reducible refine (steepleref01_Of.calls k a0 a1_0 a1_1 true _ A3.out).mono ?_); rintro e w19 ⟨rfl, hb⟩; refine ⟨_, rfl, ?_⟩; replace BK199 := bb BK199 hb; replace BK200 := bb BK200 hb; replace HB := bh HB hb; (try clear hb); (try clear hb2); (try clear hk); (try clear hi)) | ((with_reducible refine gate_dst (N := 14) rfl ?_); refine Kd.R_lit (Kd.int .i64) _ 3 ?hg (N := 14) ?hd (xs := ([1, 2, 4, 8, 16, 32, 64, 128] : List Int)) (inner := [.int .i64 1, .int .i64 2, .int .i64 4, .int .i64 8, .int .i64 16, .int .i64 32, .int .i64 64, .int .i64 128]) (ok := fun _ => True) (okp := fun _ => True) ?hr ?hp (fun _ hk => hk) trivial (Below.refl _ _) (Nat.le_refl _) (by simp) ?_; (case hd => rfl); (case hg => rfl); (case hr => first | (go_simp; done) | (go_simp; rfl)); (case hp => exact (Reps.one (show Kd.M (Kd.int .i64) _ _ _ 1 [.int .i64 1] from rfl) (Reps.one (show Kd.M (Kd.int .i64) _ _ _ 2 [.int .i64 2] from rfl) (Reps.one (show Kd.M (Kd.int .i64) _ _ _ 4 [.int .i64 4] from rfl) (Reps.one (show Kd.M (Kd.int .i64) _ _ _ 8 [.int .i64 8] from rfl) (Reps.one (show Kd.M (Kd.int .i64) _ _ _ 16 [.int .i64 16] from rfl) (Reps.one (show Kd.M (Kd.int .i64) _ _ _ 32 [.int .i64 32] from rfl) (Reps.one (show Kd.M (Kd.int .i64) _ _ _ 64 [.int .i64 64] from rfl) (Reps.one (show Kd.M (Kd.int .i64) _ _ _ 128 [.int .i64 128] from rfl) (Reps.none _ _)))))))))); intro v203 w20 ho21 hb hg_ hnew_; clear hg_ hnew_; (first | rw [← Ny202.out] at ho21 | (simp only [Int.reduceToNat] at ho21; rw [← Ny202.out] at ho21)); have HO204 := kw ho21 HB; replace BK199 := bb BK199 hb; replace BK200 := bb BK200 hb; replace HB := bh HB hb; clear hb ho21) | ((with_reducible refine gate_dst (N := 6) rfl ?_); refine box_event ?hg (N := 6) ?hd (cs := #[.int .u64 0, .int .u64 0]) (t := 88) ?hr ?_; (case hd => rfl); (case hg => rfl); (case hr => first | (go_simp; done) | (go_simp; rfl)); intro gb205 hg w22 hbox hb; have BK205 := Aside0.mk hbox; have GW205 := ge hg HB; have GE205 := ge hg HB; have NB199_205 := nl hg BK199; have NB205_199 := ng hg BK199; have NB200_205 := nl hg BK200; have NB205_200 := ng hg BK200; replace HO204 := kb HO204 hb; replace BK199 := bb BK199 hb; replace BK200 := bb BK200 hb; replace HB := bh HB hb; clear hb hbox hg; have hnb23 := NB205_199.out; have hnc23 := NB199_205.out; have hnb24 := NB205_200.out; have hnc24 := NB200_205.out; obtain ⟨hcz25_0, hcz25_1⟩ := zc2 BK205; obtain ⟨hfz25_0, hfz25_1⟩ := zf2 BK205; obtain ⟨hcz26_0, hcz26_1⟩ := zc2 BK199; obtain ⟨hfz26_0, hfz26_1⟩ := zf2 BK199) | ((with_reducible refine gate_dst (N := 7) rfl ?_); refine box_event ?hg (N := 7) ?hd (cs := #[.int .u64 0, .int .u64 0]) (t := 88) ?hr ?_; (case hd => rfl); (case hg => rfl); (case hr => first | (go_simp; done) | (go_simp; rfl)); intro gb206 hg w27 hbox hb; have BK206 := Aside0.mk hbox; have GW206 := ge hg HB; have GE206 := ge hg HB; have NB199_206 := Aside0.mk ((by rw [hg]; exact Nat.ne_of_lt (blk_lt (g := gb199) (o := .cells #[.int .u64 a1_0, .int .u64 a1_1] 88 (0, 0)) (by (with_reducible repeat refine bl ?_); refine blk_far ?_ NB199_205.out _; (with_reducible repeat refine bl ?_); refine blk_far ?_ NB199_205.out _; (with_reducible repeat refine bl ?_); exact BK199.out)) : gb199 ≠ gb206)); have NB206_199 := Aside0.mk ((by rw [hg]; exact Nat.ne_of_gt (blk_lt (g := gb199) (o := .cells #[.int .u64 a1_0, .int .u64 a1_1] 88 (0, 0)) (by (with_reducible repeat refine bl ?_); refine blk_far ?_ NB199_205.out _; (with_reducible repeat refine bl ?_); refine blk_far ?_ NB199_205.out _; (with_reducible repeat refine bl ?_); exact BK199.out)) : gb206 ≠ gb199)); have NB200_206 := Aside0.mk ((by rw [hg]; exact Nat.ne_of_lt (blk_lt (g := gb200) (o := .cells #[.int .u64 0, .int .u64 0] 88 (0, 0)) (by (with_reducible repeat refine bl ?_); refine blk_far ?_ NB200_205.out _; (with_reducible repeat refine bl ?_); refine blk_far ?_ NB200_205.out _; (with_reducible repeat refine bl ?_); exact BK200.out)) : gb200 ≠ gb206)); have NB206_200 := Aside0.mk ((by rw [hg]; exact Nat.ne_of_gt (blk_lt (g := gb200) (o := .cells #[.int .u64 0, .int .u64 0] 88 (0, 0)) (by (with_reducible repeat refine bl ?_); refine blk_far ?_ NB200_205.out _; (with_reducible repeat refine bl ?_); refine blk_far ?_ NB200_205.out _; (with_reducible repeat refine bl ?_); exact BK200.out)) : gb206 ≠ gb200)); have NB205_206 := Aside0.mk ((by rw [hg]; exact Nat.ne_of_lt (blk_lt (g := gb205) (o := .cells #[.int .u64 0, .int .u64 1] 88 (0, 0)) (by (with_reducible repeat refine bl ?_); refine blk_put (cs := #[.int .u64 0, .int .u64 0]) ?_ 1 _ rfl; (with_reducible repeat refine bl ?_); refine blk_put (cs := #[.int .u64 0, .int .u64 0]) ?_ 0 _ rfl; (with_reducible repeat refine bl ?_); exact BK205.out)) : gb205 ≠ gb206)); have NB206_205 := Aside0.mk ((by rw [hg]; exact Nat.ne_of_gt (blk_lt (g := gb205) (o := .cells #[.int .u64 0, .int .u64 1] 88 (0, 0)) (by (with_reducible repeat refine bl ?_); refine blk_put (cs := #[.int .u64 0, .int .u64 0]) ?_ 1 _ rfl; (with_reducible repeat refine bl ?_); refine blk_put (cs := #[.int .u64 0, .int .u64 0]) ?_ 0 _ rfl; (with_reducible repeat refine bl ?_); exact BK205.out)) : gb206 ≠ gb205)); replace HO204 := Aside0.mk (Kd.R_below (by (with_reducible repeat refine kl ?_); exact (Kd.R_mono (Kd.R_far (p := ⟨gb205, 1, none⟩) (Kd.R_far (p := ⟨gb205, 0, none⟩) (Kd.R_types HO204.out BK205.out (by decide)) (fun _ hk => hk.2) (.int .u64 0)) (fun _ hk => hk.2) (.int .u64 1)) (fun _ h_ => h_.1))) hb); replace BK199 := Aside0.mk (blk_below (g := gb199) (o := .cells #[.int .u64 a1_0, .int .u64 a1_1] 88 (0, 0)) (by (with_reducible repeat refine bl ?_); refine blk_far ?_ NB199_205.out _; (with_reducible repeat refine bl ?_); refine blk_far ?_ NB199_205.out _; (with_reducible repeat refine bl ?_); exact BK199.out) hb); replace BK200 := Aside0.mk (blk_below (g := gb200) (o := .cells #[.int .u64 0, .int .u64 0] 88 (0, 0)) (by (with_reducible repeat refine bl ?_); refine blk_far ?_ NB200_205.out _; (with_reducible repeat refine bl ?_); refine blk_far ?_ NB200_205.out _; (with_reducible repeat refine bl ?_); exact BK200.out) hb); replace BK205 := Aside0.mk (blk_below (g := gb205) (o := .cells #[.int .u64 0, .int .u64 1] 88 (0, 0)) (by (with_reducible repeat refine bl ?_); refine blk_put (cs := #[.int .u64 0, .int .u64 0]) ?_ 1 _ rfl; (with_reducible repeat refine bl ?_); refine blk_put (cs := #[.int .u64 0, .int .u64 0]) ?_ 0 _ rfl; (with_reducible repeat refine bl ?_); exact BK205.out) hb); replace HB := bh HB hb; clear hb hbox hg; have hnb28 := NB206_199.out; have hnc28 := NB199_206.out; have hnb29 := NB206_200.out; have hnc29 := NB200_206.out; have hnb30 := NB206_205.out; have hnc30 := NB205_206.out; obtain ⟨hcz31_0, hcz31_1⟩ := zc2 BK206; obtain ⟨hfz31_0, hfz31_1⟩ := zf2 BK206))
   go_loopg [8] k (fun kq v8 w' => ∃ (x8_1 : Int) (x206000_1 : Int) (x206001_1 : Int) (x207000_1 : Int) (x207001_1 : Int), v8 = .int .i64 x8_1 ∧ Aside0 (steepleref02_Inv.l0 kq a0 y202 x8_1 x206000_1 x206001_1 x207000_1 x207001_1 = some (r1, r2)) ∧ Aside0 (kq ≤ k) ∧ Aside0 (Kd.R (Kd.int .i64) 3 w' w.heap.size (fun _ => True) v203 y202) ∧ Aside0 (w'.heap[gb199]? = some (.cells #[.int .u64 a1_0, .int .u64 a1_1] 88 (0, 0))) ∧ Aside0 (w'.heap[gb200]? = some (.cells #[.int .u64 0, .int .u64 0] 88 (0, 0))) ∧ Aside0 (w'.heap[gb205]? = some (.cells #[.int .u64 x206000_1, .int .u64 x206001_1] 88 (0, 0))) ∧ Aside0 (w'.heap[gb206]? = some (.cells #[.int .u64 x207000_1, .int .u64 x207001_1] 88 (0, 0))) ∧ Aside0 (Below w.heap.size w w'))
   case atStart => exact ⟨(1), (0), (1), (a1_0), (a1_1), (by first | rfl | (simp; done) | (simp [*]; done)), H', ⟨Nat.le_refl _⟩, ⟨by (with_reducible repeat refine kl ?_); exact Kd.R_mono (Kd.R_far (p := ⟨gb206, 1, none⟩) (Kd.R_far (p := ⟨gb206, 0, none⟩) (Kd.R_types HO204.out BK206.out (by decide)) (fun _ hk => hk.2) (.int .u64 a1_0)) (fun _ hk => hk.2) (.int .u64 a1_1)) (fun _ hk => trivial)⟩, ⟨by (with_reducible repeat refine bl ?_); refine blk_far ?_ NB199_206.out _; (with_reducible repeat refine bl ?_); refine blk_far ?_ NB199_206.out _; (with_reducible repeat refine bl ?_); exact BK199.out⟩, ⟨by (with_reducible repeat refine bl ?_); refine blk_far ?_ NB200_206.out _; (with_reducible repeat refine bl ?_); refine blk_far ?_ NB200_206.out _; (with_reducible repeat refine bl ?_); exact BK200.out⟩, ⟨by (with_reducible repeat refine bl ?_); refine blk_far ?_ NB205_206.out _; (with_reducible repeat refine bl ?_); refine blk_far ?_ NB205_206.out _; (with_reducible repeat refine bl ?_); exact BK205.out⟩, ⟨by (with_reducible repeat refine bl ?_); refine blk_put (cs := #[.int .u64 a1_0, .int .u64 0]) ?_ 1 _ rfl; (with_reducible repeat refine bl ?_); refine blk_put (cs := #[.int .u64 0, .int .u64 0]) ?_ 0 _ rfl; (with_reducible repeat refine bl ?_); exact BK206.out⟩, ⟨bq HB.out⟩⟩
   case round =>
    clear H'
    try clear c1
    try clear c2
    try clear p2
    try clear c3
    try clear c4
    try clear c5
    try clear c5b0
    try clear c5b1
    try clear c7
    try clear c8
    try clear c17
    try clear c23
    try clear c24
    try clear c28
    try clear c29
    try clear c30
    try clear hcz13_0
    try clear hcz13_1
    try clear hcz14_0
    try clear hcz14_1
    try clear hcz18_0
    try clear hcz18_1
    try clear hcz25_0
    try clear hcz25_1
    try clear hcz26_0
    try clear hcz26_1
    try clear hcz31_0
    try clear hcz31_1
    try clear hcz9_0
    try clear hcz9_1
    try clear hfz13_0
    try clear hfz13_1
    try clear hfz14_0
    try clear hfz14_1
    try clear hfz18_0
    try clear hfz18_1
    try clear hfz25_0
    try clear hfz25_1
    try clear hfz26_0
    try clear hfz26_1
    try clear hfz31_0
    try clear hfz31_1
    try clear hfz9_0
    try clear hfz9_1
    obtain ⟨x8_1, x206000_1, x206001_1, x207000_1, x207001_1, rfl, HA, HK1, HO_5, BK199, BK200, BK205, BK206, HB⟩ := hrel
    cases gk with
    | zero => exact absurd HA.out (by simp [steepleref02_Inv.l0])
    | succ k1 =>
     have H := HA.out
     clear HA
     simp only [steepleref02_Inv.l0] at H
     by_cases c32 : 0 ≤ a0
     ·rw [if_pos c32] at H
      have c32b0 : decide (0 ≤ a0) = true := decide_eq_true c32
      clear c32
      by_cases c33 : a0 < (y202.length : Int)
      ·rw [if_pos c33] at H
       have c33b0 : decide (a0 < (y202.length : Int)) = true := decide_eq_true c33
       clear c33
       by_cases c34 : x8_1 < (rd y202 a0)
       ·rw [if_pos c34] at H
        have c34b0 : decide (x8_1 < (rd y202 a0)) = true := decide_eq_true c34
        clear c34
        replace H := Option.bind_eq_some_iff.mp H
        obtain ⟨⟨t208, t209⟩, A350, H⟩ := H
        replace H : ((steepleref02_Product.f k1 x206000_1 x206001_1 t208 t209).bind fun bt210 => (steepleref02_Inv.l0 k1 a0 y202 (wrap64 (x8_1 + 1)) bt210.1 bt210.2 t208 t209)) = some (r1, r2) := H
        have A35 := Aside0.mk A350
        clear A350
        replace H := Option.bind_eq_some_iff.mp H
        obtain ⟨⟨t210, t211⟩, A360, H⟩ := H
        replace H : (steepleref02_Inv.l0 k1 a0 y202 (wrap64 (x8_1 + 1)) t210 t211 t208 t209) = some (r1, r2) := H
        have A36 := Aside0.mk A360
        clear A360
        have H' := Aside0.mk H
        clear H
        obtain ⟨Ao37, co37, eo37⟩ := Kd.R_slice HO_5.out
        subst eo37
        have p207 : 0 ≤ (a0 : Int) := of_decide_eq_true (by first | (with_reducible assumption) | assumption)
        have q207 : a0 < (y202.length : Int) := of_decide_eq_true (by first | (with_reducible assumption) | assumption)
        (try (obtain ⟨Ap_, cp_, ep_⟩ := Kd.R_slice HO_5.out; subst ep_))
        obtain ⟨ad207, e207, hx207_0⟩ := Kd.at_int (Kd.R_reads' HO_5.out).2.2 a0 p207 q207
        cases e207
        replace p207 := eq_true p207
        replace q207 := eq_true q207
        have hnb38 := NB206_199.out
        have hnc38 := NB199_206.out
        have hnb39 := NB206_200.out
        have hnc39 := NB200_206.out
        have hnb40 := NB206_205.out
        have hnc40 := NB205_206.out
        obtain ⟨hcz41_0, hcz41_1⟩ := zc2 BK206
        obtain ⟨hfz41_0, hfz41_1⟩ := zf2 BK206
        go_wp2_with (first | ((with_reducible refine gate_callee (f := 56) rfl ?_); refine goesL_ (some 30) rfl rfl Try.func56 (by kernel_rfl) rfl #[.agg #[.int .u64 x207000_1, .int .u64 x207001_1], .agg #[.int .u64 x207000_1, .int .u64 x207001_1]] rfl (by (try simp only [List.map_toArray, List.map_cons, List.map_nil]); first | done | rfl | (simp only [List.length_drop, List.length_take]; rfl)) ?_; (with_reducible refine (steepleref02_Product.calls k1 x207000_1 x207001_1 x207000_1 x207001_1 t208 t209 _ A35.out).mono ?_); rintro e w42 ⟨rfl, hb⟩; refine ⟨_, rfl, ?_⟩; replace HO_5 := kb HO_5 hb; replace BK199 := bb BK199 hb; replace BK200 := bb BK200 hb; replace BK205 := bb BK205 hb; replace BK206 := bb BK206 hb; replace HB := bh HB hb; (try clear hb); (try clear hb2); (try clear hk); (try clear hi); obtain ⟨hcz43_0, hcz43_1⟩ := zc2 BK206; obtain ⟨hfz43_0, hfz43_1⟩ := zf2 BK206; have hnb44 := NB205_199.out; have hnc44 := NB199_205.out; have hnb45 := NB205_200.out; have hnc45 := NB200_205.out; obtain ⟨hcz46_0, hcz46_1⟩ := zc2 BK205; obtain ⟨hfz46_0, hfz46_1⟩ := zf2 BK205) | ((with_reducible refine gate_callee (f := 56) rfl ?_); refine goesL_ (some 33) rfl rfl Try.func56 (by kernel_rfl) rfl #[.agg #[.int .u64 x206000_1, .int .u64 x206001_1], .agg #[.int .u64 t208, .int .u64 t209]] rfl (by (try simp only [List.map_toArray, List.map_cons, List.map_nil]); first | done | rfl | (simp only [List.length_drop, List.length_take]; rfl)) ?_; (with_reducible refine (steepleref02_Product.calls k1 x206000_1 x206001_1 t208 t209 t210 t211 _ A36.out).mono ?_); rintro e w47 ⟨rfl, hb⟩; refine ⟨_, rfl, ?_⟩; replace HO_5 := Aside0.mk (Kd.R_below (by (with_reducible repeat refine kl ?_); exact (Kd.R_mono (Kd.R_far (p := ⟨gb206, 1, none⟩) (Kd.R_far (p := ⟨gb206, 0, none⟩) (Kd.R_types HO_5.out BK206.out (by decide)) (fun _ hk => hk.2) (.int .u64 t208)) (fun _ hk => hk.2) (.int .u64 t209)) (fun _ h_ => h_.1))) hb); replace BK199 := Aside0.mk (blk_below (g := gb199) (o := .cells #[.int .u64 a1_0, .int .u64 a1_1] 88 (0, 0)) (by (with_reducible repeat refine bl ?_); refine blk_far ?_ NB199_206.out _; (with_reducible repeat refine bl ?_); refine blk_far ?_ NB199_206.out _; (with_reducible repeat refine bl ?_); exact BK199.out) hb); replace BK200 := Aside0.mk (blk_below (g := gb200) (o := .cells #[.int .u64 0, .int .u64 0] 88 (0, 0)) (by (with_reducible repeat refine bl ?_); refine blk_far ?_ NB200_206.out _; (with_reducible repeat refine bl ?_); refine blk_far ?_ NB200_206.out _; (with_reducible repeat refine bl ?_); exact BK200.out) hb); replace BK205 := Aside0.mk (blk_below (g := gb205) (o := .cells #[.int .u64 x206000_1, .int .u64 x206001_1] 88 (0, 0)) (by (with_reducible repeat refine bl ?_); refine blk_far ?_ NB205_206.out _; (with_reducible repeat refine bl ?_); refine blk_far ?_ NB205_206.out _; (with_reducible repeat refine bl ?_); exact BK205.out) hb); replace BK206 := Aside0.mk (blk_below (g := gb206) (o := .cells #[.int .u64 t208, .int .u64 t209] 88 (0, 0)) (by (with_reducible repeat refine bl ?_); refine blk_put (cs := #[.int .u64 t208, .int .u64 x207001_1]) ?_ 1 _ rfl; (with_reducible repeat refine bl ?_); refine blk_put (cs := #[.int .u64 x207000_1, .int .u64 x207001_1]) ?_ 0 _ rfl; (with_reducible repeat refine bl ?_); exact BK206.out) hb); replace HB := bh HB hb; (try clear hb); (try clear hb2); (try clear hk); (try clear hi); obtain ⟨hcz48_0, hcz48_1⟩ := zc2 BK205; obtain ⟨hfz48_0, hfz48_1⟩ := zf2 BK205))
        go_roundg k1
        case measure => have := HK1.out; omega
        case rel => exact ⟨(wrap64 (x8_1 + 1)), (t210), (t211), (t208), (t209), (by first | rfl | (simp; done) | (simp [*]; done)), H', ⟨by have := HK1.out; omega⟩, ⟨by (with_reducible repeat refine kl ?_); exact Kd.R_mono (Kd.R_far (p := ⟨gb205, 1, none⟩) (Kd.R_far (p := ⟨gb205, 0, none⟩) (Kd.R_types HO_5.out BK205.out (by decide)) (fun _ hk => hk.2) (.int .u64 t210)) (fun _ hk => hk.2) (.int .u64 t211)) (fun _ hk => trivial)⟩, ⟨by (with_reducible repeat refine bl ?_); refine blk_far ?_ NB199_205.out _; (with_reducible repeat refine bl ?_); refine blk_far ?_ NB199_205.out _; (with_reducible repeat refine bl ?_); exact BK199.out⟩, ⟨by (with_reducible repeat refine bl ?_); refine blk_far ?_ NB200_205.out _; (with_reducible repeat refine bl ?_); refine blk_far ?_ NB200_205.out _; (with_reducible repeat refine bl ?_); exact BK200.out⟩, ⟨by (with_reducible repeat refine bl ?_); refine blk_put (cs := #[.int .u64 t210, .int .u64 x206001_1]) ?_ 1 _ rfl; (with_reducible repeat refine bl ?_); refine blk_put (cs := #[.int .u64 x206000_1, .int .u64 x206001_1]) ?_ 0 _ rfl; (with_reducible repeat refine bl ?_); exact BK205.out⟩, ⟨by (with_reducible repeat refine bl ?_); refine blk_far ?_ NB206_205.out _; (with_reducible repeat refine bl ?_); refine blk_far ?_ NB206_205.out _; (with_reducible repeat refine bl ?_); exact BK206.out⟩, ⟨bq HB.out⟩⟩
       ·rw [if_neg c34] at H
        have c34b0 : decide (x8_1 < (rd y202 a0)) = false := decide_eq_false c34
        clear c34
        simp only [Option.some.injEq, Prod.mk.injEq] at H
        obtain ⟨rfl, rfl⟩ := H
        obtain ⟨Ao49, co49, eo49⟩ := Kd.R_slice HO_5.out
        subst eo49
        have p207 : 0 ≤ (a0 : Int) := of_decide_eq_true (by first | (with_reducible assumption) | assumption)
        have q207 : a0 < (y202.length : Int) := of_decide_eq_true (by first | (with_reducible assumption) | assumption)
        (try (obtain ⟨Ap_, cp_, ep_⟩ := Kd.R_slice HO_5.out; subst ep_))
        obtain ⟨ad207, e207, hx207_0⟩ := Kd.at_int (Kd.R_reads' HO_5.out).2.2 a0 p207 q207
        cases e207
        replace p207 := eq_true p207
        replace q207 := eq_true q207
        have hnb50 := NB205_199.out
        have hnc50 := NB199_205.out
        have hnb51 := NB205_200.out
        have hnc51 := NB200_205.out
        have hnb52 := NB205_206.out
        have hnc52 := NB206_205.out
        obtain ⟨hcz53_0, hcz53_1⟩ := zc2 BK205
        obtain ⟨hfz53_0, hfz53_1⟩ := zf2 BK205
        have hnb54 := NB200_199.out
        have hnc54 := NB199_200.out
        have hnb55 := NB200_206.out
        have hnc55 := NB206_200.out
        obtain ⟨hcz56_0, hcz56_1⟩ := zc2 BK200
        obtain ⟨hfz56_0, hfz56_1⟩ := zf2 BK200
        go_wp2
        refine bodyPost_ret (results_cell_row rfl _ _ gb200 88 #[.int .u64 x206000_1, .int .u64 x206001_1] (0, 0) _ rfl (by (with_reducible repeat refine bl ?_); refine blk_put (cs := #[.int .u64 x206000_1, .int .u64 0]) ?_ 1 _ rfl; (with_reducible repeat refine bl ?_); refine blk_put (cs := #[.int .u64 0, .int .u64 0]) ?_ 0 _ rfl; (with_reducible repeat refine bl ?_); exact BK200.out) Try.underlying88 rfl (by kernel_rfl)) rfl ?_
        exact ⟨by first | rfl | (simp [errW_none, errW_some] <;> rfl) | (simp [*, errW_none, errW_some] <;> rfl), bq HB.out⟩
      ·rw [if_neg c33] at H
       exact absurd H (by simp)
     ·rw [if_neg c32] at H
      exact absurd H (by simp)
 ·replace c4 := Bool.eq_false_iff.mpr c4
  subst c4
  have H1 : (some (0, 0)) = some (r1, r2) := by rw [if_neg (show ¬ (false = true) by decide)] at H; exact H
  clear H
  have H := H1
  clear H1
  simp only [Option.some.injEq, Prod.mk.injEq] at H
  obtain ⟨rfl, rfl⟩ := H
  go_enter Try.func54, Try.ntmps54
  go_wp2_with (first | ((with_reducible refine gate_dst (N := 3) rfl ?_); refine box_event ?hg (N := 3) ?hd (cs := #[.int .u64 a1_0, .int .u64 a1_1]) (t := 88) ?hr ?_; (case hd => rfl); (case hg => rfl); (case hr => first | (go_simp; done) | (go_simp; rfl)); intro gb199 hg w57 hbox hb; have BK199 := Aside0.mk hbox; have GW199 := ge hg HB; have GE199 := ge hg HB; replace HB := bh HB hb; clear hb hbox hg) | ((with_reducible refine gate_dst (N := 4) rfl ?_); refine box_event ?hg (N := 4) ?hd (cs := #[.int .u64 0, .int .u64 0]) (t := 88) ?hr ?_; (case hd => rfl); (case hg => rfl); (case hr => first | (go_simp; done) | (go_simp; rfl)); intro gb200 hg w58 hbox hb; have BK200 := Aside0.mk hbox; have GW200 := ge hg HB; have GE200 := ge hg HB; have NB199_200 := nl hg BK199; have NB200_199 := ng hg BK199; replace BK199 := bb BK199 hb; replace HB := bh HB hb; clear hb hbox hg; have hnb59 := NB199_200.out; have hnc59 := NB200_199.out; obtain ⟨hcz60_0, hcz60_1⟩ := zc2 BK199; obtain ⟨hfz60_0, hfz60_1⟩ := zf2 BK199) | ((with_reducible refine gate_callee (f := 74) rfl ?_); refine goesL_ (some 11) rfl rfl Try.func74 (by kernel_rfl) rfl #[.int .i64 a0, .agg #[.int .u64 a1_0, .int .u64 a1_1]] rfl (by (try simp only [List.map_toArray, List.map_cons, List.map_nil]); first | done | rfl | (simp only [List.length_drop, List.length_take]; rfl)) ?_; (with_reducible refine (steepleref01_Of.calls k a0 a1_0 a1_1 false _ A3.out).mono ?_); rintro e w61 ⟨rfl, hb⟩; refine ⟨_, rfl, ?_⟩; replace BK199 := bb BK199 hb; replace BK200 := bb BK200 hb; replace HB := bh HB hb; (try clear hb); (try clear hb2); (try clear hk); (try clear hi); obtain ⟨hcz62_0, hcz62_1⟩ := zc2 BK200; obtain ⟨hfz62_0, hfz62_1⟩ := zf2 BK200))
  refine bodyPost_ret (results_cell_row rfl _ _ gb200 88 #[.int .u64 0, .int .u64 0] (0, 0) _ rfl (by (with_reducible repeat refine bl ?_); refine blk_put (cs := #[.int .u64 0, .int .u64 0]) ?_ 1 _ rfl; (with_reducible repeat refine bl ?_); refine blk_put (cs := #[.int .u64 0, .int .u64 0]) ?_ 0 _ rfl; (with_reducible repeat refine bl ?_); exact BK200.out) Try.underlying88 rfl (by kernel_rfl)) rfl ?_
  exact ⟨by first | rfl | (simp [errW_none, errW_some] <;> rfl) | (simp [*, errW_none, errW_some] <;> rfl), bq HB.out⟩

/-! ### steepleref10_left: function 55 -/
def steepleref10_left.l0 : Nat → Int → Int → Int → Option (Int)
 | 0, _, _, _ => none
 | k + 1, x1, x5, x6 => if x6 < x1 then (steepleref10_left.l0 k x1 (wrap64 ((Int.tmod (wrap64 (2 * x5)) 256) + (wrap64 (Int.tdiv x5 128)))) (wrap64 (x6 + 1))) else (some x5)
def steepleref10_left.f (k : Nat) (a0 : Int) (a1 : Int) : Option (Int) := steepleref10_left.l0 k a1 a0 0
theorem steepleref10_left.mono_l : ∀ k, (∀ y0 y1 y2, LeO (steepleref10_left.l0 k y0 y1 y2) (steepleref10_left.l0 (k + 1) y0 y1 y2))
 | 0 => fun _ _ _ r h => by simp [steepleref10_left.l0] at h
 | k + 1 => by
  have ih0 := steepleref10_left.mono_l k
  ·intro y0 y1 y2
   unfold steepleref10_left.l0
   repeat' first
   | (with_reducible exact ih0 _ _ _)
   | (with_reducible exact LeO.refl _)
   | (with_reducible exact LeO.none _)
   | (with_reducible refine LeO.ite ?_ ?_)
   | (with_reducible refine LeO.bind ?_ (fun _ => ?_))
   | exact ih0 _ _ _
   | exact LeO.none _
   | refine LeO.ite ?_ ?_
   | refine LeO.bind ?_ (fun _ => ?_)
theorem steepleref10_left.mono : ∀ a0 a1 k, LeO (steepleref10_left.f k a0 a1) (steepleref10_left.f (k + 1) a0 a1) := by
 intro a0 a1 k
 have ih0 := steepleref10_left.mono_l k
 unfold steepleref10_left.f
 repeat' first
   | (with_reducible exact ih0 _ _ _)
   | (with_reducible exact LeO.refl _)
   | (with_reducible exact LeO.none _)
   | (with_reducible refine LeO.ite ?_ ?_)
   | (with_reducible refine LeO.bind ?_ (fun _ => ?_))
   | exact ih0 _ _ _
   | exact LeO.none _
   | refine LeO.ite ?_ ?_
   | refine LeO.bind ?_ (fun _ => ?_)
set_option maxHeartbeats 8000000 in
set_option maxRecDepth 100000 in
theorem steepleref10_left.calls (k : Nat) (a0 : Int) (a1 : Int) (r : Int) (w : World) (h : steepleref10_left.f k a0 a1 = some r) :
  Calls Try.prog 55 #[.int .i64 a0, .int .i64 a1] w fun e w' => e = .returned (.int .i64 r) ∧ Drawn0 w w' := by
 have H : (steepleref10_left.l0 k a1 a0 0) = some r := h
 clear h
 have H' := Aside0.mk H
 clear H
 go_enter Try.func55, Try.ntmps55
 go_wp2
 go_loopg [5, 6] k (fun kq v5 v6 w' => ∃ (x5_1 : Int) (x6_1 : Int), v5 = .int .i64 x5_1 ∧ v6 = .int .i64 x6_1 ∧ Aside0 (steepleref10_left.l0 kq a1 x5_1 x6_1 = some r) ∧ Aside0 (kq ≤ k) ∧ Drawn0 w w')
 case atStart => exact ⟨(a0), (0), (by first | rfl | (simp; done) | (simp [*]; done)), (by first | rfl | (simp; done) | (simp [*]; done)), H', ⟨Nat.le_refl _⟩, by repeat (first | exact Drawn0.refl _ | apply Drawn0.step)⟩
 case round =>
  clear H'
  try clear p2
  obtain ⟨x5_1, x6_1, rfl, rfl, HA, HK1, ⟨m1, rfl⟩⟩ := hrel
  cases gk with
  | zero => exact absurd HA.out (by simp [steepleref10_left.l0])
  | succ k1 =>
   have H := HA.out
   clear HA
   simp only [steepleref10_left.l0] at H
   by_cases c3 : x6_1 < a1
   ·rw [if_pos c3] at H
    have c3b0 : decide (x6_1 < a1) = true := decide_eq_true c3
    clear c3
    have H' := Aside0.mk H
    clear H
    go_wp2
    go_roundg k1
    case measure => have := HK1.out; omega
    case rel => exact ⟨(wrap64 ((Int.tmod (wrap64 (2 * x5_1)) 256) + (wrap64 (Int.tdiv x5_1 128)))), (wrap64 (x6_1 + 1)), (by first | rfl | (simp; done) | (simp [*]; done)), (by first | rfl | (simp; done) | (simp [*]; done)), H', ⟨by have := HK1.out; omega⟩, by repeat (first | exact Drawn0.refl _ | apply Drawn0.step)⟩
   ·rw [if_neg c3] at H
    have c3b0 : decide (x6_1 < a1) = false := decide_eq_false c3
    clear c3
    obtain rfl := Option.some.inj H
    go_wp2
    go_ret
    exact ⟨by first | rfl | (simp; done) | (simp [*]; done), by repeat (first | exact Drawn0.refl _ | apply Drawn0.step)⟩

/-! ### steepleref10_Box: function 32 -/
def steepleref10_Box.f (k : Nat) (a0 : Int) : Option (Int) := (steepleref02_Inv.f k 3 0 (IntKind.u64.wrap (a0))).bind fun bt212 => ((steepleref10_left.f k (wrap64 (bt212.2)) 1).bind fun t214 => ((steepleref10_left.f k (wrap64 (bt212.2)) 2).bind fun t215 => ((steepleref10_left.f k (wrap64 (bt212.2)) 3).bind fun t216 => ((steepleref10_left.f k (wrap64 (bt212.2)) 4).bind fun t217 => (some (Go.bits .xor .i64 (Go.bits .xor .i64 (Go.bits .xor .i64 (Go.bits .xor .i64 (Go.bits .xor .i64 (wrap64 (bt212.2)) t214) t215) t216) t217) 99))))))
theorem steepleref10_Box.mono : ∀ a0 k, LeO (steepleref10_Box.f k a0) (steepleref10_Box.f (k + 1) a0) := by
 intro a0 k
 unfold steepleref10_Box.f
 repeat' first
   | (with_reducible exact steepleref02_Inv.mono _ _ _ _)
   | (with_reducible exact steepleref10_left.mono _ _ _)
   | (with_reducible exact LeO.refl _)
   | (with_reducible exact LeO.none _)
   | (with_reducible refine LeO.ite ?_ ?_)
   | (with_reducible refine LeO.bind ?_ (fun _ => ?_))
   | exact steepleref02_Inv.mono _ _ _ _
   | exact steepleref10_left.mono _ _ _
   | exact LeO.none _
   | refine LeO.ite ?_ ?_
   | refine LeO.bind ?_ (fun _ => ?_)
set_option maxHeartbeats 8000000 in
set_option maxRecDepth 100000 in
theorem steepleref10_Box.calls (k : Nat) (a0 : Int) (r : Int) (w : World) (h : steepleref10_Box.f k a0 = some r) :
  Calls Try.prog 32 #[.int .i64 a0] w fun e w' => e = .returned (.int .i64 r) ∧ Below w.heap.size w w' := by
 have hu88 := Try.underlying88
 have HB := Aside0.mk (Below.refl w.heap.size w)
 have H : ((steepleref02_Inv.f k 3 0 (IntKind.u64.wrap (a0))).bind fun bt212 => ((steepleref10_left.f k (wrap64 (bt212.2)) 1).bind fun t214 => ((steepleref10_left.f k (wrap64 (bt212.2)) 2).bind fun t215 => ((steepleref10_left.f k (wrap64 (bt212.2)) 3).bind fun t216 => ((steepleref10_left.f k (wrap64 (bt212.2)) 4).bind fun t217 => (some (Go.bits .xor .i64 (Go.bits .xor .i64 (Go.bits .xor .i64 (Go.bits .xor .i64 (Go.bits .xor .i64 (wrap64 (bt212.2)) t214) t215) t216) t217) 99))))))) = some r := h
 clear h
 replace H := Option.bind_eq_some_iff.mp H
 obtain ⟨⟨t212, t213⟩, A20, H⟩ := H
 replace H : ((steepleref10_left.f k (wrap64 (t213)) 1).bind fun t214 => ((steepleref10_left.f k (wrap64 (t213)) 2).bind fun t215 => ((steepleref10_left.f k (wrap64 (t213)) 3).bind fun t216 => ((steepleref10_left.f k (wrap64 (t213)) 4).bind fun t217 => (some (Go.bits .xor .i64 (Go.bits .xor .i64 (Go.bits .xor .i64 (Go.bits .xor .i64 (Go.bits .xor .i64 (wrap64 (t213)) t214) t215) t216) t217) 99)))))) = some r := H
 have A2 := Aside0.mk A20
 clear A20
 replace H := Option.bind_eq_some_iff.mp H
 obtain ⟨t214, A30, H⟩ := H
 replace H : ((steepleref10_left.f k (wrap64 (t213)) 2).bind fun t215 => ((steepleref10_left.f k (wrap64 (t213)) 3).bind fun t216 => ((steepleref10_left.f k (wrap64 (t213)) 4).bind fun t217 => (some (Go.bits .xor .i64 (Go.bits .xor .i64 (Go.bits .xor .i64 (Go.bits .xor .i64 (Go.bits .xor .i64 (wrap64 (t213)) t214) t215) t216) t217) 99))))) = some r := H
 have A3 := Aside0.mk A30
 clear A30
 replace H := Option.bind_eq_some_iff.mp H
 obtain ⟨t215, A40, H⟩ := H
 replace H : ((steepleref10_left.f k (wrap64 (t213)) 3).bind fun t216 => ((steepleref10_left.f k (wrap64 (t213)) 4).bind fun t217 => (some (Go.bits .xor .i64 (Go.bits .xor .i64 (Go.bits .xor .i64 (Go.bits .xor .i64 (Go.bits .xor .i64 (wrap64 (t213)) t214) t215) t216) t217) 99)))) = some r := H
 have A4 := Aside0.mk A40
 clear A40
 replace H := Option.bind_eq_some_iff.mp H
 obtain ⟨t216, A50, H⟩ := H
 replace H : ((steepleref10_left.f k (wrap64 (t213)) 4).bind fun t217 => (some (Go.bits .xor .i64 (Go.bits .xor .i64 (Go.bits .xor .i64 (Go.bits .xor .i64 (Go.bits .xor .i64 (wrap64 (t213)) t214) t215) t216) t217) 99))) = some r := H
 have A5 := Aside0.mk A50
 clear A50
 replace H := Option.bind_eq_some_iff.mp H
 obtain ⟨t217, A60, H⟩ := H
 replace H : (some (Go.bits .xor .i64 (Go.bits .xor .i64 (Go.bits .xor .i64 (Go.bits .xor .i64 (Go.bits .xor .i64 (wrap64 (t213)) t214) t215) t216) t217) 99)) = some r := H
 have A6 := Aside0.mk A60
 clear A60
 obtain rfl := Option.some.inj H
 go_enter Try.func32, Try.ntmps32
 go_wp2_with (first | ((with_reducible refine gate_callee (f := 54) rfl ?_); refine goesL_ (some 7) rfl rfl Try.func54 (by kernel_rfl) rfl #[.int .i64 3, .agg #[.int .u64 0, .int .u64 (IntKind.u64.wrap (a0))]] rfl (by (try simp only [List.map_toArray, List.map_cons, List.map_nil]); first | done | rfl | (simp only [List.length_drop, List.length_take]; rfl)) ?_; (with_reducible refine (steepleref02_Inv.calls k 3 0 (IntKind.u64.wrap (a0)) t212 t213 _ A2.out).mono ?_); rintro e w7 ⟨rfl, hb⟩; refine ⟨_, rfl, ?_⟩; replace HB := bh HB hb; (try clear hb); (try clear hb2); (try clear hk); (try clear hi)) | ((with_reducible refine gate_callee (f := 55) rfl ?_); refine goesL_ (some 12) rfl rfl Try.func55 (by kernel_rfl) rfl #[.int .i64 (wrap64 (t213)), .int .i64 1] rfl (by (try simp only [List.map_toArray, List.map_cons, List.map_nil]); first | done | rfl | (simp only [List.length_drop, List.length_take]; rfl)) ?_; (with_reducible refine (steepleref10_left.calls k (wrap64 (t213)) 1 t214 _ A3.out).mono ?_); rintro e w' ⟨rfl, ⟨nd, rfl⟩⟩; refine ⟨_, rfl, ?_⟩) | ((with_reducible refine gate_callee (f := 55) rfl ?_); refine goesL_ (some 15) rfl rfl Try.func55 (by kernel_rfl) rfl #[.int .i64 (wrap64 (t213)), .int .i64 2] rfl (by (try simp only [List.map_toArray, List.map_cons, List.map_nil]); first | done | rfl | (simp only [List.length_drop, List.length_take]; rfl)) ?_; (with_reducible refine (steepleref10_left.calls k (wrap64 (t213)) 2 t215 _ A4.out).mono ?_); rintro e w' ⟨rfl, ⟨nd, rfl⟩⟩; refine ⟨_, rfl, ?_⟩) | ((with_reducible refine gate_callee (f := 55) rfl ?_); refine goesL_ (some 18) rfl rfl Try.func55 (by kernel_rfl) rfl #[.int .i64 (wrap64 (t213)), .int .i64 3] rfl (by (try simp only [List.map_toArray, List.map_cons, List.map_nil]); first | done | rfl | (simp only [List.length_drop, List.length_take]; rfl)) ?_; (with_reducible refine (steepleref10_left.calls k (wrap64 (t213)) 3 t216 _ A5.out).mono ?_); rintro e w' ⟨rfl, ⟨nd, rfl⟩⟩; refine ⟨_, rfl, ?_⟩) | ((with_reducible refine gate_callee (f := 55) rfl ?_); refine goesL_ (some 21) rfl rfl Try.func55 (by kernel_rfl) rfl #[.int .i64 (wrap64 (t213)), .int .i64 4] rfl (by (try simp only [List.map_toArray, List.map_cons, List.map_nil]); first | done | rfl | (simp only [List.length_drop, List.length_take]; rfl)) ?_; (with_reducible refine (steepleref10_left.calls k (wrap64 (t213)) 4 t217 _ A6.out).mono ?_); rintro e w' ⟨rfl, ⟨nd, rfl⟩⟩; refine ⟨_, rfl, ?_⟩))
 go_ret
 exact ⟨by first | rfl | (simp [errW_none, errW_some] <;> rfl) | (simp [*, errW_none, errW_some] <;> rfl), bq HB.out⟩

/-! ### steepleref10_Times: function 33 -/
def steepleref10_Times.f (k : Nat) (a0 : Int) (a1 : Int) : Option (Int) := (steepleref02_Product.f k 0 (IntKind.u64.wrap (a0)) 0 (IntKind.u64.wrap (a1))).bind fun bt218 => (some (wrap64 (bt218.2)))
theorem steepleref10_Times.mono : ∀ a0 a1 k, LeO (steepleref10_Times.f k a0 a1) (steepleref10_Times.f (k + 1) a0 a1) := by
 intro a0 a1 k
 unfold steepleref10_Times.f
 repeat' first
   | (with_reducible exact steepleref02_Product.mono _ _ _ _ _)
   | (with_reducible exact LeO.refl _)
   | (with_reducible exact LeO.none _)
   | (with_reducible refine LeO.ite ?_ ?_)
   | (with_reducible refine LeO.bind ?_ (fun _ => ?_))
   | exact steepleref02_Product.mono _ _ _ _ _
   | exact LeO.none _
   | refine LeO.ite ?_ ?_
   | refine LeO.bind ?_ (fun _ => ?_)
set_option maxHeartbeats 8000000 in
set_option maxRecDepth 100000 in
theorem steepleref10_Times.calls (k : Nat) (a0 : Int) (a1 : Int) (r : Int) (w : World) (h : steepleref10_Times.f k a0 a1 = some r) :
  Calls Try.prog 33 #[.int .i64 a0, .int .i64 a1] w fun e w' => e = .returned (.int .i64 r) ∧ Below w.heap.size w w' := by
 have hu88 := Try.underlying88
 have HB := Aside0.mk (Below.refl w.heap.size w)
 have H : ((steepleref02_Product.f k 0 (IntKind.u64.wrap (a0)) 0 (IntKind.u64.wrap (a1))).bind fun bt218 => (some (wrap64 (bt218.2)))) = some r := h
 clear h
 replace H := Option.bind_eq_some_iff.mp H
 obtain ⟨⟨t218, t219⟩, A30, H⟩ := H
 replace H : (some (wrap64 (t219))) = some r := H
 have A3 := Aside0.mk A30
 clear A30
 obtain rfl := Option.some.inj H
 go_enter Try.func33, Try.ntmps33
 go_wp2_with (first | ((with_reducible refine gate_callee (f := 56) rfl ?_); refine goesL_ (some 11) rfl rfl Try.func56 (by kernel_rfl) rfl #[.agg #[.int .u64 0, .int .u64 (IntKind.u64.wrap (a0))], .agg #[.int .u64 0, .int .u64 (IntKind.u64.wrap (a1))]] rfl (by (try simp only [List.map_toArray, List.map_cons, List.map_nil]); first | done | rfl | (simp only [List.length_drop, List.length_take]; rfl)) ?_; (with_reducible refine (steepleref02_Product.calls k 0 (IntKind.u64.wrap (a0)) 0 (IntKind.u64.wrap (a1)) t218 t219 _ A3.out).mono ?_); rintro e w4 ⟨rfl, hb⟩; refine ⟨_, rfl, ?_⟩; replace HB := bh HB hb; (try clear hb); (try clear hb2); (try clear hk); (try clear hi)))
 go_ret
 exact ⟨by first | rfl | (simp [errW_none, errW_some] <;> rfl) | (simp [*, errW_none, errW_some] <;> rfl), bq HB.out⟩

end Go.Proofs.Ytaffpnnhoagmaaa.P
