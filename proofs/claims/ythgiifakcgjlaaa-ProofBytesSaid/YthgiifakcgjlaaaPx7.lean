/- Functions that the law reaches, as Lean functions. Conditions: those that each theorem names. -/
import Derived.Test.YthgiifakcgjlaaaPx0
import Derived.Test.YthgiifakcgjlaaaX2
set_option maxHeartbeats 8000000
set_option maxRecDepth 100000
namespace Go.Proofs.Ythgiifakcgjlaaa.P
open Go.RowKit YthgiifakcgjlaaaX YthgiifakcgjlaaaW.PrintWords YthgiifakcgjlaaaW.PrintLast YthgiifakcgjlaaaW.PrintMore
attribute [local go_sem] max2_int min2_int max_two min_two max_three min_three max_four min_four
set_option linter.unusedVariables false
set_option linter.unusedSimpArgs false

def steepleref01_bit.f (a0_0 : Int) (a0_1 : Int) (a1 : Int) : Option (Int) := if a1 ≥ 64 then (if 0 ≤ (IntKind.u64.wrap (wrap64 (a1 - 64))) then (some (Go.bits .and .u64 (shr .u64 a0_0 (IntKind.u64.wrap (wrap64 (a1 - 64)))) 1)) else (none)) else (if 0 ≤ (IntKind.u64.wrap (a1)) then (some (Go.bits .and .u64 (shr .u64 a0_1 (IntKind.u64.wrap (a1))) 1)) else (none))
theorem steepleref01_bit.calls (a0_0 : Int) (a0_1 : Int) (a1 : Int) (r : Int) (w : World) (h : steepleref01_bit.f a0_0 a0_1 a1 = some r) :
  Calls Try.prog 94 #[.agg #[.int .u64 a0_0, .int .u64 a0_1], .int .i64 a1] w fun e w' => e = .returned (.int .u64 r) ∧ Below w.heap.size w w' := by
 have hu70 := Try.underlying70
 have HB := Aside0.mk (Below.refl w.heap.size w)
 have H : (if a1 ≥ 64 then (if 0 ≤ (IntKind.u64.wrap (wrap64 (a1 - 64))) then (some (Go.bits .and .u64 (shr .u64 a0_0 (IntKind.u64.wrap (wrap64 (a1 - 64)))) 1)) else (none)) else (if 0 ≤ (IntKind.u64.wrap (a1)) then (some (Go.bits .and .u64 (shr .u64 a0_1 (IntKind.u64.wrap (a1))) 1)) else (none))) = some r := h
 clear h
 by_cases c3 : a1 ≥ 64
 ·rw [if_pos c3] at H
  have c3b0 : decide (64 ≤ a1) = true := decide_eq_true c3
  clear c3
  obtain ⟨ji4, hji4⟩ : ∃ j_ : Int, (IntKind.u64.wrap (wrap64 (a1 - 64))) = j_ := ⟨_, rfl⟩
  replace H : (if 0 ≤ (ji4) then (some (Go.bits .and .u64 (shr .u64 a0_0 (ji4)) 1)) else (none)) = some r := by first | (rw [hji4] at H; exact H) | (simp only [hji4] at H ⊢; exact H)
  by_cases c5 : 0 ≤ (ji4)
  ·rw [if_pos c5] at H
   have c5b0 := eq_true c5
   have c5b1 : decide (0 ≤ (ji4)) = true := decide_eq_true c5
   clear c5
   obtain ⟨ji6, hji6⟩ : ∃ j_ : Int, (shr .u64 a0_0 (ji4)) = j_ := ⟨_, rfl⟩
   replace H : (some (Go.bits .and .u64 (ji6) 1)) = some r := by first | (rw [hji6] at H; exact H) | (simp only [hji6] at H ⊢; exact H)
   have hji6_ : (a0_0 / 2 ^ min (ji4).toNat 64) = ji6 := hji6
   have hji6z : (ji4) ≤ 64 → (a0_0 / 2 ^ (ji4).toNat) = ji6 := shr_small hji6
   obtain rfl := Option.some.inj H
   go_enter Try.func94, Try.ntmps94
   go_wp2_with (first | ((with_reducible refine gate_dst (N := 2) rfl ?_); refine box_event ?hg (N := 2) ?hd (cs := #[.int .u64 a0_0, .int .u64 a0_1]) (t := 70) ?hr ?_; (case hd => rfl); (case hg => rfl); (case hr => first | (go_simp; done) | (go_simp; rfl)); intro gb203 hg w7 hbox hb; have BK203 := Aside0.mk hbox; have GW203 := ge hg HB; have GE203 := ge hg HB; replace HB := bh HB hb; clear hb hbox hg; obtain ⟨hcz8_0, hcz8_1⟩ := zc2 BK203; obtain ⟨hfz8_0, hfz8_1⟩ := zf2 BK203))
   go_ret
   exact ⟨by first | rfl | (simp [errW_none, errW_some] <;> rfl) | (simp only [← hji4, ← hji6]; first | rfl | (simp [errW_none, errW_some] <;> rfl)) | (simp [*, errW_none, errW_some] <;> rfl), bq HB.out⟩
  ·rw [if_neg c5] at H
   exact absurd H (by simp)
 ·rw [if_neg c3] at H
  have c3b0 : decide (64 ≤ a1) = false := decide_eq_false c3
  clear c3
  obtain ⟨ji9, hji9⟩ : ∃ j_ : Int, (IntKind.u64.wrap (a1)) = j_ := ⟨_, rfl⟩
  replace H : (if 0 ≤ (ji9) then (some (Go.bits .and .u64 (shr .u64 a0_1 (ji9)) 1)) else (none)) = some r := by first | (rw [hji9] at H; exact H) | (simp only [hji9] at H ⊢; exact H)
  by_cases c10 : 0 ≤ (ji9)
  ·rw [if_pos c10] at H
   have c10b0 := eq_true c10
   have c10b1 : decide (0 ≤ (ji9)) = true := decide_eq_true c10
   clear c10
   obtain ⟨ji11, hji11⟩ : ∃ j_ : Int, (shr .u64 a0_1 (ji9)) = j_ := ⟨_, rfl⟩
   replace H : (some (Go.bits .and .u64 (ji11) 1)) = some r := by first | (rw [hji11] at H; exact H) | (simp only [hji11] at H ⊢; exact H)
   have hji11_ : (a0_1 / 2 ^ min (ji9).toNat 64) = ji11 := hji11
   have hji11z : (ji9) ≤ 64 → (a0_1 / 2 ^ (ji9).toNat) = ji11 := shr_small hji11
   obtain rfl := Option.some.inj H
   go_enter Try.func94, Try.ntmps94
   go_wp2_with (first | ((with_reducible refine gate_dst (N := 2) rfl ?_); refine box_event ?hg (N := 2) ?hd (cs := #[.int .u64 a0_0, .int .u64 a0_1]) (t := 70) ?hr ?_; (case hd => rfl); (case hg => rfl); (case hr => first | (go_simp; done) | (go_simp; rfl)); intro gb203 hg w12 hbox hb; have BK203 := Aside0.mk hbox; have GW203 := ge hg HB; have GE203 := ge hg HB; replace HB := bh HB hb; clear hb hbox hg; obtain ⟨hcz13_0, hcz13_1⟩ := zc2 BK203; obtain ⟨hfz13_0, hfz13_1⟩ := zf2 BK203))
   go_ret
   exact ⟨by first | rfl | (simp [errW_none, errW_some] <;> rfl) | (simp only [← hji9, ← hji11]; first | rfl | (simp [errW_none, errW_some] <;> rfl)) | (simp [*, errW_none, errW_some] <;> rfl), bq HB.out⟩
  ·rw [if_neg c10] at H
   exact absurd H (by simp)

mutual
def steepleref01_Of.j0 : Nat → Int → List Int → Bool → Int → Int → Option (Bool)
 | 0, _, _, _, _, _ => none
 | k + 1, x0, x5, x13, x205000, x205001 => if x13 = true then (some false) else (if 0 ≤ x0 then (if x0 < (x5.length : Int) then (steepleref01_Of.l0 k (rd x5 x0) x205000 x205001) else (none)) else (none))
def steepleref01_Of.l0 : Nat → Int → Int → Int → Option (Bool)
 | 0, _, _, _ => none
 | k + 1, x6, x205000, x205001 => if x6 < 128 then ((steepleref01_bit.f x205000 x205001 x6).bind fun t209 => (if t209 = 1 then (some false) else (steepleref01_Of.l0 k (wrap64 (x6 + 1)) x205000 x205001))) else (some true)
end
def steepleref01_Of.f (k : Nat) (a0 : Int) (a1_0 : Int) (a1_1 : Int) : Option (Bool) := (some (([1, 2, 4, 8, 16, 32, 64, 128] : List Int) : List Int)).bind fun y205 => (if a0 < 0 then (steepleref01_Of.j0 k a0 y205 true a1_0 a1_1) else (steepleref01_Of.j0 k a0 y205 (decide (a0 > 7)) a1_0 a1_1))
theorem steepleref01_Of.calls (k : Nat) (a0 : Int) (a1_0 : Int) (a1_1 : Int) (r : Bool) (w : World) (h : steepleref01_Of.f k a0 a1_0 a1_1 = some r) :
  Calls Try.prog 92 #[.int .i64 a0, .agg #[.int .u64 a1_0, .int .u64 a1_1]] w fun e w' => e = .returned (.bool r) ∧ Below w.heap.size w w' := by
 have hu70 := Try.underlying70
 have HB := Aside0.mk (Below.refl w.heap.size w)
 have H : ((some (([1, 2, 4, 8, 16, 32, 64, 128] : List Int) : List Int)).bind fun y205 => (if a0 < 0 then (steepleref01_Of.j0 k a0 y205 true a1_0 a1_1) else (steepleref01_Of.j0 k a0 y205 (decide (a0 > 7)) a1_0 a1_1))) = some r := h
 clear h
 obtain ⟨y205, hy205⟩ : ∃ y_ : List Int, y_ = (([1, 2, 4, 8, 16, 32, 64, 128] : List Int)) := ⟨_, rfl⟩
 replace H : (if a0 < 0 then (steepleref01_Of.j0 k a0 y205 true a1_0 a1_1) else (steepleref01_Of.j0 k a0 y205 (decide (a0 > 7)) a1_0 a1_1)) = some r := by first | (rw [hy205]; with_reducible exact H) | (have H2_ := (Option.bind_some _ _).symm.trans H; rw [hy205]; with_reducible exact H2_) | (have H2_ := (Option.bind_some _ _).symm.trans H; with_reducible exact H2_) | with_reducible exact H | (rw [hy205]; exact H) | exact H
 have Ny205 := Aside0.mk hy205
 clear hy205
 have HC3 := Aside0.mk H
 clear H
 go_enter Try.func92, Try.ntmps92
 go_upto_region 2 with (first | ((with_reducible refine gate_dst (N := 3) rfl ?_); refine box_event ?hg (N := 3) ?hd (cs := #[.int .u64 a1_0, .int .u64 a1_1]) (t := 70) ?hr ?_; (case hd => rfl); (case hg => rfl); (case hr => first | (go_simp; done) | (go_simp; rfl)); intro gb204 hg w4 hbox hb; have BK204 := Aside0.mk hbox; have GW204 := ge hg HB; have GE204 := ge hg HB; replace HB := bh HB hb; clear hb hbox hg) | ((with_reducible refine gate_dst (N := 7) rfl ?_); refine Kd.R_lit (Kd.int .i64) _ 3 ?hg (N := 7) ?hd (xs := ([1, 2, 4, 8, 16, 32, 64, 128] : List Int)) (inner := [.int .i64 1, .int .i64 2, .int .i64 4, .int .i64 8, .int .i64 16, .int .i64 32, .int .i64 64, .int .i64 128]) (ok := fun _ => True) (okp := fun _ => True) ?hr ?hp (fun _ hk => hk) trivial (Below.refl _ _) (Nat.le_refl _) (by simp) ?_; (case hd => rfl); (case hg => rfl); (case hr => first | (go_simp; done) | (go_simp; rfl)); (case hp => exact (Reps.one (show Kd.M (Kd.int .i64) _ _ _ 1 [.int .i64 1] from rfl) (Reps.one (show Kd.M (Kd.int .i64) _ _ _ 2 [.int .i64 2] from rfl) (Reps.one (show Kd.M (Kd.int .i64) _ _ _ 4 [.int .i64 4] from rfl) (Reps.one (show Kd.M (Kd.int .i64) _ _ _ 8 [.int .i64 8] from rfl) (Reps.one (show Kd.M (Kd.int .i64) _ _ _ 16 [.int .i64 16] from rfl) (Reps.one (show Kd.M (Kd.int .i64) _ _ _ 32 [.int .i64 32] from rfl) (Reps.one (show Kd.M (Kd.int .i64) _ _ _ 64 [.int .i64 64] from rfl) (Reps.one (show Kd.M (Kd.int .i64) _ _ _ 128 [.int .i64 128] from rfl) (Reps.none _ _)))))))))); intro v206 w5 ho6 hb hg_ hnew_; clear hg_ hnew_; (first | rw [← Ny205.out] at ho6 | (simp only [Int.reduceToNat] at ho6; rw [← Ny205.out] at ho6)); have HO207 := kw ho6 HB; replace BK204 := bb BK204 hb; replace HB := bh HB hb; clear hb ho6))
 (try simp only [Act.put, List.setIfInBounds_toArray, List.set_cons_zero, List.set_cons_succ])
 go_cut [13] (fun v13 wc => ∃ (kq : Nat) (x13_2 : Bool), v13 = .bool x13_2 ∧ Aside0 (steepleref01_Of.j0 kq a0 y205 x13_2 a1_0 a1_1 = some r) ∧ Aside0 (kq ≤ k) ∧ Aside0 (Kd.R (Kd.int .i64) 3 wc w.heap.size (fun _ => True) v206 y205) ∧ Aside0 (wc.heap[gb204]? = some (.cells #[.int .u64 a1_0, .int .u64 a1_1] 70 (0, 0))) ∧ Aside0 (Below w.heap.size w wc))
 case first =>
  have H := HC3.out
  clear HC3
  by_cases c7 : a0 < 0
  ·rw [if_pos c7] at H
   have c7b0 : decide (a0 < 0) = true := decide_eq_true c7
   clear c7
   (first | rw [c7b0] | (simp only [i64_w, i32_w]; rw [c7b0]) | skip)
   have H' := Aside0.mk H
   clear H
   go_wp2
   go_meet
   case rel => exact ⟨_, (true), (by first | rfl | (simp; done) | (simp [*]; done)), H', ⟨by first | omega | exact Nat.le_refl _⟩, ⟨kr HO207.out⟩, ⟨bk BK204.out⟩, ⟨bq HB.out⟩⟩
  ·rw [if_neg c7] at H
   have c7b0 : decide (a0 < 0) = false := decide_eq_false c7
   clear c7
   (first | rw [c7b0] | (simp only [i64_w, i32_w]; rw [c7b0]) | skip)
   have H' := Aside0.mk H
   clear H
   go_wp2
   go_meet
   case rel => exact ⟨_, (decide (a0 > 7)), (by first | rfl | (simp; done) | (simp [*]; done)), H', ⟨by first | omega | exact Nat.le_refl _⟩, ⟨kr HO207.out⟩, ⟨bk BK204.out⟩, ⟨bq HB.out⟩⟩
 case rest =>
  clear HC3
  try clear p2
  try clear c7
  try clear c7b0
  obtain ⟨kq, x13_2, rfl, HA, HJ2, HO_5, BK204, HB⟩ := hcut
  cases kq with
  | zero => exact absurd HA.out (by simp [steepleref01_Of.j0])
  | succ kj2 =>
   have H := HA.out
   clear HA
   simp only [steepleref01_Of.j0] at H
   by_cases c8 : x13_2 = true
   ·subst c8
    have H1 : (some false) = some r := by rw [if_pos rfl] at H; exact H
    clear H
    have H := H1
    clear H1
    obtain rfl := Option.some.inj H
    go_wp2
    go_ret
    exact ⟨er, bq HB.out⟩
   ·replace c8 := Bool.eq_false_iff.mpr c8
    subst c8
    have H1 : (if 0 ≤ a0 then (if a0 < (y205.length : Int) then (steepleref01_Of.l0 kj2 (rd y205 a0) a1_0 a1_1) else (none)) else (none)) = some r := by rw [if_neg (show ¬ (false = true) by decide)] at H; exact H
    clear H
    have H := H1
    clear H1
    by_cases c9 : 0 ≤ a0
    ·rw [if_pos c9] at H
     have c9b0 : decide (0 ≤ a0) = true := decide_eq_true c9
     clear c9
     by_cases c10 : a0 < (y205.length : Int)
     ·rw [if_pos c10] at H
      have c10b0 : decide (a0 < (y205.length : Int)) = true := decide_eq_true c10
      clear c10
      have H' := Aside0.mk H
      clear H
      obtain ⟨Ao11, co11, eo11⟩ := Kd.R_slice HO_5.out
      subst eo11
      have p208 : 0 ≤ (a0 : Int) := dt
      have q208 : a0 < (y205.length : Int) := dt
      (try (obtain ⟨Ap_, cp_, ep_⟩ := Kd.R_slice HO_5.out; subst ep_))
      obtain ⟨ad208, e208, hx208_0⟩ := Kd.at_int (Kd.R_reads' HO_5.out).2.2 a0 p208 q208
      cases e208
      replace p208 := eq_true p208
      replace q208 := eq_true q208
      go_wp2
      go_loopg [6] kj2 (fun kq v6 w' => ∃ (x6_2 : Int), v6 = .int .i64 x6_2 ∧ Aside0 (steepleref01_Of.l0 kq x6_2 a1_0 a1_1 = some r) ∧ Aside0 (kq ≤ kj2) ∧ Aside0 (w'.heap[gb204]? = some (.cells #[.int .u64 a1_0, .int .u64 a1_1] 70 (0, 0))) ∧ Aside0 (Below w.heap.size w w'))
      case atStart => exact ⟨(rd y205 a0), (by first | rfl | (simp; done) | (simp [*]; done)), H', ⟨Nat.le_refl _⟩, ⟨bk BK204.out⟩, ⟨bq HB.out⟩⟩
      case round =>
       clear H'
       try clear c1
       try clear p2
       try clear q2
       try clear hx2
       try clear c7
       try clear c7b0
       try clear c8
       try clear c9
       try clear c9b0
       try clear c10
       try clear c10b0
       try clear hx208_0
       try clear p2
       try clear p208
       try clear q208
       obtain ⟨x6_2, rfl, HA, HK2, BK204, HB⟩ := hrel
       cases gk with
       | zero => exact absurd HA.out (by simp [steepleref01_Of.l0])
       | succ k2 =>
        have H := HA.out
        clear HA
        simp only [steepleref01_Of.l0] at H
        by_cases c12 : x6_2 < 128
        ·rw [if_pos c12] at H
         have c12b0 : decide (x6_2 < 128) = true := decide_eq_true c12
         clear c12
         obtain ⟨t209, A13, H⟩ := bm2 H
         replace H : (if t209 = 1 then (some false) else (steepleref01_Of.l0 k2 (wrap64 (x6_2 + 1)) a1_0 a1_1)) = some r := H
         by_cases c14 : t209 = 1
         ·rw [if_pos c14] at H
          have c14b0 : (t209 == 1) = true := beq_iff_eq.mpr c14
          have c14b1 : (t209 != 1) = false := bne_eq_false_iff_eq.mpr c14
          clear c14
          obtain rfl := Option.some.inj H
          obtain ⟨hcz15_0, hcz15_1⟩ := zc2 BK204
          obtain ⟨hfz15_0, hfz15_1⟩ := zf2 BK204
          go_wp2_with (first | ((with_reducible refine gate_callee (f := 94) rfl ?_); refine goesL_ (some 24) rfl rfl Try.func94 (by kernel_rfl) rfl #[.agg #[.int .u64 a1_0, .int .u64 a1_1], .int .i64 x6_2] rfl (by (try simp only [List.map_toArray, List.map_cons, List.map_nil]); first | done | rfl | (simp only [List.length_drop, List.length_take]; rfl)) ?_; (with_reducible refine (steepleref01_bit.calls a1_0 a1_1 x6_2 t209 _ A13.out).mono ?_); rintro e w16 ⟨rfl, hb⟩; refine ⟨_, rfl, ?_⟩; replace BK204 := bb BK204 hb; replace HB := bh HB hb; (try clear hb); (try clear hb2); (try clear hk); (try clear hi)))
          go_ret
          exact ⟨er, bq HB.out⟩
         ·rw [if_neg c14] at H
          have c14b0 : (t209 == 1) = false := beq_eq_false_iff_ne.mpr c14
          have c14b1 : (t209 != 1) = true := bne_iff_ne.mpr c14
          have H' := Aside0.mk H
          clear H
          obtain ⟨hcz17_0, hcz17_1⟩ := zc2 BK204
          obtain ⟨hfz17_0, hfz17_1⟩ := zf2 BK204
          go_wp2_with (first | ((with_reducible refine gate_callee (f := 94) rfl ?_); refine goesL_ (some 24) rfl rfl Try.func94 (by kernel_rfl) rfl #[.agg #[.int .u64 a1_0, .int .u64 a1_1], .int .i64 x6_2] rfl (by (try simp only [List.map_toArray, List.map_cons, List.map_nil]); first | done | rfl | (simp only [List.length_drop, List.length_take]; rfl)) ?_; (with_reducible refine (steepleref01_bit.calls a1_0 a1_1 x6_2 t209 _ A13.out).mono ?_); rintro e w18 ⟨rfl, hb⟩; refine ⟨_, rfl, ?_⟩; replace BK204 := bb BK204 hb; replace HB := bh HB hb; (try clear hb); (try clear hb2); (try clear hk); (try clear hi)))
          go_roundg k2
          case measure => have := HJ2.out; have := HK2.out; omega
          case rel => exact ⟨(wrap64 (x6_2 + 1)), (by first | rfl | (simp; done) | (simp [*]; done)), H', ⟨by have := HJ2.out; have := HK2.out; omega⟩, ⟨bk BK204.out⟩, ⟨bq HB.out⟩⟩
        ·rw [if_neg c12] at H
         have c12b0 : decide (x6_2 < 128) = false := decide_eq_false c12
         clear c12
         obtain rfl := Option.some.inj H
         go_wp2
         go_ret
         exact ⟨er, bq HB.out⟩
     ·rw [if_neg c10] at H
      exact absurd H (by simp)
    ·rw [if_neg c9] at H
     exact absurd H (by simp)

def steepleref06_All.l0 : Nat → Int → List (S70) → Int → Option (Bool)
 | 0, _, _, _ => none
 | k + 1, x0, x1, x5 => if x5 < (x1.length : Int) then (if 0 ≤ x5 then ((steepleref01_Of.f k x0 ((rd_T70 x1 x5).f0) ((rd_T70 x1 x5).f1)).bind fun t211 => (if t211 = true then (steepleref06_All.l0 k x0 x1 (wrap64 (x5 + 1))) else (some false))) else (none)) else (some true)
def steepleref06_All.f (k : Nat) (a0 : Int) (l1 : List (S70)) : Option (Bool) := steepleref06_All.l0 k a0 l1 0
theorem steepleref06_All.calls (k : Nat) (a0 : Int) (A1 : Option Addr) (c1 : Nat) (l1 : List (S70)) (r : Bool) (w : World) (hr1 : Kd.C k70 w A1 l1.length l1) (hc1 : l1.length ≤ c1) (h : steepleref06_All.f k a0 l1 = some r) :
  Calls Try.prog 108 #[.int .i64 a0, .slice A1 l1.length c1] w fun e w' => e = .returned (.bool r) ∧ Below w.heap.size w w' := by
 have hu70 := Try.underlying70
 have HR1 := Aside0.mk hr1
 have HC1 := Aside0.mk hc1
 clear hr1 hc1
 have HB := Aside0.mk (Below.refl w.heap.size w)
 have H : (steepleref06_All.l0 k a0 l1 0) = some r := h
 clear h
 have H' := Aside0.mk H
 clear H
 go_enter Try.func108, Try.ntmps108
 go_wp2
 go_loopg [5] k (fun kq v5 w' => ∃ (x5_1 : Int), v5 = .int .i64 x5_1 ∧ Aside0 (steepleref06_All.l0 kq a0 l1 x5_1 = some r) ∧ Aside0 (kq ≤ k) ∧ Aside0 (Below w.heap.size w w'))
 case atStart => exact ⟨(0), (by first | rfl | (simp; done) | (simp [*]; done)), H', ⟨Nat.le_refl _⟩, ⟨bq HB.out⟩⟩
 case round =>
  clear H'
  try clear c1
  try clear p2
  obtain ⟨x5_1, rfl, HA, HK1, HB⟩ := hrel
  cases gk with
  | zero => exact absurd HA.out (by simp [steepleref06_All.l0])
  | succ k1 =>
   have H := HA.out
   clear HA
   simp only [steepleref06_All.l0] at H
   by_cases c3 : x5_1 < (l1.length : Int)
   ·rw [if_pos c3] at H
    have c3b0 : decide (x5_1 < (l1.length : Int)) = true := decide_eq_true c3
    clear c3
    by_cases c4 : 0 ≤ x5_1
    ·rw [if_pos c4] at H
     have c4b0 : decide (0 ≤ x5_1) = true := decide_eq_true c4
     clear c4
     obtain ⟨t211, A5, H⟩ := bm2 H
     replace H : (if t211 = true then (steepleref06_All.l0 k1 a0 l1 (wrap64 (x5_1 + 1))) else (some false)) = some r := H
     by_cases c6 : t211 = true
     ·subst c6
      have H1 : (steepleref06_All.l0 k1 a0 l1 (wrap64 (x5_1 + 1))) = some r := by rw [if_pos rfl] at H; exact H
      clear H
      have H := H1
      clear H1
      have H' := Aside0.mk H
      clear H
      have p210 : 0 ≤ (x5_1 : Int) := dt
      have q210 : x5_1 < (l1.length : Int) := dt
      obtain ⟨ad210, e210, hx210_0, hx210_1⟩ := at_T70 HR1.out x5_1 p210 q210
      cases e210
      replace hx210_0 := (HB.out.cell (World.block_lt_of_cell? w _ hx210_0)).trans hx210_0
      replace hx210_1 := (HB.out.cell (World.block_lt_of_cell? w _ hx210_1)).trans hx210_1
      replace p210 := eq_true p210
      replace q210 := eq_true q210
      go_wp2_with (first | ((with_reducible refine gate_callee (f := 92) rfl ?_); refine goesL_ (some 17) rfl rfl Try.func92 (by kernel_rfl) rfl #[.int .i64 a0, .agg #[.int .u64 ((rd_T70 l1 x5_1).f0), .int .u64 ((rd_T70 l1 x5_1).f1)]] rfl (by (try simp only [List.map_toArray, List.map_cons, List.map_nil]); first | done | rfl | (simp only [List.length_drop, List.length_take]; rfl)) ?_; (with_reducible refine (steepleref01_Of.calls k1 a0 ((rd_T70 l1 x5_1).f0) ((rd_T70 l1 x5_1).f1) true _ A5.out).mono ?_); rintro e w7 ⟨rfl, hb⟩; refine ⟨_, rfl, ?_⟩; replace HB := bh HB hb; (try clear hb); (try clear hb2); (try clear hk); (try clear hi)))
      go_roundg k1
      case measure => have := HK1.out; omega
      case rel => exact ⟨(wrap64 (x5_1 + 1)), (by first | rfl | (simp; done) | (simp [*]; done)), H', ⟨by have := HK1.out; omega⟩, ⟨bq HB.out⟩⟩
     ·replace c6 := Bool.eq_false_iff.mpr c6
      subst c6
      have H1 : (some false) = some r := by rw [if_neg (show ¬ (false = true) by decide)] at H; exact H
      clear H
      have H := H1
      clear H1
      obtain rfl := Option.some.inj H
      have p210 : 0 ≤ (x5_1 : Int) := dt
      have q210 : x5_1 < (l1.length : Int) := dt
      obtain ⟨ad210, e210, hx210_0, hx210_1⟩ := at_T70 HR1.out x5_1 p210 q210
      cases e210
      replace hx210_0 := (HB.out.cell (World.block_lt_of_cell? w _ hx210_0)).trans hx210_0
      replace hx210_1 := (HB.out.cell (World.block_lt_of_cell? w _ hx210_1)).trans hx210_1
      replace p210 := eq_true p210
      replace q210 := eq_true q210
      go_wp2_with (first | ((with_reducible refine gate_callee (f := 92) rfl ?_); refine goesL_ (some 17) rfl rfl Try.func92 (by kernel_rfl) rfl #[.int .i64 a0, .agg #[.int .u64 ((rd_T70 l1 x5_1).f0), .int .u64 ((rd_T70 l1 x5_1).f1)]] rfl (by (try simp only [List.map_toArray, List.map_cons, List.map_nil]); first | done | rfl | (simp only [List.length_drop, List.length_take]; rfl)) ?_; (with_reducible refine (steepleref01_Of.calls k1 a0 ((rd_T70 l1 x5_1).f0) ((rd_T70 l1 x5_1).f1) false _ A5.out).mono ?_); rintro e w8 ⟨rfl, hb⟩; refine ⟨_, rfl, ?_⟩; replace HB := bh HB hb; (try clear hb); (try clear hb2); (try clear hk); (try clear hi)))
      go_ret
      exact ⟨er, bq HB.out⟩
    ·rw [if_neg c4] at H
     exact absurd H (by simp)
   ·rw [if_neg c3] at H
    have c3b0 : decide (x5_1 < (l1.length : Int)) = false := decide_eq_false c3
    clear c3
    obtain rfl := Option.some.inj H
    go_wp2
    go_ret
    exact ⟨er, bq HB.out⟩

def steepleref29_lists.l0 : Nat → Int → List (List (S70)) → Int → Option (Bool)
 | 0, _, _, _ => none
 | k + 1, x0, x1, x5 => if x5 < (x1.length : Int) then (if 0 ≤ x5 then (if ((rd_L7 x1 x5).length : Int) > 4096 then (some false) else ((steepleref06_All.f k x0 (rd_L7 x1 x5)).bind fun t214 => (if t214 = true then (steepleref29_lists.l0 k x0 x1 (wrap64 (x5 + 1))) else (some false)))) else (none)) else (some (decide ((x1.length : Int) ≤ 4096)))
def steepleref29_lists.f (k : Nat) (a0 : Int) (l1 : List (List (S70))) : Option (Bool) := steepleref29_lists.l0 k a0 l1 0
theorem steepleref29_lists.calls (k : Nat) (a0 : Int) (A1 : Option Addr) (c1 : Nat) (l1 : List (List (S70))) (r : Bool) (w : World) (hr1 : Kd.C (Kd.slice 70 k70) w A1 l1.length l1) (hc1 : l1.length ≤ c1) (h : steepleref29_lists.f k a0 l1 = some r) :
  Calls Try.prog 72 #[.int .i64 a0, .slice A1 l1.length c1] w fun e w' => e = .returned (.bool r) ∧ Below w.heap.size w w' := by
 have HR1 := Aside0.mk hr1
 have HC1 := Aside0.mk hc1
 clear hr1 hc1
 have HB := Aside0.mk (Below.refl w.heap.size w)
 have H : (steepleref29_lists.l0 k a0 l1 0) = some r := h
 clear h
 have H' := Aside0.mk H
 clear H
 go_enter Try.func72, Try.ntmps72
 go_wp2
 go_loopg [5] k (fun kq v5 w' => ∃ (x5_1 : Int), v5 = .int .i64 x5_1 ∧ Aside0 (steepleref29_lists.l0 kq a0 l1 x5_1 = some r) ∧ Aside0 (kq ≤ k) ∧ Aside0 (Below w.heap.size w w'))
 case atStart => exact ⟨(0), (by first | rfl | (simp; done) | (simp [*]; done)), H', ⟨Nat.le_refl _⟩, ⟨bq HB.out⟩⟩
 case round =>
  clear H'
  try clear c1
  try clear p2
  obtain ⟨x5_1, rfl, HA, HK1, HB⟩ := hrel
  cases gk with
  | zero => exact absurd HA.out (by simp [steepleref29_lists.l0])
  | succ k1 =>
   have H := HA.out
   clear HA
   simp only [steepleref29_lists.l0] at H
   by_cases c3 : x5_1 < (l1.length : Int)
   ·rw [if_pos c3] at H
    have c3b0 : decide (x5_1 < (l1.length : Int)) = true := decide_eq_true c3
    clear c3
    by_cases c4 : 0 ≤ x5_1
    ·rw [if_pos c4] at H
     have c4b0 : decide (0 ≤ x5_1) = true := decide_eq_true c4
     clear c4
     by_cases c5 : ((rd_L7 l1 x5_1).length : Int) > 4096
     ·rw [if_pos c5] at H
      have c5b0 : decide (4096 < ((rd_L7 l1 x5_1).length : Int)) = true := decide_eq_true c5
      have c5b1 : decide (4096 < (rd_L7 l1 x5_1).length) = true := decide_eq_true (by omega)
      clear c5
      obtain rfl := Option.some.inj H
      have p212 : 0 ≤ (x5_1 : Int) := dt
      have q212 : x5_1 < (l1.length : Int) := dt
      obtain ⟨ad212, A212_0, c212_0, e212, hx212_0, hl212_0, hi212_0⟩ := at_L7 HR1.out x5_1 p212 q212
      cases e212
      replace hx212_0 := (HB.out.cell (World.block_lt_of_cell? w _ hx212_0)).trans hx212_0
      have HR212_0 := Aside0.mk hi212_0
      have HC212_0 := Aside0.mk hl212_0
      clear hi212_0 hl212_0
      replace p212 := eq_true p212
      replace q212 := eq_true q212
      go_wp2
      go_ret
      exact ⟨er, bq HB.out⟩
     ·rw [if_neg c5] at H
      have c5b0 : decide (4096 < ((rd_L7 l1 x5_1).length : Int)) = false := decide_eq_false c5
      have c5b1 : decide (4096 < (rd_L7 l1 x5_1).length) = false := decide_eq_false (by omega)
      clear c5
      obtain ⟨t214, A6, H⟩ := bm2 H
      replace H : (if t214 = true then (steepleref29_lists.l0 k1 a0 l1 (wrap64 (x5_1 + 1))) else (some false)) = some r := H
      by_cases c7 : t214 = true
      ·subst c7
       have H1 : (steepleref29_lists.l0 k1 a0 l1 (wrap64 (x5_1 + 1))) = some r := by rw [if_pos rfl] at H; exact H
       clear H
       have H := H1
       clear H1
       have H' := Aside0.mk H
       clear H
       have p212 : 0 ≤ (x5_1 : Int) := dt
       have q212 : x5_1 < (l1.length : Int) := dt
       obtain ⟨ad212, A212_0, c212_0, e212, hx212_0, hl212_0, hi212_0⟩ := at_L7 HR1.out x5_1 p212 q212
       cases e212
       replace hx212_0 := (HB.out.cell (World.block_lt_of_cell? w _ hx212_0)).trans hx212_0
       have HR212_0 := Aside0.mk hi212_0
       have HC212_0 := Aside0.mk hl212_0
       clear hi212_0 hl212_0
       replace p212 := eq_true p212
       replace q212 := eq_true q212
       have p213 : 0 ≤ (x5_1 : Int) := dt
       have q213 : x5_1 < (l1.length : Int) := dt
       obtain ⟨ad213, A213_0, c213_0, e213, hx213_0, hl213_0, hi213_0⟩ := at_L7 HR1.out x5_1 p213 q213
       obtain rfl : ad212 = ad213 := (by injection e213)
       replace hx213_0 := (HB.out.cell (World.block_lt_of_cell? w _ hx213_0)).trans hx213_0
       have HR213_0 := Aside0.mk hi213_0
       have HC213_0 := Aside0.mk hl213_0
       clear hi213_0 hl213_0
       replace p213 := eq_true p213
       replace q213 := eq_true q213
       have ea_ := Option.some.inj (hx212_0.symm.trans hx213_0)
       injection ea_ with ea_ en_ ec_
       subst ea_
       subst ec_
       clear en_
       go_wp2_with (first | (go_at_call 108; (with_reducible refine (steepleref06_All.calls k1 a0 _ _ (rd_L7 l1 x5_1) true _ ?side1 ?side2 A6.out).mono ?_); (case side1 => exact cq (Kd.C_below HR213_0.out HB.out)); (case side2 => exact HC213_0.out); rintro e w8 ⟨rfl, hb⟩; replace HB := bh HB hb; (try clear hb); (try clear hb2); (try clear hk); (try clear hi)))
       go_roundg k1
       case measure => have := HK1.out; omega
       case rel => exact ⟨(wrap64 (x5_1 + 1)), (by first | rfl | (simp; done) | (simp [*]; done)), H', ⟨by have := HK1.out; omega⟩, ⟨bq HB.out⟩⟩
      ·replace c7 := Bool.eq_false_iff.mpr c7
       subst c7
       have H1 : (some false) = some r := by rw [if_neg (show ¬ (false = true) by decide)] at H; exact H
       clear H
       have H := H1
       clear H1
       obtain rfl := Option.some.inj H
       have p212 : 0 ≤ (x5_1 : Int) := dt
       have q212 : x5_1 < (l1.length : Int) := dt
       obtain ⟨ad212, A212_0, c212_0, e212, hx212_0, hl212_0, hi212_0⟩ := at_L7 HR1.out x5_1 p212 q212
       cases e212
       replace hx212_0 := (HB.out.cell (World.block_lt_of_cell? w _ hx212_0)).trans hx212_0
       have HR212_0 := Aside0.mk hi212_0
       have HC212_0 := Aside0.mk hl212_0
       clear hi212_0 hl212_0
       replace p212 := eq_true p212
       replace q212 := eq_true q212
       have p213 : 0 ≤ (x5_1 : Int) := dt
       have q213 : x5_1 < (l1.length : Int) := dt
       obtain ⟨ad213, A213_0, c213_0, e213, hx213_0, hl213_0, hi213_0⟩ := at_L7 HR1.out x5_1 p213 q213
       obtain rfl : ad212 = ad213 := (by injection e213)
       replace hx213_0 := (HB.out.cell (World.block_lt_of_cell? w _ hx213_0)).trans hx213_0
       have HR213_0 := Aside0.mk hi213_0
       have HC213_0 := Aside0.mk hl213_0
       clear hi213_0 hl213_0
       replace p213 := eq_true p213
       replace q213 := eq_true q213
       have ea_ := Option.some.inj (hx212_0.symm.trans hx213_0)
       injection ea_ with ea_ en_ ec_
       subst ea_
       subst ec_
       clear en_
       go_wp2_with (first | (go_at_call 108; (with_reducible refine (steepleref06_All.calls k1 a0 _ _ (rd_L7 l1 x5_1) false _ ?side1 ?side2 A6.out).mono ?_); (case side1 => exact cq (Kd.C_below HR213_0.out HB.out)); (case side2 => exact HC213_0.out); rintro e w9 ⟨rfl, hb⟩; replace HB := bh HB hb; (try clear hb); (try clear hb2); (try clear hk); (try clear hi)))
       go_ret
       exact ⟨er, bq HB.out⟩
    ·rw [if_neg c4] at H
     exact absurd H (by simp)
   ·rw [if_neg c3] at H
    have c3b0 : decide (x5_1 < (l1.length : Int)) = false := decide_eq_false c3
    clear c3
    obtain rfl := Option.some.inj H
    go_wp2
    go_ret
    exact ⟨er, bq HB.out⟩

end Go.Proofs.Ythgiifakcgjlaaa.P
