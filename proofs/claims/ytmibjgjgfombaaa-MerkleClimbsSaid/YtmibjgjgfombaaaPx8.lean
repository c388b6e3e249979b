/- Written by a program of this session: functions that the law reaches, as Lean functions, and that the code comes to their answers. Conditions: those that each theorem names. -/
import Derived.Test.YtmibjgjgfombaaaPx0
import Derived.Test.YtmibjgjgfombaaaPx7
namespace Go.Proofs.Ytmibjgjgfombaaa.P
open Go.RowKit Go.Proofs.YtmibjgjgfombaaaX Go.Proofs.YtmibjgjgfombaaaW.PrintWords Go.Proofs.YtmibjgjgfombaaaW.PrintLast Go.Proofs.YtmibjgjgfombaaaW.PrintMore
attribute [local go_sem] max2_int min2_int max_two min_two max_three min_three max_four min_four   -- for this text's walks alone
set_option linter.unusedVariables false
set_option linter.unusedSimpArgs false
set_option maxRecDepth 100000 in
theorem fld_lo8b (w : World) (a b : Int) : Sem.run Try.prog (Instr.field 91 (Value.agg #[Value.int IntKind.u64 a, Value.int IntKind.u64 b]) 1) w = Result.ok (Value.int IntKind.u64 b) w := by
  have hu := Try.underlying91
  go_simp
  rfl
attribute [local go_sem] fld_lo8b
set_option maxRecDepth 100000 in
theorem fld_lo8a (w : World) (a b : Int) : Sem.run Try.prog (Instr.field 87 (Value.agg #[Value.int IntKind.u64 a, Value.int IntKind.u64 b]) 1) w = Result.ok (Value.int IntKind.u64 b) w := by
  have hu := Try.underlying87
  go_simp
  rfl
attribute [local go_sem] fld_lo8a

/-! ### steepleref01_Of: function 76 -/
mutual
def steepleref01_Of.j0 : Nat → Int → List Int → Bool → Int → Int → Option (Bool)
 | 0, _, _, _, _, _ => none
 | k + 1, x0, x5, x13, x237000, x237001 => if x13 = true then (some false) else (if 0 ≤ x0 then (if x0 < (x5.length : Int) then (steepleref01_Of.l0 k (rd x5 x0) x237000 x237001) else (none)) else (none))
def steepleref01_Of.l0 : Nat → Int → Int → Int → Option (Bool)
 | 0, _, _, _ => none
 | k + 1, x6, x237000, x237001 => if x6 < 128 then ((steepleref01_bit.f x237000 x237001 x6).bind fun t241 => (if t241 = 1 then (some false) else (steepleref01_Of.l0 k (wrap64 (x6 + 1)) x237000 x237001))) else (some true)
end
def steepleref01_Of.f (k : Nat) (a0 : Int) (a1_0 : Int) (a1_1 : Int) : Option (Bool) := (some (([1, 2, 4, 8, 16, 32, 64, 128] : List Int) : List Int)).bind fun y237 => (if a0 < 0 then (steepleref01_Of.j0 k a0 y237 true a1_0 a1_1) else (steepleref01_Of.j0 k a0 y237 (decide (a0 > 7)) a1_0 a1_1))
set_option maxHeartbeats 8000000 in
set_option maxRecDepth 100000 in
theorem steepleref01_Of.calls (k : Nat) (a0 : Int) (a1_0 : Int) (a1_1 : Int) (r : Bool) (w : World) (h : steepleref01_Of.f k a0 a1_0 a1_1 = some r) :
  Calls Try.prog 76 #[.int .i64 a0, .agg #[.int .u64 a1_0, .int .u64 a1_1]] w fun e w' => e = .returned (.bool r) ∧ Below w.heap.size w w' := by
 have hu91 := Try.underlying91
 have HB := Aside0.mk (Below.refl w.heap.size w)
 have H : ((some (([1, 2, 4, 8, 16, 32, 64, 128] : List Int) : List Int)).bind fun y237 => (if a0 < 0 then (steepleref01_Of.j0 k a0 y237 true a1_0 a1_1) else (steepleref01_Of.j0 k a0 y237 (decide (a0 > 7)) a1_0 a1_1))) = some r := h
 clear h
 obtain ⟨y237, hy237⟩ : ∃ y_ : List Int, y_ = (([1, 2, 4, 8, 16, 32, 64, 128] : List Int)) := ⟨_, rfl⟩
 replace H : (if a0 < 0 then (steepleref01_Of.j0 k a0 y237 true a1_0 a1_1) else (steepleref01_Of.j0 k a0 y237 (decide (a0 > 7)) a1_0 a1_1)) = some r := by first | (rw [hy237]; with_reducible exact H) | (have H2_ := (Option.bind_some _ _).symm.trans H; rw [hy237]; with_reducible exact H2_) | (have H2_ := (Option.bind_some _ _).symm.trans H; with_reducible exact H2_) | with_reducible exact H | (rw [hy237]; exact H) | exact H
 have Ny237 := Aside0.mk hy237
 clear hy237
 have HC3 := Aside0.mk H
 clear H
 go_enter Try.func76, Try.ntmps76
 go_upto_region 2 with (first | ((with_reducible refine gate_dst (N := 3) rfl ?_); refine box_event ?hg (N := 3) ?hd (cs := #[.int .u64 a1_0, .int .u64 a1_1]) (t := 91) ?hr ?_; (case hd => rfl); (case hg => rfl); (case hr => first | (go_simp; done) | (go_simp; rfl)); intro gb236 hg w4 hbox hb; have BK236 := Aside0.mk hbox; have GW236 := ge hg HB; have GE236 := ge hg HB; replace HB := bh HB hb; clear hb hbox hg) | ((with_reducible refine gate_dst (N := 7) rfl ?_); refine Kd.R_lit (Kd.int .i64) _ 3 ?hg (N := 7) ?hd (xs := ([1, 2, 4, 8, 16, 32, 64, 128] : List Int)) (inner := [.int .i64 1, .int .i64 2, .int .i64 4, .int .i64 8, .int .i64 16, .int .i64 32, .int .i64 64, .int .i64 128]) (ok := fun _ => True) (okp := fun _ => True) ?hr ?hp (fun _ hk => hk) trivial (Below.refl _ _) (Nat.le_refl _) (by simp) ?_; (case hd => rfl); (case hg => rfl); (case hr => first | (go_simp; done) | (go_simp; rfl)); (case hp => exact (Reps.one (show Kd.M (Kd.int .i64) _ _ _ 1 [.int .i64 1] from rfl) (Reps.one (show Kd.M (Kd.int .i64) _ _ _ 2 [.int .i64 2] from rfl) (Reps.one (show Kd.M (Kd.int .i64) _ _ _ 4 [.int .i64 4] from rfl) (Reps.one (show Kd.M (Kd.int .i64) _ _ _ 8 [.int .i64 8] from rfl) (Reps.one (show Kd.M (Kd.int .i64) _ _ _ 16 [.int .i64 16] from rfl) (Reps.one (show Kd.M (Kd.int .i64) _ _ _ 32 [.int .i64 32] from rfl) (Reps.one (show Kd.M (Kd.int .i64) _ _ _ 64 [.int .i64 64] from rfl) (Reps.one (show Kd.M (Kd.int .i64) _ _ _ 128 [.int .i64 128] from rfl) (Reps.none _ _)))))))))); intro v238 w5 ho6 hb hg_ hnew_; clear hg_ hnew_; (first | rw [← Ny237.out] at ho6 | (simp only [Int.reduceToNat] at ho6; rw [← Ny237.out] at ho6)); have HO239 := kw ho6 HB; replace BK236 := bb BK236 hb; replace HB := bh HB hb; clear hb ho6))
 (try simp only [Act.put, List.setIfInBounds_toArray, List.set_cons_zero, List.set_cons_succ])
 go_cut [13] (fun v13 wc => ∃ (kq : Nat) (x13_2 : Bool), v13 = .bool x13_2 ∧ Aside0 (steepleref01_Of.j0 kq a0 y237 x13_2 a1_0 a1_1 = some r) ∧ Aside0 (kq ≤ k) ∧ Aside0 (Kd.R (Kd.int .i64) 3 wc w.heap.size (fun _ => True) v238 y237) ∧ Aside0 (wc.heap[gb236]? = some (.cells #[.int .u64 a1_0, .int .u64 a1_1] 91 (0, 0))) ∧ Aside0 (Below w.heap.size w wc))
 case first =>
  have H := HC3.out
  clear HC3
  by_cases c7 : a0 < 0
  ·rw [if_pos c7] at H
   have c7b0 : decide (a0 < 0) = true := decide_eq_true c7
   clear c7
   (first | rw [c7b0] | (simp only [i64_w, i32_w]; rw [c7b0]) | skip)
   have H' := Aside0.mk H
   clear H
   go_wp2
   go_meet
   case rel => exact ⟨_, (true), (by first | rfl | (simp; done) | (simp [*]; done)), H', ⟨by first | omega | exact Nat.le_refl _⟩, ⟨kr HO239.out⟩, ⟨bk BK236.out⟩, ⟨bq HB.out⟩⟩
  ·rw [if_neg c7] at H
   have c7b0 : decide (a0 < 0) = false := decide_eq_false c7
   clear c7
   (first | rw [c7b0] | (simp only [i64_w, i32_w]; rw [c7b0]) | skip)
   have H' := Aside0.mk H
   clear H
   go_wp2
   go_meet
   case rel => exact ⟨_, (decide (a0 > 7)), (by first | rfl | (simp; done) | (simp [*]; done)), H', ⟨by first | omega | exact Nat.le_refl _⟩, ⟨kr HO239.out⟩, ⟨bk BK236.out⟩, ⟨bq HB.out⟩⟩
 case rest =>
  clear HC3
  try clear p2
  try clear c7
  try clear c7b0
  obtain ⟨kq, x13_2, rfl, HA, HJ2, HO_5, BK236, HB⟩ := hcut
  cases kq with
  | zero => exact absurd HA.out (by simp [steepleref01_Of.j0])
  | succ kj2 =>
   have H := HA.out
   clear HA
   simp only [steepleref01_Of.j0] at H
   by_cases c8 : x13_2 = true
   ·subst c8
    have H1 : (some false) = some r := by rw [if_pos rfl] at H; exact H
    clear H
    have H := H1
    clear H1
    obtain rfl := Option.some.inj H
    go_wp2
    go_ret
    exact ⟨by first | rfl | (simp [errW_none, errW_some] <;> rfl) | (simp [*, errW_none, errW_some] <;> rfl), bq HB.out⟩
   ·replace c8 := Bool.eq_false_iff.mpr c8
    subst c8
    have H1 : (if 0 ≤ a0 then (if a0 < (y237.length : Int) then (steepleref01_Of.l0 kj2 (rd y237 a0) a1_0 a1_1) else (none)) else (none)) = some r := by rw [if_neg (show ¬ (false = true) by decide)] at H; exact H
    clear H
    have H := H1
    clear H1
    by_cases c9 : 0 ≤ a0
    ·rw [if_pos c9] at H
     have c9b0 : decide (0 ≤ a0) = true := decide_eq_true c9
     clear c9
     by_cases c10 : a0 < (y237.length : Int)
     ·rw [if_pos c10] at H
      have c10b0 : decide (a0 < (y237.length : Int)) = true := decide_eq_true c10
      clear c10
      have H' := Aside0.mk H
      clear H
      obtain ⟨Ao11, co11, eo11⟩ := Kd.R_slice HO_5.out
      subst eo11
      have p240 : 0 ≤ (a0 : Int) := of_decide_eq_true (by first | (with_reducible assumption) | assumption)
      have q240 : a0 < (y237.length : Int) := of_decide_eq_true (by first | (with_reducible assumption) | assumption)
      (try (obtain ⟨Ap_, cp_, ep_⟩ := Kd.R_slice HO_5.out; subst ep_))
      obtain ⟨ad240, e240, hx240_0⟩ := Kd.at_int (Kd.R_reads' HO_5.out).2.2 a0 p240 q240
      cases e240
      replace p240 := eq_true p240
      replace q240 := eq_true q240
      go_wp2
      go_loopg [6] kj2 (fun kq v6 w' => ∃ (x6_2 : Int), v6 = .int .i64 x6_2 ∧ Aside0 (steepleref01_Of.l0 kq x6_2 a1_0 a1_1 = some r) ∧ Aside0 (kq ≤ kj2) ∧ Aside0 (w'.heap[gb236]? = some (.cells #[.int .u64 a1_0, .int .u64 a1_1] 91 (0, 0))) ∧ Aside0 (Below w.heap.size w w'))
      case atStart => exact ⟨(rd y237 a0), (by first | rfl | (simp; done) | (simp [*]; done)), H', ⟨Nat.le_refl _⟩, ⟨bk BK236.out⟩, ⟨bq HB.out⟩⟩
      case round =>
       clear H'
       try clear c1
       try clear p2
       try clear q2
       try clear hx2
       try clear c7
       try clear c7b0
       try clear c8
       try clear c9
       try clear c9b0
       try clear c10
       try clear c10b0
       try clear hx240_0
       try clear p2
       try clear p240
       try clear q240
       obtain ⟨x6_2, rfl, HA, HK2, BK236, HB⟩ := hrel
       cases gk with
       | zero => exact absurd HA.out (by simp [steepleref01_Of.l0])
       | succ k2 =>
        have H := HA.out
        clear HA
        simp only [steepleref01_Of.l0] at H
        by_cases c12 : x6_2 < 128
        ·rw [if_pos c12] at H
         have c12b0 : decide (x6_2 < 128) = true := decide_eq_true c12
         clear c12
         replace H := Option.bind_eq_some_iff.mp H
         obtain ⟨t241, A130, H⟩ := H
         replace H : (if t241 = 1 then (some false) else (steepleref01_Of.l0 k2 (wrap64 (x6_2 + 1)) a1_0 a1_1)) = some r := H
         have A13 := Aside0.mk A130
         clear A130
         by_cases c14 : t241 = 1
         ·rw [if_pos c14] at H
          have c14b0 : (t241 == 1) = true := beq_iff_eq.mpr c14
          have c14b1 : (t241 != 1) = false := bne_eq_false_iff_eq.mpr c14
          clear c14
          obtain rfl := Option.some.inj H
          obtain ⟨hcz15_0, hcz15_1⟩ := zc2 BK236
          obtain ⟨hfz15_0, hfz15_1⟩ := zf2 BK236
          go_wp2_with (first | ((with_reducible refine gate_callee (f := 92) rfl ?_); refine goesL_ (some 24) rfl rfl Try.func92 (by kernel_rfl) rfl #[.agg #[.int .u64 a1_0, .int .u64 a1_1], .int .i64 x6_2] rfl (by (try simp only [List.map_toArray, List.map_cons, List.map_nil]); first | done | rfl | (simp only [List.length_drop, List.length_take]; rfl)) ?_; (with_reducible refine (steepleref01_bit.calls a1_0 a1_1 x6_2 t241 _ A13.out).mono ?_); rintro e w16 ⟨rfl, hb⟩; refine ⟨_, rfl, ?_⟩; replace BK236 := bb BK236 hb; replace HB := bh HB hb; (try clear hb); (try clear hb2); (try clear hk); (try clear hi)))
          go_ret
          exact ⟨by first | rfl | (simp [errW_none, errW_some] <;> rfl) | (simp [*, errW_none, errW_some] <;> rfl), bq HB.out⟩
         ·rw [if_neg c14] at H
          have c14b0 : (t241 == 1) = false := beq_eq_false_iff_ne.mpr c14
          have c14b1 : (t241 != 1) = true := bne_iff_ne.mpr c14
          have H' := Aside0.mk H
          clear H
          obtain ⟨hcz17_0, hcz17_1⟩ := zc2 BK236
          obtain ⟨hfz17_0, hfz17_1⟩ := zf2 BK236
          go_wp2_with (first | ((with_reducible refine gate_callee (f := 92) rfl ?_); refine goesL_ (some 24) rfl rfl Try.func92 (by kernel_rfl) rfl #[.agg #[.int .u64 a1_0, .int .u64 a1_1], .int .i64 x6_2] rfl (by (try simp only [List.map_toArray, List.map_cons, List.map_nil]); first | done | rfl | (simp only [List.length_drop, List.length_take]; rfl)) ?_; (with_reducible refine (steepleref01_bit.calls a1_0 a1_1 x6_2 t241 _ A13.out).mono ?_); rintro e w18 ⟨rfl, hb⟩; refine ⟨_, rfl, ?_⟩; replace BK236 := bb BK236 hb; replace HB := bh HB hb; (try clear hb); (try clear hb2); (try clear hk); (try clear hi)))
          go_roundg k2
          case measure => have := HJ2.out; have := HK2.out; omega
          case rel => exact ⟨(wrap64 (x6_2 + 1)), (by first | rfl | (simp; done) | (simp [*]; done)), H', ⟨by have := HJ2.out; have := HK2.out; omega⟩, ⟨bk BK236.out⟩, ⟨bq HB.out⟩⟩
        ·rw [if_neg c12] at H
         have c12b0 : decide (x6_2 < 128) = false := decide_eq_false c12
         clear c12
         obtain rfl := Option.some.inj H
         go_wp2
         go_ret
         exact ⟨by first | rfl | (simp [errW_none, errW_some] <;> rfl) | (simp [*, errW_none, errW_some] <;> rfl), bq HB.out⟩
     ·rw [if_neg c10] at H
      exact absurd H (by simp)
    ·rw [if_neg c9] at H
     exact absurd H (by simp)

/-! ### steepleref02_Inv: function 53 -/
def steepleref02_Inv.l0 : Nat → Int → List Int → Int → Int → Int → Int → Int → Option (Int × Int)
 | 0, _, _, _, _, _, _, _ => none
 | k + 1, x0, x5, x8, x249000, x249001, x250000, x250001 => if 0 ≤ x0 then (if x0 < (x5.length : Int) then (if x8 < (rd x5 x0) then ((steepleref02_Product.f k x250000 x250001 x250000 x250001).bind fun bt251 => ((steepleref02_Product.f k x249000 x249001 bt251.1 bt251.2).bind fun bt253 => (steepleref02_Inv.l0 k x0 x5 (wrap64 (x8 + 1)) bt253.1 bt253.2 bt251.1 bt251.2))) else (some (x249000, x249001))) else (none)) else (none)
def steepleref02_Inv.f (k : Nat) (a0 : Int) (a1_0 : Int) (a1_1 : Int) : Option (Int × Int) := (steepleref01_Of.f k a0 a1_0 a1_1).bind fun t244 => (if t244 = true then (if a0 = 0 then (some (a1_0, a1_1)) else (steepleref02_Inv.l0 k a0 (([1, 2, 4, 8, 16, 32, 64, 128] : List Int)) 1 0 1 a1_0 a1_1)) else (some (0, 0)))
set_option maxHeartbeats 8000000 in
set_option maxRecDepth 100000 in
theorem steepleref02_Inv.calls (k : Nat) (a0 : Int) (a1_0 : Int) (a1_1 : Int) (r1 : Int) (r2 : Int) (w : World) (h : steepleref02_Inv.f k a0 a1_0 a1_1 = some (r1, r2)) :
  Calls Try.prog 53 #[.int .i64 a0, .agg #[.int .u64 a1_0, .int .u64 a1_1]] w fun e w' => e = .returned (.agg #[.int .u64 r1, .int .u64 r2]) ∧ Below w.heap.size w w' := by
 have hu91 := Try.underlying91
 have HB := Aside0.mk (Below.refl w.heap.size w)
 have H : ((steepleref01_Of.f k a0 a1_0 a1_1).bind fun t244 => (if t244 = true then (if a0 = 0 then (some (a1_0, a1_1)) else (steepleref02_Inv.l0 k a0 (([1, 2, 4, 8, 16, 32, 64, 128] : List Int)) 1 0 1 a1_0 a1_1)) else (some (0, 0)))) = some (r1, r2) := h
 clear h
 replace H := Option.bind_eq_some_iff.mp H
 obtain ⟨t244, A30, H⟩ := H
 replace H : (if t244 = true then (if a0 = 0 then (some (a1_0, a1_1)) else (steepleref02_Inv.l0 k a0 (([1, 2, 4, 8, 16, 32, 64, 128] : List Int)) 1 0 1 a1_0 a1_1)) else (some (0, 0))) = some (r1, r2) := H
 have A3 := Aside0.mk A30
 clear A30
 by_cases c4 : t244 = true
 ·subst c4
  have H1 : (if a0 = 0 then (some (a1_0, a1_1)) else (steepleref02_Inv.l0 k a0 (([1, 2, 4, 8, 16, 32, 64, 128] : List Int)) 1 0 1 a1_0 a1_1)) = some (r1, r2) := by rw [if_pos rfl] at H; exact H
  clear H
  have H := H1
  clear H1
  obtain ⟨y245, hy245⟩ : ∃ y_ : List Int, y_ = (([1, 2, 4, 8, 16, 32, 64, 128] : List Int)) := ⟨_, rfl⟩
  replace H : (if a0 = 0 then (some (a1_0, a1_1)) else (steepleref02_Inv.l0 k a0 y245 1 0 1 a1_0 a1_1)) = some (r1, r2) := by first | (rw [hy245]; with_reducible exact H) | (have H2_ := (Option.bind_some _ _).symm.trans H; rw [hy245]; with_reducible exact H2_) | (have H2_ := (Option.bind_some _ _).symm.trans H; with_reducible exact H2_) | with_reducible exact H | (rw [hy245]; exact H) | exact H
  have Ny245 := Aside0.mk hy245
  clear hy245
  by_cases c5 : a0 = 0
  ·rw [if_pos c5] at H
   have c5b0 : (a0 == 0) = true := beq_iff_eq.mpr c5
   have c5b1 : (a0 != 0) = false := bne_eq_false_iff_eq.mpr c5
   clear c5
   simp only [Option.some.injEq, Prod.mk.injEq] at H
   obtain ⟨rfl, rfl⟩ := H
   go_enter Try.func53, Try.ntmps53
   go_wp2_with (first | ((with_reducible refine gate_dst (N := 3) rfl ?_); refine box_event ?hg (N := 3) ?hd (cs := #[.int .u64 a1_0, .int .u64 a1_1]) (t := 91) ?hr ?_; (case hd => rfl); (case hg => rfl); (case hr => first | (go_simp; done) | (go_simp; rfl)); intro gb242 hg w6 hbox hb; have BK242 := Aside0.mk hbox; have GW242 := ge hg HB; have GE242 := ge hg HB; replace HB := bh HB hb; clear hb hbox hg) | ((with_reducible refine gate_dst (N := 4) rfl ?_); refine box_event ?hg (N := 4) ?hd (cs := #[.int .u64 0, .int .u64 0]) (t := 91) ?hr ?_; (case hd => rfl); (case hg => rfl); (case hr => first | (go_simp; done) | (go_simp; rfl)); intro gb243 hg w7 hbox hb; have BK243 := Aside0.mk hbox; have GW243 := ge hg HB; have GE243 := ge hg HB; have NB242_243 := nl hg BK242; have NB243_242 := ng hg BK242; replace BK242 := bb BK242 hb; replace HB := bh HB hb; clear hb hbox hg; have hnb8 := NB242_243.out; have hnc8 := NB243_242.out; obtain ⟨hcz9_0, hcz9_1⟩ := zc2 BK242; obtain ⟨hfz9_0, hfz9_1⟩ := zf2 BK242) | ((with_reducible refine gate_callee (f := 76) rfl ?_); refine goesL_ (some 11) rfl rfl Try.func76 (by kernel_rfl) rfl #[.int .i64 a0, .agg #[.int .u64 a1_0, .int .u64 a1_1]] rfl (by (try simp only [List.map_toArray, List.map_cons, List.map_nil]); first | done | rfl | (simp only [List.length_drop, List.length_take]; rfl)) ?_; (with_reducible refine (steepleref01_Of.calls k a0 a1_0 a1_1 true _ A3.out).mono ?_); rintro e w10 ⟨rfl, hb⟩; refine ⟨_, rfl, ?_⟩; replace BK242 := bb BK242 hb; replace BK243 := bb BK243 hb; replace HB := bh HB hb; (try clear hb); (try clear hb2); (try clear hk); (try clear hi)) | ((with_reducible refine gate_dst (N := 14) rfl ?_); refine Kd.R_lit (Kd.int .i64) _ 3 ?hg (N := 14) ?hd (xs := ([1, 2, 4, 8, 16, 32, 64, 128] : List Int)) (inner := [.int .i64 1, .int .i64 2, .int .i64 4, .int .i64 8, .int .i64 16, .int .i64 32, .int .i64 64, .int .i64 128]) (ok := fun _ => True) (okp := fun _ => True) ?hr ?hp (fun _ hk => hk) trivial (Below.refl _ _) (Nat.le_refl _) (by simp) ?_; (case hd => rfl); (case hg => rfl); (case hr => first | (go_simp; done) | (go_simp; rfl)); (case hp => exact (Reps.one (show Kd.M (Kd.int .i64) _ _ _ 1 [.int .i64 1] from rfl) (Reps.one (show Kd.M (Kd.int .i64) _ _ _ 2 [.int .i64 2] from rfl) (Reps.one (show Kd.M (Kd.int .i64) _ _ _ 4 [.int .i64 4] from rfl) (Reps.one (show Kd.M (Kd.int .i64) _ _ _ 8 [.int .i64 8] from rfl) (Reps.one (show Kd.M (Kd.int .i64) _ _ _ 16 [.int .i64 16] from rfl) (Reps.one (show Kd.M (Kd.int .i64) _ _ _ 32 [.int .i64 32] from rfl) (Reps.one (show Kd.M (Kd.int .i64) _ _ _ 64 [.int .i64 64] from rfl) (Reps.one (show Kd.M (Kd.int .i64) _ _ _ 128 [.int .i64 128] from rfl) (Reps.none _ _)))))))))); intro v246 w11 ho12 hb hg_ hnew_; clear hg_ hnew_; (first | rw [← Ny245.out] at ho12 | (simp only [Int.reduceToNat] at ho12; rw [← Ny245.out] at ho12)); have HO247 := kw ho12 HB; replace BK242 := bb BK242 hb; replace BK243 := bb BK243 hb; replace HB := bh HB hb; clear hb ho12; obtain ⟨hcz13_0, hcz13_1⟩ := zc2 BK242; obtain ⟨hfz13_0, hfz13_1⟩ := zf2 BK242; obtain ⟨hcz14_0, hcz14_1⟩ := zc2 BK243; obtain ⟨hfz14_0, hfz14_1⟩ := zf2 BK243))
   refine bodyPost_ret (results_cell_row rfl _ _ gb243 91 #[.int .u64 a1_0, .int .u64 a1_1] (0, 0) _ rfl (by (with_reducible repeat refine bl ?_); refine blk_put (cs := #[.int .u64 a1_0, .int .u64 0]) ?_ 1 _ rfl; (with_reducible repeat refine bl ?_); refine blk_put (cs := #[.int .u64 0, .int .u64 0]) ?_ 0 _ rfl; (with_reducible repeat refine bl ?_); exact BK243.out) Try.underlying91 rfl (by kernel_rfl)) rfl ?_
   exact ⟨by first | rfl | (simp [errW_none, errW_some] <;> rfl) | (simp [*, errW_none, errW_some] <;> rfl), bq HB.out⟩
  ·rw [if_neg c5] at H
   have c5b0 : (a0 == 0) = false := beq_eq_false_iff_ne.mpr c5
   have c5b1 : (a0 != 0) = true := bne_iff_ne.mpr c5
   have H' := Aside0.mk H
   clear H
   go_enter Try.func53, Try.ntmps53
   go_wp2_with (first | ((with_reducible refine gate_dst (N := 3) rfl ?_); refine box_event ?hg (N := 3) ?hd (cs := #[.int .u64 a1_0, .int .u64 a1_1]) (t := 91) ?hr ?_; (case hd => rfl); (case hg => rfl); (case hr => first | (go_simp; done) | (go_simp; rfl)); intro gb242 hg w15 hbox hb; have BK242 := Aside0.mk hbox; have GW242 := ge hg HB; have GE242 := ge hg HB; replace HB := bh HB hb; clear hb hbox hg) | ((with_reducible refine gate_dst (N := 4) rfl ?_); refine box_event ?hg (N := 4) ?hd (cs := #[.int .u64 0, .int .u64 0]) (t := 91) ?hr ?_; (case hd => rfl); (case hg => rfl); (case hr => first | (go_simp; done) | (go_simp; rfl)); intro gb243 hg w16 hbox hb; have BK243 := Aside0.mk hbox; have GW243 := ge hg HB; have GE243 := ge hg HB; have NB242_243 := nl hg BK242; have NB243_242 := ng hg BK242; replace BK242 := bb BK242 hb; replace HB := bh HB hb; clear hb hbox hg; have hnb17 := NB242_243.out; have hnc17 := NB243_242.out; obtain ⟨hcz18_0, hcz18_1⟩ := zc2 BK242; obtain ⟨hfz18_0, hfz18_1⟩ := zf2 BK242) | ((with_reducible refine gate_callee (f := 76) rfl ?_); refine goesL_ (some 11) rfl rfl Try.func76 (by kernel_rfl) rfl #[.int .i64 a0, .agg #[.int .u64 a1_0, .int .u64 a1_1]] rfl (by (try simp only [List.map_toArray, List.map_cons, List.map_nil]); first | done | rfl | (simp only [List.length_drop, List.length_take]; rfl)) ?_; (with_reducible refine (steepleref01_Of.calls k a0 a1_0 a1_1 true _ A3.out).mono ?_); rintro e w19 ⟨rfl, hb⟩; refine ⟨_, rfl, ?_⟩; replace BK242 := bb BK242 hb; replace BK243 := bb BK243 hb; replace HB := bh HB hb; (try clear hb); (try clear hb2); (try clear hk); (try clear hi)) | ((with_reducible refine gate_dst (N := 14) rfl ?_); refine Kd.R_lit (Kd.int .i64) _ 3 ?hg (N := 14) ?hd (xs := ([1, 2, 4, 8, 16, 32, 64, 128] : List Int)) (inner := [.int .i64 1, .int .i64 2, .int .i64 4, .int .i64 8, .int .i64 16, .int .i64 32, .int .i64 64, .int .i64 128]) (ok := fun _ => True) (okp := fun _ => True) ?hr ?hp (fun _ hk => hk) trivial (Below.refl _ _) (Nat.le_refl _) (by simp) ?_; (case hd => rfl); (case hg => rfl); (case hr => first | (go_simp; done) | (go_simp; rfl)); (case hp => exact (Reps.one (show Kd.M (Kd.int .i64) _ _ _ 1 [.int .i64 1] from rfl) (Reps.one (show Kd.M (Kd.int .i64) _ _ _ 2 [.int .i64 2] from rfl) (Reps.one (show Kd.M (Kd.int .i64) _ _ _ 4 [.int .i64 4] from rfl) (Reps.one (show Kd.M (Kd.int .i64) _ _ _ 8 [.int .i64 8] from rfl) (Reps.one (show Kd.M (Kd.int .i64) _ _ _ 16 [.int .i64 16] from rfl) (Reps.one (show Kd.M (Kd.int .i64) _ _ _ 32 [.int .i64 32] from rfl) (Reps.one (show Kd.M (Kd.int .i64) _ _ _ 64 [.int .i64 64] from rfl) (Reps.one (show Kd.M (Kd.int .i64) _ _ _ 128 [.int .i64 128] from rfl) (Reps.none _ _)))))))))); intro v246 w20 ho21 hb hg_ hnew_; clear hg_ hnew_; (first | rw [← Ny245.out] at ho21 | (simp only [Int.reduceToNat] at ho21; rw [← Ny245.out] at ho21)); have HO247 := kw ho21 HB; replace BK242 := bb BK242 hb; replace BK243 := bb BK243 hb; replace HB := bh HB hb; clear hb ho21) | ((with_reducible refine gate_dst (N := 6) rfl ?_); refine box_event ?hg (N := 6) ?hd (cs := #[.int .u64 0, .int .u64 0]) (t := 91) ?hr ?_; (case hd => rfl); (case hg => rfl); (case hr => first | (go_simp; done) | (go_simp; rfl)); intro gb248 hg w22 hbox hb; have BK248 := Aside0.mk hbox; have GW248 := ge hg HB; have GE248 := ge hg HB; have NB242_248 := nl hg BK242; have NB248_242 := ng hg BK242; have NB243_248 := nl hg BK243; have NB248_243 := ng hg BK243; replace HO247 := kb HO247 hb; replace BK242 := bb BK242 hb; replace BK243 := bb BK243 hb; replace HB := bh HB hb; clear hb hbox hg; have hnb23 := NB248_242.out; have hnc23 := NB242_248.out; have hnb24 := NB248_243.out; have hnc24 := NB243_248.out; obtain ⟨hcz25_0, hcz25_1⟩ := zc2 BK248; obtain ⟨hfz25_0, hfz25_1⟩ := zf2 BK248; obtain ⟨hcz26_0, hcz26_1⟩ := zc2 BK242; obtain ⟨hfz26_0, hfz26_1⟩ := zf2 BK242) | ((with_reducible refine gate_dst (N := 7) rfl ?_); refine box_event ?hg (N := 7) ?hd (cs := #[.int .u64 0, .int .u64 0]) (t := 91) ?hr ?_; (case hd => rfl); (case hg => rfl); (case hr => first | (go_simp; done) | (go_simp; rfl)); intro gb249 hg w27 hbox hb; have BK249 := Aside0.mk hbox; have GW249 := ge hg HB; have GE249 := ge hg HB; have NB242_249 := Aside0.mk ((by rw [hg]; exact Nat.ne_of_lt (blk_lt (g := gb242) (o := .cells #[.int .u64 a1_0, .int .u64 a1_1] 91 (0, 0)) (by (with_reducible repeat refine bl ?_); refine blk_far ?_ NB242_248.out _; (with_reducible repeat refine bl ?_); refine blk_far ?_ NB242_248.out _; (with_reducible repeat refine bl ?_); exact BK242.out)) : gb242 ≠ gb249)); have NB249_242 := Aside0.mk ((by rw [hg]; exact Nat.ne_of_gt (blk_lt (g := gb242) (o := .cells #[.int .u64 a1_0, .int .u64 a1_1] 91 (0, 0)) (by (with_reducible repeat refine bl ?_); refine blk_far ?_ NB242_248.out _; (with_reducible repeat refine bl ?_); refine blk_far ?_ NB242_248.out _; (with_reducible repeat refine bl ?_); exact BK242.out)) : gb249 ≠ gb242)); have NB243_249 := Aside0.mk ((by rw [hg]; exact Nat.ne_of_lt (blk_lt (g := gb243) (o := .cells #[.int .u64 0, .int .u64 0] 91 (0, 0)) (by (with_reducible repeat refine bl ?_); refine blk_far ?_ NB243_248.out _; (with_reducible repeat refine bl ?_); refine blk_far ?_ NB243_248.out _; (with_reducible repeat refine bl ?_); exact BK243.out)) : gb243 ≠ gb249)); have NB249_243 := Aside0.mk ((by rw [hg]; exact Nat.ne_of_gt (blk_lt (g := gb243) (o := .cells #[.int .u64 0, .int .u64 0] 91 (0, 0)) (by (with_reducible repeat refine bl ?_); refine blk_far ?_ NB243_248.out _; (with_reducible repeat refine bl ?_); refine blk_far ?_ NB243_248.out _; (with_reducible repeat refine bl ?_); exact BK243.out)) : gb249 ≠ gb243)); have NB248_249 := Aside0.mk ((by rw [hg]; exact Nat.ne_of_lt (blk_lt (g := gb248) (o := .cells #[.int .u64 0, .int .u64 1] 91 (0, 0)) (by (with_reducible repeat refine bl ?_); refine blk_put (cs := #[.int .u64 0, .int .u64 0]) ?_ 1 _ rfl; (with_reducible repeat refine bl ?_); refine blk_put (cs := #[.int .u64 0, .int .u64 0]) ?_ 0 _ rfl; (with_reducible repeat refine bl ?_); exact BK248.out)) : gb248 ≠ gb249)); have NB249_248 := Aside0.mk ((by rw [hg]; exact Nat.ne_of_gt (blk_lt (g := gb248) (o := .cells #[.int .u64 0, .int .u64 1] 91 (0, 0)) (by (with_reducible repeat refine bl ?_); refine blk_put (cs := #[.int .u64 0, .int .u64 0]) ?_ 1 _ rfl; (with_reducible repeat refine bl ?_); refine blk_put (cs := #[.int .u64 0, .int .u64 0]) ?_ 0 _ rfl; (with_reducible repeat refine bl ?_); exact BK248.out)) : gb249 ≠ gb248)); replace HO247 := Aside0.mk (Kd.R_below (by (with_reducible repeat refine kl ?_); exact (Kd.R_mono (Kd.R_far (p := ⟨gb248, 1, none⟩) (Kd.R_far (p := ⟨gb248, 0, none⟩) (Kd.R_types HO247.out BK248.out (by decide)) (fun _ hk => hk.2) (.int .u64 0)) (fun _ hk => hk.2) (.int .u64 1)) (fun _ h_ => h_.1))) hb); replace BK242 := Aside0.mk (blk_below (g := gb242) (o := .cells #[.int .u64 a1_0, .int .u64 a1_1] 91 (0, 0)) (by (with_reducible repeat refine bl ?_); refine blk_far ?_ NB242_248.out _; (with_reducible repeat refine bl ?_); refine blk_far ?_ NB242_248.out _; (with_reducible repeat refine bl ?_); exact BK242.out) hb); replace BK243 := Aside0.mk (blk_below (g := gb243) (o := .cells #[.int .u64 0, .int .u64 0] 91 (0, 0)) (by (with_reducible repeat refine bl ?_); refine blk_far ?_ NB243_248.out _; (with_reducible repeat refine bl ?_); refine blk_far ?_ NB243_248.out _; (with_reducible repeat refine bl ?_); exact BK243.out) hb); replace BK248 := Aside0.mk (blk_below (g := gb248) (o := .cells #[.int .u64 0, .int .u64 1] 91 (0, 0)) (by (with_reducible repeat refine bl ?_); refine blk_put (cs := #[.int .u64 0, .int .u64 0]) ?_ 1 _ rfl; (with_reducible repeat refine bl ?_); refine blk_put (cs := #[.int .u64 0, .int .u64 0]) ?_ 0 _ rfl; (with_reducible repeat refine bl ?_); exact BK248.out) hb); replace HB := bh HB hb; clear hb hbox hg; have hnb28 := NB249_242.out; have hnc28 := NB242_249.out; have hnb29 := NB249_243.out; have hnc29 := NB243_249.out; have hnb30 := NB249_248.out; have hnc30 := NB248_249.out; obtain ⟨hcz31_0, hcz31_1⟩ := zc2 BK249; obtain ⟨hfz31_0, hfz31_1⟩ := zf2 BK249))
   go_loopg [8] k (fun kq v8 w' => ∃ (x8_1 : Int) (x249000_1 : Int) (x249001_1 : Int) (x250000_1 : Int) (x250001_1 : Int), v8 = .int .i64 x8_1 ∧ Aside0 (steepleref02_Inv.l0 kq a0 y245 x8_1 x249000_1 x249001_1 x250000_1 x250001_1 = some (r1, r2)) ∧ Aside0 (kq ≤ k) ∧ Aside0 (Kd.R (Kd.int .i64) 3 w' w.heap.size (fun _ => True) v246 y245) ∧ Aside0 (w'.heap[gb242]? = some (.cells #[.int .u64 a1_0, .int .u64 a1_1] 91 (0, 0))) ∧ Aside0 (w'.heap[gb243]? = some (.cells #[.int .u64 0, .int .u64 0] 91 (0, 0))) ∧ Aside0 (w'.heap[gb248]? = some (.cells #[.int .u64 x249000_1, .int .u64 x249001_1] 91 (0, 0))) ∧ Aside0 (w'.heap[gb249]? = some (.cells #[.int .u64 x250000_1, .int .u64 x250001_1] 91 (0, 0))) ∧ Aside0 (Below w.heap.size w w'))
   case atStart => exact ⟨(1), (0), (1), (a1_0), (a1_1), (by first | rfl | (simp; done) | (simp [*]; done)), H', ⟨Nat.le_refl _⟩, ⟨by (with_reducible repeat refine kl ?_); exact Kd.R_mono (Kd.R_far (p := ⟨gb249, 1, none⟩) (Kd.R_far (p := ⟨gb249, 0, none⟩) (Kd.R_types HO247.out BK249.out (by decide)) (fun _ hk => hk.2) (.int .u64 a1_0)) (fun _ hk => hk.2) (.int .u64 a1_1)) (fun _ hk => trivial)⟩, ⟨by (with_reducible repeat refine bl ?_); refine blk_far ?_ NB242_249.out _; (with_reducible repeat refine bl ?_); refine blk_far ?_ NB242_249.out _; (with_reducible repeat refine bl ?_); exact BK242.out⟩, ⟨by (with_reducible repeat refine bl ?_); refine blk_far ?_ NB243_249.out _; (with_reducible repeat refine bl ?_); refine blk_far ?_ NB243_249.out _; (with_reducible repeat refine bl ?_); exact BK243.out⟩, ⟨by (with_reducible repeat refine bl ?_); refine blk_far ?_ NB248_249.out _; (with_reducible repeat refine bl ?_); refine blk_far ?_ NB248_249.out _; (with_reducible repeat refine bl ?_); exact BK248.out⟩, ⟨by (with_reducible repeat refine bl ?_); refine blk_put (cs := #[.int .u64 a1_0, .int .u64 0]) ?_ 1 _ rfl; (with_reducible repeat refine bl ?_); refine blk_put (cs := #[.int .u64 0, .int .u64 0]) ?_ 0 _ rfl; (with_reducible repeat refine bl ?_); exact BK249.out⟩, ⟨bq HB.out⟩⟩
   case round =>
    clear H'
    try clear c1
    try clear c2
    try clear p2
    try clear c3
    try clear c4
    try clear c5
    try clear c5b0
    try clear c5b1
    try clear c7
    try clear c8
    try clear c17
    try clear c23
    try clear c24
    try clear c28
    try clear c29
    try clear c30
    try clear hcz13_0
    try clear hcz13_1
    try clear hcz14_0
    try clear hcz14_1
    try clear hcz18_0
    try clear hcz18_1
    try clear hcz25_0
    try clear hcz25_1
    try clear hcz26_0
    try clear hcz26_1
    try clear hcz31_0
    try clear hcz31_1
    try clear hcz9_0
    try clear hcz9_1
    try clear hfz13_0
    try clear hfz13_1
    try clear hfz14_0
    try clear hfz14_1
    try clear hfz18_0
    try clear hfz18_1
    try clear hfz25_0
    try clear hfz25_1
    try clear hfz26_0
    try clear hfz26_1
    try clear hfz31_0
    try clear hfz31_1
    try clear hfz9_0
    try clear hfz9_1
    obtain ⟨x8_1, x249000_1, x249001_1, x250000_1, x250001_1, rfl, HA, HK1, HO_5, BK242, BK243, BK248, BK249, HB⟩ := hrel
    cases gk with
    | zero => exact absurd HA.out (by simp [steepleref02_Inv.l0])
    | succ k1 =>
     have H := HA.out
     clear HA
     simp only [steepleref02_Inv.l0] at H
     by_cases c32 : 0 ≤ a0
     ·rw [if_pos c32] at H
      have c32b0 : decide (0 ≤ a0) = true := decide_eq_true c32
      clear c32
      by_cases c33 : a0 < (y245.length : Int)
      ·rw [if_pos c33] at H
       have c33b0 : decide (a0 < (y245.length : Int)) = true := decide_eq_true c33
       clear c33
       by_cases c34 : x8_1 < (rd y245 a0)
       ·rw [if_pos c34] at H
        have c34b0 : decide (x8_1 < (rd y245 a0)) = true := decide_eq_true c34
        clear c34
        replace H := Option.bind_eq_some_iff.mp H
        obtain ⟨⟨t251, t252⟩, A350, H⟩ := H
        replace H : ((steepleref02_Product.f k1 x249000_1 x249001_1 t251 t252).bind fun bt253 => (steepleref02_Inv.l0 k1 a0 y245 (wrap64 (x8_1 + 1)) bt253.1 bt253.2 t251 t252)) = some (r1, r2) := H
        have A35 := Aside0.mk A350
        clear A350
        replace H := Option.bind_eq_some_iff.mp H
        obtain ⟨⟨t253, t254⟩, A360, H⟩ := H
        replace H : (steepleref02_Inv.l0 k1 a0 y245 (wrap64 (x8_1 + 1)) t253 t254 t251 t252) = some (r1, r2) := H
        have A36 := Aside0.mk A360
        clear A360
        have H' := Aside0.mk H
        clear H
        obtain ⟨Ao37, co37, eo37⟩ := Kd.R_slice HO_5.out
        subst eo37
        have p250 : 0 ≤ (a0 : Int) := of_decide_eq_true (by first | (with_reducible assumption) | assumption)
        have q250 : a0 < (y245.length : Int) := of_decide_eq_true (by first | (with_reducible assumption) | assumption)
        (try (obtain ⟨Ap_, cp_, ep_⟩ := Kd.R_slice HO_5.out; subst ep_))
        obtain ⟨ad250, e250, hx250_0⟩ := Kd.at_int (Kd.R_reads' HO_5.out).2.2 a0 p250 q250
        cases e250
        replace p250 := eq_true p250
        replace q250 := eq_true q250
        have hnb38 := NB249_242.out
        have hnc38 := NB242_249.out
        have hnb39 := NB249_243.out
        have hnc39 := NB243_249.out
        have hnb40 := NB249_248.out
        have hnc40 := NB248_249.out
        obtain ⟨hcz41_0, hcz41_1⟩ := zc2 BK249
        obtain ⟨hfz41_0, hfz41_1⟩ := zf2 BK249
        go_wp2_with (first | ((with_reducible refine gate_callee (f := 55) rfl ?_); refine goesL_ (some 30) rfl rfl Try.func55 (by kernel_rfl) rfl #[.agg #[.int .u64 x250000_1, .int .u64 x250001_1], .agg #[.int .u64 x250000_1, .int .u64 x250001_1]] rfl (by (try simp only [List.map_toArray, List.map_cons, List.map_nil]); first | done | rfl | (simp only [List.length_drop, List.length_take]; rfl)) ?_; (with_reducible refine (steepleref02_Product.calls k1 x250000_1 x250001_1 x250000_1 x250001_1 t251 t252 _ A35.out).mono ?_); rintro e w42 ⟨rfl, hb⟩; refine ⟨_, rfl, ?_⟩; replace HO_5 := kb HO_5 hb; replace BK242 := bb BK242 hb; replace BK243 := bb BK243 hb; replace BK248 := bb BK248 hb; replace BK249 := bb BK249 hb; replace HB := bh HB hb; (try clear hb); (try clear hb2); (try clear hk); (try clear hi); obtain ⟨hcz43_0, hcz43_1⟩ := zc2 BK249; obtain ⟨hfz43_0, hfz43_1⟩ := zf2 BK249; have hnb44 := NB248_242.out; have hnc44 := NB242_248.out; have hnb45 := NB248_243.out; have hnc45 := NB243_248.out; obtain ⟨hcz46_0, hcz46_1⟩ := zc2 BK248; obtain ⟨hfz46_0, hfz46_1⟩ := zf2 BK248) | ((with_reducible refine gate_callee (f := 55) rfl ?_); refine goesL_ (some 33) rfl rfl Try.func55 (by kernel_rfl) rfl #[.agg #[.int .u64 x249000_1, .int .u64 x249001_1], .agg #[.int .u64 t251, .int .u64 t252]] rfl (by (try simp only [List.map_toArray, List.map_cons, List.map_nil]); first | done | rfl | (simp only [List.length_drop, List.length_take]; rfl)) ?_; (with_reducible refine (steepleref02_Product.calls k1 x249000_1 x249001_1 t251 t252 t253 t254 _ A36.out).mono ?_); rintro e w47 ⟨rfl, hb⟩; refine ⟨_, rfl, ?_⟩; replace HO_5 := Aside0.mk (Kd.R_below (by (with_reducible repeat refine kl ?_); exact (Kd.R_mono (Kd.R_far (p := ⟨gb249, 1, none⟩) (Kd.R_far (p := ⟨gb249, 0, none⟩) (Kd.R_types HO_5.out BK249.out (by decide)) (fun _ hk => hk.2) (.int .u64 t251)) (fun _ hk => hk.2) (.int .u64 t252)) (fun _ h_ => h_.1))) hb); replace BK242 := Aside0.mk (blk_below (g := gb242) (o := .cells #[.int .u64 a1_0, .int .u64 a1_1] 91 (0, 0)) (by (with_reducible repeat refine bl ?_); refine blk_far ?_ NB242_249.out _; (with_reducible repeat refine bl ?_); refine blk_far ?_ NB242_249.out _; (with_reducible repeat refine bl ?_); exact BK242.out) hb); replace BK243 := Aside0.mk (blk_below (g := gb243) (o := .cells #[.int .u64 0, .int .u64 0] 91 (0, 0)) (by (with_reducible repeat refine bl ?_); refine blk_far ?_ NB243_249.out _; (with_reducible repeat refine bl ?_); refine blk_far ?_ NB243_249.out _; (with_reducible repeat refine bl ?_); exact BK243.out) hb); replace BK248 := Aside0.mk (blk_below (g := gb248) (o := .cells #[.int .u64 x249000_1, .int .u64 x249001_1] 91 (0, 0)) (by (with_reducible repeat refine bl ?_); refine blk_far ?_ NB248_249.out _; (with_reducible repeat refine bl ?_); refine blk_far ?_ NB248_249.out _; (with_reducible repeat refine bl ?_); exact BK248.out) hb); replace BK249 := Aside0.mk (blk_below (g := gb249) (o := .cells #[.int .u64 t251, .int .u64 t252] 91 (0, 0)) (by (with_reducible repeat refine bl ?_); refine blk_put (cs := #[.int .u64 t251, .int .u64 x250001_1]) ?_ 1 _ rfl; (with_reducible repeat refine bl ?_); refine blk_put (cs := #[.int .u64 x250000_1, .int .u64 x250001_1]) ?_ 0 _ rfl; (with_reducible repeat refine bl ?_); exact BK249.out) hb); replace HB := bh HB hb; (try clear hb); (try clear hb2); (try clear hk); (try clear hi); obtain ⟨hcz48_0, hcz48_1⟩ := zc2 BK248; obtain ⟨hfz48_0, hfz48_1⟩ := zf2 BK248))
        go_roundg k1
        case measure => have := HK1.out; omega
        case rel => exact ⟨(wrap64 (x8_1 + 1)), (t253), (t254), (t251), (t252), (by first | rfl | (simp; done) | (simp [*]; done)), H', ⟨by have := HK1.out; omega⟩, ⟨by (with_reducible repeat refine kl ?_); exact Kd.R_mono (Kd.R_far (p := ⟨gb248, 1, none⟩) (Kd.R_far (p := ⟨gb248, 0, none⟩) (Kd.R_types HO_5.out BK248.out (by decide)) (fun _ hk => hk.2) (.int .u64 t253)) (fun _ hk => hk.2) (.int .u64 t254)) (fun _ hk => trivial)⟩, ⟨by (with_reducible repeat refine bl ?_); refine blk_far ?_ NB242_248.out _; (with_reducible repeat refine bl ?_); refine blk_far ?_ NB242_248.out _; (with_reducible repeat refine bl ?_); exact BK242.out⟩, ⟨by (with_reducible repeat refine bl ?_); refine blk_far ?_ NB243_248.out _; (with_reducible repeat refine bl ?_); refine blk_far ?_ NB243_248.out _; (with_reducible repeat refine bl ?_); exact BK243.out⟩, ⟨by (with_reducible repeat refine bl ?_); refine blk_put (cs := #[.int .u64 t253, .int .u64 x249001_1]) ?_ 1 _ rfl; (with_reducible repeat refine bl ?_); refine blk_put (cs := #[.int .u64 x249000_1, .int .u64 x249001_1]) ?_ 0 _ rfl; (with_reducible repeat refine bl ?_); exact BK248.out⟩, ⟨by (with_reducible repeat refine bl ?_); refine blk_far ?_ NB249_248.out _; (with_reducible repeat refine bl ?_); refine blk_far ?_ NB249_248.out _; (with_reducible repeat refine bl ?_); exact BK249.out⟩, ⟨bq HB.out⟩⟩
       ·rw [if_neg c34] at H
        have c34b0 : decide (x8_1 < (rd y245 a0)) = false := decide_eq_false c34
        clear c34
        simp only [Option.some.injEq, Prod.mk.injEq] at H
        obtain ⟨rfl, rfl⟩ := H
        obtain ⟨Ao49, co49, eo49⟩ := Kd.R_slice HO_5.out
        subst eo49
        have p250 : 0 ≤ (a0 : Int) := of_decide_eq_true (by first | (with_reducible assumption) | assumption)
        have q250 : a0 < (y245.length : Int) := of_decide_eq_true (by first | (with_reducible assumption) | assumption)
        (try (obtain ⟨Ap_, cp_, ep_⟩ := Kd.R_slice HO_5.out; subst ep_))
        obtain ⟨ad250, e250, hx250_0⟩ := Kd.at_int (Kd.R_reads' HO_5.out).2.2 a0 p250 q250
        cases e250
        replace p250 := eq_true p250
        replace q250 := eq_true q250
        have hnb50 := NB248_242.out
        have hnc50 := NB242_248.out
        have hnb51 := NB248_243.out
        have hnc51 := NB243_248.out
        have hnb52 := NB248_249.out
        have hnc52 := NB249_248.out
        obtain ⟨hcz53_0, hcz53_1⟩ := zc2 BK248
        obtain ⟨hfz53_0, hfz53_1⟩ := zf2 BK248
        have hnb54 := NB243_242.out
        have hnc54 := NB242_243.out
        have hnb55 := NB243_249.out
        have hnc55 := NB249_243.out
        obtain ⟨hcz56_0, hcz56_1⟩ := zc2 BK243
        obtain ⟨hfz56_0, hfz56_1⟩ := zf2 BK243
        go_wp2
        refine bodyPost_ret (results_cell_row rfl _ _ gb243 91 #[.int .u64 x249000_1, .int .u64 x249001_1] (0, 0) _ rfl (by (with_reducible repeat refine bl ?_); refine blk_put (cs := #[.int .u64 x249000_1, .int .u64 0]) ?_ 1 _ rfl; (with_reducible repeat refine bl ?_); refine blk_put (cs := #[.int .u64 0, .int .u64 0]) ?_ 0 _ rfl; (with_reducible repeat refine bl ?_); exact BK243.out) Try.underlying91 rfl (by kernel_rfl)) rfl ?_
        exact ⟨by first | rfl | (simp [errW_none, errW_some] <;> rfl) | (simp [*, errW_none, errW_some] <;> rfl), bq HB.out⟩
      ·rw [if_neg c33] at H
       exact absurd H (by simp)
     ·rw [if_neg c32] at H
      exact absurd H (by simp)
 ·replace c4 := Bool.eq_false_iff.mpr c4
  subst c4
  have H1 : (some (0, 0)) = some (r1, r2) := by rw [if_neg (show ¬ (false = true) by decide)] at H; exact H
  clear H
  have H := H1
  clear H1
  simp only [Option.some.injEq, Prod.mk.injEq] at H
  obtain ⟨rfl, rfl⟩ := H
  go_enter Try.func53, Try.ntmps53
  go_wp2_with (first | ((with_reducible refine gate_dst (N := 3) rfl ?_); refine box_event ?hg (N := 3) ?hd (cs := #[.int .u64 a1_0, .int .u64 a1_1]) (t := 91) ?hr ?_; (case hd => rfl); (case hg => rfl); (case hr => first | (go_simp; done) | (go_simp; rfl)); intro gb242 hg w57 hbox hb; have BK242 := Aside0.mk hbox; have GW242 := ge hg HB; have GE242 := ge hg HB; replace HB := bh HB hb; clear hb hbox hg) | ((with_reducible refine gate_dst (N := 4) rfl ?_); refine box_event ?hg (N := 4) ?hd (cs := #[.int .u64 0, .int .u64 0]) (t := 91) ?hr ?_; (case hd => rfl); (case hg => rfl); (case hr => first | (go_simp; done) | (go_simp; rfl)); intro gb243 hg w58 hbox hb; have BK243 := Aside0.mk hbox; have GW243 := ge hg HB; have GE243 := ge hg HB; have NB242_243 := nl hg BK242; have NB243_242 := ng hg BK242; replace BK242 := bb BK242 hb; replace HB := bh HB hb; clear hb hbox hg; have hnb59 := NB242_243.out; have hnc59 := NB243_242.out; obtain ⟨hcz60_0, hcz60_1⟩ := zc2 BK242; obtain ⟨hfz60_0, hfz60_1⟩ := zf2 BK242) | ((with_reducible refine gate_callee (f := 76) rfl ?_); refine goesL_ (some 11) rfl rfl Try.func76 (by kernel_rfl) rfl #[.int .i64 a0, .agg #[.int .u64 a1_0, .int .u64 a1_1]] rfl (by (try simp only [List.map_toArray, List.map_cons, List.map_nil]); first | done | rfl | (simp only [List.length_drop, List.length_take]; rfl)) ?_; (with_reducible refine (steepleref01_Of.calls k a0 a1_0 a1_1 false _ A3.out).mono ?_); rintro e w61 ⟨rfl, hb⟩; refine ⟨_, rfl, ?_⟩; replace BK242 := bb BK242 hb; replace BK243 := bb BK243 hb; replace HB := bh HB hb; (try clear hb); (try clear hb2); (try clear hk); (try clear hi); obtain ⟨hcz62_0, hcz62_1⟩ := zc2 BK243; obtain ⟨hfz62_0, hfz62_1⟩ := zf2 BK243))
  refine bodyPost_ret (results_cell_row rfl _ _ gb243 91 #[.int .u64 0, .int .u64 0] (0, 0) _ rfl (by (with_reducible repeat refine bl ?_); refine blk_put (cs := #[.int .u64 0, .int .u64 0]) ?_ 1 _ rfl; (with_reducible repeat refine bl ?_); refine blk_put (cs := #[.int .u64 0, .int .u64 0]) ?_ 0 _ rfl; (with_reducible repeat refine bl ?_); exact BK243.out) Try.underlying91 rfl (by kernel_rfl)) rfl ?_
  exact ⟨by first | rfl | (simp [errW_none, errW_some] <;> rfl) | (simp [*, errW_none, errW_some] <;> rfl), bq HB.out⟩

/-! ### steepleref10_left: function 54 -/
def steepleref10_left.l0 : Nat → Int → Int → Int → Option (Int)
 | 0, _, _, _ => none
 | k + 1, x1, x5, x6 => if x6 < x1 then (steepleref10_left.l0 k x1 (wrap64 ((Int.tmod (wrap64 (2 * x5)) 256) + (wrap64 (Int.tdiv x5 128)))) (wrap64 (x6 + 1))) else (some x5)
def steepleref10_left.f (k : Nat) (a0 : Int) (a1 : Int) : Option (Int) := steepleref10_left.l0 k a1 a0 0
theorem steepleref10_left.mono_l : ∀ k, (∀ y0 y1 y2, LeO (steepleref10_left.l0 k y0 y1 y2) (steepleref10_left.l0 (k + 1) y0 y1 y2))
 | 0 => fun _ _ _ r h => by simp [steepleref10_left.l0] at h
 | k + 1 => by
  have ih0 := steepleref10_left.mono_l k
  ·intro y0 y1 y2
   unfold steepleref10_left.l0
   repeat' first
   | (with_reducible exact ih0 _ _ _)
   | (with_reducible exact LeO.refl _)
   | (with_reducible exact LeO.none _)
   | (with_reducible refine LeO.ite ?_ ?_)
   | (with_reducible refine LeO.bind ?_ (fun _ => ?_))
   | exact ih0 _ _ _
   | exact LeO.none _
   | refine LeO.ite ?_ ?_
   | refine LeO.bind ?_ (fun _ => ?_)
theorem steepleref10_left.mono : ∀ a0 a1 k, LeO (steepleref10_left.f k a0 a1) (steepleref10_left.f (k + 1) a0 a1) := by
 intro a0 a1 k
 have ih0 := steepleref10_left.mono_l k
 unfold steepleref10_left.f
 repeat' first
   | (with_reducible exact ih0 _ _ _)
   | (with_reducible exact LeO.refl _)
   | (with_reducible exact LeO.none _)
   | (with_reducible refine LeO.ite ?_ ?_)
   | (with_reducible refine LeO.bind ?_ (fun _ => ?_))
   | exact ih0 _ _ _
   | exact LeO.none _
   | refine LeO.ite ?_ ?_
   | refine LeO.bind ?_ (fun _ => ?_)
set_option maxHeartbeats 8000000 in
set_option maxRecDepth 100000 in
theorem steepleref10_left.calls (k : Nat) (a0 : Int) (a1 : Int) (r : Int) (w : World) (h : steepleref10_left.f k a0 a1 = some r) :
  Calls Try.prog 54 #[.int .i64 a0, .int .i64 a1] w fun e w' => e = .returned (.int .i64 r) ∧ Drawn0 w w' := by
 have H : (steepleref10_left.l0 k a1 a0 0) = some r := h
 clear h
 have H' := Aside0.mk H
 clear H
 go_enter Try.func54, Try.ntmps54
 go_wp2
 go_loopg [5, 6] k (fun kq v5 v6 w' => ∃ (x5_1 : Int) (x6_1 : Int), v5 = .int .i64 x5_1 ∧ v6 = .int .i64 x6_1 ∧ Aside0 (steepleref10_left.l0 kq a1 x5_1 x6_1 = some r) ∧ Aside0 (kq ≤ k) ∧ Drawn0 w w')
 case atStart => exact ⟨(a0), (0), (by first | rfl | (simp; done) | (simp [*]; done)), (by first | rfl | (simp; done) | (simp [*]; done)), H', ⟨Nat.le_refl _⟩, by repeat (first | exact Drawn0.refl _ | apply Drawn0.step)⟩
 case round =>
  clear H'
  try clear p2
  obtain ⟨x5_1, x6_1, rfl, rfl, HA, HK1, ⟨m1, rfl⟩⟩ := hrel
  cases gk with
  | zero => exact absurd HA.out (by simp [steepleref10_left.l0])
  | succ k1 =>
   have H := HA.out
   clear HA
   simp only [steepleref10_left.l0] at H
   by_cases c3 : x6_1 < a1
   ·rw [if_pos c3] at H
    have c3b0 : decide (x6_1 < a1) = true := decide_eq_true c3
    clear c3
    have H' := Aside0.mk H
    clear H
    go_wp2
    go_roundg k1
    case measure => have := HK1.out; omega
    case rel => exact ⟨(wrap64 ((Int.tmod (wrap64 (2 * x5_1)) 256) + (wrap64 (Int.tdiv x5_1 128)))), (wrap64 (x6_1 + 1)), (by first | rfl | (simp; done) | (simp [*]; done)), (by first | rfl | (simp; done) | (simp [*]; done)), H', ⟨by have := HK1.out; omega⟩, by repeat (first | exact Drawn0.refl _ | apply Drawn0.step)⟩
   ·rw [if_neg c3] at H
    have c3b0 : decide (x6_1 < a1) = false := decide_eq_false c3
    clear c3
    obtain rfl := Option.some.inj H
    go_wp2
    go_ret
    exact ⟨by first | rfl | (simp; done) | (simp [*]; done), by repeat (first | exact Drawn0.refl _ | apply Drawn0.step)⟩

/-! ### steepleref10_Box: function 34 -/
def steepleref10_Box.f (k : Nat) (a0 : Int) : Option (Int) := (steepleref02_Inv.f k 3 0 (IntKind.u64.wrap (a0))).bind fun bt255 => ((steepleref10_left.f k (wrap64 (bt255.2)) 1).bind fun t257 => ((steepleref10_left.f k (wrap64 (bt255.2)) 2).bind fun t258 => ((steepleref10_left.f k (wrap64 (bt255.2)) 3).bind fun t259 => ((steepleref10_left.f k (wrap64 (bt255.2)) 4).bind fun t260 => (some (Go.bits .xor .i64 (Go.bits .xor .i64 (Go.bits .xor .i64 (Go.bits .xor .i64 (Go.bits .xor .i64 (wrap64 (bt255.2)) t257) t258) t259) t260) 99))))))
set_option maxHeartbeats 8000000 in
set_option maxRecDepth 100000 in
theorem steepleref10_Box.calls (k : Nat) (a0 : Int) (r : Int) (w : World) (h : steepleref10_Box.f k a0 = some r) :
  Calls Try.prog 34 #[.int .i64 a0] w fun e w' => e = .returned (.int .i64 r) ∧ Below w.heap.size w w' := by
 have hu91 := Try.underlying91
 have HB := Aside0.mk (Below.refl w.heap.size w)
 have H : ((steepleref02_Inv.f k 3 0 (IntKind.u64.wrap (a0))).bind fun bt255 => ((steepleref10_left.f k (wrap64 (bt255.2)) 1).bind fun t257 => ((steepleref10_left.f k (wrap64 (bt255.2)) 2).bind fun t258 => ((steepleref10_left.f k (wrap64 (bt255.2)) 3).bind fun t259 => ((steepleref10_left.f k (wrap64 (bt255.2)) 4).bind fun t260 => (some (Go.bits .xor .i64 (Go.bits .xor .i64 (Go.bits .xor .i64 (Go.bits .xor .i64 (Go.bits .xor .i64 (wrap64 (bt255.2)) t257) t258) t259) t260) 99))))))) = some r := h
 clear h
 replace H := Option.bind_eq_some_iff.mp H
 obtain ⟨⟨t255, t256⟩, A20, H⟩ := H
 replace H : ((steepleref10_left.f k (wrap64 (t256)) 1).bind fun t257 => ((steepleref10_left.f k (wrap64 (t256)) 2).bind fun t258 => ((steepleref10_left.f k (wrap64 (t256)) 3).bind fun t259 => ((steepleref10_left.f k (wrap64 (t256)) 4).bind fun t260 => (some (Go.bits .xor .i64 (Go.bits .xor .i64 (Go.bits .xor .i64 (Go.bits .xor .i64 (Go.bits .xor .i64 (wrap64 (t256)) t257) t258) t259) t260) 99)))))) = some r := H
 have A2 := Aside0.mk A20
 clear A20
 replace H := Option.bind_eq_some_iff.mp H
 obtain ⟨t257, A30, H⟩ := H
 replace H : ((steepleref10_left.f k (wrap64 (t256)) 2).bind fun t258 => ((steepleref10_left.f k (wrap64 (t256)) 3).bind fun t259 => ((steepleref10_left.f k (wrap64 (t256)) 4).bind fun t260 => (some (Go.bits .xor .i64 (Go.bits .xor .i64 (Go.bits .xor .i64 (Go.bits .xor .i64 (Go.bits .xor .i64 (wrap64 (t256)) t257) t258) t259) t260) 99))))) = some r := H
 have A3 := Aside0.mk A30
 clear A30
 replace H := Option.bind_eq_some_iff.mp H
 obtain ⟨t258, A40, H⟩ := H
 replace H : ((steepleref10_left.f k (wrap64 (t256)) 3).bind fun t259 => ((steepleref10_left.f k (wrap64 (t256)) 4).bind fun t260 => (some (Go.bits .xor .i64 (Go.bits .xor .i64 (Go.bits .xor .i64 (Go.bits .xor .i64 (Go.bits .xor .i64 (wrap64 (t256)) t257) t258) t259) t260) 99)))) = some r := H
 have A4 := Aside0.mk A40
 clear A40
 replace H := Option.bind_eq_some_iff.mp H
 obtain ⟨t259, A50, H⟩ := H
 replace H : ((steepleref10_left.f k (wrap64 (t256)) 4).bind fun t260 => (some (Go.bits .xor .i64 (Go.bits .xor .i64 (Go.bits .xor .i64 (Go.bits .xor .i64 (Go.bits .xor .i64 (wrap64 (t256)) t257) t258) t259) t260) 99))) = some r := H
 have A5 := Aside0.mk A50
 clear A50
 replace H := Option.bind_eq_some_iff.mp H
 obtain ⟨t260, A60, H⟩ := H
 replace H : (some (Go.bits .xor .i64 (Go.bits .xor .i64 (Go.bits .xor .i64 (Go.bits .xor .i64 (Go.bits .xor .i64 (wrap64 (t256)) t257) t258) t259) t260) 99)) = some r := H
 have A6 := Aside0.mk A60
 clear A60
 obtain rfl := Option.some.inj H
 go_enter Try.func34, Try.ntmps34
 go_wp2_with (first | ((with_reducible refine gate_callee (f := 53) rfl ?_); refine goesL_ (some 7) rfl rfl Try.func53 (by kernel_rfl) rfl #[.int .i64 3, .agg #[.int .u64 0, .int .u64 (IntKind.u64.wrap (a0))]] rfl (by (try simp only [List.map_toArray, List.map_cons, List.map_nil]); first | done | rfl | (simp only [List.length_drop, List.length_take]; rfl)) ?_; (with_reducible refine (steepleref02_Inv.calls k 3 0 (IntKind.u64.wrap (a0)) t255 t256 _ A2.out).mono ?_); rintro e w7 ⟨rfl, hb⟩; refine ⟨_, rfl, ?_⟩; replace HB := bh HB hb; (try clear hb); (try clear hb2); (try clear hk); (try clear hi)) | ((with_reducible refine gate_callee (f := 54) rfl ?_); refine goesL_ (some 12) rfl rfl Try.func54 (by kernel_rfl) rfl #[.int .i64 (wrap64 (t256)), .int .i64 1] rfl (by (try simp only [List.map_toArray, List.map_cons, List.map_nil]); first | done | rfl | (simp only [List.length_drop, List.length_take]; rfl)) ?_; (with_reducible refine (steepleref10_left.calls k (wrap64 (t256)) 1 t257 _ A3.out).mono ?_); rintro e w' ⟨rfl, ⟨nd, rfl⟩⟩; refine ⟨_, rfl, ?_⟩) | ((with_reducible refine gate_callee (f := 54) rfl ?_); refine goesL_ (some 15) rfl rfl Try.func54 (by kernel_rfl) rfl #[.int .i64 (wrap64 (t256)), .int .i64 2] rfl (by (try simp only [List.map_toArray, List.map_cons, List.map_nil]); first | done | rfl | (simp only [List.length_drop, List.length_take]; rfl)) ?_; (with_reducible refine (steepleref10_left.calls k (wrap64 (t256)) 2 t258 _ A4.out).mono ?_); rintro e w' ⟨rfl, ⟨nd, rfl⟩⟩; refine ⟨_, rfl, ?_⟩) | ((with_reducible refine gate_callee (f := 54) rfl ?_); refine goesL_ (some 18) rfl rfl Try.func54 (by kernel_rfl) rfl #[.int .i64 (wrap64 (t256)), .int .i64 3] rfl (by (try simp only [List.map_toArray, List.map_cons, List.map_nil]); first | done | rfl | (simp only [List.length_drop, List.length_take]; rfl)) ?_; (with_reducible refine (steepleref10_left.calls k (wrap64 (t256)) 3 t259 _ A5.out).mono ?_); rintro e w' ⟨rfl, ⟨nd, rfl⟩⟩; refine ⟨_, rfl, ?_⟩) | ((with_reducible refine gate_callee (f := 54) rfl ?_); refine goesL_ (some 21) rfl rfl Try.func54 (by kernel_rfl) rfl #[.int .i64 (wrap64 (t256)), .int .i64 4] rfl (by (try simp only [List.map_toArray, List.map_cons, List.map_nil]); first | done | rfl | (simp only [List.length_drop, List.length_take]; rfl)) ?_; (with_reducible refine (steepleref10_left.calls k (wrap64 (t256)) 4 t260 _ A6.out).mono ?_); rintro e w' ⟨rfl, ⟨nd, rfl⟩⟩; refine ⟨_, rfl, ?_⟩))
 go_ret
 exact ⟨by first | rfl | (simp [errW_none, errW_some] <;> rfl) | (simp [*, errW_none, errW_some] <;> rfl), bq HB.out⟩

/-! ### steepleref10_Times: function 35 -/
def steepleref10_Times.f (k : Nat) (a0 : Int) (a1 : Int) : Option (Int) := (steepleref02_Product.f k 0 (IntKind.u64.wrap (a0)) 0 (IntKind.u64.wrap (a1))).bind fun bt261 => (some (wrap64 (bt261.2)))
set_option maxHeartbeats 8000000 in
set_option maxRecDepth 100000 in
theorem steepleref10_Times.calls (k : Nat) (a0 : Int) (a1 : Int) (r : Int) (w : World) (h : steepleref10_Times.f k a0 a1 = some r) :
  Calls Try.prog 35 #[.int .i64 a0, .int .i64 a1] w fun e w' => e = .returned (.int .i64 r) ∧ Below w.heap.size w w' := by
 have hu91 := Try.underlying91
 have HB := Aside0.mk (Below.refl w.heap.size w)
 have H : ((steepleref02_Product.f k 0 (IntKind.u64.wrap (a0)) 0 (IntKind.u64.wrap (a1))).bind fun bt261 => (some (wrap64 (bt261.2)))) = some r := h
 clear h
 replace H := Option.bind_eq_some_iff.mp H
 obtain ⟨⟨t261, t262⟩, A30, H⟩ := H
 replace H : (some (wrap64 (t262))) = some r := H
 have A3 := Aside0.mk A30
 clear A30
 obtain rfl := Option.some.inj H
 go_enter Try.func35, Try.ntmps35
 go_wp2_with (first | ((with_reducible refine gate_callee (f := 55) rfl ?_); refine goesL_ (some 11) rfl rfl Try.func55 (by kernel_rfl) rfl #[.agg #[.int .u64 0, .int .u64 (IntKind.u64.wrap (a0))], .agg #[.int .u64 0, .int .u64 (IntKind.u64.wrap (a1))]] rfl (by (try simp only [List.map_toArray, List.map_cons, List.map_nil]); first | done | rfl | (simp only [List.length_drop, List.length_take]; rfl)) ?_; (with_reducible refine (steepleref02_Product.calls k 0 (IntKind.u64.wrap (a0)) 0 (IntKind.u64.wrap (a1)) t261 t262 _ A3.out).mono ?_); rintro e w4 ⟨rfl, hb⟩; refine ⟨_, rfl, ?_⟩; replace HB := bh HB hb; (try clear hb); (try clear hb2); (try clear hk); (try clear hi)))
 go_ret
 exact ⟨by first | rfl | (simp [errW_none, errW_some] <;> rfl) | (simp [*, errW_none, errW_some] <;> rfl), bq HB.out⟩

end Go.Proofs.Ytmibjgjgfombaaa.P
