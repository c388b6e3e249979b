/- Functions that the law reaches, as Lean functions. Conditions: those that each theorem names. -/
import Derived.Test.YthgiifakcgjlaaaPx0
import Derived.Test.YthgiifakcgjlaaaX2
import Derived.Test.YthgiifakcgjlaaaPx7
import Derived.Test.YthgiifakcgjlaaaPx14
set_option maxHeartbeats 8000000
set_option maxRecDepth 100000
namespace Go.Proofs.Ythgiifakcgjlaaa.P
open Go.RowKit YthgiifakcgjlaaaX YthgiifakcgjlaaaW.PrintWords YthgiifakcgjlaaaW.PrintLast YthgiifakcgjlaaaW.PrintMore
attribute [local go_sem] max2_int min2_int max_two min_two max_three min_three max_four min_four
set_option linter.unusedVariables false
set_option linter.unusedSimpArgs false

def steepleref01_Elems.l0 : Nat → Int → List (S70) → ByteArray → Int → Option (ByteArray)
 | 0, _, _, _, _ => none
 | k + 1, x0, x1, x5, x6 => if x6 < (x1.length : Int) then (if 0 ≤ x6 then ((steepleref01_Of.f k x0 ((rd_T70 x1 x6).f0) ((rd_T70 x1 x6).f1)).bind fun t429 => (if t429 = true then ((steepleref01_Bytes.f k x0 ((rd_T70 x1 x6).f0) ((rd_T70 x1 x6).f1)).bind fun t431 => (if x5.size + t431.size ≤ 9223372036854775807 then (steepleref01_Elems.l0 k x0 x1 (x5 ++ t431) (wrap64 (x6 + 1))) else (none))) else (some (⟨#[]⟩ : ByteArray)))) else (none)) else (some x5)
def steepleref01_Elems.f (k : Nat) (a0 : Int) (l1 : List (S70)) : Option (ByteArray) := (steepleref01_Num.f (l1.length : Int)).bind fun t426 => ((steepleref01_Wide.f a0).bind fun t427 => (if t427 = 0 then (some (⟨#[]⟩ : ByteArray)) else (steepleref01_Elems.l0 k a0 l1 t426 0)))
theorem steepleref01_Elems.calls (k : Nat) (a0 : Int) (A1 : Option Addr) (c1 : Nat) (l1 : List (S70)) (r : ByteArray) (w : World) (hr1 : Kd.C k70 w A1 l1.length l1) (hc1 : l1.length ≤ c1) (h : steepleref01_Elems.f k a0 l1 = some r) :
  Calls Try.prog 81 #[.int .i64 a0, .slice A1 l1.length c1] w fun e w' => e = .returned (.string r) ∧ Below w.heap.size w w' := by
 have hu70 := Try.underlying70
 have HR1 := Aside0.mk hr1
 have HC1 := Aside0.mk hc1
 clear hr1 hc1
 have HB := Aside0.mk (Below.refl w.heap.size w)
 have H : ((steepleref01_Num.f (l1.length : Int)).bind fun t426 => ((steepleref01_Wide.f a0).bind fun t427 => (if t427 = 0 then (some (⟨#[]⟩ : ByteArray)) else (steepleref01_Elems.l0 k a0 l1 t426 0)))) = some r := h
 clear h
 obtain ⟨t426, A3, H⟩ := bm2 H
 try dsimp only at H
 obtain ⟨t427, A4, H⟩ := bm2 H
 try dsimp only at H
 by_cases c5 : t427 = 0
 ·rw [if_pos c5] at H
  have c5b0 : (t427 == 0) = true := beq_iff_eq.mpr c5
  have c5b1 : (t427 != 0) = false := bne_eq_false_iff_eq.mpr c5
  clear c5
  obtain rfl := Option.some.inj H
  go_enter Try.func81, Try.ntmps81
  go_wp2_with (first | ((with_reducible refine gate_callee (f := 37) rfl ?_); refine gL (some 9) rfl Try.func37 #[.int .i64 (l1.length : Int)] rfl ?_; (with_reducible refine (steepleref01_Num.calls (l1.length : Int) t426 _ A3.out).mono ?_); rintro e w6 ⟨rfl, hb⟩; refine ⟨_, rfl, ?_⟩; replace HB := bh HB hb; (try clear hb); (try clear hk hi)) | ((with_reducible refine gate_callee (f := 93) rfl ?_); refine gL (some 11) rfl Try.func93 #[.int .i64 a0] rfl ?_; (with_reducible refine (steepleref01_Wide.calls a0 t427 _ A4.out).mono ?_); rintro e w7 ⟨rfl, hb⟩; refine ⟨_, rfl, ?_⟩; replace HB := bh HB hb; (try clear hb); (try clear hk hi)))
  go_ret
  exact ⟨er, bq HB.out⟩
 rw [if_neg c5] at H
 have c5b0 : (t427 == 0) = false := beq_eq_false_iff_ne.mpr c5
 have c5b1 : (t427 != 0) = true := bne_iff_ne.mpr c5
 have H' := Aside0.mk H
 clear H
 go_enter Try.func81, Try.ntmps81
 go_wp2_with (first | ((with_reducible refine gate_callee (f := 37) rfl ?_); refine gL (some 9) rfl Try.func37 #[.int .i64 (l1.length : Int)] rfl ?_; (with_reducible refine (steepleref01_Num.calls (l1.length : Int) t426 _ A3.out).mono ?_); rintro e w8 ⟨rfl, hb⟩; refine ⟨_, rfl, ?_⟩; replace HB := bh HB hb; (try clear hb); (try clear hk hi)) | ((with_reducible refine gate_callee (f := 93) rfl ?_); refine gL (some 11) rfl Try.func93 #[.int .i64 a0] rfl ?_; (with_reducible refine (steepleref01_Wide.calls a0 t427 _ A4.out).mono ?_); rintro e w9 ⟨rfl, hb⟩; refine ⟨_, rfl, ?_⟩; replace HB := bh HB hb; (try clear hb); (try clear hk hi)))
 go_loopg [5, 6] k (fun kq v5 v6 w' => ∃ (x5_1 : ByteArray) (x6_1 : Int), v5 = .string x5_1 ∧ v6 = .int .i64 x6_1 ∧ Aside0 (steepleref01_Elems.l0 kq a0 l1 x5_1 x6_1 = some r) ∧ Aside0 (kq ≤ k) ∧ Aside0 (Below w.heap.size w w'))
 case atStart => exact ⟨(t426), (0), (by first | rfl | (simp; done) | (simp [*]; done)), (by first | rfl | (simp; done) | (simp [*]; done)), H', ⟨Nat.le_refl _⟩, ⟨bq HB.out⟩⟩
 case round =>
  clear H'
  try clear c1
  try clear p2
  try clear c3
  try clear c5
  try clear c5b0
  try clear c5b1
  try clear c8
  try clear c9
  obtain ⟨x5_1, x6_1, rfl, rfl, HA, HK1, HB⟩ := hrel
  cases gk with
  | zero => exact absurd HA.out (by simp [steepleref01_Elems.l0])
  | succ k1 =>
   have H := HA.out
   clear HA
   simp only [steepleref01_Elems.l0] at H
   by_cases c10 : x6_1 < (l1.length : Int)
   rotate_left
   ·rw [if_neg c10] at H
    have c10b0 : decide (x6_1 < (l1.length : Int)) = false := decide_eq_false c10
    clear c10
    obtain rfl := Option.some.inj H
    go_wp2
    go_ret
    exact ⟨er, bq HB.out⟩

   rw [if_pos c10] at H
   have c10b0 : decide (x6_1 < (l1.length : Int)) = true := decide_eq_true c10
   clear c10
   by_cases c11 : 0 ≤ x6_1
   rotate_left
   ·rw [if_neg c11] at H
    exact absurd H (by simp)
   rw [if_pos c11] at H
   have c11b0 : decide (0 ≤ x6_1) = true := decide_eq_true c11
   clear c11
   obtain ⟨t429, A12, H⟩ := bm2 H
   try dsimp only at H
   by_cases c13 : t429 = true
   rotate_left
   ·replace c13 := Bool.eq_false_iff.mpr c13
    subst c13
    have H1 : (some (⟨#[]⟩ : ByteArray)) = some r := by rw [if_neg (show ¬ (false = true) by decide)] at H; exact H
    clear H
    have H := H1
    clear H1
    obtain rfl := Option.some.inj H
    have p428 : 0 ≤ (x6_1 : Int) := dt
    have q428 : x6_1 < (l1.length : Int) := dt
    obtain ⟨ad428, e428, hx428_0, hx428_1⟩ := at_T70 HR1.out x6_1 p428 q428
    cases e428
    replace hx428_0 := (HB.out.cell (World.block_lt_of_cell? w _ hx428_0)).trans hx428_0
    replace hx428_1 := (HB.out.cell (World.block_lt_of_cell? w _ hx428_1)).trans hx428_1
    replace p428 := eq_true p428
    replace q428 := eq_true q428
    go_wp2_with (first | ((with_reducible refine gate_callee (f := 92) rfl ?_); refine gL (some 24) rfl Try.func92 #[.int .i64 a0, .agg #[.int .u64 ((rd_T70 l1 x6_1).f0), .int .u64 ((rd_T70 l1 x6_1).f1)]] rfl ?_; (with_reducible refine (steepleref01_Of.calls k1 a0 ((rd_T70 l1 x6_1).f0) ((rd_T70 l1 x6_1).f1) false _ A12.out).mono ?_); rintro e w18 ⟨rfl, hb⟩; refine ⟨_, rfl, ?_⟩; replace HB := bh HB hb; (try clear hb); (try clear hk hi)))
    go_ret
    exact ⟨er, bq HB.out⟩
   subst c13
   have H1 : ((steepleref01_Bytes.f k1 a0 ((rd_T70 l1 x6_1).f0) ((rd_T70 l1 x6_1).f1)).bind fun t431 => (if x5_1.size + t431.size ≤ 9223372036854775807 then (steepleref01_Elems.l0 k1 a0 l1 (x5_1 ++ t431) (wrap64 (x6_1 + 1))) else (none))) = some r := by rw [if_pos rfl] at H; exact H
   clear H
   have H := H1
   clear H1
   obtain ⟨t431, A14, H⟩ := bm2 H
   try dsimp only at H
   by_cases c15 : x5_1.size + t431.size ≤ 9223372036854775807
   rotate_left
   ·rw [if_neg c15] at H
    exact absurd H (by simp)
   rw [if_pos c15] at H
   have c15b0 := eq_true c15
   have c15b1 : decide (x5_1.size + t431.size ≤ 9223372036854775807) = true := decide_eq_true c15
   try have c15b2 : (9223372036854775807 < x5_1.size + t431.size) = False := eq_false (Nat.not_lt.2 c15)
   have H' := Aside0.mk H
   clear H
   have p428 : 0 ≤ (x6_1 : Int) := dt
   have q428 : x6_1 < (l1.length : Int) := dt
   obtain ⟨ad428, e428, hx428_0, hx428_1⟩ := at_T70 HR1.out x6_1 p428 q428
   cases e428
   replace hx428_0 := (HB.out.cell (World.block_lt_of_cell? w _ hx428_0)).trans hx428_0
   replace hx428_1 := (HB.out.cell (World.block_lt_of_cell? w _ hx428_1)).trans hx428_1
   replace p428 := eq_true p428
   replace q428 := eq_true q428
   go_wp2_with (first | ((with_reducible refine gate_callee (f := 92) rfl ?_); refine gL (some 24) rfl Try.func92 #[.int .i64 a0, .agg #[.int .u64 ((rd_T70 l1 x6_1).f0), .int .u64 ((rd_T70 l1 x6_1).f1)]] rfl ?_; (with_reducible refine (steepleref01_Of.calls k1 a0 ((rd_T70 l1 x6_1).f0) ((rd_T70 l1 x6_1).f1) true _ A12.out).mono ?_); rintro e w16 ⟨rfl, hb⟩; refine ⟨_, rfl, ?_⟩; replace HB := bh HB hb; (try clear hb); (try clear hk hi); have p430 : 0 ≤ (x6_1 : Int) := dt; have q430 : x6_1 < (l1.length : Int) := dt; obtain ⟨ad430, e430, hx430_0, hx430_1⟩ := at_T70 HR1.out x6_1 p430 q430; obtain rfl : ad428 = ad430 := (by injection e430); replace hx430_0 := (HB.out.cell (World.block_lt_of_cell? w _ hx430_0)).trans hx430_0; replace hx430_1 := (HB.out.cell (World.block_lt_of_cell? w _ hx430_1)).trans hx430_1; replace p430 := eq_true p430; replace q430 := eq_true q430) | ((with_reducible refine gate_callee (f := 49) rfl ?_); refine gL (some 32) rfl Try.func49 #[.int .i64 a0, .agg #[.int .u64 ((rd_T70 l1 x6_1).f0), .int .u64 ((rd_T70 l1 x6_1).f1)]] rfl ?_; (with_reducible refine (steepleref01_Bytes.calls k1 a0 ((rd_T70 l1 x6_1).f0) ((rd_T70 l1 x6_1).f1) t431 _ A14.out).mono ?_); rintro e w17 ⟨rfl, hb⟩; refine ⟨_, rfl, ?_⟩; replace HB := bh HB hb; (try clear hb); (try clear hk hi)))
   go_roundg k1
   case measure => have := HK1.out; omega
   case rel => exact ⟨(x5_1 ++ t431), (wrap64 (x6_1 + 1)), (by first | rfl | (simp; done) | (simp [*]; done)), (by first | rfl | (simp; done) | (simp [*]; done)), H', ⟨by have := HK1.out; omega⟩, ⟨bq HB.out⟩⟩
def steepleref29_put.l0 : Nat → Int → List (List (S70)) → ByteArray → Int → Option (ByteArray)
 | 0, _, _, _, _ => none
 | k + 1, x0, x1, x5, x6 => if x6 < (x1.length : Int) then (if 0 ≤ x6 then ((steepleref01_Elems.f k x0 (rd_L7 x1 x6)).bind fun t434 => (if x5.size + t434.size ≤ 9223372036854775807 then (steepleref29_put.l0 k x0 x1 (x5 ++ t434) (wrap64 (x6 + 1))) else (none))) else (none)) else (some x5)
def steepleref29_put.f (k : Nat) (a0 : Int) (l1 : List (List (S70))) : Option (ByteArray) := (steepleref01_Num.f (l1.length : Int)).bind fun t432 => (steepleref29_put.l0 k a0 l1 t432 0)
theorem steepleref29_put.calls (k : Nat) (a0 : Int) (A1 : Option Addr) (c1 : Nat) (l1 : List (List (S70))) (r : ByteArray) (w : World) (hr1 : Kd.C (Kd.slice 70 k70) w A1 l1.length l1) (hc1 : l1.length ≤ c1) (h : steepleref29_put.f k a0 l1 = some r) :
  Calls Try.prog 80 #[.int .i64 a0, .slice A1 l1.length c1] w fun e w' => e = .returned (.string r) ∧ Below w.heap.size w w' := by
 have HR1 := Aside0.mk hr1
 have HC1 := Aside0.mk hc1
 clear hr1 hc1
 have HB := Aside0.mk (Below.refl w.heap.size w)
 have H : ((steepleref01_Num.f (l1.length : Int)).bind fun t432 => (steepleref29_put.l0 k a0 l1 t432 0)) = some r := h
 clear h
 obtain ⟨t432, A3, H⟩ := bm2 H
 try dsimp only at H
 have H' := Aside0.mk H
 clear H
 go_enter Try.func80, Try.ntmps80
 go_wp2_with (first | ((with_reducible refine gate_callee (f := 37) rfl ?_); refine gL (some 9) rfl Try.func37 #[.int .i64 (l1.length : Int)] rfl ?_; (with_reducible refine (steepleref01_Num.calls (l1.length : Int) t432 _ A3.out).mono ?_); rintro e w4 ⟨rfl, hb⟩; refine ⟨_, rfl, ?_⟩; replace HB := bh HB hb; (try clear hb); (try clear hk hi)))
 go_loopg [5, 6] k (fun kq v5 v6 w' => ∃ (x5_1 : ByteArray) (x6_1 : Int), v5 = .string x5_1 ∧ v6 = .int .i64 x6_1 ∧ Aside0 (steepleref29_put.l0 kq a0 l1 x5_1 x6_1 = some r) ∧ Aside0 (kq ≤ k) ∧ Aside0 (Below w.heap.size w w'))
 case atStart => exact ⟨(t432), (0), (by first | rfl | (simp; done) | (simp [*]; done)), (by first | rfl | (simp; done) | (simp [*]; done)), H', ⟨Nat.le_refl _⟩, ⟨bq HB.out⟩⟩
 case round =>
  clear H'
  try clear c1
  try clear p2
  try clear c3
  obtain ⟨x5_1, x6_1, rfl, rfl, HA, HK1, HB⟩ := hrel
  cases gk with
  | zero => exact absurd HA.out (by simp [steepleref29_put.l0])
  | succ k1 =>
   have H := HA.out
   clear HA
   simp only [steepleref29_put.l0] at H
   by_cases c5 : x6_1 < (l1.length : Int)
   rotate_left
   ·rw [if_neg c5] at H
    have c5b0 : decide (x6_1 < (l1.length : Int)) = false := decide_eq_false c5
    clear c5
    obtain rfl := Option.some.inj H
    go_wp2
    go_ret
    exact ⟨er, bq HB.out⟩

   rw [if_pos c5] at H
   have c5b0 : decide (x6_1 < (l1.length : Int)) = true := decide_eq_true c5
   clear c5
   by_cases c6 : 0 ≤ x6_1
   rotate_left
   ·rw [if_neg c6] at H
    exact absurd H (by simp)
   rw [if_pos c6] at H
   have c6b0 : decide (0 ≤ x6_1) = true := decide_eq_true c6
   clear c6
   obtain ⟨t434, A7, H⟩ := bm2 H
   try dsimp only at H
   by_cases c8 : x5_1.size + t434.size ≤ 9223372036854775807
   rotate_left
   ·rw [if_neg c8] at H
    exact absurd H (by simp)
   rw [if_pos c8] at H
   have c8b0 := eq_true c8
   have c8b1 : decide (x5_1.size + t434.size ≤ 9223372036854775807) = true := decide_eq_true c8
   try have c8b2 : (9223372036854775807 < x5_1.size + t434.size) = False := eq_false (Nat.not_lt.2 c8)
   have H' := Aside0.mk H
   clear H
   have p433 : 0 ≤ (x6_1 : Int) := dt
   have q433 : x6_1 < (l1.length : Int) := dt
   obtain ⟨ad433, A433_0, c433_0, e433, hx433_0, hl433_0, hi433_0⟩ := at_L7 HR1.out x6_1 p433 q433
   cases e433
   replace hx433_0 := (HB.out.cell (World.block_lt_of_cell? w _ hx433_0)).trans hx433_0
   have HR433_0 := Aside0.mk hi433_0
   have HC433_0 := Aside0.mk hl433_0
   clear hi433_0 hl433_0
   replace p433 := eq_true p433
   replace q433 := eq_true q433
   go_wp2_with (first | ((with_reducible refine gate_callee (f := 81) rfl ?_); refine gL (some 22) rfl Try.func81 #[.int .i64 a0, .slice A433_0 (rd_L7 l1 x6_1).length c433_0] rfl ?_; (with_reducible refine (steepleref01_Elems.calls k1 a0 _ _ (rd_L7 l1 x6_1) t434 _ ?side1 ?side2 A7.out).mono ?_); (case side1 => exact cq (Kd.C_below HR433_0.out HB.out)); (case side2 => exact HC433_0.out); rintro e w9 ⟨rfl, hb⟩; refine ⟨_, rfl, ?_⟩; replace HB := bh HB hb; (try clear hb); (try clear hk hi)))
   go_roundg k1
   case measure => have := HK1.out; omega
   case rel => exact ⟨(x5_1 ++ t434), (wrap64 (x6_1 + 1)), (by first | rfl | (simp; done) | (simp [*]; done)), (by first | rfl | (simp; done) | (simp [*]; done)), H', ⟨by have := HK1.out; omega⟩, ⟨bq HB.out⟩⟩
def steepleref01_List.l0 : Nat → List ByteArray → ByteArray → Int → Option (ByteArray)
 | 0, _, _, _ => none
 | k + 1, x0, x3, x4 => if x4 < (x0.length : Int) then (if 0 ≤ x4 then ((steepleref01_Text.f (rdOf ByteArray.empty x0 x4)).bind fun t437 => (if x3.size + t437.size ≤ 9223372036854775807 then (steepleref01_List.l0 k x0 (x3 ++ t437) (wrap64 (x4 + 1))) else (none))) else (none)) else (some x3)
def steepleref01_List.f (k : Nat) (l0 : List ByteArray) : Option (ByteArray) := (steepleref01_Num.f (l0.length : Int)).bind fun t435 => (steepleref01_List.l0 k l0 t435 0)
theorem steepleref01_List.calls (k : Nat) (A0 : Option Addr) (c0 : Nat) (l0 : List ByteArray) (r : ByteArray) (w : World) (hr0 : Kd.C Kd.string w A0 l0.length l0) (hc0 : l0.length ≤ c0) (h : steepleref01_List.f k l0 = some r) :
  Calls Try.prog 82 #[.slice A0 l0.length c0] w fun e w' => e = .returned (.string r) ∧ Below w.heap.size w w' := by
 have HR0 := Aside0.mk hr0
 have HC0 := Aside0.mk hc0
 clear hr0 hc0
 have HB := Aside0.mk (Below.refl w.heap.size w)
 have H : ((steepleref01_Num.f (l0.length : Int)).bind fun t435 => (steepleref01_List.l0 k l0 t435 0)) = some r := h
 clear h
 obtain ⟨t435, A2, H⟩ := bm2 H
 try dsimp only at H
 have H' := Aside0.mk H
 clear H
 go_enter Try.func82, Try.ntmps82
 go_wp2_with (first | ((with_reducible refine gate_callee (f := 37) rfl ?_); refine gL (some 7) rfl Try.func37 #[.int .i64 (l0.length : Int)] rfl ?_; (with_reducible refine (steepleref01_Num.calls (l0.length : Int) t435 _ A2.out).mono ?_); rintro e w3 ⟨rfl, hb⟩; refine ⟨_, rfl, ?_⟩; replace HB := bh HB hb; (try clear hb); (try clear hk hi)))
 go_loopg [3, 4] k (fun kq v3 v4 w' => ∃ (x3_1 : ByteArray) (x4_1 : Int), v3 = .string x3_1 ∧ v4 = .int .i64 x4_1 ∧ Aside0 (steepleref01_List.l0 kq l0 x3_1 x4_1 = some r) ∧ Aside0 (kq ≤ k) ∧ Aside0 (Below w.heap.size w w'))
 case atStart => exact ⟨(t435), (0), (by first | rfl | (simp; done) | (simp [*]; done)), (by first | rfl | (simp; done) | (simp [*]; done)), H', ⟨Nat.le_refl _⟩, ⟨bq HB.out⟩⟩
 case round =>
  clear H'
  try clear p2
  try clear c3
  obtain ⟨x3_1, x4_1, rfl, rfl, HA, HK1, HB⟩ := hrel
  cases gk with
  | zero => exact absurd HA.out (by simp [steepleref01_List.l0])
  | succ k1 =>
   have H := HA.out
   clear HA
   simp only [steepleref01_List.l0] at H
   by_cases c4 : x4_1 < (l0.length : Int)
   rotate_left
   ·rw [if_neg c4] at H
    have c4b0 : decide (x4_1 < (l0.length : Int)) = false := decide_eq_false c4
    clear c4
    obtain rfl := Option.some.inj H
    go_wp2
    go_ret
    exact ⟨er, bq HB.out⟩

   rw [if_pos c4] at H
   have c4b0 : decide (x4_1 < (l0.length : Int)) = true := decide_eq_true c4
   clear c4
   by_cases c5 : 0 ≤ x4_1
   rotate_left
   ·rw [if_neg c5] at H
    exact absurd H (by simp)
   rw [if_pos c5] at H
   have c5b0 : decide (0 ≤ x4_1) = true := decide_eq_true c5
   clear c5
   obtain ⟨t437, A6, H⟩ := bm2 H
   try dsimp only at H
   by_cases c7 : x3_1.size + t437.size ≤ 9223372036854775807
   rotate_left
   ·rw [if_neg c7] at H
    exact absurd H (by simp)
   rw [if_pos c7] at H
   have c7b0 := eq_true c7
   have c7b1 : decide (x3_1.size + t437.size ≤ 9223372036854775807) = true := decide_eq_true c7
   try have c7b2 : (9223372036854775807 < x3_1.size + t437.size) = False := eq_false (Nat.not_lt.2 c7)
   have H' := Aside0.mk H
   clear H
   have p436 : 0 ≤ (x4_1 : Int) := dt
   have q436 : x4_1 < (l0.length : Int) := dt
   obtain ⟨ad436, e436, hx436_0⟩ := Kd.at_string HR0.out x4_1 p436 q436
   cases e436
   replace hx436_0 := (HB.out.cell (World.block_lt_of_cell? w _ hx436_0)).trans hx436_0
   replace p436 := eq_true p436
   replace q436 := eq_true q436
   go_wp2_with (first | ((with_reducible refine gate_callee (f := 79) rfl ?_); refine gL (some 19) rfl Try.func79 #[.string (rdOf ByteArray.empty l0 x4_1)] rfl ?_; (with_reducible refine (steepleref01_Text.calls (rdOf ByteArray.empty l0 x4_1) t437 _ A6.out).mono ?_); rintro e w8 ⟨rfl, hb⟩; refine ⟨_, rfl, ?_⟩; replace HB := bh HB hb; (try clear hb); (try clear hk hi)))
   go_roundg k1
   case measure => have := HK1.out; omega
   case rel => exact ⟨(x3_1 ++ t437), (wrap64 (x4_1 + 1)), (by first | rfl | (simp; done) | (simp [*]; done)), (by first | rfl | (simp; done) | (simp [*]; done)), H', ⟨by have := HK1.out; omega⟩, ⟨bq HB.out⟩⟩
end Go.Proofs.Ythgiifakcgjlaaa.P
