/- Functions that the law reaches, as Lean functions. Conditions: those that each theorem names. -/
import Derived.Test.YthgiifakcgjlaaaPx0
import Derived.Test.YthgiifakcgjlaaaX2
import Derived.Test.YthgiifakcgjlaaaX2
import Derived.Test.YthgiifakcgjlaaaPx14
import Derived.Test.YthgiifakcgjlaaaPx15
namespace Go.Proofs.Ythgiifakcgjlaaa.P
open Go.RowKit YthgiifakcgjlaaaX YthgiifakcgjlaaaW.PrintWords YthgiifakcgjlaaaW.PrintLast YthgiifakcgjlaaaW.PrintMore
attribute [local go_sem] max2_int min2_int max_two min_two max_three min_three max_four min_four
set_option linter.unusedVariables false
set_option linter.unusedSimpArgs false

def steepleref29_Bytes.f (k : Nat) (a0 : Int) (a1_0 : ByteArray) (l1_1 : List (List (S70))) (l1_2 : List (S70)) (l1_3 : List (List (S70))) (a1_4 : Int) (a1_5 : Int) (l1_6 : List (S70)) (l1_7 : List (List (S70))) (a1_8 : Int) (a1_9 : Int) (l1_10 : List (S70)) (l1_11 : List (List (S70))) (l1_12 : List ByteArray) : Option (ByteArray) := (steepleref01_Num.f a0).bind fun t439 => ((steepleref01_Text.f a1_0).bind fun t440 => (if t439.size + t440.size ≤ 9223372036854775807 then ((steepleref29_put.f k a0 l1_1).bind fun t441 => (if (t439 ++ t440).size + t441.size ≤ 9223372036854775807 then ((steepleref01_Elems.f k a0 l1_2).bind fun t442 => (if ((t439 ++ t440) ++ t441).size + t442.size ≤ 9223372036854775807 then ((steepleref29_put.f k a0 l1_3).bind fun t443 => (if (((t439 ++ t440) ++ t441) ++ t442).size + t443.size ≤ 9223372036854775807 then ((steepleref01_Elems.f k a0 (([(⟨a1_4, a1_5⟩ : S70)] : List (S70)))).bind fun t447 => (if ((((t439 ++ t440) ++ t441) ++ t442) ++ t443).size + t447.size ≤ 9223372036854775807 then ((steepleref01_Elems.f k a0 l1_6).bind fun t448 => (if (((((t439 ++ t440) ++ t441) ++ t442) ++ t443) ++ t447).size + t448.size ≤ 9223372036854775807 then ((steepleref29_put.f k a0 l1_7).bind fun t449 => (if ((((((t439 ++ t440) ++ t441) ++ t442) ++ t443) ++ t447) ++ t448).size + t449.size ≤ 9223372036854775807 then ((steepleref01_Elems.f k a0 (([(⟨a1_8, a1_9⟩ : S70)] : List (S70)))).bind fun t453 => (if (((((((t439 ++ t440) ++ t441) ++ t442) ++ t443) ++ t447) ++ t448) ++ t449).size + t453.size ≤ 9223372036854775807 then ((steepleref01_Elems.f k a0 l1_10).bind fun t454 => (if ((((((((t439 ++ t440) ++ t441) ++ t442) ++ t443) ++ t447) ++ t448) ++ t449) ++ t453).size + t454.size ≤ 9223372036854775807 then ((steepleref29_put.f k a0 l1_11).bind fun t455 => (if (((((((((t439 ++ t440) ++ t441) ++ t442) ++ t443) ++ t447) ++ t448) ++ t449) ++ t453) ++ t454).size + t455.size ≤ 9223372036854775807 then ((steepleref01_List.f k l1_12).bind fun t456 => (if ((((((((((t439 ++ t440) ++ t441) ++ t442) ++ t443) ++ t447) ++ t448) ++ t449) ++ t453) ++ t454) ++ t455).size + t456.size ≤ 9223372036854775807 then (some (((((((((((t439 ++ t440) ++ t441) ++ t442) ++ t443) ++ t447) ++ t448) ++ t449) ++ t453) ++ t454) ++ t455) ++ t456)) else (none))) else (none))) else (none))) else (none))) else (none))) else (none))) else (none))) else (none))) else (none))) else (none))) else (none)))
def steepleref29_Bytes.T1 : Bool × List (List Nat × List Nat) := (true, [([], []), ([0], [0]), ([], []), ([2], [2]), ([3, 1], [3]), ([1, 4], [1, 4]), ([], []), ([], []), ([7], [7]), ([6, 8, 4], [6, 8]), ([5, 9], [5, 9]), ([], []), ([], []), ([12], [12]), ([11, 13, 9], [11, 13]), ([10, 14], [10, 14]), ([], []), ([], []), ([17], [17]), ([16, 18, 14], [16, 18]), ([15, 19], [15, 19]), ([20, 19, 0, 1, 2, 3, 4, 5, 6, 7, 8, 9, 10, 11, 12, 13, 14, 15, 16, 17, 18, 19, 20], [20])])
def steepleref29_Bytes.B1 : List Nat := [0, 1, 0, 4, 15, 31, 0, 0, 128, 479, 1023, 0, 0, 4096, 15327, 32767, 0, 0, 131072, 490463, 1048575, 2097151]
theorem steepleref29_Bytes.tab1 : rtab .any (opsOf Try.f30 1) = steepleref29_Bytes.T1 := by kernel_rfl
theorem steepleref29_Bytes.bits1 : waitsOk steepleref29_Bytes.T1.2 steepleref29_Bytes.B1 = true := by kernel_rfl
def steepleref29_Bytes.T2 : Bool × List (List Nat × List Nat) := (true, [([], []), ([], []), ([], []), ([2], [2]), ([3], [3]), ([1, 4], [1, 4]), ([0, 5], [0, 5]), ([], []), ([], []), ([8], [8]), ([7, 9, 5], [7, 9]), ([6, 10], [6, 10]), ([], []), ([], []), ([13], [13]), ([12, 14, 10], [12, 14]), ([11, 15], [11, 15]), ([16, 15, 0, 1, 2, 3, 4, 5, 6, 7, 8, 9, 10, 11, 12, 13, 14, 15, 16], [0, 16])])
def steepleref29_Bytes.B2 : List Nat := [0, 0, 0, 4, 12, 30, 63, 0, 0, 256, 958, 2047, 0, 0, 8192, 30654, 65535, 131071]
theorem steepleref29_Bytes.tab2 : rtab .any (opsOf Try.f30 2) = steepleref29_Bytes.T2 := by kernel_rfl
theorem steepleref29_Bytes.bits2 : waitsOk steepleref29_Bytes.T2.2 steepleref29_Bytes.B2 = true := by kernel_rfl
def steepleref29_Bytes.T3 : Bool × List (List Nat × List Nat) := (true, [([], []), ([], []), ([], []), ([2], [2]), ([3], [3]), ([1, 4], [1, 4]), ([0, 5], [0, 5]), ([], []), ([], []), ([8], [8]), ([9], [9]), ([7, 10, 5], [7, 10]), ([6, 11], [6, 11]), ([], []), ([], []), ([14], [14]), ([15], [15]), ([13, 16, 11], [13, 16]), ([12, 17], [12, 17]), ([18, 17, 0, 1, 2, 3, 4, 5, 6, 7, 8, 9, 10, 11, 12, 13, 14, 15, 16, 17, 18], [0, 18])])
def steepleref29_Bytes.B3 : List Nat := [0, 0, 0, 4, 12, 30, 63, 0, 0, 256, 768, 1982, 4095, 0, 0, 16384, 49152, 126910, 262143, 524287]
theorem steepleref29_Bytes.tab3 : rtab .any (opsOf Try.f30 3) = steepleref29_Bytes.T3 := by kernel_rfl
theorem steepleref29_Bytes.bits3 : waitsOk steepleref29_Bytes.T3.2 steepleref29_Bytes.B3 = true := by kernel_rfl
set_option maxHeartbeats 8000000 in
set_option maxRecDepth 100000 in
theorem steepleref29_Bytes.calls (k : Nat) (a0 : Int) (a1_0 : ByteArray) (A1_1 : Option Addr) (c1_1 : Nat) (l1_1 : List (List (S70))) (A1_2 : Option Addr) (c1_2 : Nat) (l1_2 : List (S70)) (A1_3 : Option Addr) (c1_3 : Nat) (l1_3 : List (List (S70))) (a1_4 : Int) (a1_5 : Int) (A1_6 : Option Addr) (c1_6 : Nat) (l1_6 : List (S70)) (A1_7 : Option Addr) (c1_7 : Nat) (l1_7 : List (List (S70))) (a1_8 : Int) (a1_9 : Int) (A1_10 : Option Addr) (c1_10 : Nat) (l1_10 : List (S70)) (A1_11 : Option Addr) (c1_11 : Nat) (l1_11 : List (List (S70))) (A1_12 : Option Addr) (c1_12 : Nat) (l1_12 : List ByteArray) (r : ByteArray) (w : World) (hr1_1 : Kd.C (Kd.slice 70 k70) w A1_1 l1_1.length l1_1) (hc1_1 : l1_1.length ≤ c1_1) (hr1_2 : Kd.C k70 w A1_2 l1_2.length l1_2) (hc1_2 : l1_2.length ≤ c1_2) (hr1_3 : Kd.C (Kd.slice 70 k70) w A1_3 l1_3.length l1_3) (hc1_3 : l1_3.length ≤ c1_3) (hr1_6 : Kd.C k70 w A1_6 l1_6.length l1_6) (hc1_6 : l1_6.length ≤ c1_6) (hr1_7 : Kd.C (Kd.slice 70 k70) w A1_7 l1_7.length l1_7) (hc1_7 : l1_7.length ≤ c1_7) (hr1_10 : Kd.C k70 w A1_10 l1_10.length l1_10) (hc1_10 : l1_10.length ≤ c1_10) (hr1_11 : Kd.C (Kd.slice 70 k70) w A1_11 l1_11.length l1_11) (hc1_11 : l1_11.length ≤ c1_11) (hr1_12 : Kd.C Kd.string w A1_12 l1_12.length l1_12) (hc1_12 : l1_12.length ≤ c1_12) (h : steepleref29_Bytes.f k a0 a1_0 l1_1 l1_2 l1_3 a1_4 a1_5 l1_6 l1_7 a1_8 a1_9 l1_10 l1_11 l1_12 = some r) :
  Calls Try.prog 30 #[.int .i64 a0, .agg #[.string a1_0, .slice A1_1 l1_1.length c1_1, .slice A1_2 l1_2.length c1_2, .slice A1_3 l1_3.length c1_3, .int .u64 a1_4, .int .u64 a1_5, .slice A1_6 l1_6.length c1_6, .slice A1_7 l1_7.length c1_7, .int .u64 a1_8, .int .u64 a1_9, .slice A1_10 l1_10.length c1_10, .slice A1_11 l1_11.length c1_11, .slice A1_12 l1_12.length c1_12]] w fun e w' => e = .returned (.string r) ∧ Below w.heap.size w w' := by
 have hu74 := Try.underlying74
 have hu70 := Try.underlying70
 have HR1_1 := Aside0.mk hr1_1
 have HC1_1 := Aside0.mk hc1_1
 clear hr1_1 hc1_1
 have HR1_2 := Aside0.mk hr1_2
 have HC1_2 := Aside0.mk hc1_2
 clear hr1_2 hc1_2
 have HR1_3 := Aside0.mk hr1_3
 have HC1_3 := Aside0.mk hc1_3
 clear hr1_3 hc1_3
 have HR1_6 := Aside0.mk hr1_6
 have HC1_6 := Aside0.mk hc1_6
 clear hr1_6 hc1_6
 have HR1_7 := Aside0.mk hr1_7
 have HC1_7 := Aside0.mk hc1_7
 clear hr1_7 hc1_7
 have HR1_10 := Aside0.mk hr1_10
 have HC1_10 := Aside0.mk hc1_10
 clear hr1_10 hc1_10
 have HR1_11 := Aside0.mk hr1_11
 have HC1_11 := Aside0.mk hc1_11
 clear hr1_11 hc1_11
 have HR1_12 := Aside0.mk hr1_12
 have HC1_12 := Aside0.mk hc1_12
 clear hr1_12 hc1_12
 have HB := Aside0.mk (Below.refl w.heap.size w)
 have H : ((steepleref01_Num.f a0).bind fun t439 => ((steepleref01_Text.f a1_0).bind fun t440 => (if t439.size + t440.size ≤ 9223372036854775807 then ((steepleref29_put.f k a0 l1_1).bind fun t441 => (if (t439 ++ t440).size + t441.size ≤ 9223372036854775807 then ((steepleref01_Elems.f k a0 l1_2).bind fun t442 => (if ((t439 ++ t440) ++ t441).size + t442.size ≤ 9223372036854775807 then ((steepleref29_put.f k a0 l1_3).bind fun t443 => (if (((t439 ++ t440) ++ t441) ++ t442).size + t443.size ≤ 9223372036854775807 then ((steepleref01_Elems.f k a0 (([(⟨a1_4, a1_5⟩ : S70)] : List (S70)))).bind fun t447 => (if ((((t439 ++ t440) ++ t441) ++ t442) ++ t443).size + t447.size ≤ 9223372036854775807 then ((steepleref01_Elems.f k a0 l1_6).bind fun t448 => (if (((((t439 ++ t440) ++ t441) ++ t442) ++ t443) ++ t447).size + t448.size ≤ 9223372036854775807 then ((steepleref29_put.f k a0 l1_7).bind fun t449 => (if ((((((t439 ++ t440) ++ t441) ++ t442) ++ t443) ++ t447) ++ t448).size + t449.size ≤ 9223372036854775807 then ((steepleref01_Elems.f k a0 (([(⟨a1_8, a1_9⟩ : S70)] : List (S70)))).bind fun t453 => (if (((((((t439 ++ t440) ++ t441) ++ t442) ++ t443) ++ t447) ++ t448) ++ t449).size + t453.size ≤ 9223372036854775807 then ((steepleref01_Elems.f k a0 l1_10).bind fun t454 => (if ((((((((t439 ++ t440) ++ t441) ++ t442) ++ t443) ++ t447) ++ t448) ++ t449) ++ t453).size + t454.size ≤ 9223372036854775807 then ((steepleref29_put.f k a0 l1_11).bind fun t455 => (if (((((((((t439 ++ t440) ++ t441) ++ t442) ++ t443) ++ t447) ++ t448) ++ t449) ++ t453) ++ t454).size + t455.size ≤ 9223372036854775807 then ((steepleref01_List.f k l1_12).bind fun t456 => (if ((((((((((t439 ++ t440) ++ t441) ++ t442) ++ t443) ++ t447) ++ t448) ++ t449) ++ t453) ++ t454) ++ t455).size + t456.size ≤ 9223372036854775807 then (some (((((((((((t439 ++ t440) ++ t441) ++ t442) ++ t443) ++ t447) ++ t448) ++ t449) ++ t453) ++ t454) ++ t455) ++ t456)) else (none))) else (none))) else (none))) else (none))) else (none))) else (none))) else (none))) else (none))) else (none))) else (none))) else (none)))) = some r := h
 clear h
 obtain ⟨t439, A3, H⟩ := bm2 H
 try dsimp only at H
 obtain ⟨t440, A4, H⟩ := bm2 H
 try dsimp only at H
 by_cases c5 : t439.size + t440.size ≤ 9223372036854775807
 rotate_left
 ·rw [if_neg c5] at H
  exact absurd H (by simp)

 rw [if_pos c5] at H
 have c5b0 := eq_true c5
 have c5b1 : decide (t439.size + t440.size ≤ 9223372036854775807) = true := decide_eq_true c5
 try have c5b2 : (9223372036854775807 < t439.size + t440.size) = False := eq_false (Nat.not_lt.2 c5)
 obtain ⟨t441, A6, H⟩ := bm2 H
 try dsimp only at H
 by_cases c7 : (t439 ++ t440).size + t441.size ≤ 9223372036854775807
 rotate_left
 ·rw [if_neg c7] at H
  exact absurd H (by simp)
 rw [if_pos c7] at H
 have c7b0 := eq_true c7
 have c7b1 : decide ((t439 ++ t440).size + t441.size ≤ 9223372036854775807) = true := decide_eq_true c7
 try have c7b2 : (9223372036854775807 < (t439 ++ t440).size + t441.size) = False := eq_false (Nat.not_lt.2 c7)
 try have c7b3 : (9223372036854775807 < t439.size + t440.size + t441.size) = False := by have h_ := c7; simp only [ByteArray.size_append] at h_; exact eq_false (Nat.not_lt.2 h_)
 obtain ⟨t442, A8, H⟩ := bm2 H
 try dsimp only at H
 by_cases c9 : ((t439 ++ t440) ++ t441).size + t442.size ≤ 9223372036854775807
 rotate_left
 ·rw [if_neg c9] at H
  exact absurd H (by simp)
 rw [if_pos c9] at H
 have c9b0 := eq_true c9
 have c9b1 : decide (((t439 ++ t440) ++ t441).size + t442.size ≤ 9223372036854775807) = true := decide_eq_true c9
 try have c9b2 : (9223372036854775807 < ((t439 ++ t440) ++ t441).size + t442.size) = False := eq_false (Nat.not_lt.2 c9)
 try have c9b3 : (9223372036854775807 < t439.size + t440.size + t441.size + t442.size) = False := by have h_ := c9; simp only [ByteArray.size_append] at h_; exact eq_false (Nat.not_lt.2 h_)
 obtain ⟨t443, A10, H⟩ := bm2 H
 try dsimp only at H
 by_cases c11 : (((t439 ++ t440) ++ t441) ++ t442).size + t443.size ≤ 9223372036854775807
 rotate_left
 ·rw [if_neg c11] at H
  exact absurd H (by simp)
 rw [if_pos c11] at H
 have c11b0 := eq_true c11
 have c11b1 : decide ((((t439 ++ t440) ++ t441) ++ t442).size + t443.size ≤ 9223372036854775807) = true := decide_eq_true c11
 try have c11b2 : (9223372036854775807 < (((t439 ++ t440) ++ t441) ++ t442).size + t443.size) = False := eq_false (Nat.not_lt.2 c11)
 try have c11b3 : (9223372036854775807 < t439.size + t440.size + t441.size + t442.size + t443.size) = False := by have h_ := c11; simp only [ByteArray.size_append] at h_; exact eq_false (Nat.not_lt.2 h_)
 obtain ⟨y444, hy444⟩ : ∃ y_ : List (S70), y_ = (([(⟨a1_4, a1_5⟩ : S70)] : List (S70))) := ⟨_, rfl⟩
 replace H : ((steepleref01_Elems.f k a0 y444).bind fun t447 => (if ((((t439 ++ t440) ++ t441) ++ t442) ++ t443).size + t447.size ≤ 9223372036854775807 then ((steepleref01_Elems.f k a0 l1_6).bind fun t448 => (if (((((t439 ++ t440) ++ t441) ++ t442) ++ t443) ++ t447).size + t448.size ≤ 9223372036854775807 then ((steepleref29_put.f k a0 l1_7).bind fun t449 => (if ((((((t439 ++ t440) ++ t441) ++ t442) ++ t443) ++ t447) ++ t448).size + t449.size ≤ 9223372036854775807 then ((steepleref01_Elems.f k a0 (([(⟨a1_8, a1_9⟩ : S70)] : List (S70)))).bind fun t453 => (if (((((((t439 ++ t440) ++ t441) ++ t442) ++ t443) ++ t447) ++ t448) ++ t449).size + t453.size ≤ 9223372036854775807 then ((steepleref01_Elems.f k a0 l1_10).bind fun t454 => (if ((((((((t439 ++ t440) ++ t441) ++ t442) ++ t443) ++ t447) ++ t448) ++ t449) ++ t453).size + t454.size ≤ 9223372036854775807 then ((steepleref29_put.f k a0 l1_11).bind fun t455 => (if (((((((((t439 ++ t440) ++ t441) ++ t442) ++ t443) ++ t447) ++ t448) ++ t449) ++ t453) ++ t454).size + t455.size ≤ 9223372036854775807 then ((steepleref01_List.f k l1_12).bind fun t456 => (if ((((((((((t439 ++ t440) ++ t441) ++ t442) ++ t443) ++ t447) ++ t448) ++ t449) ++ t453) ++ t454) ++ t455).size + t456.size ≤ 9223372036854775807 then (some (((((((((((t439 ++ t440) ++ t441) ++ t442) ++ t443) ++ t447) ++ t448) ++ t449) ++ t453) ++ t454) ++ t455) ++ t456)) else (none))) else (none))) else (none))) else (none))) else (none))) else (none))) else (none))) = some r := by first | (rw [hy444]; with_reducible exact H) | (have H2_ := (Option.bind_some _ _).symm.trans H; rw [hy444]; with_reducible exact H2_) | (have H2_ := (Option.bind_some _ _).symm.trans H; with_reducible exact H2_) | with_reducible exact H | (rw [hy444]; exact H) | exact H
 have Ny444 := Aside0.mk hy444
 clear hy444
 obtain ⟨t447, A12, H⟩ := bm2 H
 try dsimp only at H
 by_cases c13 : ((((t439 ++ t440) ++ t441) ++ t442) ++ t443).size + t447.size ≤ 9223372036854775807
 rotate_left
 ·rw [if_neg c13] at H
  exact absurd H (by simp)
 rw [if_pos c13] at H
 have c13b0 := eq_true c13
 have c13b1 : decide (((((t439 ++ t440) ++ t441) ++ t442) ++ t443).size + t447.size ≤ 9223372036854775807) = true := decide_eq_true c13
 try have c13b2 : (9223372036854775807 < ((((t439 ++ t440) ++ t441) ++ t442) ++ t443).size + t447.size) = False := eq_false (Nat.not_lt.2 c13)
 try have c13b3 : (9223372036854775807 < t439.size + t440.size + t441.size + t442.size + t443.size + t447.size) = False := by have h_ := c13; simp only [ByteArray.size_append] at h_; exact eq_false (Nat.not_lt.2 h_)
 obtain ⟨t448, A14, H⟩ := bm2 H
 try dsimp only at H
 by_cases c15 : (((((t439 ++ t440) ++ t441) ++ t442) ++ t443) ++ t447).size + t448.size ≤ 9223372036854775807
 rotate_left
 ·rw [if_neg c15] at H
  exact absurd H (by simp)
 rw [if_pos c15] at H
 have c15b0 := eq_true c15
 have c15b1 : decide ((((((t439 ++ t440) ++ t441) ++ t442) ++ t443) ++ t447).size + t448.size ≤ 9223372036854775807) = true := decide_eq_true c15
 try have c15b2 : (9223372036854775807 < (((((t439 ++ t440) ++ t441) ++ t442) ++ t443) ++ t447).size + t448.size) = False := eq_false (Nat.not_lt.2 c15)
 try have c15b3 : (9223372036854775807 < t439.size + t440.size + t441.size + t442.size + t443.size + t447.size + t448.size) = False := by have h_ := c15; simp only [ByteArray.size_append] at h_; exact eq_false (Nat.not_lt.2 h_)
 obtain ⟨t449, A16, H⟩ := bm2 H
 try dsimp only at H
 by_cases c17 : ((((((t439 ++ t440) ++ t441) ++ t442) ++ t443) ++ t447) ++ t448).size + t449.size ≤ 9223372036854775807
 rotate_left
 ·rw [if_neg c17] at H
  exact absurd H (by simp)
 rw [if_pos c17] at H
 have c17b0 := eq_true c17
 have c17b1 : decide (((((((t439 ++ t440) ++ t441) ++ t442) ++ t443) ++ t447) ++ t448).size + t449.size ≤ 9223372036854775807) = true := decide_eq_true c17
 try have c17b2 : (9223372036854775807 < ((((((t439 ++ t440) ++ t441) ++ t442) ++ t443) ++ t447) ++ t448).size + t449.size) = False := eq_false (Nat.not_lt.2 c17)
 try have c17b3 : (9223372036854775807 < t439.size + t440.size + t441.size + t442.size + t443.size + t447.size + t448.size + t449.size) = False := by have h_ := c17; simp only [ByteArray.size_append] at h_; exact eq_false (Nat.not_lt.2 h_)
 obtain ⟨y450, hy450⟩ : ∃ y_ : List (S70), y_ = (([(⟨a1_8, a1_9⟩ : S70)] : List (S70))) := ⟨_, rfl⟩
 replace H : ((steepleref01_Elems.f k a0 y450).bind fun t453 => (if (((((((t439 ++ t440) ++ t441) ++ t442) ++ t443) ++ t447) ++ t448) ++ t449).size + t453.size ≤ 9223372036854775807 then ((steepleref01_Elems.f k a0 l1_10).bind fun t454 => (if ((((((((t439 ++ t440) ++ t441) ++ t442) ++ t443) ++ t447) ++ t448) ++ t449) ++ t453).size + t454.size ≤ 9223372036854775807 then ((steepleref29_put.f k a0 l1_11).bind fun t455 => (if (((((((((t439 ++ t440) ++ t441) ++ t442) ++ t443) ++ t447) ++ t448) ++ t449) ++ t453) ++ t454).size + t455.size ≤ 9223372036854775807 then ((steepleref01_List.f k l1_12).bind fun t456 => (if ((((((((((t439 ++ t440) ++ t441) ++ t442) ++ t443) ++ t447) ++ t448) ++ t449) ++ t453) ++ t454) ++ t455).size + t456.size ≤ 9223372036854775807 then (some (((((((((((t439 ++ t440) ++ t441) ++ t442) ++ t443) ++ t447) ++ t448) ++ t449) ++ t453) ++ t454) ++ t455) ++ t456)) else (none))) else (none))) else (none))) else (none))) = some r := by first | (rw [hy450]; with_reducible exact H) | (have H2_ := (Option.bind_some _ _).symm.trans H; rw [hy450]; with_reducible exact H2_) | (have H2_ := (Option.bind_some _ _).symm.trans H; with_reducible exact H2_) | with_reducible exact H | (rw [hy450]; exact H) | exact H
 have Ny450 := Aside0.mk hy450
 clear hy450
 obtain ⟨t453, A18, H⟩ := bm2 H
 try dsimp only at H
 by_cases c19 : (((((((t439 ++ t440) ++ t441) ++ t442) ++ t443) ++ t447) ++ t448) ++ t449).size + t453.size ≤ 9223372036854775807
 rotate_left
 ·rw [if_neg c19] at H
  exact absurd H (by simp)
 rw [if_pos c19] at H
 have c19b0 := eq_true c19
 have c19b1 : decide ((((((((t439 ++ t440) ++ t441) ++ t442) ++ t443) ++ t447) ++ t448) ++ t449).size + t453.size ≤ 9223372036854775807) = true := decide_eq_true c19
 try have c19b2 : (9223372036854775807 < (((((((t439 ++ t440) ++ t441) ++ t442) ++ t443) ++ t447) ++ t448) ++ t449).size + t453.size) = False := eq_false (Nat.not_lt.2 c19)
 try have c19b3 : (9223372036854775807 < t439.size + t440.size + t441.size + t442.size + t443.size + t447.size + t448.size + t449.size + t453.size) = False := by have h_ := c19; simp only [ByteArray.size_append] at h_; exact eq_false (Nat.not_lt.2 h_)
 obtain ⟨t454, A20, H⟩ := bm2 H
 try dsimp only at H
 by_cases c21 : ((((((((t439 ++ t440) ++ t441) ++ t442) ++ t443) ++ t447) ++ t448) ++ t449) ++ t453).size + t454.size ≤ 9223372036854775807
 rotate_left
 ·rw [if_neg c21] at H
  exact absurd H (by simp)
 rw [if_pos c21] at H
 have c21b0 := eq_true c21
 have c21b1 : decide (((((((((t439 ++ t440) ++ t441) ++ t442) ++ t443) ++ t447) ++ t448) ++ t449) ++ t453).size + t454.size ≤ 9223372036854775807) = true := decide_eq_true c21
 try have c21b2 : (9223372036854775807 < ((((((((t439 ++ t440) ++ t441) ++ t442) ++ t443) ++ t447) ++ t448) ++ t449) ++ t453).size + t454.size) = False := eq_false (Nat.not_lt.2 c21)
 try have c21b3 : (9223372036854775807 < t439.size + t440.size + t441.size + t442.size + t443.size + t447.size + t448.size + t449.size + t453.size + t454.size) = False := by have h_ := c21; simp only [ByteArray.size_append] at h_; exact eq_false (Nat.not_lt.2 h_)
 obtain ⟨t455, A22, H⟩ := bm2 H
 try dsimp only at H
 by_cases c23 : (((((((((t439 ++ t440) ++ t441) ++ t442) ++ t443) ++ t447) ++ t448) ++ t449) ++ t453) ++ t454).size + t455.size ≤ 9223372036854775807
 rotate_left
 ·rw [if_neg c23] at H
  exact absurd H (by simp)
 rw [if_pos c23] at H
 have c23b0 := eq_true c23
 have c23b1 : decide ((((((((((t439 ++ t440) ++ t441) ++ t442) ++ t443) ++ t447) ++ t448) ++ t449) ++ t453) ++ t454).size + t455.size ≤ 9223372036854775807) = true := decide_eq_true c23
 try have c23b2 : (9223372036854775807 < (((((((((t439 ++ t440) ++ t441) ++ t442) ++ t443) ++ t447) ++ t448) ++ t449) ++ t453) ++ t454).size + t455.size) = False := eq_false (Nat.not_lt.2 c23)
 try have c23b3 : (9223372036854775807 < t439.size + t440.size + t441.size + t442.size + t443.size + t447.size + t448.size + t449.size + t453.size + t454.size + t455.size) = False := by have h_ := c23; simp only [ByteArray.size_append] at h_; exact eq_false (Nat.not_lt.2 h_)
 obtain ⟨t456, A24, H⟩ := bm2 H
 try dsimp only at H
 by_cases c25 : ((((((((((t439 ++ t440) ++ t441) ++ t442) ++ t443) ++ t447) ++ t448) ++ t449) ++ t453) ++ t454) ++ t455).size + t456.size ≤ 9223372036854775807
 rotate_left
 ·rw [if_neg c25] at H
  exact absurd H (by simp)
 rw [if_pos c25] at H
 have c25b0 := eq_true c25
 have c25b1 : decide (((((((((((t439 ++ t440) ++ t441) ++ t442) ++ t443) ++ t447) ++ t448) ++ t449) ++ t453) ++ t454) ++ t455).size + t456.size ≤ 9223372036854775807) = true := decide_eq_true c25
 try have c25b2 : (9223372036854775807 < ((((((((((t439 ++ t440) ++ t441) ++ t442) ++ t443) ++ t447) ++ t448) ++ t449) ++ t453) ++ t454) ++ t455).size + t456.size) = False := eq_false (Nat.not_lt.2 c25)
 try have c25b3 : (9223372036854775807 < t439.size + t440.size + t441.size + t442.size + t443.size + t447.size + t448.size + t449.size + t453.size + t454.size + t455.size + t456.size) = False := by have h_ := c25; simp only [ByteArray.size_append] at h_; exact eq_false (Nat.not_lt.2 h_)
 obtain rfl := Option.some.inj H
 go_enter Try.func30, Try.ntmps30
 try go_wp2_with (first | ((with_reducible refine gate_dst (N := 3) rfl ?_); refine box_event ?hg (N := 3) ?hd (cs := #[.string a1_0, .slice A1_1 l1_1.length c1_1, .slice A1_2 l1_2.length c1_2, .slice A1_3 l1_3.length c1_3, .int .u64 a1_4, .int .u64 a1_5, .slice A1_6 l1_6.length c1_6, .slice A1_7 l1_7.length c1_7, .int .u64 a1_8, .int .u64 a1_9, .slice A1_10 l1_10.length c1_10, .slice A1_11 l1_11.length c1_11, .slice A1_12 l1_12.length c1_12]) (t := 74) ?hr ?_; (case hd => rfl); (case hg => rfl); (case hr => go_simp <;> rfl); intro gb438 hg w26 hbox hb; have BK438 := Aside0.mk hbox; have GW438 := ge hg HB; have GE438 := ge hg HB; replace HB := bh HB hb; clear hb hbox hg))
 replace BK438 := Aside0.mk (blk_drew BK438.out)
 replace HB := Aside0.mk (below_drew1 HB.out)
 refine start_ (n := 22) (S := fun w' => w'.cell? ⟨gb438, 0, none⟩ = some (.string a1_0) ∧ w'.cell? ⟨gb438, 1, none⟩ = some (.slice A1_1 l1_1.length c1_1) ∧ w'.cell? ⟨gb438, 2, none⟩ = some (.slice A1_2 l1_2.length c1_2) ∧ w'.cell? ⟨gb438, 3, none⟩ = some (.slice A1_3 l1_3.length c1_3) ∧ w'.cell? ⟨gb438, 4, none⟩ = some (.int .u64 a1_4) ∧ w'.cell? ⟨gb438, 5, none⟩ = some (.int .u64 a1_5) ∧ w'.cell? ⟨gb438, 6, none⟩ = some (.slice A1_6 l1_6.length c1_6) ∧ w'.cell? ⟨gb438, 7, none⟩ = some (.slice A1_7 l1_7.length c1_7) ∧ w'.cell? ⟨gb438, 8, none⟩ = some (.int .u64 a1_8) ∧ w'.cell? ⟨gb438, 9, none⟩ = some (.int .u64 a1_9) ∧ w'.cell? ⟨gb438, 10, none⟩ = some (.slice A1_10 l1_10.length c1_10) ∧ w'.cell? ⟨gb438, 11, none⟩ = some (.slice A1_11 l1_11.length c1_11) ∧ w'.cell? ⟨gb438, 12, none⟩ = some (.slice A1_12 l1_12.length c1_12)) (ds := []) #[Z,Z,Z,Z,Z,Z,Z,Z,Z,Z,Z,Z,Z,Z,Z,Z,Z,Z,Z,Z,Z,Z] (by kernel_rfl) rfl rfl ⟨bc BK438 0 rfl, bc BK438 1 rfl, bc BK438 2 rfl, bc BK438 3 rfl, bc BK438 4 rfl, bc BK438 5 rfl, bc BK438 6 rfl, bc BK438 7 rfl, bc BK438 8 rfl, bc BK438 9 rfl, bc BK438 10 rfl, bc BK438 11 rfl, bc BK438 12 rfl⟩ (fun hHeld => ?_); refine with_tabW steepleref29_Bytes.tab1 steepleref29_Bytes.bits1 (fun HT_ HW_ => ?_)
 generalize w26.drew = w27 at BK438 HB hHeld ⊢
 refine pA 0 6 #[Y,Z,Z,Z,Z,Z,Z,Z,Z,Z,Z,Z,Z,Z,Z,Z,Z,Z,Z,Z,Z,Z] HT_ ?_
 refine pA 2 8 #[Y,Z,Y,Z,Z,Z,Z,Z,Z,Z,Z,Z,Z,Z,Z,Z,Z,Z,Z,Z,Z,Z] HT_ ?_
 refine pA 6 12 #[Y,Z,Y,Z,Z,Z,Y,Z,Z,Z,Z,Z,Z,Z,Z,Z,Z,Z,Z,Z,Z,Z] HT_ ?_
 refine pA 7 13 #[Y,Z,Y,Z,Z,Z,Y,Y,Z,Z,Z,Z,Z,Z,Z,Z,Z,Z,Z,Z,Z,Z] HT_ ?_
 refine pA 11 17 #[Y,Z,Y,Z,Z,Z,Y,Y,Z,Z,Z,Y,Z,Z,Z,Z,Z,Z,Z,Z,Z,Z] HT_ ?_
 refine pA 12 18 #[Y,Z,Y,Z,Z,Z,Y,Y,Z,Z,Z,Y,Y,Z,Z,Z,Z,Z,Z,Z,Z,Z] HT_ ?_
 refine pA 16 22 #[Y,Z,Y,Z,Z,Z,Y,Y,Z,Z,Z,Y,Y,Z,Z,Z,Y,Z,Z,Z,Z,Z] HT_ ?_
 refine pA 17 23 #[Y,Z,Y,Z,Z,Z,Y,Y,Z,Z,Z,Y,Y,Z,Z,Z,Y,Y,Z,Z,Z,Z] HT_ ?_
 refine take_ (i := 3) (N := some 9) (v := ?_) (a' := ?_) #[Y,Z,Y,Y,Z,Z,Y,Y,Z,Z,Z,Y,Y,Z,Z,Z,Y,Y,Z,Z,Z,Z] rfl rfl (take_ofW HT_.out HW_.out (by kernel_rfl)) (fun _ _ _ h => h) (Or.inl ⟨by rfl, ?_⟩) hHeld ?_ ?_
 rotate_left
 ·rintro w' ⟨s0, s1, s2, s3, s4, s5, s6, s7, s8, s9, s10, s11, s12⟩
  go_simp
  with_reducible rfl
 rotate_left
 ·simp only [Act.put, sA, s0, sS, i64_w, i32_w]
  rfl
 refine take_ (i := 8) (N := some 14) (v := ?_) (a' := ?_) #[Y,Z,Y,Y,Z,Z,Y,Y,Y,Z,Z,Y,Y,Z,Z,Z,Y,Y,Z,Z,Z,Z] rfl rfl (take_ofW HT_.out HW_.out (by kernel_rfl)) (fun _ _ _ h => h) (Or.inl ⟨by rfl, ?_⟩) hHeld ?_ ?_
 rotate_left
 ·rintro w' ⟨s0, s1, s2, s3, s4, s5, s6, s7, s8, s9, s10, s11, s12⟩
  go_simp
  with_reducible rfl
 rotate_left
 ·simp only [Act.put, sA, s0, sS, i64_w, i32_w]
  rfl
 refine take_ (i := 13) (N := some 19) (v := ?_) (a' := ?_) #[Y,Z,Y,Y,Z,Z,Y,Y,Y,Z,Z,Y,Y,Y,Z,Z,Y,Y,Z,Z,Z,Z] rfl rfl (take_ofW HT_.out HW_.out (by kernel_rfl)) (fun _ _ _ h => h) (Or.inl ⟨by rfl, ?_⟩) hHeld ?_ ?_
 rotate_left
 ·rintro w' ⟨s0, s1, s2, s3, s4, s5, s6, s7, s8, s9, s10, s11, s12⟩
  go_simp
  with_reducible rfl
 rotate_left
 ·simp only [Act.put, sA, s0, sS, i64_w, i32_w]
  rfl
 refine take_ (i := 18) (N := some 24) (v := ?_) (a' := ?_) #[Y,Z,Y,Y,Z,Z,Y,Y,Y,Z,Z,Y,Y,Y,Z,Z,Y,Y,Y,Z,Z,Z] rfl rfl (take_ofW HT_.out HW_.out (by kernel_rfl)) (fun _ _ _ h => h) (Or.inl ⟨by rfl, ?_⟩) hHeld ?_ ?_
 rotate_left
 ·rintro w' ⟨s0, s1, s2, s3, s4, s5, s6, s7, s8, s9, s10, s11, s12⟩
  go_simp
  with_reducible rfl
 rotate_left
 ·simp only [Act.put, sA, s0, sS, i64_w, i32_w]
  rfl
 refine one_ (i := 1) (N := some 7) #[Y,Y,Y,Y,Z,Z,Y,Y,Y,Z,Z,Y,Y,Y,Z,Z,Y,Y,Y,Z,Z,Z] rfl rfl (one_of HT_.out (by kernel_rfl)) (by decide) (fun K hK => ?_)
 refine goes_ Try.func37 (by kernel_rfl) rfl #[.int .i64 a0] (by rfl) rfl rfl (by (try simp only [mA, mC, mN]); first | done | rfl | (simp only [List.length_drop, List.length_take]; rfl)) ?_
 with_reducible refine (steepleref01_Num.calls a0 t439 _ A3.out).mono ?_
 rintro e w28 ⟨rfl, hb⟩
 refine ⟨_, rfl, ?_⟩
 replace BK438 := bb BK438 hb
 replace HB := bh HB hb
 (try clear hb)
 refine hK.out _ _ ⟨bc BK438 0 rfl, bc BK438 1 rfl, bc BK438 2 rfl, bc BK438 3 rfl, bc BK438 4 rfl, bc BK438 5 rfl, bc BK438 6 rfl, bc BK438 7 rfl, bc BK438 8 rfl, bc BK438 9 rfl, bc BK438 10 rfl, bc BK438 11 rfl, bc BK438 12 rfl⟩ (fun hHeld => ?_)
 clear hK K
 refine norm_ (a' := ?_) ?_ ?_
 rotate_left
 ·show Act.put _ (some 7) _ = _
  simp only [Act.put, sA, s0, sS, i64_w, i32_w]
  rfl
 refine one_ (i := 4) (N := some 10) #[Y,Y,Y,Y,Y,Z,Y,Y,Y,Z,Z,Y,Y,Y,Z,Z,Y,Y,Y,Z,Z,Z] rfl rfl (one_of HT_.out (by kernel_rfl)) (by decide) (fun K hK => ?_)
 refine goes_ Try.func79 (by kernel_rfl) rfl #[.string a1_0] (by rfl) rfl rfl (by (try simp only [mA, mC, mN]); first | done | rfl | (simp only [List.length_drop, List.length_take]; rfl)) ?_
 with_reducible refine (steepleref01_Text.calls a1_0 t440 _ A4.out).mono ?_
 rintro e w29 ⟨rfl, hb⟩
 refine ⟨_, rfl, ?_⟩
 replace BK438 := bb BK438 hb
 replace HB := bh HB hb
 (try clear hb)
 refine hK.out _ _ ⟨bc BK438 0 rfl, bc BK438 1 rfl, bc BK438 2 rfl, bc BK438 3 rfl, bc BK438 4 rfl, bc BK438 5 rfl, bc BK438 6 rfl, bc BK438 7 rfl, bc BK438 8 rfl, bc BK438 9 rfl, bc BK438 10 rfl, bc BK438 11 rfl, bc BK438 12 rfl⟩ (fun hHeld => ?_)
 clear hK K
 refine norm_ (a' := ?_) ?_ ?_
 rotate_left
 ·show Act.put _ (some 10) _ = _
  simp only [Act.put, sA, s0, sS, i64_w, i32_w]
  rfl
 refine pA 5 11 #[Y,Y,Y,Y,Y,Y,Y,Y,Y,Z,Z,Y,Y,Y,Z,Z,Y,Y,Y,Z,Z,Z] HT_ ?_
 refine one_ (i := 9) (N := some 15) #[Y,Y,Y,Y,Y,Y,Y,Y,Y,Y,Z,Y,Y,Y,Z,Z,Y,Y,Y,Z,Z,Z] rfl rfl (one_of HT_.out (by kernel_rfl)) (by decide) (fun K hK => ?_)
 refine goes_ Try.func80 (by kernel_rfl) rfl #[.int .i64 a0, .slice A1_1 l1_1.length c1_1] (by rfl) rfl rfl (by (try simp only [mA, mC, mN]); first | done | rfl | (simp only [List.length_drop, List.length_take]; rfl)) ?_
 with_reducible refine (steepleref29_put.calls k a0 _ _ l1_1 t441 _ ?side1 ?side2 A6.out).mono ?_
 (case side1 => exact cq (Kd.C_below HR1_1.out HB.out))
 (case side2 => exact HC1_1.out)
 rintro e w30 ⟨rfl, hb⟩
 refine ⟨_, rfl, ?_⟩
 replace BK438 := bb BK438 hb
 replace HB := bh HB hb
 (try clear hb)
 refine hK.out _ _ ⟨bc BK438 0 rfl, bc BK438 1 rfl, bc BK438 2 rfl, bc BK438 3 rfl, bc BK438 4 rfl, bc BK438 5 rfl, bc BK438 6 rfl, bc BK438 7 rfl, bc BK438 8 rfl, bc BK438 9 rfl, bc BK438 10 rfl, bc BK438 11 rfl, bc BK438 12 rfl⟩ (fun hHeld => ?_)
 clear hK K
 refine norm_ (a' := ?_) ?_ ?_
 rotate_left
 ·show Act.put _ (some 15) _ = _
  simp only [Act.put, sA, s0, sS, i64_w, i32_w]
  rfl
 refine pA 10 16 #[Y,Y,Y,Y,Y,Y,Y,Y,Y,Y,Y,Y,Y,Y,Z,Z,Y,Y,Y,Z,Z,Z] HT_ ?_
 refine one_ (i := 14) (N := some 20) #[Y,Y,Y,Y,Y,Y,Y,Y,Y,Y,Y,Y,Y,Y,Y,Z,Y,Y,Y,Z,Z,Z] rfl rfl (one_of HT_.out (by kernel_rfl)) (by decide) (fun K hK => ?_)
 refine goes_ Try.func81 (by kernel_rfl) rfl #[.int .i64 a0, .slice A1_2 l1_2.length c1_2] (by rfl) rfl rfl (by (try simp only [mA, mC, mN]); first | done | rfl | (simp only [List.length_drop, List.length_take]; rfl)) ?_
 with_reducible refine (steepleref01_Elems.calls k a0 _ _ l1_2 t442 _ ?side1 ?side2 A8.out).mono ?_
 (case side1 => exact cq (Kd.C_below HR1_2.out HB.out))
 (case side2 => exact HC1_2.out)
 rintro e w31 ⟨rfl, hb⟩
 refine ⟨_, rfl, ?_⟩
 replace BK438 := bb BK438 hb
 replace HB := bh HB hb
 (try clear hb)
 refine hK.out _ _ ⟨bc BK438 0 rfl, bc BK438 1 rfl, bc BK438 2 rfl, bc BK438 3 rfl, bc BK438 4 rfl, bc BK438 5 rfl, bc BK438 6 rfl, bc BK438 7 rfl, bc BK438 8 rfl, bc BK438 9 rfl, bc BK438 10 rfl, bc BK438 11 rfl, bc BK438 12 rfl⟩ (fun hHeld => ?_)
 clear hK K
 refine norm_ (a' := ?_) ?_ ?_
 rotate_left
 ·show Act.put _ (some 20) _ = _
  simp only [Act.put, sA, s0, sS, i64_w, i32_w]
  rfl
 refine pA 15 21 #[Y,Y,Y,Y,Y,Y,Y,Y,Y,Y,Y,Y,Y,Y,Y,Y,Y,Y,Y,Z,Z,Z] HT_ ?_
 refine one_ (i := 19) (N := some 25) #[Y,Y,Y,Y,Y,Y,Y,Y,Y,Y,Y,Y,Y,Y,Y,Y,Y,Y,Y,Y,Z,Z] rfl rfl (one_of HT_.out (by kernel_rfl)) (by decide) (fun K hK => ?_)
 refine goes_ Try.func80 (by kernel_rfl) rfl #[.int .i64 a0, .slice A1_3 l1_3.length c1_3] (by rfl) rfl rfl (by (try simp only [mA, mC, mN]); first | done | rfl | (simp only [List.length_drop, List.length_take]; rfl)) ?_
 with_reducible refine (steepleref29_put.calls k a0 _ _ l1_3 t443 _ ?side1 ?side2 A10.out).mono ?_
 (case side1 => exact cq (Kd.C_below HR1_3.out HB.out))
 (case side2 => exact HC1_3.out)
 rintro e w32 ⟨rfl, hb⟩
 refine ⟨_, rfl, ?_⟩
 replace BK438 := bb BK438 hb
 replace HB := bh HB hb
 (try clear hb)
 refine hK.out _ _ ⟨bc BK438 0 rfl, bc BK438 1 rfl, bc BK438 2 rfl, bc BK438 3 rfl, bc BK438 4 rfl, bc BK438 5 rfl, bc BK438 6 rfl, bc BK438 7 rfl, bc BK438 8 rfl, bc BK438 9 rfl, bc BK438 10 rfl, bc BK438 11 rfl, bc BK438 12 rfl⟩ (fun hHeld => ?_)
 clear hK K
 refine norm_ (a' := ?_) ?_ ?_
 rotate_left
 ·show Act.put _ (some 25) _ = _
  simp only [Act.put, sA, s0, sS, i64_w, i32_w]
  rfl
 refine pA 20 26 #[Y,Y,Y,Y,Y,Y,Y,Y,Y,Y,Y,Y,Y,Y,Y,Y,Y,Y,Y,Y,Y,Z] HT_ ?_
 refine pA 21 5 #[Y,Y,Y,Y,Y,Y,Y,Y,Y,Y,Y,Y,Y,Y,Y,Y,Y,Y,Y,Y,Y,Y] HT_ ?_
 refine done_ (done_of HT_.out (by kernel_rfl)) ?_
 try go_wp2
 replace BK438 := Aside0.mk (blk_drew BK438.out)
 replace HB := Aside0.mk (below_drew1 HB.out)
 refine start_ (n := 18) (S := fun w' => w'.cell? ⟨gb438, 0, none⟩ = some (.string a1_0) ∧ w'.cell? ⟨gb438, 1, none⟩ = some (.slice A1_1 l1_1.length c1_1) ∧ w'.cell? ⟨gb438, 2, none⟩ = some (.slice A1_2 l1_2.length c1_2) ∧ w'.cell? ⟨gb438, 3, none⟩ = some (.slice A1_3 l1_3.length c1_3) ∧ w'.cell? ⟨gb438, 4, none⟩ = some (.int .u64 a1_4) ∧ w'.cell? ⟨gb438, 5, none⟩ = some (.int .u64 a1_5) ∧ w'.cell? ⟨gb438, 6, none⟩ = some (.slice A1_6 l1_6.length c1_6) ∧ w'.cell? ⟨gb438, 7, none⟩ = some (.slice A1_7 l1_7.length c1_7) ∧ w'.cell? ⟨gb438, 8, none⟩ = some (.int .u64 a1_8) ∧ w'.cell? ⟨gb438, 9, none⟩ = some (.int .u64 a1_9) ∧ w'.cell? ⟨gb438, 10, none⟩ = some (.slice A1_10 l1_10.length c1_10) ∧ w'.cell? ⟨gb438, 11, none⟩ = some (.slice A1_11 l1_11.length c1_11) ∧ w'.cell? ⟨gb438, 12, none⟩ = some (.slice A1_12 l1_12.length c1_12)) (ds := []) #[Z,Z,Z,Z,Z,Z,Z,Z,Z,Z,Z,Z,Z,Z,Z,Z,Z,Z] (by kernel_rfl) rfl rfl ⟨bc BK438 0 rfl, bc BK438 1 rfl, bc BK438 2 rfl, bc BK438 3 rfl, bc BK438 4 rfl, bc BK438 5 rfl, bc BK438 6 rfl, bc BK438 7 rfl, bc BK438 8 rfl, bc BK438 9 rfl, bc BK438 10 rfl, bc BK438 11 rfl, bc BK438 12 rfl⟩ (fun hHeld => ?_); refine with_tabW steepleref29_Bytes.tab2 steepleref29_Bytes.bits2 (fun HT_ HW_ => ?_)
 generalize w32.drew = w33 at BK438 HB hHeld ⊢
 refine pA 0 27 #[Y,Z,Z,Z,Z,Z,Z,Z,Z,Z,Z,Z,Z,Z,Z,Z,Z,Z] HT_ ?_
 refine pA 1 28 #[Y,Y,Z,Z,Z,Z,Z,Z,Z,Z,Z,Z,Z,Z,Z,Z,Z,Z] HT_ ?_
 refine pA 2 29 #[Y,Y,Y,Z,Z,Z,Z,Z,Z,Z,Z,Z,Z,Z,Z,Z,Z,Z] HT_ ?_
 refine pA 7 34 #[Y,Y,Y,Z,Z,Z,Z,Y,Z,Z,Z,Z,Z,Z,Z,Z,Z,Z] HT_ ?_
 refine pA 8 35 #[Y,Y,Y,Z,Z,Z,Z,Y,Y,Z,Z,Z,Z,Z,Z,Z,Z,Z] HT_ ?_
 refine pA 12 39 #[Y,Y,Y,Z,Z,Z,Z,Y,Y,Z,Z,Z,Y,Z,Z,Z,Z,Z] HT_ ?_
 refine pA 13 40 #[Y,Y,Y,Z,Z,Z,Z,Y,Y,Z,Z,Z,Y,Y,Z,Z,Z,Z] HT_ ?_
 refine take_ (i := 3) (N := some 30) (v := ?_) (a' := ?_) #[Y,Y,Y,Y,Z,Z,Z,Y,Y,Z,Z,Z,Y,Y,Z,Z,Z,Z] rfl rfl (take_ofW HT_.out HW_.out (by kernel_rfl)) (fun _ _ _ h => h) (Or.inl ⟨by rfl, ?_⟩) hHeld ?_ ?_
 rotate_left
 ·rintro w' ⟨s0, s1, s2, s3, s4, s5, s6, s7, s8, s9, s10, s11, s12⟩
  go_simp
  with_reducible rfl
 rotate_left
 ·simp only [Act.put, sA, s0, sS, i64_w, i32_w]
  rfl
 refine take_ (i := 9) (N := some 36) (v := ?_) (a' := ?_) #[Y,Y,Y,Y,Z,Z,Z,Y,Y,Y,Z,Z,Y,Y,Z,Z,Z,Z] rfl rfl (take_ofW HT_.out HW_.out (by kernel_rfl)) (fun _ _ _ h => h) (Or.inl ⟨by rfl, ?_⟩) hHeld ?_ ?_
 rotate_left
 ·rintro w' ⟨s0, s1, s2, s3, s4, s5, s6, s7, s8, s9, s10, s11, s12⟩
  go_simp
  with_reducible rfl
 rotate_left
 ·simp only [Act.put, sA, s0, sS, i64_w, i32_w]
  rfl
 refine take_ (i := 14) (N := some 41) (v := ?_) (a' := ?_) #[Y,Y,Y,Y,Z,Z,Z,Y,Y,Y,Z,Z,Y,Y,Y,Z,Z,Z] rfl rfl (take_ofW HT_.out HW_.out (by kernel_rfl)) (fun _ _ _ h => h) (Or.inl ⟨by rfl, ?_⟩) hHeld ?_ ?_
 rotate_left
 ·rintro w' ⟨s0, s1, s2, s3, s4, s5, s6, s7, s8, s9, s10, s11, s12⟩
  go_simp
  with_reducible rfl
 rotate_left
 ·simp only [Act.put, sA, s0, sS, i64_w, i32_w]
  rfl
 refine one_ (i := 4) (N := some 31) #[Y,Y,Y,Y,Y,Z,Z,Y,Y,Y,Z,Z,Y,Y,Y,Z,Z,Z] rfl rfl (one_of HT_.out (by kernel_rfl)) (by decide) (fun K hK => ?_)
 refine Kd.R_lit_step k70 _ 70 ?hg (N := 31) ?hd (xs := ([(⟨a1_4, a1_5⟩ : S70)] : List (S70))) (inner := [.int .u64 a1_4, .int .u64 a1_5]) (ok := fun _ => True) (okp := fun _ => True) ?hr ?hp (fun _ hk => hk) trivial (Below.refl _ _) (Nat.le_refl _) (by simp) ?_; (case hd => rfl); (case hg => rfl); (case hr => go_simp <;> rfl); (case hp => exact (Reps.c2 (show Kd.M k70 _ _ _ (⟨a1_4, a1_5⟩ : S70) [.int .u64 a1_4, .int .u64 a1_5] from (k70_mkM _ _ _ (⟨a1_4, a1_5⟩ : S70) )) (Reps.none _ _)))
 intro v445 w34 ho35 hb hg_ hnew_
 clear hg_ hnew_
 (first | rw [← Ny444.out] at ho35 | (simp only [Int.reduceToNat] at ho35; rw [← Ny444.out] at ho35))
 have HO446 := kw ho35 HB
 replace BK438 := bb BK438 hb
 replace HB := bh HB hb
 clear hb ho35
 obtain ⟨Ao36, co36, eo36⟩ := Kd.R_slice HO446.out
 (first | subst eo36 | (injection eo36 with f1_ f2_ f3_; have f4_ := f1_.symm; have f5_ := f3_.symm; clear f1_ f2_ f3_; subst f4_; subst f5_))
 refine hK.out _ _ ⟨bc BK438 0 rfl, bc BK438 1 rfl, bc BK438 2 rfl, bc BK438 3 rfl, bc BK438 4 rfl, bc BK438 5 rfl, bc BK438 6 rfl, bc BK438 7 rfl, bc BK438 8 rfl, bc BK438 9 rfl, bc BK438 10 rfl, bc BK438 11 rfl, bc BK438 12 rfl⟩ (fun hHeld => ?_)
 clear hK K
 refine norm_ (a' := ?_) ?_ ?_
 rotate_left
 ·show Act.put _ (some 31) _ = _
  simp only [Act.put, sA, s0, sS, i64_w, i32_w]
  rfl
 refine one_ (i := 5) (N := some 32) #[Y,Y,Y,Y,Y,Y,Z,Y,Y,Y,Z,Z,Y,Y,Y,Z,Z,Z] rfl rfl (one_of HT_.out (by kernel_rfl)) (by decide) (fun K hK => ?_)
 refine goes_ Try.func81 (by kernel_rfl) rfl #[.int .i64 a0, .slice Ao36 y444.length co36] (by rfl) rfl rfl (by (try simp only [mA, mC, mN]); first | done | rfl | (simp only [List.length_drop, List.length_take]; rfl)) ?_
 with_reducible refine (steepleref01_Elems.calls k a0 _ _ y444 t447 _ ?side1 ?side2 A12.out).mono ?_
 (case side1 => exact cq (Kd.R_reads' HO446.out).2.2)
 (case side2 => exact (Kd.R_reads' HO446.out).2.1)
 rintro e w37 ⟨rfl, hb⟩
 refine ⟨_, rfl, ?_⟩
 replace HO446 := kb HO446 hb
 replace BK438 := bb BK438 hb
 replace HB := bh HB hb
 (try clear hb)
 refine hK.out _ _ ⟨bc BK438 0 rfl, bc BK438 1 rfl, bc BK438 2 rfl, bc BK438 3 rfl, bc BK438 4 rfl, bc BK438 5 rfl, bc BK438 6 rfl, bc BK438 7 rfl, bc BK438 8 rfl, bc BK438 9 rfl, bc BK438 10 rfl, bc BK438 11 rfl, bc BK438 12 rfl⟩ (fun hHeld => ?_)
 clear hK K
 refine norm_ (a' := ?_) ?_ ?_
 rotate_left
 ·show Act.put _ (some 32) _ = _
  simp only [Act.put, sA, s0, sS, i64_w, i32_w]
  rfl
 refine pA 6 33 #[Y,Y,Y,Y,Y,Y,Y,Y,Y,Y,Z,Z,Y,Y,Y,Z,Z,Z] HT_ ?_
 refine one_ (i := 10) (N := some 37) #[Y,Y,Y,Y,Y,Y,Y,Y,Y,Y,Y,Z,Y,Y,Y,Z,Z,Z] rfl rfl (one_of HT_.out (by kernel_rfl)) (by decide) (fun K hK => ?_)
 refine goes_ Try.func81 (by kernel_rfl) rfl #[.int .i64 a0, .slice A1_6 l1_6.length c1_6] (by rfl) rfl rfl (by (try simp only [mA, mC, mN]); first | done | rfl | (simp only [List.length_drop, List.length_take]; rfl)) ?_
 with_reducible refine (steepleref01_Elems.calls k a0 _ _ l1_6 t448 _ ?side1 ?side2 A14.out).mono ?_
 (case side1 => exact cq (Kd.C_below HR1_6.out HB.out))
 (case side2 => exact HC1_6.out)
 rintro e w38 ⟨rfl, hb⟩
 refine ⟨_, rfl, ?_⟩
 replace HO446 := kb HO446 hb
 replace BK438 := bb BK438 hb
 replace HB := bh HB hb
 (try clear hb)
 refine hK.out _ _ ⟨bc BK438 0 rfl, bc BK438 1 rfl, bc BK438 2 rfl, bc BK438 3 rfl, bc BK438 4 rfl, bc BK438 5 rfl, bc BK438 6 rfl, bc BK438 7 rfl, bc BK438 8 rfl, bc BK438 9 rfl, bc BK438 10 rfl, bc BK438 11 rfl, bc BK438 12 rfl⟩ (fun hHeld => ?_)
 clear hK K
 refine norm_ (a' := ?_) ?_ ?_
 rotate_left
 ·show Act.put _ (some 37) _ = _
  simp only [Act.put, sA, s0, sS, i64_w, i32_w]
  rfl
 refine pA 11 38 #[Y,Y,Y,Y,Y,Y,Y,Y,Y,Y,Y,Y,Y,Y,Y,Z,Z,Z] HT_ ?_
 refine one_ (i := 15) (N := some 42) #[Y,Y,Y,Y,Y,Y,Y,Y,Y,Y,Y,Y,Y,Y,Y,Y,Z,Z] rfl rfl (one_of HT_.out (by kernel_rfl)) (by decide) (fun K hK => ?_)
 refine goes_ Try.func80 (by kernel_rfl) rfl #[.int .i64 a0, .slice A1_7 l1_7.length c1_7] (by rfl) rfl rfl (by (try simp only [mA, mC, mN]); first | done | rfl | (simp only [List.length_drop, List.length_take]; rfl)) ?_
 with_reducible refine (steepleref29_put.calls k a0 _ _ l1_7 t449 _ ?side1 ?side2 A16.out).mono ?_
 (case side1 => exact cq (Kd.C_below HR1_7.out HB.out))
 (case side2 => exact HC1_7.out)
 rintro e w39 ⟨rfl, hb⟩
 refine ⟨_, rfl, ?_⟩
 replace HO446 := kb HO446 hb
 replace BK438 := bb BK438 hb
 replace HB := bh HB hb
 (try clear hb)
 refine hK.out _ _ ⟨bc BK438 0 rfl, bc BK438 1 rfl, bc BK438 2 rfl, bc BK438 3 rfl, bc BK438 4 rfl, bc BK438 5 rfl, bc BK438 6 rfl, bc BK438 7 rfl, bc BK438 8 rfl, bc BK438 9 rfl, bc BK438 10 rfl, bc BK438 11 rfl, bc BK438 12 rfl⟩ (fun hHeld => ?_)
 clear hK K
 refine norm_ (a' := ?_) ?_ ?_
 rotate_left
 ·show Act.put _ (some 42) _ = _
  simp only [Act.put, sA, s0, sS, i64_w, i32_w]
  rfl
 refine pA 16 43 #[Y,Y,Y,Y,Y,Y,Y,Y,Y,Y,Y,Y,Y,Y,Y,Y,Y,Z] HT_ ?_
 refine pA 17 5 #[Y,Y,Y,Y,Y,Y,Y,Y,Y,Y,Y,Y,Y,Y,Y,Y,Y,Y] HT_ ?_
 refine done_ (done_of HT_.out (by kernel_rfl)) ?_
 try go_wp2
 replace HO446 := Aside0.mk (Kd.R_drew HO446.out)
 replace BK438 := Aside0.mk (blk_drew BK438.out)
 replace HB := Aside0.mk (below_drew1 HB.out)
 refine start_ (n := 20) (S := fun w' => w'.cell? ⟨gb438, 0, none⟩ = some (.string a1_0) ∧ w'.cell? ⟨gb438, 1, none⟩ = some (.slice A1_1 l1_1.length c1_1) ∧ w'.cell? ⟨gb438, 2, none⟩ = some (.slice A1_2 l1_2.length c1_2) ∧ w'.cell? ⟨gb438, 3, none⟩ = some (.slice A1_3 l1_3.length c1_3) ∧ w'.cell? ⟨gb438, 4, none⟩ = some (.int .u64 a1_4) ∧ w'.cell? ⟨gb438, 5, none⟩ = some (.int .u64 a1_5) ∧ w'.cell? ⟨gb438, 6, none⟩ = some (.slice A1_6 l1_6.length c1_6) ∧ w'.cell? ⟨gb438, 7, none⟩ = some (.slice A1_7 l1_7.length c1_7) ∧ w'.cell? ⟨gb438, 8, none⟩ = some (.int .u64 a1_8) ∧ w'.cell? ⟨gb438, 9, none⟩ = some (.int .u64 a1_9) ∧ w'.cell? ⟨gb438, 10, none⟩ = some (.slice A1_10 l1_10.length c1_10) ∧ w'.cell? ⟨gb438, 11, none⟩ = some (.slice A1_11 l1_11.length c1_11) ∧ w'.cell? ⟨gb438, 12, none⟩ = some (.slice A1_12 l1_12.length c1_12)) (ds := []) #[Z,Z,Z,Z,Z,Z,Z,Z,Z,Z,Z,Z,Z,Z,Z,Z,Z,Z,Z,Z] (by kernel_rfl) rfl rfl ⟨bc BK438 0 rfl, bc BK438 1 rfl, bc BK438 2 rfl, bc BK438 3 rfl, bc BK438 4 rfl, bc BK438 5 rfl, bc BK438 6 rfl, bc BK438 7 rfl, bc BK438 8 rfl, bc BK438 9 rfl, bc BK438 10 rfl, bc BK438 11 rfl, bc BK438 12 rfl⟩ (fun hHeld => ?_); refine with_tabW steepleref29_Bytes.tab3 steepleref29_Bytes.bits3 (fun HT_ HW_ => ?_)
 generalize w39.drew = w40 at HO446 BK438 HB hHeld ⊢
 refine pA 0 44 #[Y,Z,Z,Z,Z,Z,Z,Z,Z,Z,Z,Z,Z,Z,Z,Z,Z,Z,Z,Z] HT_ ?_
 refine pA 1 45 #[Y,Y,Z,Z,Z,Z,Z,Z,Z,Z,Z,Z,Z,Z,Z,Z,Z,Z,Z,Z] HT_ ?_
 refine pA 2 46 #[Y,Y,Y,Z,Z,Z,Z,Z,Z,Z,Z,Z,Z,Z,Z,Z,Z,Z,Z,Z] HT_ ?_
 refine pA 7 51 #[Y,Y,Y,Z,Z,Z,Z,Y,Z,Z,Z,Z,Z,Z,Z,Z,Z,Z,Z,Z] HT_ ?_
 refine pA 8 52 #[Y,Y,Y,Z,Z,Z,Z,Y,Y,Z,Z,Z,Z,Z,Z,Z,Z,Z,Z,Z] HT_ ?_
 refine pA 9 53 #[Y,Y,Y,Z,Z,Z,Z,Y,Y,Y,Z,Z,Z,Z,Z,Z,Z,Z,Z,Z] HT_ ?_
 refine pA 13 57 #[Y,Y,Y,Z,Z,Z,Z,Y,Y,Y,Z,Z,Z,Y,Z,Z,Z,Z,Z,Z] HT_ ?_
 refine pA 14 58 #[Y,Y,Y,Z,Z,Z,Z,Y,Y,Y,Z,Z,Z,Y,Y,Z,Z,Z,Z,Z] HT_ ?_
 refine pA 15 59 #[Y,Y,Y,Z,Z,Z,Z,Y,Y,Y,Z,Z,Z,Y,Y,Y,Z,Z,Z,Z] HT_ ?_
 refine take_ (i := 3) (N := some 47) (v := ?_) (a' := ?_) #[Y,Y,Y,Y,Z,Z,Z,Y,Y,Y,Z,Z,Z,Y,Y,Y,Z,Z,Z,Z] rfl rfl (take_ofW HT_.out HW_.out (by kernel_rfl)) (fun _ _ _ h => h) (Or.inl ⟨by rfl, ?_⟩) hHeld ?_ ?_
 rotate_left
 ·rintro w' ⟨s0, s1, s2, s3, s4, s5, s6, s7, s8, s9, s10, s11, s12⟩
  go_simp
  with_reducible rfl
 rotate_left
 ·simp only [Act.put, sA, s0, sS, i64_w, i32_w]
  rfl
 refine take_ (i := 10) (N := some 54) (v := ?_) (a' := ?_) #[Y,Y,Y,Y,Z,Z,Z,Y,Y,Y,Y,Z,Z,Y,Y,Y,Z,Z,Z,Z] rfl rfl (take_ofW HT_.out HW_.out (by kernel_rfl)) (fun _ _ _ h => h) (Or.inl ⟨by rfl, ?_⟩) hHeld ?_ ?_
 rotate_left
 ·rintro w' ⟨s0, s1, s2, s3, s4, s5, s6, s7, s8, s9, s10, s11, s12⟩
  go_simp
  with_reducible rfl
 rotate_left
 ·simp only [Act.put, sA, s0, sS, i64_w, i32_w]
  rfl
 refine take_ (i := 16) (N := some 60) (v := ?_) (a' := ?_) #[Y,Y,Y,Y,Z,Z,Z,Y,Y,Y,Y,Z,Z,Y,Y,Y,Y,Z,Z,Z] rfl rfl (take_ofW HT_.out HW_.out (by kernel_rfl)) (fun _ _ _ h => h) (Or.inl ⟨by rfl, ?_⟩) hHeld ?_ ?_
 rotate_left
 ·rintro w' ⟨s0, s1, s2, s3, s4, s5, s6, s7, s8, s9, s10, s11, s12⟩
  go_simp
  with_reducible rfl
 rotate_left
 ·simp only [Act.put, sA, s0, sS, i64_w, i32_w]
  rfl
 refine one_ (i := 4) (N := some 48) #[Y,Y,Y,Y,Y,Z,Z,Y,Y,Y,Y,Z,Z,Y,Y,Y,Y,Z,Z,Z] rfl rfl (one_of HT_.out (by kernel_rfl)) (by decide) (fun K hK => ?_)
 refine Kd.R_lit_step k70 _ 70 ?hg (N := 48) ?hd (xs := ([(⟨a1_8, a1_9⟩ : S70)] : List (S70))) (inner := [.int .u64 a1_8, .int .u64 a1_9]) (ok := fun _ => True) (okp := fun _ => True) ?hr ?hp (fun _ hk => hk) trivial (Below.refl _ _) (Nat.le_refl _) (by simp) ?_; (case hd => rfl); (case hg => rfl); (case hr => go_simp <;> rfl); (case hp => exact (Reps.c2 (show Kd.M k70 _ _ _ (⟨a1_8, a1_9⟩ : S70) [.int .u64 a1_8, .int .u64 a1_9] from (k70_mkM _ _ _ (⟨a1_8, a1_9⟩ : S70) )) (Reps.none _ _)))
 intro v451 w41 ho42 hb hg_ hnew_
 clear hg_ hnew_
 (first | rw [← Ny450.out] at ho42 | (simp only [Int.reduceToNat] at ho42; rw [← Ny450.out] at ho42))
 have HO452 := Aside0.mk (Kd.R_lower (Kd.R_new' ho42 (Kd.R_lt (kr HO446.out))) (below_size (bq HB.out)))
 replace HO446 := Aside0.mk (Kd.R_elder' (kr HO446.out) (Kd.R_base ho42) hb)
 replace BK438 := bb BK438 hb
 replace HB := bh HB hb
 clear hb ho42
 obtain ⟨Ao43, co43, eo43⟩ := Kd.R_slice HO452.out
 (first | subst eo43 | (injection eo43 with f1_ f2_ f3_; have f4_ := f1_.symm; have f5_ := f3_.symm; clear f1_ f2_ f3_; subst f4_; subst f5_))
 refine hK.out _ _ ⟨bc BK438 0 rfl, bc BK438 1 rfl, bc BK438 2 rfl, bc BK438 3 rfl, bc BK438 4 rfl, bc BK438 5 rfl, bc BK438 6 rfl, bc BK438 7 rfl, bc BK438 8 rfl, bc BK438 9 rfl, bc BK438 10 rfl, bc BK438 11 rfl, bc BK438 12 rfl⟩ (fun hHeld => ?_)
 clear hK K
 refine norm_ (a' := ?_) ?_ ?_
 rotate_left
 ·show Act.put _ (some 48) _ = _
  simp only [Act.put, sA, s0, sS, i64_w, i32_w]
  rfl
 refine one_ (i := 5) (N := some 49) #[Y,Y,Y,Y,Y,Y,Z,Y,Y,Y,Y,Z,Z,Y,Y,Y,Y,Z,Z,Z] rfl rfl (one_of HT_.out (by kernel_rfl)) (by decide) (fun K hK => ?_)
 refine goes_ Try.func81 (by kernel_rfl) rfl #[.int .i64 a0, .slice Ao43 y450.length co43] (by rfl) rfl rfl (by (try simp only [mA, mC, mN]); first | done | rfl | (simp only [List.length_drop, List.length_take]; rfl)) ?_
 with_reducible refine (steepleref01_Elems.calls k a0 _ _ y450 t453 _ ?side1 ?side2 A18.out).mono ?_
 (case side1 => exact cq (Kd.R_reads' HO452.out).2.2)
 (case side2 => exact (Kd.R_reads' HO452.out).2.1)
 rintro e w44 ⟨rfl, hb⟩
 refine ⟨_, rfl, ?_⟩
 replace HO446 := kb HO446 hb
 replace HO452 := kb HO452 hb
 replace BK438 := bb BK438 hb
 replace HB := bh HB hb
 (try clear hb)
 refine hK.out _ _ ⟨bc BK438 0 rfl, bc BK438 1 rfl, bc BK438 2 rfl, bc BK438 3 rfl, bc BK438 4 rfl, bc BK438 5 rfl, bc BK438 6 rfl, bc BK438 7 rfl, bc BK438 8 rfl, bc BK438 9 rfl, bc BK438 10 rfl, bc BK438 11 rfl, bc BK438 12 rfl⟩ (fun hHeld => ?_)
 clear hK K
 refine norm_ (a' := ?_) ?_ ?_
 rotate_left
 ·show Act.put _ (some 49) _ = _
  simp only [Act.put, sA, s0, sS, i64_w, i32_w]
  rfl
 refine pA 6 50 #[Y,Y,Y,Y,Y,Y,Y,Y,Y,Y,Y,Z,Z,Y,Y,Y,Y,Z,Z,Z] HT_ ?_
 refine one_ (i := 11) (N := some 55) #[Y,Y,Y,Y,Y,Y,Y,Y,Y,Y,Y,Y,Z,Y,Y,Y,Y,Z,Z,Z] rfl rfl (one_of HT_.out (by kernel_rfl)) (by decide) (fun K hK => ?_)
 refine goes_ Try.func81 (by kernel_rfl) rfl #[.int .i64 a0, .slice A1_10 l1_10.length c1_10] (by rfl) rfl rfl (by (try simp only [mA, mC, mN]); first | done | rfl | (simp only [List.length_drop, List.length_take]; rfl)) ?_
 with_reducible refine (steepleref01_Elems.calls k a0 _ _ l1_10 t454 _ ?side1 ?side2 A20.out).mono ?_
 (case side1 => exact cq (Kd.C_below HR1_10.out HB.out))
 (case side2 => exact HC1_10.out)
 rintro e w45 ⟨rfl, hb⟩
 refine ⟨_, rfl, ?_⟩
 replace HO446 := kb HO446 hb
 replace HO452 := kb HO452 hb
 replace BK438 := bb BK438 hb
 replace HB := bh HB hb
 (try clear hb)
 refine hK.out _ _ ⟨bc BK438 0 rfl, bc BK438 1 rfl, bc BK438 2 rfl, bc BK438 3 rfl, bc BK438 4 rfl, bc BK438 5 rfl, bc BK438 6 rfl, bc BK438 7 rfl, bc BK438 8 rfl, bc BK438 9 rfl, bc BK438 10 rfl, bc BK438 11 rfl, bc BK438 12 rfl⟩ (fun hHeld => ?_)
 clear hK K
 refine norm_ (a' := ?_) ?_ ?_
 rotate_left
 ·show Act.put _ (some 55) _ = _
  simp only [Act.put, sA, s0, sS, i64_w, i32_w]
  rfl
 refine pA 12 56 #[Y,Y,Y,Y,Y,Y,Y,Y,Y,Y,Y,Y,Y,Y,Y,Y,Y,Z,Z,Z] HT_ ?_
 refine one_ (i := 17) (N := some 61) #[Y,Y,Y,Y,Y,Y,Y,Y,Y,Y,Y,Y,Y,Y,Y,Y,Y,Y,Z,Z] rfl rfl (one_of HT_.out (by kernel_rfl)) (by decide) (fun K hK => ?_)
 refine goes_ Try.func80 (by kernel_rfl) rfl #[.int .i64 a0, .slice A1_11 l1_11.length c1_11] (by rfl) rfl rfl (by (try simp only [mA, mC, mN]); first | done | rfl | (simp only [List.length_drop, List.length_take]; rfl)) ?_
 with_reducible refine (steepleref29_put.calls k a0 _ _ l1_11 t455 _ ?side1 ?side2 A22.out).mono ?_
 (case side1 => exact cq (Kd.C_below HR1_11.out HB.out))
 (case side2 => exact HC1_11.out)
 rintro e w46 ⟨rfl, hb⟩
 refine ⟨_, rfl, ?_⟩
 replace HO446 := kb HO446 hb
 replace HO452 := kb HO452 hb
 replace BK438 := bb BK438 hb
 replace HB := bh HB hb
 (try clear hb)
 refine hK.out _ _ ⟨bc BK438 0 rfl, bc BK438 1 rfl, bc BK438 2 rfl, bc BK438 3 rfl, bc BK438 4 rfl, bc BK438 5 rfl, bc BK438 6 rfl, bc BK438 7 rfl, bc BK438 8 rfl, bc BK438 9 rfl, bc BK438 10 rfl, bc BK438 11 rfl, bc BK438 12 rfl⟩ (fun hHeld => ?_)
 clear hK K
 refine norm_ (a' := ?_) ?_ ?_
 rotate_left
 ·show Act.put _ (some 61) _ = _
  simp only [Act.put, sA, s0, sS, i64_w, i32_w]
  rfl
 refine pA 18 62 #[Y,Y,Y,Y,Y,Y,Y,Y,Y,Y,Y,Y,Y,Y,Y,Y,Y,Y,Y,Z] HT_ ?_
 refine pA 19 5 #[Y,Y,Y,Y,Y,Y,Y,Y,Y,Y,Y,Y,Y,Y,Y,Y,Y,Y,Y,Y] HT_ ?_
 refine done_ (done_of HT_.out (by kernel_rfl)) ?_
 obtain ⟨hcz47_0, hcz47_1, hcz47_2, hcz47_3, hcz47_4, hcz47_5, hcz47_6, hcz47_7, hcz47_8, hcz47_9, hcz47_10, hcz47_11, hcz47_12⟩ := zc13 BK438
 obtain ⟨hfz47_0, hfz47_1, hfz47_2, hfz47_3, hfz47_4, hfz47_5, hfz47_6, hfz47_7, hfz47_8, hfz47_9, hfz47_10, hfz47_11, hfz47_12⟩ := zf13 BK438
 try go_wp2_with (first | ((with_reducible refine gate_callee (f := 82) rfl ?_); refine gL (some 67) rfl Try.func82 #[.slice A1_12 l1_12.length c1_12] rfl ?_; (with_reducible refine (steepleref01_List.calls k _ _ l1_12 t456 _ ?side1 ?side2 A24.out).mono ?_); (case side1 => exact cq (Kd.C_below HR1_12.out HB.out)); (case side2 => exact HC1_12.out); rintro e w48 ⟨rfl, hb⟩; refine ⟨_, rfl, ?_⟩; replace HB := bh HB hb; (try clear hb); (try clear hk hi)))
 go_ret
 exact ⟨er, bq HB.out⟩
end Go.Proofs.Ythgiifakcgjlaaa.P
