/- Written by a program of this session: functions that the law reaches, as Lean functions, and that the code comes to their answers. Conditions: those that each theorem names. -/
import Derived.Test.YtmibjgjgfombaaaPx0
import Derived.Test.YtmibjgjgfombaaaX2
import Derived.Test.YtmibjgjgfombaaaHNil12
import Derived.Test.YtmibjgjgfombaaaPx6
import Derived.Test.YtmibjgjgfombaaaPx6a
import Derived.Test.YtmibjgjgfombaaaPx9
import Derived.Test.YtmibjgjgfombaaaPx12
import Derived.Test.YtmibjgjgfombaaaPx13
import Derived.Test.YtmibjgjgfombaaaPx15a
import Derived.Test.YtmibjgjgfombaaaPx16
import Derived.Test.YtmibjgjgfombaaaPx17
import Derived.Test.YtmibjgjgfombaaaHSu
-- HND
-- HND2
-- FIX18
namespace Go.Proofs.Ytmibjgjgfombaaa.P
open Go.RowKit Go.Proofs.YtmibjgjgfombaaaX Go.Proofs.YtmibjgjgfombaaaW.PrintWords Go.Proofs.YtmibjgjgfombaaaW.PrintLast Go.Proofs.YtmibjgjgfombaaaW.PrintMore
attribute [local go_sem] max2_int min2_int max_two min_two max_three min_three max_four min_four   -- for this text's walks alone
set_option linter.unusedVariables false
set_option linter.unusedSimpArgs false
/-! ### steeplelaw12_MerkleClimbs: function 5 -/
def steeplelaw12_MerkleClimbs.j0 : Nat → ByteArray → ByteArray → Bool → Int → Int → List ByteArray → Option (Bool)
 | 0, _, _, _, _, _, _ => none
 | k + 1, x1, x2, x33, x447000, x447001, x447002 => if x33 = true then ((steeplelaw12_awake.f k).bind fun t449 => (some t449)) else ((perm_Make.f).bind fun t450 => ((steepleref10_Make.f k).bind fun bt451 => ((merkle_Climb.f k t450 x447000 x447001 x1 x447002).bind fun bt458 => ((steepleref12_Climb.f k bt451.1 bt451.2 x447000 x447001 x1 x447002).bind fun bt463 => ((steepleref12_Leaf.f k bt451.1 bt451.2 x2).bind fun t469 => ((steepleref12_Climb.f k bt451.1 bt451.2 x447000 x447001 t469 x447002).bind fun bt470 => (if bt458.1.toList = bt463.1.toList then ((steeplelaw01_Texts.f k bt458.2.1 bt463.2.1).bind fun t476 => (if t476 = true then (if bt458.2.2 = bt463.2.2 then ((merkle_ClimbNil.f k x447000 x447001 x1 x447002).bind fun bt477 => (if bt477.2.2 = 1 then ((merkle_Check.f k t450 x1 x447000 x447001 x2 x447002).bind fun t482 => (if bt470.2.2 = 0 then (if (t482 == (bt470.1.toList == x1.toList)) = true then ((merkle_Check.f k t450 bt470.1 x447000 x447001 x2 x447002).bind fun t483 => (some t483)) else (none)) else (if (t482 == false) = true then (some true) else (none)))) else (none))) else (none)) else (none))) else (none))))))))
def steeplelaw12_MerkleClimbs.f (k : Nat) (a0_0 : Int) (a0_1 : Int) (l0_2 : List ByteArray) (a1 : ByteArray) (a2 : ByteArray) : Option (Bool) := (steeplelaw12_few.f k a0_0 a0_1 l0_2).bind fun t447 => (if t447 = true then (if (a1.size : Int) > 100 then (steeplelaw12_MerkleClimbs.j0 k a1 a2 true a0_0 a0_1 l0_2) else (if (a2.size : Int) > 100 then (steeplelaw12_MerkleClimbs.j0 k a1 a2 true a0_0 a0_1 l0_2) else ((steeplelaw12_awake.f k).bind fun t448 => (steeplelaw12_MerkleClimbs.j0 k a1 a2 (!t448) a0_0 a0_1 l0_2)))) else (steeplelaw12_MerkleClimbs.j0 k a1 a2 true a0_0 a0_1 l0_2))
def steeplelaw12_MerkleClimbs.T7 : Bool × List (List Nat × List Nat) := (true, [([], []), ([], []), ([1], [1]), ([], []), ([3], [3]), ([], []), ([], []), ([5, 6], [5, 6]), ([], []), ([8], [8]), ([0, 2, 4, 7, 9, 7], [0, 2, 4, 7, 9]), ([], []), ([11, 10, 10, 0, 1, 2, 3, 4, 5, 6, 7, 8, 9, 10, 11], [10, 11])])
def steeplelaw12_MerkleClimbs.B7 : List Nat := [0, 0, 2, 0, 8, 0, 0, 96, 0, 256, 1023, 0, 4095]
theorem steeplelaw12_MerkleClimbs.tab7 : rtab .any (opsOf Try.f5 7) = steeplelaw12_MerkleClimbs.T7 := by kernel_rfl
theorem steeplelaw12_MerkleClimbs.bits7 : waitsOk steeplelaw12_MerkleClimbs.T7.2 steeplelaw12_MerkleClimbs.B7 = true := by kernel_rfl
def steeplelaw12_MerkleClimbs.T11 : Bool × List (List Nat × List Nat) := (true, [([], []), ([0], [0]), ([1], [1]), ([2], [2]), ([2], [2]), ([2], [2]), ([5, 2], [2, 5]), ([2], [2]), ([7, 2], [2, 7]), ([2], [2]), ([2], [2]), ([10, 2], [2, 10]), ([3, 4, 6, 8, 9, 11, 2, 2], [2, 3, 4, 6, 8, 9, 11]), ([2], [2]), ([13, 2], [2, 13]), ([14, 2], [2, 14]), ([15, 12, 2], [2, 15]), ([16], [16]), ([17, 16], [16, 17]), ([16], [16]), ([18, 19, 16], [16, 18, 19]), ([16, 20, 2], [2, 16, 20]), ([12, 21, 2], [2, 12, 21]), ([2, 22], [2, 22]), ([23, 16], [23]), ([24], [24]), ([25, 24], [24, 25]), ([26, 24], [24, 26]), ([27, 24, 24], [24, 27]), ([28], [28]), ([28], [28]), ([30, 28], [28, 30]), ([28], [28]), ([32, 28], [28, 32]), ([28], [28]), ([34, 28], [28, 34]), ([28], [28]), ([28], [28]), ([37, 28], [28, 37]), ([29, 31, 33, 35, 36, 38, 28, 28], [28, 29, 31, 33, 35, 36, 38]), ([28, 39, 24], [24, 28, 39]), ([24, 40], [24, 40]), ([41, 39, 0, 1, 2, 3, 4, 5, 6, 7, 8, 9, 10, 11, 12, 13, 14, 15, 16, 17, 18, 19, 20, 21, 22, 23, 24, 25, 26, 27, 28, 29, 30, 31, 32, 33, 34, 35, 36, 37, 38, 39, 40, 41], [41])])
def steeplelaw12_MerkleClimbs.B11 : List Nat := [0, 1, 3, 7, 7, 7, 39, 7, 135, 7, 7, 1031, 4095, 7, 8199, 24583, 65535, 131071, 262143, 131071, 1048575, 2097151, 4194303, 8388607, 16777215, 33554431, 67108863, 134217727, 268435455, 536870911, 536870911, 1610612735, 536870911, 4831838207, 536870911, 17716740095, 536870911, 536870911, 137975824383, 549755813887, 1099511627775, 2199023255551, 4398046511103]
theorem steeplelaw12_MerkleClimbs.tab11 : rtab .any (opsOf Try.f5 11) = steeplelaw12_MerkleClimbs.T11 := by kernel_rfl
theorem steeplelaw12_MerkleClimbs.bits11 : waitsOk steeplelaw12_MerkleClimbs.T11.2 steeplelaw12_MerkleClimbs.B11 = true := by kernel_rfl
set_option maxHeartbeats 8000000 in
set_option maxRecDepth 100000 in
theorem steeplelaw12_MerkleClimbs.calls (k : Nat) (a0_0 : Int) (a0_1 : Int) (A0_2 : Option Addr) (c0_2 : Nat) (l0_2 : List ByteArray) (a1 : ByteArray) (a2 : ByteArray) (r : Bool) (w : World) (hr0_2 : Kd.C Kd.string w A0_2 l0_2.length l0_2) (hc0_2 : l0_2.length ≤ c0_2) (h : steeplelaw12_MerkleClimbs.f k a0_0 a0_1 l0_2 a1 a2 = some r) :
  Calls Try.prog 5 #[.agg #[.int .i64 a0_0, .int .i64 a0_1, .slice A0_2 l0_2.length c0_2], .string a1, .string a2] w fun e w' => e = .returned (.bool r) ∧ Below w.heap.size w w' := by
 have hu48 := Try.underlying48
 have hu39 := Try.underlying39
 have hu53 := Try.underlying53
 have HR0_2 := Aside0.mk hr0_2
 have HC0_2 := Aside0.mk hc0_2
 clear hr0_2 hc0_2
 have HB := Aside0.mk (Below.refl w.heap.size w)
 have H : ((steeplelaw12_few.f k a0_0 a0_1 l0_2).bind fun t447 => (if t447 = true then (if (a1.size : Int) > 100 then (steeplelaw12_MerkleClimbs.j0 k a1 a2 true a0_0 a0_1 l0_2) else (if (a2.size : Int) > 100 then (steeplelaw12_MerkleClimbs.j0 k a1 a2 true a0_0 a0_1 l0_2) else ((steeplelaw12_awake.f k).bind fun t448 => (steeplelaw12_MerkleClimbs.j0 k a1 a2 (!t448) a0_0 a0_1 l0_2)))) else (steeplelaw12_MerkleClimbs.j0 k a1 a2 true a0_0 a0_1 l0_2))) = some r := h
 clear h
 have HC4 := Aside0.mk H
 clear H
 go_enter Try.func5, Try.ntmps5
 go_upto_region 1 with (first | ((with_reducible refine gate_dst (N := 3) rfl ?_); (try (refine gate_guard (by rfl) ?_; dsimp only)); refine box_event ?hg (N := 3) ?hd (cs := #[.int .i64 a0_0, .int .i64 a0_1, .slice A0_2 l0_2.length c0_2]) (t := 48) ?hr ?_; (case hd => rfl); (case hg => rfl); (case hr => go_simp <;> rfl); intro gb446 hg w5 hbox hb; have BK446 := Aside0.mk hbox; have GW446 := ge hg HB; have GE446 := ge hg HB; replace HB := bh HB hb; clear hb hbox hg))
 (try simp only [Act.put, sA, s0, sS])
 go_cut [33] (fun v33 wc => ∃ (kq : Nat) (x33_3 : Bool), v33 = .bool x33_3 ∧ Aside0 (steeplelaw12_MerkleClimbs.j0 kq a1 a2 x33_3 a0_0 a0_1 l0_2 = some r) ∧ Aside0 (kq ≤ k) ∧ Aside0 (wc.heap[gb446]? = some (.cells #[.int .i64 a0_0, .int .i64 a0_1, (.slice A0_2 l0_2.length c0_2)] 48 (0, 0))) ∧ Aside0 (Below w.heap.size w wc))
 case first =>
  have H := HC4.out
  clear HC4
  replace H := Option.bind_eq_some_iff.mp H
  obtain ⟨t447, A60, H⟩ := H
  try dsimp only at H
  have A6 := Aside0.mk A60
  clear A60
  by_cases c7 : t447 = true
  rotate_left
  ·replace c7 := Bool.eq_false_iff.mpr c7
   subst c7
   have H1 : (steeplelaw12_MerkleClimbs.j0 k a1 a2 true a0_0 a0_1 l0_2) = some r := by rw [if_neg (show ¬ (false = true) by decide)] at H; exact H
   clear H
   have H := H1
   clear H1
   have H' := Aside0.mk H
   clear H
   obtain ⟨hcz18_0, hcz18_1, hcz18_2⟩ := zc3 BK446
   obtain ⟨hfz18_0, hfz18_1, hfz18_2⟩ := zf3 BK446
   go_wp2_with (first | ((with_reducible refine gate_callee (f := 21) rfl ?_); refine goesL_ (some 18) rfl rfl Try.func21 (by kernel_rfl) rfl #[.agg #[.int .i64 a0_0, .int .i64 a0_1, .slice A0_2 l0_2.length c0_2]] rfl (by (try simp only [mA, mC, mN]); first | done | rfl | (simp only [List.length_drop, List.length_take]; rfl)) ?_; (with_reducible refine (steeplelaw12_few.calls k a0_0 a0_1 _ _ l0_2 false _ ?side1 ?side2 A6.out).mono ?_); (case side1 => repeat (first | exact (Kd.C_below HR0_2.out HB.out) | (with_reducible refine Kd.C_alloc ?_ _) | (with_reducible refine Kd.C_drewN ?_ _) | (with_reducible refine Kd.C_drew ?_))); (case side2 => exact HC0_2.out); rintro e w19 ⟨rfl, hb⟩; refine ⟨_, rfl, ?_⟩; replace BK446 := bb BK446 hb; replace HB := bh HB hb; (try clear hb); (try clear hb2); (try clear hk); (try clear hi)))
   go_meet
   case rel => exact ⟨_, (true), (by first | rfl | (simp; done) | (simp [*]; done)), H', ⟨by first | omega | exact Nat.le_refl _⟩, ⟨bk BK446.out⟩, ⟨(by first | exact bq HB.out | exact below_step HB0.out (bq HB.out))⟩⟩
  subst c7
  have H1 : (if (a1.size : Int) > 100 then (steeplelaw12_MerkleClimbs.j0 k a1 a2 true a0_0 a0_1 l0_2) else (if (a2.size : Int) > 100 then (steeplelaw12_MerkleClimbs.j0 k a1 a2 true a0_0 a0_1 l0_2) else ((steeplelaw12_awake.f k).bind fun t448 => (steeplelaw12_MerkleClimbs.j0 k a1 a2 (!t448) a0_0 a0_1 l0_2)))) = some r := by rw [if_pos rfl] at H; exact H
  clear H
  have H := H1
  clear H1
  by_cases c8 : (a1.size : Int) > 100
  ·rw [if_pos c8] at H
   have c8b0 : decide (100 < (a1.size : Int)) = true := decide_eq_true c8
   have c8b1 : decide (100 < a1.size) = true := decide_eq_true (by omega)
   clear c8
   (first | rw [c8b0] | (simp only [i64_w, i32_w]; rw [c8b0]) | skip)
   have H' := Aside0.mk H
   clear H
   obtain ⟨hcz9_0, hcz9_1, hcz9_2⟩ := zc3 BK446
   obtain ⟨hfz9_0, hfz9_1, hfz9_2⟩ := zf3 BK446
   go_wp2_with (first | ((with_reducible refine gate_callee (f := 21) rfl ?_); refine goesL_ (some 18) rfl rfl Try.func21 (by kernel_rfl) rfl #[.agg #[.int .i64 a0_0, .int .i64 a0_1, .slice A0_2 l0_2.length c0_2]] rfl (by (try simp only [mA, mC, mN]); first | done | rfl | (simp only [List.length_drop, List.length_take]; rfl)) ?_; (with_reducible refine (steeplelaw12_few.calls k a0_0 a0_1 _ _ l0_2 true _ ?side1 ?side2 A6.out).mono ?_); (case side1 => repeat (first | exact (Kd.C_below HR0_2.out HB.out) | (with_reducible refine Kd.C_alloc ?_ _) | (with_reducible refine Kd.C_drewN ?_ _) | (with_reducible refine Kd.C_drew ?_))); (case side2 => exact HC0_2.out); rintro e w10 ⟨rfl, hb⟩; refine ⟨_, rfl, ?_⟩; replace BK446 := bb BK446 hb; replace HB := bh HB hb; (try clear hb); (try clear hb2); (try clear hk); (try clear hi)))
   go_meet
   case rel => exact ⟨_, (true), (by first | rfl | (simp; done) | (simp [*]; done)), H', ⟨by first | omega | exact Nat.le_refl _⟩, ⟨bk BK446.out⟩, ⟨(by first | exact bq HB.out | exact below_step HB0.out (bq HB.out))⟩⟩
  rw [if_neg c8] at H
  have c8b0 : decide (100 < (a1.size : Int)) = false := decide_eq_false c8
  have c8b1 : decide (100 < a1.size) = false := decide_eq_false (by omega)
  clear c8
  (first | rw [c8b0] | (simp only [i64_w, i32_w]; rw [c8b0]) | skip)
  by_cases c11 : (a2.size : Int) > 100
  ·rw [if_pos c11] at H
   have c11b0 : decide (100 < (a2.size : Int)) = true := decide_eq_true c11
   have c11b1 : decide (100 < a2.size) = true := decide_eq_true (by omega)
   clear c11
   have H' := Aside0.mk H
   clear H
   obtain ⟨hcz12_0, hcz12_1, hcz12_2⟩ := zc3 BK446
   obtain ⟨hfz12_0, hfz12_1, hfz12_2⟩ := zf3 BK446
   go_wp2_with (first | ((with_reducible refine gate_callee (f := 21) rfl ?_); refine goesL_ (some 18) rfl rfl Try.func21 (by kernel_rfl) rfl #[.agg #[.int .i64 a0_0, .int .i64 a0_1, .slice A0_2 l0_2.length c0_2]] rfl (by (try simp only [mA, mC, mN]); first | done | rfl | (simp only [List.length_drop, List.length_take]; rfl)) ?_; (with_reducible refine (steeplelaw12_few.calls k a0_0 a0_1 _ _ l0_2 true _ ?side1 ?side2 A6.out).mono ?_); (case side1 => repeat (first | exact (Kd.C_below HR0_2.out HB.out) | (with_reducible refine Kd.C_alloc ?_ _) | (with_reducible refine Kd.C_drewN ?_ _) | (with_reducible refine Kd.C_drew ?_))); (case side2 => exact HC0_2.out); rintro e w13 ⟨rfl, hb⟩; refine ⟨_, rfl, ?_⟩; replace BK446 := bb BK446 hb; replace HB := bh HB hb; (try clear hb); (try clear hb2); (try clear hk); (try clear hi)))
   go_meet
   case rel => exact ⟨_, (true), (by first | rfl | (simp; done) | (simp [*]; done)), H', ⟨by first | omega | exact Nat.le_refl _⟩, ⟨bk BK446.out⟩, ⟨(by first | exact bq HB.out | exact below_step HB0.out (bq HB.out))⟩⟩
  rw [if_neg c11] at H
  have c11b0 : decide (100 < (a2.size : Int)) = false := decide_eq_false c11
  have c11b1 : decide (100 < a2.size) = false := decide_eq_false (by omega)
  clear c11
  replace H := Option.bind_eq_some_iff.mp H
  obtain ⟨t448, A140, H⟩ := H
  try dsimp only at H
  have A14 := Aside0.mk A140
  clear A140
  have H' := Aside0.mk H
  clear H
  obtain ⟨hcz15_0, hcz15_1, hcz15_2⟩ := zc3 BK446
  obtain ⟨hfz15_0, hfz15_1, hfz15_2⟩ := zf3 BK446
  go_wp2_with (first | ((with_reducible refine gate_callee (f := 21) rfl ?_); refine goesL_ (some 18) rfl rfl Try.func21 (by kernel_rfl) rfl #[.agg #[.int .i64 a0_0, .int .i64 a0_1, .slice A0_2 l0_2.length c0_2]] rfl (by (try simp only [mA, mC, mN]); first | done | rfl | (simp only [List.length_drop, List.length_take]; rfl)) ?_; (with_reducible refine (steeplelaw12_few.calls k a0_0 a0_1 _ _ l0_2 true _ ?side1 ?side2 A6.out).mono ?_); (case side1 => repeat (first | exact (Kd.C_below HR0_2.out HB.out) | (with_reducible refine Kd.C_alloc ?_ _) | (with_reducible refine Kd.C_drewN ?_ _) | (with_reducible refine Kd.C_drew ?_))); (case side2 => exact HC0_2.out); rintro e w16 ⟨rfl, hb⟩; refine ⟨_, rfl, ?_⟩; replace BK446 := bb BK446 hb; replace HB := bh HB hb; (try clear hb); (try clear hb2); (try clear hk); (try clear hi)) | (go_at_call 10; (with_reducible refine (steeplelaw12_awake.calls k  t448 _ A14.out).mono ?_); rintro e w17 ⟨rfl, hb⟩; replace BK446 := bb BK446 hb; replace HB := bh HB hb; (try clear hb); (try clear hb2); (try clear hk); (try clear hi)))
  go_meet
  case rel => exact ⟨_, (!t448), (by first | rfl | (simp; done) | (simp [*]; done)), H', ⟨by first | omega | exact Nat.le_refl _⟩, ⟨bk BK446.out⟩, ⟨(by first | exact bq HB.out | exact below_step HB0.out (bq HB.out))⟩⟩
 case rest =>
  clear HC4
  try clear c1
  try clear c2
  try clear p2
  try clear c5
  try clear c7
  try clear c8
  try clear c8b0
  try clear c8b1
  try clear c11
  try clear c11b0
  try clear c11b1
  try clear hcz12_0
  try clear hcz12_1
  try clear hcz12_2
  try clear hcz15_0
  try clear hcz15_1
  try clear hcz15_2
  try clear hcz18_0
  try clear hcz18_1
  try clear hcz18_2
  try clear hcz9_0
  try clear hcz9_1
  try clear hcz9_2
  try clear hfz12_0
  try clear hfz12_1
  try clear hfz12_2
  try clear hfz15_0
  try clear hfz15_1
  try clear hfz15_2
  try clear hfz18_0
  try clear hfz18_1
  try clear hfz18_2
  try clear hfz9_0
  try clear hfz9_1
  try clear hfz9_2
  obtain ⟨kq, x33_3, rfl, HA, HJ3, BK446, HB⟩ := hcut
  cases kq with
  | zero => exact absurd HA.out (by simp [steeplelaw12_MerkleClimbs.j0])
  | succ kj3 =>
   have H := HA.out
   clear HA
   simp only [steeplelaw12_MerkleClimbs.j0] at H
   by_cases c20 : x33_3 = true
   ·subst c20
    have H1 : ((steeplelaw12_awake.f kj3).bind fun t449 => (some t449)) = some r := by rw [if_pos rfl] at H; exact H
    clear H
    have H := H1
    clear H1
    replace H := Option.bind_eq_some_iff.mp H
    obtain ⟨t449, A210, H⟩ := H
    replace H : (some t449) = some r := H
    have A21 := Aside0.mk A210
    clear A210
    obtain rfl := Option.some.inj H
    go_wp2_with (first | ((with_reducible refine gate_callee (f := 10) rfl ?_); refine goesL_ (some 34) rfl rfl Try.func10 (by kernel_rfl) rfl #[] rfl (by (try simp only [mA, mC, mN]); first | done | rfl | (simp only [List.length_drop, List.length_take]; rfl)) ?_; (with_reducible refine (steeplelaw12_awake.calls kj3  t449 _ A21.out).mono ?_); rintro e w22 ⟨rfl, hb⟩; refine ⟨_, rfl, ?_⟩; replace BK446 := bb BK446 hb; replace HB := bh HB hb; (try clear hb); (try clear hb2); (try clear hk); (try clear hi)))
    go_ret
    exact ⟨by first | rfl | (simp [errW_none, errW_some] <;> rfl) | (simp [*, errW_none, errW_some] <;> rfl), (by first | exact bq HB.out | exact below_step HB0.out (bq HB.out))⟩
   replace c20 := Bool.eq_false_iff.mpr c20
   subst c20
   have H1 : ((perm_Make.f).bind fun t450 => ((steepleref10_Make.f kj3).bind fun bt451 => ((merkle_Climb.f kj3 t450 a0_0 a0_1 a1 l0_2).bind fun bt458 => ((steepleref12_Climb.f kj3 bt451.1 bt451.2 a0_0 a0_1 a1 l0_2).bind fun bt463 => ((steepleref12_Leaf.f kj3 bt451.1 bt451.2 a2).bind fun t469 => ((steepleref12_Climb.f kj3 bt451.1 bt451.2 a0_0 a0_1 t469 l0_2).bind fun bt470 => (if bt458.1.toList = bt463.1.toList then ((steeplelaw01_Texts.f kj3 bt458.2.1 bt463.2.1).bind fun t476 => (if t476 = true then (if bt458.2.2 = bt463.2.2 then ((merkle_ClimbNil.f kj3 a0_0 a0_1 a1 l0_2).bind fun bt477 => (if bt477.2.2 = 1 then ((merkle_Check.f kj3 t450 a1 a0_0 a0_1 a2 l0_2).bind fun t482 => (if bt470.2.2 = 0 then (if (t482 == (bt470.1.toList == a1.toList)) = true then ((merkle_Check.f kj3 t450 bt470.1 a0_0 a0_1 a2 l0_2).bind fun t483 => (some t483)) else (none)) else (if (t482 == false) = true then (some true) else (none)))) else (none))) else (none)) else (none))) else (none)))))))) = some r := by rw [if_neg (show ¬ (false = true) by decide)] at H; exact H
   clear H
   have H := H1
   clear H1
   replace H := Option.bind_eq_some_iff.mp H
   obtain ⟨t450, A230, H⟩ := H
   try dsimp only at H
   have A23 := Aside0.mk A230
   clear A230
   replace H := Option.bind_eq_some_iff.mp H
   obtain ⟨⟨t451, t454⟩, A240, H⟩ := H
   try dsimp only at H
   have A24 := Aside0.mk A240
   clear A240
   replace H := Option.bind_eq_some_iff.mp H
   obtain ⟨⟨t458, t459, t460⟩, A250, H⟩ := H
   try dsimp only at H
   have A25 := Aside0.mk A250
   clear A250
   replace H := Option.bind_eq_some_iff.mp H
   obtain ⟨⟨t463, t464, t467⟩, A260, H⟩ := H
   try dsimp only at H
   have A26 := Aside0.mk A260
   clear A260
   replace H := Option.bind_eq_some_iff.mp H
   obtain ⟨t469, A270, H⟩ := H
   try dsimp only at H
   have A27 := Aside0.mk A270
   clear A270
   replace H := Option.bind_eq_some_iff.mp H
   obtain ⟨⟨t470, t471, t474⟩, A280, H⟩ := H
   try dsimp only at H
   have A28 := Aside0.mk A280
   clear A280
   by_cases c29 : t458.toList = t463.toList
   rotate_left
   ·rw [if_neg c29] at H
    exact absurd H (by simp)
   rw [if_pos c29] at H
   have c29b0 : (t458.toList == t463.toList) = true := beq_iff_eq.mpr c29
   have c29b1 : (t458.toList != t463.toList) = false := bne_eq_false_iff_eq.mpr c29
   clear c29
   replace H := Option.bind_eq_some_iff.mp H
   obtain ⟨t476, A300, H⟩ := H
   try dsimp only at H
   have A30 := Aside0.mk A300
   clear A300
   by_cases c31 : t476 = true
   rotate_left
   ·replace c31 := Bool.eq_false_iff.mpr c31
    subst c31
    have H1 : (none) = some r := by rw [if_neg (show ¬ (false = true) by decide)] at H; exact H
    clear H
    have H := H1
    clear H1
    exact absurd H (by simp)
   subst c31
   have H1 : (if t460 = t467 then ((merkle_ClimbNil.f kj3 a0_0 a0_1 a1 l0_2).bind fun bt477 => (if bt477.2.2 = 1 then ((merkle_Check.f kj3 t450 a1 a0_0 a0_1 a2 l0_2).bind fun t482 => (if t474 = 0 then (if (t482 == (t470.toList == a1.toList)) = true then ((merkle_Check.f kj3 t450 t470 a0_0 a0_1 a2 l0_2).bind fun t483 => (some t483)) else (none)) else (if (t482 == false) = true then (some true) else (none)))) else (none))) else (none)) = some r := by rw [if_pos rfl] at H; exact H
   clear H
   have H := H1
   clear H1
   by_cases c32 : t460 = t467
   rotate_left
   ·rw [if_neg c32] at H
    exact absurd H (by simp)
   rw [if_pos c32] at H
   have c32b0 : (t460 == t467) = true := beq_iff_eq.mpr c32
   have c32b1 : (t460 != t467) = false := bne_eq_false_iff_eq.mpr c32
   clear c32
   replace H := Option.bind_eq_some_iff.mp H
   obtain ⟨⟨t477, t478, t479⟩, A330, H⟩ := H
   try dsimp only at H
   have A33 := Aside0.mk A330
   clear A330
   by_cases c34 : t479 = 1
   rotate_left
   ·rw [if_neg c34] at H
    have c34b0 : (t479 == 1) = false := beq_eq_false_iff_ne.mpr c34
    have c34b1 : (t479 != 1) = true := bne_iff_ne.mpr c34
    exact absurd H (by simp)
   rw [if_pos c34] at H
   have c34b0 : (t479 == 1) = true := beq_iff_eq.mpr c34
   have c34b1 : (t479 != 1) = false := bne_eq_false_iff_eq.mpr c34
   clear c34
   replace H := Option.bind_eq_some_iff.mp H
   obtain ⟨t482, A350, H⟩ := H
   try dsimp only at H
   have A35 := Aside0.mk A350
   clear A350
   by_cases c36 : t474 = 0
   rotate_left
   ·rw [if_neg c36] at H
    have c36b0 : (t474 == 0) = false := beq_eq_false_iff_ne.mpr c36
    have c36b1 : (t474 != 0) = true := bne_iff_ne.mpr c36
    by_cases c75 : (t482 == false) = true
    rotate_left
    ·rw [if_neg c75] at H
     have c75b0 : (t482 == false) = false := by simpa using c75
     (try (have c75b1 : decide (t482 = false) = false := by simpa using c75))
     (try (have c75b2 : (t482 == false) = false := by simpa using c75))
     (try (have c75b3 : ¬ (t482 = false) := by simpa using c75))
     clear c75
     exact absurd H (by simp)
    rw [if_pos c75] at H
    have c75b0 : (t482 == false) = true := c75
    (try (have c75b1 : decide (t482 = false) = true := by simpa using c75))
    (try (have c75b2 : (t482 == false) = true := by simpa using c75))
    clear c75
    obtain rfl := Option.some.inj H
    try go_wp2_with (first | ((with_reducible refine gate_callee (f := 11) rfl ?_); refine goesL_ (some 35) rfl rfl Try.func11 (by kernel_rfl) rfl #[] rfl (by (try simp only [mA, mC, mN]); first | done | rfl | (simp only [List.length_drop, List.length_take]; rfl)) ?_; (with_reducible refine (perm_Make.calls  t450 _ A23.out).mono ?_); rintro e w76 ⟨gT, rfl, hTT, hb⟩; refine ⟨_, rfl, ?_⟩; have HT := Aside0.mk hTT; clear hTT; replace BK446 := bb BK446 hb; replace HB := bh HB hb; have HB0 := HB; (try replace HR0_2 := Aside0.mk (Kd.C_below HR0_2.out HB.out)); replace HB := Aside0.mk (Below.refl w76.heap.size w76); (try clear hb); (try clear hb2); (try clear hk); (try clear hi)) | ((with_reducible refine gate_callee (f := 16) rfl ?_); refine goesL_ (some 36) rfl rfl Try.func16 (by kernel_rfl) rfl #[] rfl (by (try simp only [mA, mC, mN]); first | done | rfl | (simp only [List.length_drop, List.length_take]; rfl)) ?_; (with_reducible refine (steepleref10_Make.calls kj3  t451 t454 _ A24.out).mono ?_); rintro e w77 ⟨v452, v455, rfl, ho0, ho1, hb⟩; refine ⟨_, rfl, ?_⟩; have HO453 := kw ho0 HB; have HO456 := Aside0.mk (Kd.S_lower ho1 (below_size (bq HB.out))); replace BK446 := bb BK446 hb; replace HB := bh HB hb; (try clear hb); (try clear hb2); (try clear hk); (try clear hi); (try clear ho0); (try clear ho1)) | ((with_reducible refine gate_dst (N := 8) rfl ?_); (try (refine gate_guard (by rfl) ?_; dsimp only)); refine box_event ?hg (N := 8) ?hd (cs := #[.slice none 0 0, .slice none 0 0]) (t := 39) ?hr ?_; (case hd => rfl); (case hg => rfl); (case hr => go_simp <;> rfl); intro gb457 hg w78 hbox hb; have BK457 := Aside0.mk hbox; have GW457 := ge hg HB; have GE457 := ge hg HB; have NB446_457 := nl hg BK446; have NB457_446 := ng hg BK446; replace HO453 := kb HO453 hb; replace HO456 := Aside0.mk (Kd.S_below (by (with_reducible repeat (first | apply Kd.S_alloc | apply Kd.S_drewN | apply Kd.S_drew)); exact HO456.out) hb); replace BK446 := bb BK446 hb; replace HB := bh HB hb; clear hb hbox hg; obtain ⟨Ao79, co79, eo79⟩ := Kd.R_slice HO453.out; subst eo79; have hnb80 := NB457_446.out; have hnc80 := NB446_457.out; obtain ⟨hcz81_0, hcz81_1⟩ := zc2 BK457; obtain ⟨hfz81_0, hfz81_1⟩ := zf2 BK457; obtain ⟨Ao82, co82, eo82⟩ := Kd.S_slice HO456.out; subst eo82; obtain ⟨hcz83_0, hcz83_1, hcz83_2⟩ := zc3 BK446; obtain ⟨hfz83_0, hfz83_1, hfz83_2⟩ := zf3 BK446) | ((with_reducible refine gate_callee (f := 22) rfl ?_); refine goesL_ (some 46) rfl rfl Try.func22 (by kernel_rfl) rfl #[.pointer (some ⟨gT, 0, none⟩), .int .i64 a0_0, .int .i64 a0_1, .string a1, .slice A0_2 l0_2.length c0_2] rfl (by (try simp only [mA, mC, mN]); first | done | rfl | (simp only [List.length_drop, List.length_take]; rfl)) ?_; (with_reducible refine (merkle_Climb.calls (gT := gT) (hT := HT.out.below (bq HB.out)) kj3 t450 a0_0 a0_1 a1 _ _ l0_2 t458 t459 t460 _ ?side1 ?side2 A25.out).mono ?_); (case side1 => exact Kd.C_below HR0_2.out (bq HB.out)); (case side2 => exact HC0_2.out); rintro e w84 ⟨v461, rfl, ho0, hb⟩; refine ⟨_, rfl, ?_⟩; have HO462 := kw ho0 HB; replace HO453 := Aside0.mk (Kd.R_below (by (with_reducible repeat refine kl ?_); exact (Kd.R_mono (Kd.R_far (p := ⟨gb457, 1, none⟩) (Kd.R_far (p := ⟨gb457, 0, none⟩) (Kd.R_types HO453.out BK457.out (by decide)) (fun _ hk => hk.2) (.slice Ao79 t451.length co79)) (fun _ hk => hk.2) (.slice Ao82 t454.length co82)) (fun _ h_ => h_.1))) hb); replace HO456 := Aside0.mk (Kd.S_below (by (with_reducible repeat (first | apply Kd.S_alloc | apply Kd.S_drewN | apply Kd.S_drew)); exact (Kd.S_mono (Kd.S_far (p := ⟨gb457, 1, none⟩) (Kd.S_far (p := ⟨gb457, 0, none⟩) (Kd.S_types HO456.out BK457.out (by decide)) (fun _ hk => hk.2) (.slice Ao79 t451.length co79)) (fun _ hk => hk.2) (.slice Ao82 t454.length co82)) (fun _ h_ => h_.1))) hb); replace BK446 := Aside0.mk (blk_below (g := gb446) (o := .cells #[.int .i64 a0_0, .int .i64 a0_1, .slice A0_2 l0_2.length c0_2] 48 (0, 0)) (by (with_reducible repeat refine bl ?_); refine blk_far ?_ NB446_457.out _; (with_reducible repeat refine bl ?_); refine blk_far ?_ NB446_457.out _; (with_reducible repeat refine bl ?_); exact BK446.out) hb); replace BK457 := Aside0.mk (blk_below (g := gb457) (o := .cells #[.slice Ao79 t451.length co79, .slice Ao82 t454.length co82] 39 (0, 0)) (by (with_reducible repeat refine bl ?_); refine blk_put (cs := #[.slice Ao79 t451.length co79, .slice none 0 0]) ?_ 1 _ rfl; (with_reducible repeat refine bl ?_); refine blk_put (cs := #[.slice none 0 0, .slice none 0 0]) ?_ 0 _ rfl; (with_reducible repeat refine bl ?_); exact BK457.out) hb); replace HB := bh HB hb; (try clear hb); (try clear hb2); (try clear hk); (try clear hi); (try clear ho0); obtain ⟨hcz85_0, hcz85_1⟩ := zc2 BK457; obtain ⟨hfz85_0, hfz85_1⟩ := zf2 BK457; obtain ⟨hcz86_0, hcz86_1, hcz86_2⟩ := zc3 BK446; obtain ⟨hfz86_0, hfz86_1, hfz86_2⟩ := zf3 BK446) | ((with_reducible refine gate_callee (f := 23) rfl ?_); refine goesL_ (some 58) rfl rfl Try.func23 (by kernel_rfl) rfl #[.agg #[.slice Ao79 t451.length co79, .slice Ao82 t454.length co82], .int .i64 a0_0, .int .i64 a0_1, .string a1, .slice A0_2 l0_2.length c0_2] rfl (by (try simp only [mA, mC, mN]); first | done | rfl | (simp only [List.length_drop, List.length_take]; rfl)) ?_; (with_reducible refine (steepleref12_Climb.calls kj3 _ _ t451 _ _ t454 a0_0 a0_1 a1 _ _ l0_2 t463 t464 t467 _ ?side1 ?side2 ?side3 ?side4 ?side5 ?side6 A26.out).mono ?_); (case side1 => repeat (first | exact (Kd.R_reads' HO453.out).2.2 | (with_reducible refine Kd.C_alloc ?_ _) | (with_reducible refine Kd.C_drewN ?_ _) | (with_reducible refine Kd.C_drew ?_))); (case side2 => exact (Kd.R_reads' HO453.out).2.1); (case side3 => repeat (first | exact (Kd.S_reads' HO456.out).2.2 | (with_reducible refine Kd.C_alloc ?_ _) | (with_reducible refine Kd.C_drewN ?_ _) | (with_reducible refine Kd.C_drew ?_))); (case side4 => exact (Kd.S_reads' HO456.out).2.1); (case side5 => repeat (first | exact (Kd.C_below HR0_2.out HB.out) | (with_reducible refine Kd.C_alloc ?_ _) | (with_reducible refine Kd.C_drewN ?_ _) | (with_reducible refine Kd.C_drew ?_))); (case side6 => exact HC0_2.out); rintro e w87 ⟨v465, rfl, ho0, hb⟩; refine ⟨_, rfl, ?_⟩; have HO466 := Aside0.mk (Kd.R_lower (Kd.R_new' ho0 (Kd.R_lt (kr HO462.out))) (below_size (bq HB.out))); replace HO453 := kb HO453 hb; replace HO456 := Aside0.mk (Kd.S_below (by (with_reducible repeat (first | apply Kd.S_alloc | apply Kd.S_drewN | apply Kd.S_drew)); exact HO456.out) hb); replace HO462 := Aside0.mk (Kd.R_elder' (kr HO462.out) (Kd.R_base ho0) hb); replace BK446 := bb BK446 hb; replace BK457 := bb BK457 hb; replace HB := bh HB hb; (try clear hb); (try clear hb2); (try clear hk); (try clear hi); (try clear ho0)) | ((with_reducible refine gate_dst (N := 12) rfl ?_); (try (refine gate_guard (by rfl) ?_; dsimp only)); refine box_event ?hg (N := 12) ?hd (cs := #[.string (⟨#[]⟩ : ByteArray), .slice none 0 0, .int .i64 0]) (t := 53) ?hr ?_; (case hd => rfl); (case hg => rfl); (case hr => go_simp <;> rfl); intro gb468 hg w88 hbox hb; have BK468 := Aside0.mk hbox; have GW468 := ge hg HB; have GE468 := ge hg HB; have NB446_468 := nl hg BK446; have NB468_446 := ng hg BK446; have NB457_468 := nl hg BK457; have NB468_457 := ng hg BK457; replace HO453 := kb HO453 hb; replace HO456 := Aside0.mk (Kd.S_below (by (with_reducible repeat (first | apply Kd.S_alloc | apply Kd.S_drewN | apply Kd.S_drew)); exact HO456.out) hb); replace HO462 := kb HO462 hb; replace HO466 := kb HO466 hb; replace BK446 := bb BK446 hb; replace BK457 := bb BK457 hb; replace HB := bh HB hb; clear hb hbox hg; have hnb89 := NB468_446.out; have hnc89 := NB446_468.out; have hnb90 := NB468_457.out; have hnc90 := NB457_468.out; obtain ⟨hcz91_0, hcz91_1, hcz91_2⟩ := zc3 BK468; obtain ⟨hfz91_0, hfz91_1, hfz91_2⟩ := zf3 BK468; obtain ⟨Ao92, co92, eo92⟩ := Kd.R_slice HO466.out; subst eo92))
    have n0_ : Aside0 (Kd.R (Kd.int .i64) 3 (((w88.setCell ⟨gb468, 0, none⟩ (.string t463)).setCell ⟨gb468, 1, none⟩ (.slice Ao92 t464.length co92)).setCell ⟨gb468, 2, none⟩ (.int .i64 t467)) w76.heap.size (fun _ => True) (.slice Ao79 t451.length co79) t451) := ⟨by (with_reducible repeat refine kl ?_); exact Kd.R_mono (Kd.R_far (p := ⟨gb468, 2, none⟩) (Kd.R_far (p := ⟨gb468, 1, none⟩) (Kd.R_far (p := ⟨gb468, 0, none⟩) (Kd.R_types HO453.out BK468.out (by decide)) (fun _ hk => hk.2) (.string t463)) (fun _ hk => hk.2) (.slice Ao92 t464.length co92)) (fun _ hk => hk.2) (.int .i64 t467)) (fun _ hk => trivial)⟩
    have n1_ : Aside0 (Kd.S (Kd.slice 3 (Kd.int .i64)) 36 (((w88.setCell ⟨gb468, 0, none⟩ (.string t463)).setCell ⟨gb468, 1, none⟩ (.slice Ao92 t464.length co92)).setCell ⟨gb468, 2, none⟩ (.int .i64 t467)) w76.heap.size (fun k_ => some k_ ≠ (.slice Ao79 t451.length co79 : Value).ownBlock) (.slice Ao82 t454.length co82) t454) := ⟨by (with_reducible repeat (first | apply Kd.S_alloc | apply Kd.S_drewN | apply Kd.S_drew)); exact Kd.S_mono (Kd.S_far (p := ⟨gb468, 2, none⟩) (Kd.S_far (p := ⟨gb468, 1, none⟩) (Kd.S_far (p := ⟨gb468, 0, none⟩) (Kd.S_types HO456.out BK468.out (by decide)) (fun _ hk => hk.2) (.string t463)) (fun _ hk => hk.2) (.slice Ao92 t464.length co92)) (fun _ hk => hk.2) (.int .i64 t467)) (fun _ hk => hk.1)⟩
    have n2_ : Aside0 (Kd.R Kd.string 9 (((w88.setCell ⟨gb468, 0, none⟩ (.string t463)).setCell ⟨gb468, 1, none⟩ (.slice Ao92 t464.length co92)).setCell ⟨gb468, 2, none⟩ (.int .i64 t467)) w76.heap.size (fun k_ => some k_ ≠ (.slice Ao92 t464.length co92 : Value).ownBlock) v461 t459) := ⟨by (with_reducible repeat refine kl ?_); exact Kd.R_mono (Kd.R_far (p := ⟨gb468, 2, none⟩) (Kd.R_far (p := ⟨gb468, 1, none⟩) (Kd.R_far (p := ⟨gb468, 0, none⟩) (Kd.R_types HO462.out BK468.out (by decide)) (fun _ hk => hk.2) (.string t463)) (fun _ hk => hk.2) (.slice Ao92 t464.length co92)) (fun _ hk => hk.2) (.int .i64 t467)) (fun _ hk => hk.1.2)⟩
    have n3_ : Aside0 (Kd.R Kd.string 9 (((w88.setCell ⟨gb468, 0, none⟩ (.string t463)).setCell ⟨gb468, 1, none⟩ (.slice Ao92 t464.length co92)).setCell ⟨gb468, 2, none⟩ (.int .i64 t467)) w76.heap.size (fun k_ => some k_ ≠ (v461 : Value).ownBlock) (.slice Ao92 t464.length co92) t464) := ⟨by (with_reducible repeat refine kl ?_); exact Kd.R_mono (Kd.R_far (p := ⟨gb468, 2, none⟩) (Kd.R_far (p := ⟨gb468, 1, none⟩) (Kd.R_far (p := ⟨gb468, 0, none⟩) (Kd.R_types HO466.out BK468.out (by decide)) (fun _ hk => hk.2) (.string t463)) (fun _ hk => hk.2) (.slice Ao92 t464.length co92)) (fun _ hk => hk.2) (.int .i64 t467)) (fun _ hk => hk.1.2)⟩
    have n4_ : Aside0 ((((w88.setCell ⟨gb468, 0, none⟩ (.string t463)).setCell ⟨gb468, 1, none⟩ (.slice Ao92 t464.length co92)).setCell ⟨gb468, 2, none⟩ (.int .i64 t467)).heap[gb446]? = some (.cells #[.int .i64 a0_0, .int .i64 a0_1, .slice A0_2 l0_2.length c0_2] 48 (0, 0))) := ⟨by (with_reducible repeat refine bl ?_); refine blk_far ?_ NB446_468.out _; (with_reducible repeat refine bl ?_); refine blk_far ?_ NB446_468.out _; (with_reducible repeat refine bl ?_); refine blk_far ?_ NB446_468.out _; (with_reducible repeat refine bl ?_); exact BK446.out⟩
    have n5_ : Aside0 ((((w88.setCell ⟨gb468, 0, none⟩ (.string t463)).setCell ⟨gb468, 1, none⟩ (.slice Ao92 t464.length co92)).setCell ⟨gb468, 2, none⟩ (.int .i64 t467)).heap[gb457]? = some (.cells #[.slice Ao79 t451.length co79, .slice Ao82 t454.length co82] 39 (0, 0))) := ⟨by (with_reducible repeat refine bl ?_); refine blk_far ?_ NB457_468.out _; (with_reducible repeat refine bl ?_); refine blk_far ?_ NB457_468.out _; (with_reducible repeat refine bl ?_); refine blk_far ?_ NB457_468.out _; (with_reducible repeat refine bl ?_); exact BK457.out⟩
    have n6_ : Aside0 ((((w88.setCell ⟨gb468, 0, none⟩ (.string t463)).setCell ⟨gb468, 1, none⟩ (.slice Ao92 t464.length co92)).setCell ⟨gb468, 2, none⟩ (.int .i64 t467)).heap[gb468]? = some (.cells #[.string t463, .slice Ao92 t464.length co92, .int .i64 t467] 53 (0, 0))) := ⟨by (with_reducible repeat refine bl ?_); refine blk_put (cs := #[.string t463, .slice Ao92 t464.length co92, .int .i64 0]) ?_ 2 _ rfl; (with_reducible repeat refine bl ?_); refine blk_put (cs := #[.string t463, .slice none 0 0, .int .i64 0]) ?_ 1 _ rfl; (with_reducible repeat refine bl ?_); refine blk_put (cs := #[.string (⟨#[]⟩ : ByteArray), .slice none 0 0, .int .i64 0]) ?_ 0 _ rfl; (with_reducible repeat refine bl ?_); exact BK468.out⟩
    have n7_ : Aside0 (Below w76.heap.size w76 (((w88.setCell ⟨gb468, 0, none⟩ (.string t463)).setCell ⟨gb468, 1, none⟩ (.slice Ao92 t464.length co92)).setCell ⟨gb468, 2, none⟩ (.int .i64 t467))) := ⟨(by first | exact bq HB.out | exact below_step HB0.out (bq HB.out))⟩
    (try clear HO453)
    (try clear HO456)
    (try clear HO462)
    (try clear HO466)
    (try clear BK446)
    (try clear BK457)
    (try clear BK468)
    (try clear HB)
    generalize (((w88.setCell ⟨gb468, 0, none⟩ (.string t463)).setCell ⟨gb468, 1, none⟩ (.slice Ao92 t464.length co92)).setCell ⟨gb468, 2, none⟩ (.int .i64 t467)) = w93 at n0_ n1_ n2_ n3_ n4_ n5_ n6_ n7_ ⊢
    have HO453 := n0_
    have HO456 := n1_
    have HO462 := n2_
    have HO466 := n3_
    have BK446 := n4_
    have BK457 := n5_
    have BK468 := n6_
    have HB := n7_
    clear n0_ n1_ n2_ n3_ n4_ n5_ n6_ n7_
    replace HO453 := Aside0.mk (Kd.R_drew HO453.out)
    replace HO456 := Aside0.mk (Kd.S_drew HO456.out)
    replace HO462 := Aside0.mk (Kd.R_drew HO462.out)
    replace HO466 := Aside0.mk (Kd.R_drew HO466.out)
    replace BK446 := Aside0.mk (blk_drew BK446.out)
    replace BK457 := Aside0.mk (blk_drew BK457.out)
    replace BK468 := Aside0.mk (blk_drew BK468.out)
    replace HB := Aside0.mk (below_drew1 HB.out)
    refine start_ (n := 13) (S := fun w' => w'.cell? ⟨gb457, 0, none⟩ = some (.slice Ao79 t451.length co79) ∧ w'.cell? ⟨gb457, 1, none⟩ = some (.slice Ao82 t454.length co82) ∧ w'.cell? ⟨gb446, 0, none⟩ = some (.int .i64 a0_0) ∧ w'.cell? ⟨gb446, 1, none⟩ = some (.int .i64 a0_1) ∧ w'.cell? ⟨gb446, 2, none⟩ = some (.slice A0_2 l0_2.length c0_2)) (ds := []) #[nn, nn, nn, nn, nn, nn, nn, nn, nn, nn, nn, nn, nn] (by kernel_rfl) rfl rfl ⟨bc BK457 0 rfl, bc BK457 1 rfl, bc BK446 0 rfl, bc BK446 1 rfl, bc BK446 2 rfl⟩ (fun hHeld => ?_); refine with_tabW steeplelaw12_MerkleClimbs.tab7 steeplelaw12_MerkleClimbs.bits7 (fun HT_ HW_ => ?_)
    generalize w93.drew = w94 at HO453 HO456 HO462 HO466 BK446 BK457 BK468 HB hHeld ⊢
    refine pure_ (i := 1) (N := some 60) (v := ?_) (a' := ?_) #[nn, yy, nn, nn, nn, nn, nn, nn, nn, nn, nn, nn, nn] rfl rfl (any_of HT_.out (by kernel_rfl)) (fun _ _ _ h => h) (Or.inl ⟨by rfl, ?_⟩) ?_ ?_
    rotate_left
    ·intro w'
     go_simp
     with_reducible rfl
    rotate_left
    ·simp only [Act.put, sA, s0, sS, i64_w, i32_w]
     rfl
    refine pure_ (i := 3) (N := some 62) (v := ?_) (a' := ?_) #[nn, yy, nn, yy, nn, nn, nn, nn, nn, nn, nn, nn, nn] rfl rfl (any_of HT_.out (by kernel_rfl)) (fun _ _ _ h => h) (Or.inl ⟨by rfl, ?_⟩) ?_ ?_
    rotate_left
    ·intro w'
     go_simp
     with_reducible rfl
    rotate_left
    ·simp only [Act.put, sA, s0, sS, i64_w, i32_w]
     rfl
    refine pure_ (i := 6) (N := some 65) (v := ?_) (a' := ?_) #[nn, yy, nn, yy, nn, nn, yy, nn, nn, nn, nn, nn, nn] rfl rfl (any_of HT_.out (by kernel_rfl)) (fun _ _ _ h => h) (Or.inl ⟨by rfl, ?_⟩) ?_ ?_
    rotate_left
    ·intro w'
     go_simp
     with_reducible rfl
    rotate_left
    ·simp only [Act.put, sA, s0, sS, i64_w, i32_w]
     rfl
    refine pure_ (i := 8) (N := some 67) (v := ?_) (a' := ?_) #[nn, yy, nn, yy, nn, nn, yy, nn, yy, nn, nn, nn, nn] rfl rfl (any_of HT_.out (by kernel_rfl)) (fun _ _ _ h => h) (Or.inl ⟨by rfl, ?_⟩) ?_ ?_
    rotate_left
    ·intro w'
     go_simp
     with_reducible rfl
    rotate_left
    ·simp only [Act.put, sA, s0, sS, i64_w, i32_w]
     rfl
    refine take_ (i := 0) (N := some 59) (v := ?_) (a' := ?_) #[yy, yy, nn, yy, nn, nn, yy, nn, yy, nn, nn, nn, nn] rfl rfl (take_ofW HT_.out HW_.out (by kernel_rfl)) (fun _ _ _ h => h) (Or.inl ⟨by rfl, ?_⟩) hHeld ?_ ?_
    rotate_left
    ·rintro w' ⟨s0, s1, s2, s3, s4⟩
     go_simp
     with_reducible rfl
    rotate_left
    ·simp only [Act.put, sA, s0, sS, i64_w, i32_w]
     rfl
    refine take_ (i := 2) (N := some 61) (v := ?_) (a' := ?_) #[yy, yy, yy, yy, nn, nn, yy, nn, yy, nn, nn, nn, nn] rfl rfl (take_ofW HT_.out HW_.out (by kernel_rfl)) (fun _ _ _ h => h) (Or.inl ⟨by rfl, ?_⟩) hHeld ?_ ?_
    rotate_left
    ·rintro w' ⟨s0, s1, s2, s3, s4⟩
     go_simp
     with_reducible rfl
    rotate_left
    ·simp only [Act.put, sA, s0, sS, i64_w, i32_w]
     rfl
    refine take_ (i := 4) (N := some 63) (v := ?_) (a' := ?_) #[yy, yy, yy, yy, yy, nn, yy, nn, yy, nn, nn, nn, nn] rfl rfl (take_ofW HT_.out HW_.out (by kernel_rfl)) (fun _ _ _ h => h) (Or.inl ⟨by rfl, ?_⟩) hHeld ?_ ?_
    rotate_left
    ·rintro w' ⟨s0, s1, s2, s3, s4⟩
     go_simp
     with_reducible rfl
    rotate_left
    ·simp only [Act.put, sA, s0, sS, i64_w, i32_w]
     rfl
    refine take_ (i := 5) (N := some 64) (v := ?_) (a' := ?_) #[yy, yy, yy, yy, yy, yy, yy, nn, yy, nn, nn, nn, nn] rfl rfl (take_ofW HT_.out HW_.out (by kernel_rfl)) (fun _ _ _ h => h) (Or.inl ⟨by rfl, ?_⟩) hHeld ?_ ?_
    rotate_left
    ·rintro w' ⟨s0, s1, s2, s3, s4⟩
     go_simp
     with_reducible rfl
    rotate_left
    ·simp only [Act.put, sA, s0, sS, i64_w, i32_w]
     rfl
    refine take_ (i := 9) (N := some 68) (v := ?_) (a' := ?_) #[yy, yy, yy, yy, yy, yy, yy, nn, yy, yy, nn, nn, nn] rfl rfl (take_ofW HT_.out HW_.out (by kernel_rfl)) (fun _ _ _ h => h) (Or.inl ⟨by rfl, ?_⟩) hHeld ?_ ?_
    rotate_left
    ·rintro w' ⟨s0, s1, s2, s3, s4⟩
     go_simp
     with_reducible rfl
    rotate_left
    ·simp only [Act.put, sA, s0, sS, i64_w, i32_w]
     rfl
    refine join_ (σ := Value × Nat) 1 #[yy, yy, yy, yy, yy, yy, yy, yy, yy, yy, yy, yy, nn] (fun s_ => [(66, .string t469), (69, .agg #[.string t470, s_.1, .int .i64 t474]), (13, .pointer (some ⟨s_.2, 0, none⟩))]) (fun s_ w' => (w'.cell? ⟨gb457, 0, none⟩ = some (.slice Ao79 t451.length co79) ∧ w'.cell? ⟨gb457, 1, none⟩ = some (.slice Ao82 t454.length co82) ∧ w'.cell? ⟨gb446, 0, none⟩ = some (.int .i64 a0_0) ∧ w'.cell? ⟨gb446, 1, none⟩ = some (.int .i64 a0_1) ∧ w'.cell? ⟨gb446, 2, none⟩ = some (.slice A0_2 l0_2.length c0_2)) ∧ (Kd.R (Kd.int .i64) 3 w' w76.heap.size (fun _ => True) (.slice Ao79 t451.length co79) t451) ∧ (Kd.S (Kd.slice 3 (Kd.int .i64)) 36 w' w76.heap.size (fun k_ => some k_ ≠ (.slice Ao79 t451.length co79 : Value).ownBlock) (.slice Ao82 t454.length co82) t454) ∧ (Kd.R Kd.string 9 w' w76.heap.size (fun k_ => some k_ ≠ (.slice Ao92 t464.length co92 : Value).ownBlock ∧ some k_ ≠ (s_.1 : Value).ownBlock) v461 t459) ∧ (Kd.R Kd.string 9 w' w76.heap.size (fun k_ => some k_ ≠ (v461 : Value).ownBlock ∧ some k_ ≠ (s_.1 : Value).ownBlock) (.slice Ao92 t464.length co92) t464) ∧ (Kd.R Kd.string 9 w' w76.heap.size (fun k_ => some k_ ≠ (v461 : Value).ownBlock ∧ some k_ ≠ (.slice Ao92 t464.length co92 : Value).ownBlock) s_.1 t471) ∧ (w'.heap[gb446]? = some (.cells #[.int .i64 a0_0, .int .i64 a0_1, .slice A0_2 l0_2.length c0_2] 48 (0, 0))) ∧ (w'.heap[gb457]? = some (.cells #[.slice Ao79 t451.length co79, .slice Ao82 t454.length co82] 39 (0, 0))) ∧ (w'.heap[gb468]? = some (.cells #[.string t463, .slice Ao92 t464.length co92, .int .i64 t467] 53 (0, 0))) ∧ (w'.heap[s_.2]? = some (.cells #[.string (⟨#[]⟩ : ByteArray), .slice none 0 0, .int .i64 0] 53 (0, 0))) ∧ (w76.heap.size ≤ s_.2) ∧ (w76.heap.size ≤ s_.2) ∧ (gb446 ≠ s_.2) ∧ (s_.2 ≠ gb446) ∧ (gb457 ≠ s_.2) ∧ (s_.2 ≠ gb457) ∧ (gb468 ≠ s_.2) ∧ (s_.2 ≠ gb468) ∧ (Below w76.heap.size w76 w')) ?_ ?_
    rotate_left
    ·intro hCont
     refine two_ (i := 7) (j := 11) (Ni := some 66) (Nj := some 13) #[yy, yy, yy, yy, yy, yy, yy, yy, yy, yy, nn, nn, nn] #[yy, yy, yy, yy, yy, yy, yy, nn, yy, yy, nn, yy, nn] rfl rfl rfl rfl (two_of HT_.out (by kernel_rfl)) (by decide) (by decide) (fun K hK => ?_) (fun K hK => ?_)
     ·skip
      refine goes_ Try.func20 (by kernel_rfl) rfl #[.agg #[.slice Ao79 t451.length co79, .slice Ao82 t454.length co82], .string a2] (by rfl) rfl rfl (by (try simp only [mA, mC, mN]); first | done | rfl | (simp only [List.length_drop, List.length_take]; rfl)) ?_
      with_reducible refine (steepleref12_Leaf.calls kj3 _ _ t451 _ _ t454 a2 t469 _ ?side1 ?side2 ?side3 ?side4 A27.out).mono ?_
      (case side1 => repeat (first | exact (Kd.R_reads' HO453.out).2.2 | (with_reducible refine Kd.C_alloc ?_ _) | (with_reducible refine Kd.C_drewN ?_ _) | (with_reducible refine Kd.C_drew ?_)))
      (case side2 => exact (Kd.R_reads' HO453.out).2.1)
      (case side3 => repeat (first | exact (Kd.S_reads' HO456.out).2.2 | (with_reducible refine Kd.C_alloc ?_ _) | (with_reducible refine Kd.C_drewN ?_ _) | (with_reducible refine Kd.C_drew ?_)))
      (case side4 => exact (Kd.S_reads' HO456.out).2.1)
      rintro e w95 ⟨rfl, hb⟩
      refine ⟨_, rfl, ?_⟩
      replace HO453 := kb HO453 hb
      replace HO456 := Aside0.mk (Kd.S_below (by (with_reducible repeat (first | apply Kd.S_alloc | apply Kd.S_drewN | apply Kd.S_drew)); exact HO456.out) hb)
      replace HO462 := kb HO462 hb
      replace HO466 := kb HO466 hb
      replace BK446 := bb BK446 hb
      replace BK457 := bb BK457 hb
      replace BK468 := bb BK468 hb
      replace HB := bh HB hb
      (try clear hb)
      refine hK.out _ _ ⟨bc BK457 0 rfl, bc BK457 1 rfl, bc BK446 0 rfl, bc BK446 1 rfl, bc BK446 2 rfl⟩ (fun hHeld => ?_)
      clear hK K
      refine norm_ (a' := ?_) ?_ ?_
      rotate_left
      ·show Act.put _ (some 66) _ = _
       simp only [Act.put, sA, s0, sS, i64_w, i32_w]
       rfl
      refine two_ (i := 10) (j := 11) (Ni := some 69) (Nj := some 13) #[yy, yy, yy, yy, yy, yy, yy, yy, yy, yy, yy, nn, nn] #[yy, yy, yy, yy, yy, yy, yy, yy, yy, yy, nn, yy, nn] rfl rfl rfl rfl (two_of HT_.out (by kernel_rfl)) (by decide) (by decide) (fun K hK => ?_) (fun K hK => ?_)
      ·skip
       refine goes_ Try.func23 (by kernel_rfl) rfl #[.agg #[.slice Ao79 t451.length co79, .slice Ao82 t454.length co82], .int .i64 a0_0, .int .i64 a0_1, .string t469, .slice A0_2 l0_2.length c0_2] (by rfl) rfl rfl (by (try simp only [mA, mC, mN]); first | done | rfl | (simp only [List.length_drop, List.length_take]; rfl)) ?_
       with_reducible refine (steepleref12_Climb.calls kj3 _ _ t451 _ _ t454 a0_0 a0_1 t469 _ _ l0_2 t470 t471 t474 _ ?side1 ?side2 ?side3 ?side4 ?side5 ?side6 A28.out).mono ?_
       (case side1 => repeat (first | exact (Kd.R_reads' HO453.out).2.2 | (with_reducible refine Kd.C_alloc ?_ _) | (with_reducible refine Kd.C_drewN ?_ _) | (with_reducible refine Kd.C_drew ?_)))
       (case side2 => exact (Kd.R_reads' HO453.out).2.1)
       (case side3 => repeat (first | exact (Kd.S_reads' HO456.out).2.2 | (with_reducible refine Kd.C_alloc ?_ _) | (with_reducible refine Kd.C_drewN ?_ _) | (with_reducible refine Kd.C_drew ?_)))
       (case side4 => exact (Kd.S_reads' HO456.out).2.1)
       (case side5 => repeat (first | exact (Kd.C_below HR0_2.out HB.out) | (with_reducible refine Kd.C_alloc ?_ _) | (with_reducible refine Kd.C_drewN ?_ _) | (with_reducible refine Kd.C_drew ?_)))
       (case side6 => exact HC0_2.out)
       rintro e w96 ⟨v472, rfl, ho0, hb⟩
       refine ⟨_, rfl, ?_⟩
       have HO473 := Aside0.mk (Kd.R_lower (Kd.R_new' (Kd.R_new' ho0 (Kd.R_lt (kr HO462.out))) (Kd.R_lt (kr HO466.out))) (below_size (bq HB.out)))
       replace HO453 := kb HO453 hb
       replace HO456 := Aside0.mk (Kd.S_below (by (with_reducible repeat (first | apply Kd.S_alloc | apply Kd.S_drewN | apply Kd.S_drew)); exact HO456.out) hb)
       replace HO462 := Aside0.mk (Kd.R_elder' (kr HO462.out) (Kd.R_base ho0) hb)
       replace HO466 := Aside0.mk (Kd.R_elder' (kr HO466.out) (Kd.R_base ho0) hb)
       replace BK446 := bb BK446 hb
       replace BK457 := bb BK457 hb
       replace BK468 := bb BK468 hb
       replace HB := bh HB hb
       (try clear hb)
       (try clear ho0)
       refine hK.out _ _ ⟨bc BK457 0 rfl, bc BK457 1 rfl, bc BK446 0 rfl, bc BK446 1 rfl, bc BK446 2 rfl⟩ (fun hHeld => ?_)
       clear hK K
       refine norm_ (a' := ?_) ?_ ?_
       rotate_left
       ·show Act.put _ (some 69) _ = _
        simp only [Act.put, sA, s0, sS, i64_w, i32_w]
        rfl
       refine one_ (i := 11) (N := some 13) #[yy, yy, yy, yy, yy, yy, yy, yy, yy, yy, yy, yy, nn] rfl rfl (one_of HT_.out (by kernel_rfl)) (by decide) (fun K hK => ?_)
       refine box_step ?hg (N := 13) ?hd (cs := #[.string (⟨#[]⟩ : ByteArray), .slice none 0 0, .int .i64 0]) (t := 53) ?hr ?_; (case hd => rfl); (case hg => rfl); (case hr => go_simp <;> rfl)
       intro gb475 hg w97 hbox hb
       have BK475 := Aside0.mk hbox
       have GW475 := ge hg HB
       have GE475 := ge hg HB
       have NB446_475 := nl hg BK446
       have NB475_446 := ng hg BK446
       have NB457_475 := nl hg BK457
       have NB475_457 := ng hg BK457
       have NB468_475 := nl hg BK468
       have NB475_468 := ng hg BK468
       replace HO453 := kb HO453 hb
       replace HO456 := Aside0.mk (Kd.S_below (by (with_reducible repeat (first | apply Kd.S_alloc | apply Kd.S_drewN | apply Kd.S_drew)); exact HO456.out) hb)
       replace HO462 := kb HO462 hb
       replace HO466 := kb HO466 hb
       replace HO473 := kb HO473 hb
       replace BK446 := bb BK446 hb
       replace BK457 := bb BK457 hb
       replace BK468 := bb BK468 hb
       replace HB := bh HB hb
       clear hb hbox hg
       refine hK.out _ _ ⟨bc BK457 0 rfl, bc BK457 1 rfl, bc BK446 0 rfl, bc BK446 1 rfl, bc BK446 2 rfl⟩ (fun hHeld => ?_)
       clear hK K
       refine norm_ (a' := ?_) ?_ ?_
       rotate_left
       ·show Act.put _ (some 13) _ = _
        simp only [Act.put, sA, s0, sS, i64_w, i32_w]
        rfl
       exact norm_ (by simp only [putAll, Act.put, sA, s0, sS]) (hCont (v472, gb475) _ ⟨hHeld, (kr HO453.out), (by (with_reducible repeat (first | apply Kd.S_alloc | apply Kd.S_drewN | apply Kd.S_drew)); exact HO456.out), (kr HO462.out), (kr HO466.out), (by (with_reducible repeat refine kl ?_); exact Kd.R_mono HO473.out (fun _ hk => ⟨hk.1.2, hk.2⟩)), (bk BK446.out), (bk BK457.out), (bk BK468.out), (bk BK475.out), GW475.out, GE475.out, NB446_475.out, NB475_446.out, NB457_475.out, NB475_457.out, NB468_475.out, NB475_468.out, (bq HB.out)⟩)
      skip
      refine box_step ?hg (N := 13) ?hd (cs := #[.string (⟨#[]⟩ : ByteArray), .slice none 0 0, .int .i64 0]) (t := 53) ?hr ?_; (case hd => rfl); (case hg => rfl); (case hr => go_simp <;> rfl)
      intro gb475 hg w96 hbox hb
      have BK475 := Aside0.mk hbox
      have GW475 := ge hg HB
      have GE475 := ge hg HB
      have NB446_475 := nl hg BK446
      have NB475_446 := ng hg BK446
      have NB457_475 := nl hg BK457
      have NB475_457 := ng hg BK457
      have NB468_475 := nl hg BK468
      have NB475_468 := ng hg BK468
      replace HO453 := kb HO453 hb
      replace HO456 := Aside0.mk (Kd.S_below (by (with_reducible repeat (first | apply Kd.S_alloc | apply Kd.S_drewN | apply Kd.S_drew)); exact HO456.out) hb)
      replace HO462 := kb HO462 hb
      replace HO466 := kb HO466 hb
      replace BK446 := bb BK446 hb
      replace BK457 := bb BK457 hb
      replace BK468 := bb BK468 hb
      replace HB := bh HB hb
      clear hb hbox hg
      refine hK.out _ _ ⟨bc BK457 0 rfl, bc BK457 1 rfl, bc BK446 0 rfl, bc BK446 1 rfl, bc BK446 2 rfl⟩ (fun hHeld => ?_)
      clear hK K
      refine norm_ (a' := ?_) ?_ ?_
      rotate_left
      ·show Act.put _ (some 13) _ = _
       simp only [Act.put, sA, s0, sS, i64_w, i32_w]
       rfl
      refine one_ (i := 10) (N := some 69) #[yy, yy, yy, yy, yy, yy, yy, yy, yy, yy, yy, yy, nn] rfl rfl (one_of HT_.out (by kernel_rfl)) (by decide) (fun K hK => ?_)
      refine goes_ Try.func23 (by kernel_rfl) rfl #[.agg #[.slice Ao79 t451.length co79, .slice Ao82 t454.length co82], .int .i64 a0_0, .int .i64 a0_1, .string t469, .slice A0_2 l0_2.length c0_2] (by rfl) rfl rfl (by (try simp only [mA, mC, mN]); first | done | rfl | (simp only [List.length_drop, List.length_take]; rfl)) ?_
      with_reducible refine (steepleref12_Climb.calls kj3 _ _ t451 _ _ t454 a0_0 a0_1 t469 _ _ l0_2 t470 t471 t474 _ ?side1 ?side2 ?side3 ?side4 ?side5 ?side6 A28.out).mono ?_
      (case side1 => repeat (first | exact (Kd.R_reads' HO453.out).2.2 | (with_reducible refine Kd.C_alloc ?_ _) | (with_reducible refine Kd.C_drewN ?_ _) | (with_reducible refine Kd.C_drew ?_)))
      (case side2 => exact (Kd.R_reads' HO453.out).2.1)
      (case side3 => repeat (first | exact (Kd.S_reads' HO456.out).2.2 | (with_reducible refine Kd.C_alloc ?_ _) | (with_reducible refine Kd.C_drewN ?_ _) | (with_reducible refine Kd.C_drew ?_)))
      (case side4 => exact (Kd.S_reads' HO456.out).2.1)
      (case side5 => repeat (first | exact (Kd.C_below HR0_2.out HB.out) | (with_reducible refine Kd.C_alloc ?_ _) | (with_reducible refine Kd.C_drewN ?_ _) | (with_reducible refine Kd.C_drew ?_)))
      (case side6 => exact HC0_2.out)
      rintro e w97 ⟨v472, rfl, ho0, hb⟩
      refine ⟨_, rfl, ?_⟩
      have HO473 := Aside0.mk (Kd.R_lower (Kd.R_new' (Kd.R_new' ho0 (Kd.R_lt (kr HO462.out))) (Kd.R_lt (kr HO466.out))) (below_size (bq HB.out)))
      replace HO453 := kb HO453 hb
      replace HO456 := Aside0.mk (Kd.S_below (by (with_reducible repeat (first | apply Kd.S_alloc | apply Kd.S_drewN | apply Kd.S_drew)); exact HO456.out) hb)
      replace HO462 := Aside0.mk (Kd.R_elder' (kr HO462.out) (Kd.R_base ho0) hb)
      replace HO466 := Aside0.mk (Kd.R_elder' (kr HO466.out) (Kd.R_base ho0) hb)
      replace BK446 := bb BK446 hb
      replace BK457 := bb BK457 hb
      replace BK468 := bb BK468 hb
      replace BK475 := bb BK475 hb
      replace HB := bh HB hb
      (try clear hb)
      (try clear ho0)
      refine hK.out _ _ ⟨bc BK457 0 rfl, bc BK457 1 rfl, bc BK446 0 rfl, bc BK446 1 rfl, bc BK446 2 rfl⟩ (fun hHeld => ?_)
      clear hK K
      refine norm_ (a' := ?_) ?_ ?_
      rotate_left
      ·show Act.put _ (some 69) _ = _
       simp only [Act.put, sA, s0, sS, i64_w, i32_w]
       rfl
      exact norm_ (by simp only [putAll, Act.put, sA, s0, sS]) (hCont (v472, gb475) _ ⟨hHeld, (kr HO453.out), (by (with_reducible repeat (first | apply Kd.S_alloc | apply Kd.S_drewN | apply Kd.S_drew)); exact HO456.out), (kr HO462.out), (kr HO466.out), (by (with_reducible repeat refine kl ?_); exact Kd.R_mono HO473.out (fun _ hk => ⟨hk.1.2, hk.2⟩)), (bk BK446.out), (bk BK457.out), (bk BK468.out), (bk BK475.out), GW475.out, GE475.out, NB446_475.out, NB475_446.out, NB457_475.out, NB475_457.out, NB468_475.out, NB475_468.out, (bq HB.out)⟩)
     skip
     refine box_step ?hg (N := 13) ?hd (cs := #[.string (⟨#[]⟩ : ByteArray), .slice none 0 0, .int .i64 0]) (t := 53) ?hr ?_; (case hd => rfl); (case hg => rfl); (case hr => go_simp <;> rfl)
     intro gb475 hg w95 hbox hb
     have BK475 := Aside0.mk hbox
     have GW475 := ge hg HB
     have GE475 := ge hg HB
     have NB446_475 := nl hg BK446
     have NB475_446 := ng hg BK446
     have NB457_475 := nl hg BK457
     have NB475_457 := ng hg BK457
     have NB468_475 := nl hg BK468
     have NB475_468 := ng hg BK468
     replace HO453 := kb HO453 hb
     replace HO456 := Aside0.mk (Kd.S_below (by (with_reducible repeat (first | apply Kd.S_alloc | apply Kd.S_drewN | apply Kd.S_drew)); exact HO456.out) hb)
     replace HO462 := kb HO462 hb
     replace HO466 := kb HO466 hb
     replace BK446 := bb BK446 hb
     replace BK457 := bb BK457 hb
     replace BK468 := bb BK468 hb
     replace HB := bh HB hb
     clear hb hbox hg
     refine hK.out _ _ ⟨bc BK457 0 rfl, bc BK457 1 rfl, bc BK446 0 rfl, bc BK446 1 rfl, bc BK446 2 rfl⟩ (fun hHeld => ?_)
     clear hK K
     refine norm_ (a' := ?_) ?_ ?_
     rotate_left
     ·show Act.put _ (some 13) _ = _
      simp only [Act.put, sA, s0, sS, i64_w, i32_w]
      rfl
     refine one_ (i := 7) (N := some 66) #[yy, yy, yy, yy, yy, yy, yy, yy, yy, yy, nn, yy, nn] rfl rfl (one_of HT_.out (by kernel_rfl)) (by decide) (fun K hK => ?_)
     refine goes_ Try.func20 (by kernel_rfl) rfl #[.agg #[.slice Ao79 t451.length co79, .slice Ao82 t454.length co82], .string a2] (by rfl) rfl rfl (by (try simp only [mA, mC, mN]); first | done | rfl | (simp only [List.length_drop, List.length_take]; rfl)) ?_
     with_reducible refine (steepleref12_Leaf.calls kj3 _ _ t451 _ _ t454 a2 t469 _ ?side1 ?side2 ?side3 ?side4 A27.out).mono ?_
     (case side1 => repeat (first | exact (Kd.R_reads' HO453.out).2.2 | (with_reducible refine Kd.C_alloc ?_ _) | (with_reducible refine Kd.C_drewN ?_ _) | (with_reducible refine Kd.C_drew ?_)))
     (case side2 => exact (Kd.R_reads' HO453.out).2.1)
     (case side3 => repeat (first | exact (Kd.S_reads' HO456.out).2.2 | (with_reducible refine Kd.C_alloc ?_ _) | (with_reducible refine Kd.C_drewN ?_ _) | (with_reducible refine Kd.C_drew ?_)))
     (case side4 => exact (Kd.S_reads' HO456.out).2.1)
     rintro e w96 ⟨rfl, hb⟩
     refine ⟨_, rfl, ?_⟩
     replace HO453 := kb HO453 hb
     replace HO456 := Aside0.mk (Kd.S_below (by (with_reducible repeat (first | apply Kd.S_alloc | apply Kd.S_drewN | apply Kd.S_drew)); exact HO456.out) hb)
     replace HO462 := kb HO462 hb
     replace HO466 := kb HO466 hb
     replace BK446 := bb BK446 hb
     replace BK457 := bb BK457 hb
     replace BK468 := bb BK468 hb
     replace BK475 := bb BK475 hb
     replace HB := bh HB hb
     (try clear hb)
     refine hK.out _ _ ⟨bc BK457 0 rfl, bc BK457 1 rfl, bc BK446 0 rfl, bc BK446 1 rfl, bc BK446 2 rfl⟩ (fun hHeld => ?_)
     clear hK K
     refine norm_ (a' := ?_) ?_ ?_
     rotate_left
     ·show Act.put _ (some 66) _ = _
      simp only [Act.put, sA, s0, sS, i64_w, i32_w]
      rfl
     refine one_ (i := 10) (N := some 69) #[yy, yy, yy, yy, yy, yy, yy, yy, yy, yy, yy, yy, nn] rfl rfl (one_of HT_.out (by kernel_rfl)) (by decide) (fun K hK => ?_)
     refine goes_ Try.func23 (by kernel_rfl) rfl #[.agg #[.slice Ao79 t451.length co79, .slice Ao82 t454.length co82], .int .i64 a0_0, .int .i64 a0_1, .string t469, .slice A0_2 l0_2.length c0_2] (by rfl) rfl rfl (by (try simp only [mA, mC, mN]); first | done | rfl | (simp only [List.length_drop, List.length_take]; rfl)) ?_
     with_reducible refine (steepleref12_Climb.calls kj3 _ _ t451 _ _ t454 a0_0 a0_1 t469 _ _ l0_2 t470 t471 t474 _ ?side1 ?side2 ?side3 ?side4 ?side5 ?side6 A28.out).mono ?_
     (case side1 => repeat (first | exact (Kd.R_reads' HO453.out).2.2 | (with_reducible refine Kd.C_alloc ?_ _) | (with_reducible refine Kd.C_drewN ?_ _) | (with_reducible refine Kd.C_drew ?_)))
     (case side2 => exact (Kd.R_reads' HO453.out).2.1)
     (case side3 => repeat (first | exact (Kd.S_reads' HO456.out).2.2 | (with_reducible refine Kd.C_alloc ?_ _) | (with_reducible refine Kd.C_drewN ?_ _) | (with_reducible refine Kd.C_drew ?_)))
     (case side4 => exact (Kd.S_reads' HO456.out).2.1)
     (case side5 => repeat (first | exact (Kd.C_below HR0_2.out HB.out) | (with_reducible refine Kd.C_alloc ?_ _) | (with_reducible refine Kd.C_drewN ?_ _) | (with_reducible refine Kd.C_drew ?_)))
     (case side6 => exact HC0_2.out)
     rintro e w97 ⟨v472, rfl, ho0, hb⟩
     refine ⟨_, rfl, ?_⟩
     have HO473 := Aside0.mk (Kd.R_lower (Kd.R_new' (Kd.R_new' ho0 (Kd.R_lt (kr HO462.out))) (Kd.R_lt (kr HO466.out))) (below_size (bq HB.out)))
     replace HO453 := kb HO453 hb
     replace HO456 := Aside0.mk (Kd.S_below (by (with_reducible repeat (first | apply Kd.S_alloc | apply Kd.S_drewN | apply Kd.S_drew)); exact HO456.out) hb)
     replace HO462 := Aside0.mk (Kd.R_elder' (kr HO462.out) (Kd.R_base ho0) hb)
     replace HO466 := Aside0.mk (Kd.R_elder' (kr HO466.out) (Kd.R_base ho0) hb)
     replace BK446 := bb BK446 hb
     replace BK457 := bb BK457 hb
     replace BK468 := bb BK468 hb
     replace BK475 := bb BK475 hb
     replace HB := bh HB hb
     (try clear hb)
     (try clear ho0)
     refine hK.out _ _ ⟨bc BK457 0 rfl, bc BK457 1 rfl, bc BK446 0 rfl, bc BK446 1 rfl, bc BK446 2 rfl⟩ (fun hHeld => ?_)
     clear hK K
     refine norm_ (a' := ?_) ?_ ?_
     rotate_left
     ·show Act.put _ (some 69) _ = _
      simp only [Act.put, sA, s0, sS, i64_w, i32_w]
      rfl
     exact norm_ (by simp only [putAll, Act.put, sA, s0, sS]) (hCont (v472, gb475) _ ⟨hHeld, (kr HO453.out), (by (with_reducible repeat (first | apply Kd.S_alloc | apply Kd.S_drewN | apply Kd.S_drew)); exact HO456.out), (kr HO462.out), (kr HO466.out), (by (with_reducible repeat refine kl ?_); exact Kd.R_mono HO473.out (fun _ hk => ⟨hk.1.2, hk.2⟩)), (bk BK446.out), (bk BK457.out), (bk BK468.out), (bk BK475.out), GW475.out, GE475.out, NB446_475.out, NB475_446.out, NB457_475.out, NB475_457.out, NB468_475.out, NB475_468.out, (bq HB.out)⟩)
    rintro ⟨v472, gb475⟩ w98 ⟨hS_, h0_, h1_, h2_, h3_, h4_, h5_, h6_, h7_, h8_, h9_, h10_, h11_, h12_, h13_, h14_, h15_, h16_, h17_⟩
    have n0_ : Aside0 (Kd.R (Kd.int .i64) 3 w98 w76.heap.size (fun _ => True) (.slice Ao79 t451.length co79) t451) := ⟨h0_⟩
    have n1_ : Aside0 (Kd.S (Kd.slice 3 (Kd.int .i64)) 36 w98 w76.heap.size (fun k_ => some k_ ≠ (.slice Ao79 t451.length co79 : Value).ownBlock) (.slice Ao82 t454.length co82) t454) := ⟨h1_⟩
    have n2_ : Aside0 (Kd.R Kd.string 9 w98 w76.heap.size (fun k_ => some k_ ≠ (.slice Ao92 t464.length co92 : Value).ownBlock ∧ some k_ ≠ (v472 : Value).ownBlock) v461 t459) := ⟨h2_⟩
    have n3_ : Aside0 (Kd.R Kd.string 9 w98 w76.heap.size (fun k_ => some k_ ≠ (v461 : Value).ownBlock ∧ some k_ ≠ (v472 : Value).ownBlock) (.slice Ao92 t464.length co92) t464) := ⟨h3_⟩
    have n4_ : Aside0 (Kd.R Kd.string 9 w98 w76.heap.size (fun k_ => some k_ ≠ (v461 : Value).ownBlock ∧ some k_ ≠ (.slice Ao92 t464.length co92 : Value).ownBlock) v472 t471) := ⟨h4_⟩
    have n5_ : Aside0 (w98.heap[gb446]? = some (.cells #[.int .i64 a0_0, .int .i64 a0_1, .slice A0_2 l0_2.length c0_2] 48 (0, 0))) := ⟨h5_⟩
    have n6_ : Aside0 (w98.heap[gb457]? = some (.cells #[.slice Ao79 t451.length co79, .slice Ao82 t454.length co82] 39 (0, 0))) := ⟨h6_⟩
    have n7_ : Aside0 (w98.heap[gb468]? = some (.cells #[.string t463, .slice Ao92 t464.length co92, .int .i64 t467] 53 (0, 0))) := ⟨h7_⟩
    have n8_ : Aside0 (w98.heap[gb475]? = some (.cells #[.string (⟨#[]⟩ : ByteArray), .slice none 0 0, .int .i64 0] 53 (0, 0))) := ⟨h8_⟩
    have n9_ : Aside0 (w76.heap.size ≤ gb475) := ⟨h9_⟩
    have n10_ : Aside0 (w76.heap.size ≤ gb475) := ⟨h10_⟩
    have n11_ : Aside0 (gb446 ≠ gb475) := ⟨h11_⟩
    have n12_ : Aside0 (gb475 ≠ gb446) := ⟨h12_⟩
    have n13_ : Aside0 (gb457 ≠ gb475) := ⟨h13_⟩
    have n14_ : Aside0 (gb475 ≠ gb457) := ⟨h14_⟩
    have n15_ : Aside0 (gb468 ≠ gb475) := ⟨h15_⟩
    have n16_ : Aside0 (gb475 ≠ gb468) := ⟨h16_⟩
    have n17_ : Aside0 (Below w76.heap.size w76 w98) := ⟨h17_⟩
    clear HO453
    clear HO456
    clear HO462
    clear HO466
    clear BK446
    clear BK457
    clear BK468
    clear HB
    clear h0_ h1_ h2_ h3_ h4_ h5_ h6_ h7_ h8_ h9_ h10_ h11_ h12_ h13_ h14_ h15_ h16_ h17_
    have HO453 := n0_
    have HO456 := n1_
    have HO462 := n2_
    have HO466 := n3_
    have HO473 := n4_
    have BK446 := n5_
    have BK457 := n6_
    have BK468 := n7_
    have BK475 := n8_
    have GW475 := Aside1.mk n9_.out
    have GE475 := Aside1.mk n10_.out
    have NB446_475 := n11_
    have NB475_446 := n12_
    have NB457_475 := n13_
    have NB475_457 := n14_
    have NB468_475 := n15_
    have NB475_468 := n16_
    have HB := n17_
    clear n0_ n1_ n2_ n3_ n4_ n5_ n6_ n7_ n8_ n9_ n10_ n11_ n12_ n13_ n14_ n15_ n16_ n17_
    have hHeld : w98.cell? ⟨gb457, 0, none⟩ = some (.slice Ao79 t451.length co79) ∧ w98.cell? ⟨gb457, 1, none⟩ = some (.slice Ao82 t454.length co82) ∧ w98.cell? ⟨gb446, 0, none⟩ = some (.int .i64 a0_0) ∧ w98.cell? ⟨gb446, 1, none⟩ = some (.int .i64 a0_1) ∧ w98.cell? ⟨gb446, 2, none⟩ = some (.slice A0_2 l0_2.length c0_2) := hS_
    obtain ⟨Ao100, co100, eo100⟩ := Kd.R_slice HO473.out
    (first | subst eo100 | (injection eo100 with f1_ f2_ f3_; have f4_ := f1_.symm; have f5_ := f3_.symm; clear f1_ f2_ f3_; subst f4_; subst f5_))
    refine norm_ (a' := ?_) ?_ ?_
    rotate_left
    ·simp only [putAll, Act.put, sA, s0, sS]
     rfl
    refine one_ (i := 12) (N := none) #[yy, yy, yy, yy, yy, yy, yy, yy, yy, yy, yy, yy, yy] rfl rfl (one_of HT_.out (by kernel_rfl)) (by decide) (fun K hK => ?_)
    have hs99 : w98.cell? ⟨gb475, 0, none⟩ = some (.string (⟨#[]⟩ : ByteArray)) := bc BK475 0 rfl
    have hfs99 := blk_frozen BK475.out 0
    have hs101 : w98.cell? ⟨gb475, 1, none⟩ = some (.slice none 0 0) := bc BK475 1 rfl
    have hfs101 := blk_frozen BK475.out 1
    have hs102 : w98.cell? ⟨gb475, 2, none⟩ = some (.int .i64 0) := bc BK475 2 rfl
    have hfs102 := blk_frozen BK475.out 2
    refine skip_ (w1 := ?_) (by rfl) rfl ?_ ?_
    rotate_left
    ·go_simp
     rfl
    refine hK.out _ _ ⟨((cell_far (p := ⟨gb475, _, none⟩) NB457_475.out _).trans (((cell_far (p := ⟨gb475, _, none⟩) NB457_475.out _).trans (((cell_far (p := ⟨gb475, _, none⟩) NB457_475.out _).trans (hHeld.1)))))), ((cell_far (p := ⟨gb475, _, none⟩) NB457_475.out _).trans (((cell_far (p := ⟨gb475, _, none⟩) NB457_475.out _).trans (((cell_far (p := ⟨gb475, _, none⟩) NB457_475.out _).trans (hHeld.2.1)))))), ((cell_far (p := ⟨gb475, _, none⟩) NB446_475.out _).trans (((cell_far (p := ⟨gb475, _, none⟩) NB446_475.out _).trans (((cell_far (p := ⟨gb475, _, none⟩) NB446_475.out _).trans (hHeld.2.2.1)))))), ((cell_far (p := ⟨gb475, _, none⟩) NB446_475.out _).trans (((cell_far (p := ⟨gb475, _, none⟩) NB446_475.out _).trans (((cell_far (p := ⟨gb475, _, none⟩) NB446_475.out _).trans (hHeld.2.2.2.1)))))), ((cell_far (p := ⟨gb475, _, none⟩) NB446_475.out _).trans (((cell_far (p := ⟨gb475, _, none⟩) NB446_475.out _).trans (((cell_far (p := ⟨gb475, _, none⟩) NB446_475.out _).trans (hHeld.2.2.2.2))))))⟩ (fun hHeld => ?_)
    clear hK K
    refine done_ (done_of HT_.out (by kernel_rfl)) ?_
    clear hHeld
    have n0_ : Aside0 (Kd.R (Kd.int .i64) 3 (((w98.setCell ⟨gb475, 0, none⟩ (.string t470)).setCell ⟨gb475, 1, none⟩ (.slice Ao100 t471.length co100)).setCell ⟨gb475, 2, none⟩ (.int .i64 t474)) w76.heap.size (fun _ => True) (.slice Ao79 t451.length co79) t451) := ⟨by (with_reducible repeat refine kl ?_); exact Kd.R_mono (Kd.R_far (p := ⟨gb475, 2, none⟩) (Kd.R_far (p := ⟨gb475, 1, none⟩) (Kd.R_far (p := ⟨gb475, 0, none⟩) (Kd.R_types HO453.out BK475.out (by decide)) (fun _ hk => hk.2) (.string t470)) (fun _ hk => hk.2) (.slice Ao100 t471.length co100)) (fun _ hk => hk.2) (.int .i64 t474)) (fun _ h_ => by first | exact h_.1 | exact h_ | exact trivial)⟩
    have n1_ : Aside0 (Kd.S (Kd.slice 3 (Kd.int .i64)) 36 (((w98.setCell ⟨gb475, 0, none⟩ (.string t470)).setCell ⟨gb475, 1, none⟩ (.slice Ao100 t471.length co100)).setCell ⟨gb475, 2, none⟩ (.int .i64 t474)) w76.heap.size (fun k_ => some k_ ≠ (.slice Ao79 t451.length co79 : Value).ownBlock) (.slice Ao82 t454.length co82) t454) := ⟨by (with_reducible repeat (first | apply Kd.S_alloc | apply Kd.S_drewN | apply Kd.S_drew)); exact Kd.S_mono (Kd.S_far (p := ⟨gb475, 2, none⟩) (Kd.S_far (p := ⟨gb475, 1, none⟩) (Kd.S_far (p := ⟨gb475, 0, none⟩) (Kd.S_types HO456.out BK475.out (by decide)) (fun _ hk => hk.2) (.string t470)) (fun _ hk => hk.2) (.slice Ao100 t471.length co100)) (fun _ hk => hk.2) (.int .i64 t474)) (fun _ h_ => by first | exact h_.1 | exact h_ | exact trivial)⟩
    have n2_ : Aside0 (Kd.R Kd.string 9 (((w98.setCell ⟨gb475, 0, none⟩ (.string t470)).setCell ⟨gb475, 1, none⟩ (.slice Ao100 t471.length co100)).setCell ⟨gb475, 2, none⟩ (.int .i64 t474)) w76.heap.size (fun k_ => some k_ ≠ (.slice Ao92 t464.length co92 : Value).ownBlock ∧ some k_ ≠ (.slice Ao100 t471.length co100 : Value).ownBlock) v461 t459) := ⟨by (with_reducible repeat refine kl ?_); exact Kd.R_mono (Kd.R_far (p := ⟨gb475, 2, none⟩) (Kd.R_far (p := ⟨gb475, 1, none⟩) (Kd.R_far (p := ⟨gb475, 0, none⟩) (Kd.R_types HO462.out BK475.out (by decide)) (fun _ hk => hk.2) (.string t470)) (fun _ hk => hk.2) (.slice Ao100 t471.length co100)) (fun _ hk => hk.2) (.int .i64 t474)) (fun _ h_ => by first | exact h_.1 | exact h_ | exact trivial)⟩
    have n3_ : Aside0 (Kd.R Kd.string 9 (((w98.setCell ⟨gb475, 0, none⟩ (.string t470)).setCell ⟨gb475, 1, none⟩ (.slice Ao100 t471.length co100)).setCell ⟨gb475, 2, none⟩ (.int .i64 t474)) w76.heap.size (fun k_ => some k_ ≠ (v461 : Value).ownBlock ∧ some k_ ≠ (.slice Ao100 t471.length co100 : Value).ownBlock) (.slice Ao92 t464.length co92) t464) := ⟨by (with_reducible repeat refine kl ?_); exact Kd.R_mono (Kd.R_far (p := ⟨gb475, 2, none⟩) (Kd.R_far (p := ⟨gb475, 1, none⟩) (Kd.R_far (p := ⟨gb475, 0, none⟩) (Kd.R_types HO466.out BK475.out (by decide)) (fun _ hk => hk.2) (.string t470)) (fun _ hk => hk.2) (.slice Ao100 t471.length co100)) (fun _ hk => hk.2) (.int .i64 t474)) (fun _ h_ => by first | exact h_.1 | exact h_ | exact trivial)⟩
    have n4_ : Aside0 (Kd.R Kd.string 9 (((w98.setCell ⟨gb475, 0, none⟩ (.string t470)).setCell ⟨gb475, 1, none⟩ (.slice Ao100 t471.length co100)).setCell ⟨gb475, 2, none⟩ (.int .i64 t474)) w76.heap.size (fun k_ => some k_ ≠ (v461 : Value).ownBlock ∧ some k_ ≠ (.slice Ao92 t464.length co92 : Value).ownBlock) (.slice Ao100 t471.length co100) t471) := ⟨by (with_reducible repeat refine kl ?_); exact Kd.R_mono (Kd.R_far (p := ⟨gb475, 2, none⟩) (Kd.R_far (p := ⟨gb475, 1, none⟩) (Kd.R_far (p := ⟨gb475, 0, none⟩) (Kd.R_types HO473.out BK475.out (by decide)) (fun _ hk => hk.2) (.string t470)) (fun _ hk => hk.2) (.slice Ao100 t471.length co100)) (fun _ hk => hk.2) (.int .i64 t474)) (fun _ h_ => by first | exact h_.1 | exact h_ | exact trivial)⟩
    have n5_ : Aside0 ((((w98.setCell ⟨gb475, 0, none⟩ (.string t470)).setCell ⟨gb475, 1, none⟩ (.slice Ao100 t471.length co100)).setCell ⟨gb475, 2, none⟩ (.int .i64 t474)).heap[gb446]? = some (.cells #[.int .i64 a0_0, .int .i64 a0_1, .slice A0_2 l0_2.length c0_2] 48 (0, 0))) := ⟨by (with_reducible repeat refine bl ?_); refine blk_far ?_ NB446_475.out _; (with_reducible repeat refine bl ?_); refine blk_far ?_ NB446_475.out _; (with_reducible repeat refine bl ?_); refine blk_far ?_ NB446_475.out _; (with_reducible repeat refine bl ?_); exact BK446.out⟩
    have n6_ : Aside0 ((((w98.setCell ⟨gb475, 0, none⟩ (.string t470)).setCell ⟨gb475, 1, none⟩ (.slice Ao100 t471.length co100)).setCell ⟨gb475, 2, none⟩ (.int .i64 t474)).heap[gb457]? = some (.cells #[.slice Ao79 t451.length co79, .slice Ao82 t454.length co82] 39 (0, 0))) := ⟨by (with_reducible repeat refine bl ?_); refine blk_far ?_ NB457_475.out _; (with_reducible repeat refine bl ?_); refine blk_far ?_ NB457_475.out _; (with_reducible repeat refine bl ?_); refine blk_far ?_ NB457_475.out _; (with_reducible repeat refine bl ?_); exact BK457.out⟩
    have n7_ : Aside0 ((((w98.setCell ⟨gb475, 0, none⟩ (.string t470)).setCell ⟨gb475, 1, none⟩ (.slice Ao100 t471.length co100)).setCell ⟨gb475, 2, none⟩ (.int .i64 t474)).heap[gb468]? = some (.cells #[.string t463, .slice Ao92 t464.length co92, .int .i64 t467] 53 (0, 0))) := ⟨by (with_reducible repeat refine bl ?_); refine blk_far ?_ NB468_475.out _; (with_reducible repeat refine bl ?_); refine blk_far ?_ NB468_475.out _; (with_reducible repeat refine bl ?_); refine blk_far ?_ NB468_475.out _; (with_reducible repeat refine bl ?_); exact BK468.out⟩
    have n8_ : Aside0 ((((w98.setCell ⟨gb475, 0, none⟩ (.string t470)).setCell ⟨gb475, 1, none⟩ (.slice Ao100 t471.length co100)).setCell ⟨gb475, 2, none⟩ (.int .i64 t474)).heap[gb475]? = some (.cells #[.string t470, .slice Ao100 t471.length co100, .int .i64 t474] 53 (0, 0))) := ⟨by (with_reducible repeat refine bl ?_); refine blk_put (cs := #[.string t470, .slice Ao100 t471.length co100, .int .i64 0]) ?_ 2 _ rfl; (with_reducible repeat refine bl ?_); refine blk_put (cs := #[.string t470, .slice none 0 0, .int .i64 0]) ?_ 1 _ rfl; (with_reducible repeat refine bl ?_); refine blk_put (cs := #[.string (⟨#[]⟩ : ByteArray), .slice none 0 0, .int .i64 0]) ?_ 0 _ rfl; (with_reducible repeat refine bl ?_); exact BK475.out⟩
    have n9_ : Aside0 (Below w76.heap.size w76 (((w98.setCell ⟨gb475, 0, none⟩ (.string t470)).setCell ⟨gb475, 1, none⟩ (.slice Ao100 t471.length co100)).setCell ⟨gb475, 2, none⟩ (.int .i64 t474))) := ⟨(by first | exact bq HB.out | exact below_step HB0.out (bq HB.out))⟩
    clear HO453 HO456 HO462 HO466 HO473 BK446 BK457 BK468 BK475 HB
    generalize (((w98.setCell ⟨gb475, 0, none⟩ (.string t470)).setCell ⟨gb475, 1, none⟩ (.slice Ao100 t471.length co100)).setCell ⟨gb475, 2, none⟩ (.int .i64 t474)) = w98z at n0_ n1_ n2_ n3_ n4_ n5_ n6_ n7_ n8_ n9_ ⊢
    have HO453 := n0_
    have HO456 := n1_
    have HO462 := n2_
    have HO466 := n3_
    have HO473 := n4_
    have BK446 := n5_
    have BK457 := n6_
    have BK468 := n7_
    have BK475 := n8_
    have HB := n9_
    clear n0_ n1_ n2_ n3_ n4_ n5_ n6_ n7_ n8_ n9_
    obtain ⟨hczb_0, hczb_1, hczb_2⟩ := zc3 BK475
    obtain ⟨hfzb_0, hfzb_1, hfzb_2⟩ := zf3 BK475
    obtain ⟨hcz104_0, hcz104_1, hcz104_2⟩ := zc3 BK468
    obtain ⟨hfz104_0, hfz104_1, hfz104_2⟩ := zf3 BK468
    obtain ⟨Ao105, co105, eo105⟩ := Kd.R_slice HO462.out
    subst eo105
    try go_wp2_with (first | (go_at_call 18; (with_reducible refine (steeplelaw01_Texts.calls kj3 _ _ t459 _ _ t464 true _ ?side1 ?side2 ?side3 ?side4 A30.out).mono ?_); (case side1 => refine (Kd.R_reads' (e := 9) (base := w76.heap.size) (ok := fun k_ => (some k_ ≠ (.slice Ao92 t464.length co92 : Value).ownBlock ∧ some k_ ≠ (.slice Ao100 t471.length co100 : Value).ownBlock)) (n := t459.length) (c := co105) ?_).2.2; exact (kr HO462.out)); (case side2 => exact (Kd.R_reads' HO462.out).2.1); (case side3 => refine (Kd.R_reads' (e := 9) (base := w76.heap.size) (ok := fun k_ => (some k_ ≠ (.slice Ao105 t459.length co105 : Value).ownBlock ∧ some k_ ≠ (.slice Ao100 t471.length co100 : Value).ownBlock)) (n := t464.length) (c := co92) ?_).2.2; exact (kr HO466.out)); (case side4 => exact (Kd.R_reads' HO466.out).2.1); rintro e w' ⟨rfl, ⟨nd, rfl⟩⟩; have hnb106 := NB446_475.out; have hnc106 := NB475_446.out; obtain ⟨hcz107_0, hcz107_1, hcz107_2⟩ := zc3 BK446; obtain ⟨hfz107_0, hfz107_1, hfz107_2⟩ := zf3 BK446) | ((with_reducible refine gate_callee (f := 22) rfl ?_); refine goesL_ (some 95) rfl rfl Try.func22 (by kernel_rfl) rfl #[.pointer none, .int .i64 a0_0, .int .i64 a0_1, .string a1, .slice A0_2 l0_2.length c0_2] rfl (by (try simp only [mA, mC, mN]); first | done | rfl | (simp only [List.length_drop, List.length_take]; rfl)) ?_; (with_reducible refine (merkle_ClimbNil.calls kj3 a0_0 a0_1 a1 _ _ l0_2 t477 t478 t479 _ ?side1 ?side2 A33.out).mono ?_); (case side1 => exact Kd.C_below HR0_2.out (bq HB.out)); (case side2 => exact HC0_2.out); rintro e w108 ⟨v480, rfl, ho0, hb⟩; refine ⟨_, rfl, ?_⟩; have HO481 := Aside0.mk (Kd.R_lower (Kd.R_new' (Kd.R_new' (Kd.R_new' ho0 (Kd.R_lt (kr HO462.out))) (Kd.R_lt (kr HO466.out))) (Kd.R_lt (kr HO473.out))) (below_size (bq HB.out))); replace HO453 := Aside0.mk (Kd.R_below (kr HO453.out) hb); replace HO456 := Aside0.mk (Kd.S_below (by (with_reducible repeat (first | apply Kd.S_alloc | apply Kd.S_drewN | apply Kd.S_drew)); exact HO456.out) hb); replace HO462 := Aside0.mk (Kd.R_elder' (kr HO462.out) (Kd.R_base ho0) hb); replace HO466 := Aside0.mk (Kd.R_elder' (kr HO466.out) (Kd.R_base ho0) hb); replace HO473 := Aside0.mk (Kd.R_elder' (kr HO473.out) (Kd.R_base ho0) hb); replace BK446 := bb BK446 hb; replace BK457 := bb BK457 hb; replace BK468 := bb BK468 hb; replace BK475 := bb BK475 hb; replace HB := bh HB hb; (try clear hb); (try clear hb2); (try clear hk); (try clear hi); (try clear ho0)))
    replace HO453 := Aside0.mk (Kd.R_drew HO453.out)
    replace HO456 := Aside0.mk (Kd.S_drew HO456.out)
    replace HO462 := Aside0.mk (Kd.R_drew HO462.out)
    replace HO466 := Aside0.mk (Kd.R_drew HO466.out)
    replace HO473 := Aside0.mk (Kd.R_drew HO473.out)
    replace HO481 := Aside0.mk (Kd.R_drew HO481.out)
    replace BK446 := Aside0.mk (blk_drew BK446.out)
    replace BK457 := Aside0.mk (blk_drew BK457.out)
    replace BK468 := Aside0.mk (blk_drew BK468.out)
    replace BK475 := Aside0.mk (blk_drew BK475.out)
    replace HB := Aside0.mk (below_drew1 HB.out)
    refine start_ (n := 43) (S := fun w' => w'.cell? ⟨gb446, 0, none⟩ = some (.int .i64 a0_0) ∧ w'.cell? ⟨gb446, 1, none⟩ = some (.int .i64 a0_1) ∧ w'.cell? ⟨gb446, 2, none⟩ = some (.slice A0_2 l0_2.length c0_2) ∧ w'.cell? ⟨gb475, 0, none⟩ = some (.string t470) ∧ w'.cell? ⟨gb475, 1, none⟩ = some (.slice Ao100 t471.length co100) ∧ w'.cell? ⟨gb475, 2, none⟩ = some (.int .i64 t474)) (ds := []) #[nn, nn, nn, nn, nn, nn, nn, nn, nn, nn, nn, nn, nn, nn, nn, nn, nn, nn, nn, nn, nn, nn, nn, nn, nn, nn, nn, nn, nn, nn, nn, nn, nn, nn, nn, nn, nn, nn, nn, nn, nn, nn, nn] (by kernel_rfl) rfl rfl ⟨bc BK446 0 rfl, bc BK446 1 rfl, bc BK446 2 rfl, bc BK475 0 rfl, bc BK475 1 rfl, bc BK475 2 rfl⟩ (fun hHeld => ?_); refine with_tabW steeplelaw12_MerkleClimbs.tab11 steeplelaw12_MerkleClimbs.bits11 (fun HT_ HW_ => ?_)
    generalize w108.drew = w109 at HO453 HO456 HO462 HO466 HO473 HO481 BK446 BK457 BK468 BK475 HB hHeld ⊢
    refine pure_ (i := 0) (N := some 99) (v := ?_) (a' := ?_) #[yy, nn, nn, nn, nn, nn, nn, nn, nn, nn, nn, nn, nn, nn, nn, nn, nn, nn, nn, nn, nn, nn, nn, nn, nn, nn, nn, nn, nn, nn, nn, nn, nn, nn, nn, nn, nn, nn, nn, nn, nn, nn, nn] rfl rfl (any_of HT_.out (by kernel_rfl)) (fun _ _ _ h => h) (Or.inl ⟨by rfl, ?_⟩) ?_ ?_
    rotate_left
    ·intro w'
     go_simp
     with_reducible rfl
    rotate_left
    ·simp only [Act.put, sA, s0, sS, i64_w, i32_w]
     rfl
    refine pure_ (i := 1) (N := some 100) (v := ?_) (a' := ?_) #[yy, yy, nn, nn, nn, nn, nn, nn, nn, nn, nn, nn, nn, nn, nn, nn, nn, nn, nn, nn, nn, nn, nn, nn, nn, nn, nn, nn, nn, nn, nn, nn, nn, nn, nn, nn, nn, nn, nn, nn, nn, nn, nn] rfl rfl (any_of HT_.out (by kernel_rfl)) (fun _ _ _ h => h) (Or.inl ⟨by rfl, ?_⟩) ?_ ?_
    rotate_left
    ·intro w'
     go_simp
     with_reducible rfl
    rotate_left
    ·simp only [Act.put, sA, s0, sS, i64_w, i32_w]
     rfl
    refine pure_ (i := 2) (N := some 101) (v := ?_) (a' := ?_) #[yy, yy, yy, nn, nn, nn, nn, nn, nn, nn, nn, nn, nn, nn, nn, nn, nn, nn, nn, nn, nn, nn, nn, nn, nn, nn, nn, nn, nn, nn, nn, nn, nn, nn, nn, nn, nn, nn, nn, nn, nn, nn, nn] rfl rfl (any_of HT_.out (by kernel_rfl)) (fun _ _ _ h => h) (Or.inl ⟨by rfl, ?_⟩) ?_ ?_
    rotate_left
    ·intro w'
     go_simp
     with_reducible rfl
    rotate_left
    ·simp only [Act.put, sA, s0, sS, i64_w, i32_w]
     rfl
    refine pure_ (i := 3) (N := some 102) (v := ?_) (a' := ?_) #[yy, yy, yy, yy, nn, nn, nn, nn, nn, nn, nn, nn, nn, nn, nn, nn, nn, nn, nn, nn, nn, nn, nn, nn, nn, nn, nn, nn, nn, nn, nn, nn, nn, nn, nn, nn, nn, nn, nn, nn, nn, nn, nn] rfl rfl (any_of HT_.out (by kernel_rfl)) (fun _ _ _ h => h) (Or.inl ⟨by rfl, ?_⟩) ?_ ?_
    rotate_left
    ·intro w'
     go_simp
     with_reducible rfl
    rotate_left
    ·simp only [Act.put, sA, s0, sS, i64_w, i32_w]
     rfl
    refine pure_ (i := 4) (N := some 103) (v := ?_) (a' := ?_) #[yy, yy, yy, yy, yy, nn, nn, nn, nn, nn, nn, nn, nn, nn, nn, nn, nn, nn, nn, nn, nn, nn, nn, nn, nn, nn, nn, nn, nn, nn, nn, nn, nn, nn, nn, nn, nn, nn, nn, nn, nn, nn, nn] rfl rfl (any_of HT_.out (by kernel_rfl)) (fun _ _ _ h => h) (Or.inl ⟨by rfl, ?_⟩) ?_ ?_
    rotate_left
    ·intro w'
     go_simp
     with_reducible rfl
    rotate_left
    ·simp only [Act.put, sA, s0, sS, i64_w, i32_w]
     rfl
    refine pure_ (i := 5) (N := some 104) (v := ?_) (a' := ?_) #[yy, yy, yy, yy, yy, yy, nn, nn, nn, nn, nn, nn, nn, nn, nn, nn, nn, nn, nn, nn, nn, nn, nn, nn, nn, nn, nn, nn, nn, nn, nn, nn, nn, nn, nn, nn, nn, nn, nn, nn, nn, nn, nn] rfl rfl (any_of HT_.out (by kernel_rfl)) (fun _ _ _ h => h) (Or.inl ⟨by rfl, ?_⟩) ?_ ?_
    rotate_left
    ·intro w'
     go_simp
     with_reducible rfl
    rotate_left
    ·simp only [Act.put, sA, s0, sS, i64_w, i32_w]
     rfl
    refine pure_ (i := 7) (N := some 106) (v := ?_) (a' := ?_) #[yy, yy, yy, yy, yy, yy, nn, yy, nn, nn, nn, nn, nn, nn, nn, nn, nn, nn, nn, nn, nn, nn, nn, nn, nn, nn, nn, nn, nn, nn, nn, nn, nn, nn, nn, nn, nn, nn, nn, nn, nn, nn, nn] rfl rfl (any_of HT_.out (by kernel_rfl)) (fun _ _ _ h => h) (Or.inl ⟨by rfl, ?_⟩) ?_ ?_
    rotate_left
    ·intro w'
     go_simp
     with_reducible rfl
    rotate_left
    ·simp only [Act.put, sA, s0, sS, i64_w, i32_w]
     rfl
    refine pure_ (i := 9) (N := some 108) (v := ?_) (a' := ?_) #[yy, yy, yy, yy, yy, yy, nn, yy, nn, yy, nn, nn, nn, nn, nn, nn, nn, nn, nn, nn, nn, nn, nn, nn, nn, nn, nn, nn, nn, nn, nn, nn, nn, nn, nn, nn, nn, nn, nn, nn, nn, nn, nn] rfl rfl (any_of HT_.out (by kernel_rfl)) (fun _ _ _ h => h) (Or.inl ⟨by rfl, ?_⟩) ?_ ?_
    rotate_left
    ·intro w'
     go_simp
     with_reducible rfl
    rotate_left
    ·simp only [Act.put, sA, s0, sS, i64_w, i32_w]
     rfl
    refine pure_ (i := 10) (N := some 109) (v := ?_) (a' := ?_) #[yy, yy, yy, yy, yy, yy, nn, yy, nn, yy, yy, nn, nn, nn, nn, nn, nn, nn, nn, nn, nn, nn, nn, nn, nn, nn, nn, nn, nn, nn, nn, nn, nn, nn, nn, nn, nn, nn, nn, nn, nn, nn, nn] rfl rfl (any_of HT_.out (by kernel_rfl)) (fun _ _ _ h => h) (Or.inl ⟨by rfl, ?_⟩) ?_ ?_
    rotate_left
    ·intro w'
     go_simp
     with_reducible rfl
    rotate_left
    ·simp only [Act.put, sA, s0, sS, i64_w, i32_w]
     rfl
    refine pure_ (i := 13) (N := some 112) (v := ?_) (a' := ?_) #[yy, yy, yy, yy, yy, yy, nn, yy, nn, yy, yy, nn, nn, yy, nn, nn, nn, nn, nn, nn, nn, nn, nn, nn, nn, nn, nn, nn, nn, nn, nn, nn, nn, nn, nn, nn, nn, nn, nn, nn, nn, nn, nn] rfl rfl (any_of HT_.out (by kernel_rfl)) (fun _ _ _ h => h) (Or.inl ⟨by rfl, ?_⟩) ?_ ?_
    rotate_left
    ·intro w'
     go_simp
     with_reducible rfl
    rotate_left
    ·simp only [Act.put, sA, s0, sS, i64_w, i32_w]
     rfl
    refine take_ (i := 6) (N := some 105) (v := ?_) (a' := ?_) #[yy, yy, yy, yy, yy, yy, yy, yy, nn, yy, yy, nn, nn, yy, nn, nn, nn, nn, nn, nn, nn, nn, nn, nn, nn, nn, nn, nn, nn, nn, nn, nn, nn, nn, nn, nn, nn, nn, nn, nn, nn, nn, nn] rfl rfl (take_ofW HT_.out HW_.out (by kernel_rfl)) (fun _ _ _ h => h) (Or.inl ⟨by rfl, ?_⟩) hHeld ?_ ?_
    rotate_left
    ·rintro w' ⟨s0, s1, s2, s3, s4, s5⟩
     go_simp
     with_reducible rfl
    rotate_left
    ·simp only [Act.put, sA, s0, sS, i64_w, i32_w]
     rfl
    refine take_ (i := 8) (N := some 107) (v := ?_) (a' := ?_) #[yy, yy, yy, yy, yy, yy, yy, yy, yy, yy, yy, nn, nn, yy, nn, nn, nn, nn, nn, nn, nn, nn, nn, nn, nn, nn, nn, nn, nn, nn, nn, nn, nn, nn, nn, nn, nn, nn, nn, nn, nn, nn, nn] rfl rfl (take_ofW HT_.out HW_.out (by kernel_rfl)) (fun _ _ _ h => h) (Or.inl ⟨by rfl, ?_⟩) hHeld ?_ ?_
    rotate_left
    ·rintro w' ⟨s0, s1, s2, s3, s4, s5⟩
     go_simp
     with_reducible rfl
    rotate_left
    ·simp only [Act.put, sA, s0, sS, i64_w, i32_w]
     rfl
    refine take_ (i := 11) (N := some 110) (v := ?_) (a' := ?_) #[yy, yy, yy, yy, yy, yy, yy, yy, yy, yy, yy, yy, nn, yy, nn, nn, nn, nn, nn, nn, nn, nn, nn, nn, nn, nn, nn, nn, nn, nn, nn, nn, nn, nn, nn, nn, nn, nn, nn, nn, nn, nn, nn] rfl rfl (take_ofW HT_.out HW_.out (by kernel_rfl)) (fun _ _ _ h => h) (Or.inl ⟨by rfl, ?_⟩) hHeld ?_ ?_
    rotate_left
    ·rintro w' ⟨s0, s1, s2, s3, s4, s5⟩
     go_simp
     with_reducible rfl
    rotate_left
    ·simp only [Act.put, sA, s0, sS, i64_w, i32_w]
     rfl
    refine take_ (i := 14) (N := some 113) (v := ?_) (a' := ?_) #[yy, yy, yy, yy, yy, yy, yy, yy, yy, yy, yy, yy, nn, yy, yy, nn, nn, nn, nn, nn, nn, nn, nn, nn, nn, nn, nn, nn, nn, nn, nn, nn, nn, nn, nn, nn, nn, nn, nn, nn, nn, nn, nn] rfl rfl (take_ofW HT_.out HW_.out (by kernel_rfl)) (fun _ _ _ h => h) (Or.inl ⟨by rfl, ?_⟩) hHeld ?_ ?_
    rotate_left
    ·rintro w' ⟨s0, s1, s2, s3, s4, s5⟩
     go_simp
     with_reducible rfl
    rotate_left
    ·simp only [Act.put, sA, s0, sS, i64_w, i32_w]
     rfl
    refine pure_ (i := 15) (N := some 114) (v := ?_) (a' := ?_) #[yy, yy, yy, yy, yy, yy, yy, yy, yy, yy, yy, yy, nn, yy, yy, yy, nn, nn, nn, nn, nn, nn, nn, nn, nn, nn, nn, nn, nn, nn, nn, nn, nn, nn, nn, nn, nn, nn, nn, nn, nn, nn, nn] rfl rfl (any_of HT_.out (by kernel_rfl)) (fun _ _ _ h => h) (Or.inl ⟨by rfl, ?_⟩) ?_ ?_
    rotate_left
    ·intro w'
     go_simp
     with_reducible rfl
    rotate_left
    ·simp only [Act.put, sA, s0, sS, i64_w, i32_w]
     rfl
    refine one_ (i := 12) (N := some 111) #[yy, yy, yy, yy, yy, yy, yy, yy, yy, yy, yy, yy, yy, yy, yy, yy, nn, nn, nn, nn, nn, nn, nn, nn, nn, nn, nn, nn, nn, nn, nn, nn, nn, nn, nn, nn, nn, nn, nn, nn, nn, nn, nn] rfl rfl (one_of HT_.out (by kernel_rfl)) (by decide) (fun K hK => ?_)
    refine goes_ Try.func24 (by kernel_rfl) rfl #[.pointer (some ⟨gT, 0, none⟩), .string a1, .int .i64 a0_0, .int .i64 a0_1, .string a2, .slice A0_2 l0_2.length c0_2] (by rfl) rfl rfl (by (try simp only [mA, mC, mN]); first | done | rfl | (simp only [List.length_drop, List.length_take]; rfl)) ?_
    with_reducible refine (merkle_Check.calls (gT := gT) (hT := HT.out.below (bq HB.out)) kj3 t450 a1 a0_0 a0_1 a2 _ _ l0_2 t482 _ ?side1 ?side2 A35.out).mono ?_
    (case side1 => repeat (first | exact (Kd.C_below HR0_2.out HB.out) | (with_reducible refine Kd.C_alloc ?_ _) | (with_reducible refine Kd.C_drewN ?_ _) | (with_reducible refine Kd.C_drew ?_)))
    (case side2 => exact HC0_2.out)
    rintro e w110 ⟨rfl, hb⟩
    refine ⟨_, rfl, ?_⟩
    replace HO453 := kb HO453 hb
    replace HO456 := Aside0.mk (Kd.S_below (by (with_reducible repeat (first | apply Kd.S_alloc | apply Kd.S_drewN | apply Kd.S_drew)); exact HO456.out) hb)
    replace HO462 := kb HO462 hb
    replace HO466 := kb HO466 hb
    replace HO473 := kb HO473 hb
    replace HO481 := kb HO481 hb
    replace BK446 := bb BK446 hb
    replace BK457 := bb BK457 hb
    replace BK468 := bb BK468 hb
    replace BK475 := bb BK475 hb
    replace HB := bh HB hb
    (try clear hb)
    refine hK.out _ _ ⟨bc BK446 0 rfl, bc BK446 1 rfl, bc BK446 2 rfl, bc BK475 0 rfl, bc BK475 1 rfl, bc BK475 2 rfl⟩ (fun hHeld => ?_)
    clear hK K
    refine norm_ (a' := ?_) ?_ ?_
    rotate_left
    ·show Act.put _ (some 111) _ = _
     simp only [Act.put, sA, s0, sS, i64_w, i32_w]
     rfl
    refine pure_ (i := 16) (N := some 115) (v := ?_) (a' := ?_) #[yy, yy, yy, yy, yy, yy, yy, yy, yy, yy, yy, yy, yy, yy, yy, yy, yy, nn, nn, nn, nn, nn, nn, nn, nn, nn, nn, nn, nn, nn, nn, nn, nn, nn, nn, nn, nn, nn, nn, nn, nn, nn, nn] rfl rfl (any_of HT_.out (by kernel_rfl)) (fun _ _ _ h => h) (Or.inl ⟨by rfl, ?_⟩) ?_ ?_
    rotate_left
    ·intro w'
     go_simp
     with_reducible rfl
    rotate_left
    ·simp only [Act.put, sA, s0, sS, i64_w, i32_w]
     rfl
    refine pure_ (i := 17) (N := some 116) (v := undef) (a' := ?_) #[yy, yy, yy, yy, yy, yy, yy, yy, yy, yy, yy, yy, yy, yy, yy, yy, yy, yy, nn, nn, nn, nn, nn, nn, nn, nn, nn, nn, nn, nn, nn, nn, nn, nn, nn, nn, nn, nn, nn, nn, nn, nn, nn] rfl rfl (any_of HT_.out (by kernel_rfl)) (fun _ _ _ h => h) (Or.inr ⟨by rfl, rfl⟩) ?_ ?_
    rotate_left
    ·simp only [Act.put, sA, s0, sS, i64_w, i32_w]
     rfl
    refine pure_ (i := 18) (N := some 117) (v := undef) (a' := ?_) #[yy, yy, yy, yy, yy, yy, yy, yy, yy, yy, yy, yy, yy, yy, yy, yy, yy, yy, yy, nn, nn, nn, nn, nn, nn, nn, nn, nn, nn, nn, nn, nn, nn, nn, nn, nn, nn, nn, nn, nn, nn, nn, nn] rfl rfl (any_of HT_.out (by kernel_rfl)) (fun _ _ _ h => h) (Or.inr ⟨by rfl, rfl⟩) ?_ ?_
    rotate_left
    ·simp only [Act.put, sA, s0, sS, i64_w, i32_w]
     rfl
    refine pure_ (i := 19) (N := some 118) (v := undef) (a' := ?_) #[yy, yy, yy, yy, yy, yy, yy, yy, yy, yy, yy, yy, yy, yy, yy, yy, yy, yy, yy, yy, nn, nn, nn, nn, nn, nn, nn, nn, nn, nn, nn, nn, nn, nn, nn, nn, nn, nn, nn, nn, nn, nn, nn] rfl rfl (any_of HT_.out (by kernel_rfl)) (fun _ _ _ h => h) (Or.inr ⟨by rfl, rfl⟩) ?_ ?_
    rotate_left
    ·simp only [Act.put, sA, s0, sS, i64_w, i32_w]
     rfl
    refine pure_ (i := 20) (N := some 119) (v := undef) (a' := ?_) #[yy, yy, yy, yy, yy, yy, yy, yy, yy, yy, yy, yy, yy, yy, yy, yy, yy, yy, yy, yy, yy, nn, nn, nn, nn, nn, nn, nn, nn, nn, nn, nn, nn, nn, nn, nn, nn, nn, nn, nn, nn, nn, nn] rfl rfl (any_of HT_.out (by kernel_rfl)) (fun _ _ _ h => h) (Or.inr ⟨by rfl, rfl⟩) ?_ ?_
    rotate_left
    ·simp only [Act.put, sA, s0, sS, i64_w, i32_w]
     rfl
    refine pure_ (i := 21) (N := some 120) (v := ?_) (a' := ?_) #[yy, yy, yy, yy, yy, yy, yy, yy, yy, yy, yy, yy, yy, yy, yy, yy, yy, yy, yy, yy, yy, yy, nn, nn, nn, nn, nn, nn, nn, nn, nn, nn, nn, nn, nn, nn, nn, nn, nn, nn, nn, nn, nn] rfl rfl (any_of HT_.out (by kernel_rfl)) (fun _ _ _ h => h) (Or.inl ⟨by rfl, ?_⟩) ?_ ?_
    rotate_left
    ·intro w'
     go_simp
     with_reducible rfl
    rotate_left
    ·simp only [Act.put, sA, s0, sS, i64_w, i32_w]
     rfl
    refine pure_ (i := 22) (N := some 121) (v := ?_) (a' := ?_) #[yy, yy, yy, yy, yy, yy, yy, yy, yy, yy, yy, yy, yy, yy, yy, yy, yy, yy, yy, yy, yy, yy, yy, nn, nn, nn, nn, nn, nn, nn, nn, nn, nn, nn, nn, nn, nn, nn, nn, nn, nn, nn, nn] rfl rfl (any_of HT_.out (by kernel_rfl)) (fun _ _ _ h => h) (Or.inl ⟨by rfl, ?_⟩) ?_ ?_
    rotate_left
    ·intro w'
     go_simp
     with_reducible rfl
    rotate_left
    ·simp only [Act.put, sA, s0, sS, i64_w, i32_w]
     rfl
    refine pure_ (i := 23) (N := some 122) (v := ?_) (a' := ?_) #[yy, yy, yy, yy, yy, yy, yy, yy, yy, yy, yy, yy, yy, yy, yy, yy, yy, yy, yy, yy, yy, yy, yy, yy, nn, nn, nn, nn, nn, nn, nn, nn, nn, nn, nn, nn, nn, nn, nn, nn, nn, nn, nn] rfl rfl (any_of HT_.out (by kernel_rfl)) (fun _ _ _ h => h) (Or.inl ⟨by rfl, ?_⟩) ?_ ?_
    rotate_left
    ·intro w'
     go_simp
     with_reducible rfl
    rotate_left
    ·simp only [Act.put, sA, s0, sS, i64_w, i32_w]
     rfl
    refine pure_ (i := 24) (N := some 123) (v := ?_) (a' := ?_) #[yy, yy, yy, yy, yy, yy, yy, yy, yy, yy, yy, yy, yy, yy, yy, yy, yy, yy, yy, yy, yy, yy, yy, yy, yy, nn, nn, nn, nn, nn, nn, nn, nn, nn, nn, nn, nn, nn, nn, nn, nn, nn, nn] rfl rfl (any_of HT_.out (by kernel_rfl)) (fun _ _ _ h => h) (Or.inl ⟨by rfl, ?_⟩) ?_ ?_
    rotate_left
    ·intro w'
     go_simp
     with_reducible rfl
    rotate_left
    ·simp only [Act.put, sA, s0, sS, i64_w, i32_w]
     rfl
    refine pure_ (i := 25) (N := some 124) (v := ?_) (a' := ?_) #[yy, yy, yy, yy, yy, yy, yy, yy, yy, yy, yy, yy, yy, yy, yy, yy, yy, yy, yy, yy, yy, yy, yy, yy, yy, yy, nn, nn, nn, nn, nn, nn, nn, nn, nn, nn, nn, nn, nn, nn, nn, nn, nn] rfl rfl (any_of HT_.out (by kernel_rfl)) (fun _ _ _ h => h) (Or.inl ⟨by rfl, ?_⟩) ?_ ?_
    rotate_left
    ·intro w'
     go_simp
     with_reducible rfl
    rotate_left
    ·simp only [Act.put, sA, s0, sS, i64_w, i32_w]
     rfl
    refine take_ (i := 26) (N := some 125) (v := ?_) (a' := ?_) #[yy, yy, yy, yy, yy, yy, yy, yy, yy, yy, yy, yy, yy, yy, yy, yy, yy, yy, yy, yy, yy, yy, yy, yy, yy, yy, yy, nn, nn, nn, nn, nn, nn, nn, nn, nn, nn, nn, nn, nn, nn, nn, nn] rfl rfl (take_ofW HT_.out HW_.out (by kernel_rfl)) (fun _ _ _ h => h) (Or.inl ⟨by rfl, ?_⟩) hHeld ?_ ?_
    rotate_left
    ·rintro w' ⟨s0, s1, s2, s3, s4, s5⟩
     go_simp
     with_reducible rfl
    rotate_left
    ·simp only [Act.put, sA, s0, sS, i64_w, i32_w]
     rfl
    refine pure_ (i := 27) (N := some 126) (v := ?_) (a' := ?_) #[yy, yy, yy, yy, yy, yy, yy, yy, yy, yy, yy, yy, yy, yy, yy, yy, yy, yy, yy, yy, yy, yy, yy, yy, yy, yy, yy, yy, nn, nn, nn, nn, nn, nn, nn, nn, nn, nn, nn, nn, nn, nn, nn] rfl rfl (any_of HT_.out (by kernel_rfl)) (fun _ _ _ h => h) (Or.inl ⟨by rfl, ?_⟩) ?_ ?_
    rotate_left
    ·intro w'
     go_simp
     with_reducible rfl
    rotate_left
    ·simp only [Act.put, sA, s0, sS, i64_w, i32_w]
     rfl
    refine pure_ (i := 28) (N := some 127) (v := ?_) (a' := ?_) #[yy, yy, yy, yy, yy, yy, yy, yy, yy, yy, yy, yy, yy, yy, yy, yy, yy, yy, yy, yy, yy, yy, yy, yy, yy, yy, yy, yy, yy, nn, nn, nn, nn, nn, nn, nn, nn, nn, nn, nn, nn, nn, nn] rfl rfl (any_of HT_.out (by kernel_rfl)) (fun _ _ _ h => h) (Or.inl ⟨by rfl, ?_⟩) ?_ ?_
    rotate_left
    ·intro w'
     go_simp
     with_reducible rfl
    rotate_left
    ·simp only [Act.put, sA, s0, sS, i64_w, i32_w]
     rfl
    refine pure_ (i := 29) (N := some 128) (v := undef) (a' := ?_) #[yy, yy, yy, yy, yy, yy, yy, yy, yy, yy, yy, yy, yy, yy, yy, yy, yy, yy, yy, yy, yy, yy, yy, yy, yy, yy, yy, yy, yy, yy, nn, nn, nn, nn, nn, nn, nn, nn, nn, nn, nn, nn, nn] rfl rfl (any_of HT_.out (by kernel_rfl)) (fun _ _ _ h => h) (Or.inr ⟨by rfl, rfl⟩) ?_ ?_
    rotate_left
    ·simp only [Act.put, sA, s0, sS, i64_w, i32_w]
     rfl
    refine pure_ (i := 30) (N := some 129) (v := undef) (a' := ?_) #[yy, yy, yy, yy, yy, yy, yy, yy, yy, yy, yy, yy, yy, yy, yy, yy, yy, yy, yy, yy, yy, yy, yy, yy, yy, yy, yy, yy, yy, yy, yy, nn, nn, nn, nn, nn, nn, nn, nn, nn, nn, nn, nn] rfl rfl (any_of HT_.out (by kernel_rfl)) (fun _ _ _ h => h) (Or.inr ⟨by rfl, rfl⟩) ?_ ?_
    rotate_left
    ·simp only [Act.put, sA, s0, sS, i64_w, i32_w]
     rfl
    refine pure_ (i := 31) (N := some 130) (v := undef) (a' := ?_) #[yy, yy, yy, yy, yy, yy, yy, yy, yy, yy, yy, yy, yy, yy, yy, yy, yy, yy, yy, yy, yy, yy, yy, yy, yy, yy, yy, yy, yy, yy, yy, yy, nn, nn, nn, nn, nn, nn, nn, nn, nn, nn, nn] rfl rfl (any_of HT_.out (by kernel_rfl)) (fun _ _ _ h => h) (Or.inr ⟨by rfl, rfl⟩) ?_ ?_
    rotate_left
    ·simp only [Act.put, sA, s0, sS, i64_w, i32_w]
     rfl
    refine pure_ (i := 32) (N := some 131) (v := undef) (a' := ?_) #[yy, yy, yy, yy, yy, yy, yy, yy, yy, yy, yy, yy, yy, yy, yy, yy, yy, yy, yy, yy, yy, yy, yy, yy, yy, yy, yy, yy, yy, yy, yy, yy, yy, nn, nn, nn, nn, nn, nn, nn, nn, nn, nn] rfl rfl (any_of HT_.out (by kernel_rfl)) (fun _ _ _ h => h) (Or.inr ⟨by rfl, rfl⟩) ?_ ?_
    rotate_left
    ·simp only [Act.put, sA, s0, sS, i64_w, i32_w]
     rfl
    refine pure_ (i := 33) (N := some 132) (v := undef) (a' := ?_) #[yy, yy, yy, yy, yy, yy, yy, yy, yy, yy, yy, yy, yy, yy, yy, yy, yy, yy, yy, yy, yy, yy, yy, yy, yy, yy, yy, yy, yy, yy, yy, yy, yy, yy, nn, nn, nn, nn, nn, nn, nn, nn, nn] rfl rfl (any_of HT_.out (by kernel_rfl)) (fun _ _ _ h => h) (Or.inr ⟨by rfl, rfl⟩) ?_ ?_
    rotate_left
    ·simp only [Act.put, sA, s0, sS, i64_w, i32_w]
     rfl
    refine pure_ (i := 34) (N := some 133) (v := undef) (a' := ?_) #[yy, yy, yy, yy, yy, yy, yy, yy, yy, yy, yy, yy, yy, yy, yy, yy, yy, yy, yy, yy, yy, yy, yy, yy, yy, yy, yy, yy, yy, yy, yy, yy, yy, yy, yy, nn, nn, nn, nn, nn, nn, nn, nn] rfl rfl (any_of HT_.out (by kernel_rfl)) (fun _ _ _ h => h) (Or.inr ⟨by rfl, rfl⟩) ?_ ?_
    rotate_left
    ·simp only [Act.put, sA, s0, sS, i64_w, i32_w]
     rfl
    refine pure_ (i := 35) (N := some 134) (v := undef) (a' := ?_) #[yy, yy, yy, yy, yy, yy, yy, yy, yy, yy, yy, yy, yy, yy, yy, yy, yy, yy, yy, yy, yy, yy, yy, yy, yy, yy, yy, yy, yy, yy, yy, yy, yy, yy, yy, yy, nn, nn, nn, nn, nn, nn, nn] rfl rfl (any_of HT_.out (by kernel_rfl)) (fun _ _ _ h => h) (Or.inr ⟨by rfl, rfl⟩) ?_ ?_
    rotate_left
    ·simp only [Act.put, sA, s0, sS, i64_w, i32_w]
     rfl
    refine pure_ (i := 36) (N := some 135) (v := undef) (a' := ?_) #[yy, yy, yy, yy, yy, yy, yy, yy, yy, yy, yy, yy, yy, yy, yy, yy, yy, yy, yy, yy, yy, yy, yy, yy, yy, yy, yy, yy, yy, yy, yy, yy, yy, yy, yy, yy, yy, nn, nn, nn, nn, nn, nn] rfl rfl (any_of HT_.out (by kernel_rfl)) (fun _ _ _ h => h) (Or.inr ⟨by rfl, rfl⟩) ?_ ?_
    rotate_left
    ·simp only [Act.put, sA, s0, sS, i64_w, i32_w]
     rfl
    refine pure_ (i := 37) (N := some 136) (v := undef) (a' := ?_) #[yy, yy, yy, yy, yy, yy, yy, yy, yy, yy, yy, yy, yy, yy, yy, yy, yy, yy, yy, yy, yy, yy, yy, yy, yy, yy, yy, yy, yy, yy, yy, yy, yy, yy, yy, yy, yy, yy, nn, nn, nn, nn, nn] rfl rfl (any_of HT_.out (by kernel_rfl)) (fun _ _ _ h => h) (Or.inr ⟨by rfl, rfl⟩) ?_ ?_
    rotate_left
    ·simp only [Act.put, sA, s0, sS, i64_w, i32_w]
     rfl
    refine pure_ (i := 38) (N := some 137) (v := undef) (a' := ?_) #[yy, yy, yy, yy, yy, yy, yy, yy, yy, yy, yy, yy, yy, yy, yy, yy, yy, yy, yy, yy, yy, yy, yy, yy, yy, yy, yy, yy, yy, yy, yy, yy, yy, yy, yy, yy, yy, yy, yy, nn, nn, nn, nn] rfl rfl (any_of HT_.out (by kernel_rfl)) (fun _ _ _ h => h) (Or.inr ⟨by rfl, rfl⟩) ?_ ?_
    rotate_left
    ·simp only [Act.put, sA, s0, sS, i64_w, i32_w]
     rfl
    refine pure_ (i := 39) (N := some 138) (v := undef) (a' := ?_) #[yy, yy, yy, yy, yy, yy, yy, yy, yy, yy, yy, yy, yy, yy, yy, yy, yy, yy, yy, yy, yy, yy, yy, yy, yy, yy, yy, yy, yy, yy, yy, yy, yy, yy, yy, yy, yy, yy, yy, yy, nn, nn, nn] rfl rfl (any_of HT_.out (by kernel_rfl)) (fun _ _ _ h => h) (Or.inr ⟨by rfl, rfl⟩) ?_ ?_
    rotate_left
    ·simp only [Act.put, sA, s0, sS, i64_w, i32_w]
     rfl
    refine pure_ (i := 40) (N := some 139) (v := ?_) (a' := ?_) #[yy, yy, yy, yy, yy, yy, yy, yy, yy, yy, yy, yy, yy, yy, yy, yy, yy, yy, yy, yy, yy, yy, yy, yy, yy, yy, yy, yy, yy, yy, yy, yy, yy, yy, yy, yy, yy, yy, yy, yy, yy, nn, nn] rfl rfl (any_of HT_.out (by kernel_rfl)) (fun _ _ _ h => h) (Or.inl ⟨by rfl, ?_⟩) ?_ ?_
    rotate_left
    ·intro w'
     go_simp
     with_reducible rfl
    rotate_left
    ·simp only [Act.put, sA, s0, sS, i64_w, i32_w]
     rfl
    refine pure_ (i := 41) (N := some 140) (v := ?_) (a' := ?_) #[yy, yy, yy, yy, yy, yy, yy, yy, yy, yy, yy, yy, yy, yy, yy, yy, yy, yy, yy, yy, yy, yy, yy, yy, yy, yy, yy, yy, yy, yy, yy, yy, yy, yy, yy, yy, yy, yy, yy, yy, yy, yy, nn] rfl rfl (any_of HT_.out (by kernel_rfl)) (fun _ _ _ h => h) (Or.inl ⟨by rfl, ?_⟩) ?_ ?_
    rotate_left
    ·intro w'
     go_simp
     with_reducible rfl
    rotate_left
    ·simp only [Act.put, sA, s0, sS, i64_w, i32_w]
     rfl
    refine pure_ (i := 42) (N := some 6) (v := ?_) (a' := ?_) #[yy, yy, yy, yy, yy, yy, yy, yy, yy, yy, yy, yy, yy, yy, yy, yy, yy, yy, yy, yy, yy, yy, yy, yy, yy, yy, yy, yy, yy, yy, yy, yy, yy, yy, yy, yy, yy, yy, yy, yy, yy, yy, yy] rfl rfl (any_of HT_.out (by kernel_rfl)) (fun _ _ _ h => h) (Or.inl ⟨by rfl, ?_⟩) ?_ ?_
    rotate_left
    ·intro w'
     go_simp
     with_reducible rfl
    rotate_left
    ·simp only [Act.put, sA, s0, sS, i64_w, i32_w]
     rfl
    refine done_ (done_of HT_.out (by kernel_rfl)) ?_
    try go_wp2
    go_ret
    exact ⟨by first | rfl | (simp [errW_none, errW_some] <;> rfl) | (simp [*, errW_none, errW_some] <;> rfl), (by first | exact bq HB.out | exact below_step HB0.out (bq HB.out))⟩
   rw [if_pos c36] at H
   have c36b0 : (t474 == 0) = true := beq_iff_eq.mpr c36
   have c36b1 : (t474 != 0) = false := bne_eq_false_iff_eq.mpr c36
   clear c36
   by_cases c37 : (t482 == (t470.toList == a1.toList)) = true
   rotate_left
   ·rw [if_neg c37] at H
    have c37b0 : (t482 == (t470.toList == a1.toList)) = false := by simpa using c37
    (try (have c37b1 : decide (t482 = (t470.toList == a1.toList)) = false := by simpa using c37))
    (try (have c37b2 : (t482 == (t470.toList == a1.toList)) = false := by simpa using c37))
    (try (have c37b3 : ¬ (t482 = (t470.toList == a1.toList)) := by simpa using c37))
    clear c37
    exact absurd H (by simp)
   rw [if_pos c37] at H
   have c37b0 : (t482 == (t470.toList == a1.toList)) = true := c37
   (try (have c37b1 : decide (t482 = (t470.toList == a1.toList)) = true := by simpa using c37))
   (try (have c37b2 : (t482 == (t470.toList == a1.toList)) = true := by simpa using c37))
   clear c37
   replace H := Option.bind_eq_some_iff.mp H
   obtain ⟨t483, A380, H⟩ := H
   replace H : (some t483) = some r := H
   have A38 := Aside0.mk A380
   clear A380
   obtain rfl := Option.some.inj H
   try go_wp2_with (first | ((with_reducible refine gate_callee (f := 11) rfl ?_); refine goesL_ (some 35) rfl rfl Try.func11 (by kernel_rfl) rfl #[] rfl (by (try simp only [mA, mC, mN]); first | done | rfl | (simp only [List.length_drop, List.length_take]; rfl)) ?_; (with_reducible refine (perm_Make.calls  t450 _ A23.out).mono ?_); rintro e w39 ⟨gT, rfl, hTT, hb⟩; refine ⟨_, rfl, ?_⟩; have HT := Aside0.mk hTT; clear hTT; replace BK446 := bb BK446 hb; replace HB := bh HB hb; have HB0 := HB; (try replace HR0_2 := Aside0.mk (Kd.C_below HR0_2.out HB.out)); replace HB := Aside0.mk (Below.refl w39.heap.size w39); (try clear hb); (try clear hb2); (try clear hk); (try clear hi)) | ((with_reducible refine gate_callee (f := 16) rfl ?_); refine goesL_ (some 36) rfl rfl Try.func16 (by kernel_rfl) rfl #[] rfl (by (try simp only [mA, mC, mN]); first | done | rfl | (simp only [List.length_drop, List.length_take]; rfl)) ?_; (with_reducible refine (steepleref10_Make.calls kj3  t451 t454 _ A24.out).mono ?_); rintro e w40 ⟨v452, v455, rfl, ho0, ho1, hb⟩; refine ⟨_, rfl, ?_⟩; have HO453 := kw ho0 HB; have HO456 := Aside0.mk (Kd.S_lower ho1 (below_size (bq HB.out))); replace BK446 := bb BK446 hb; replace HB := bh HB hb; (try clear hb); (try clear hb2); (try clear hk); (try clear hi); (try clear ho0); (try clear ho1)) | ((with_reducible refine gate_dst (N := 8) rfl ?_); (try (refine gate_guard (by rfl) ?_; dsimp only)); refine box_event ?hg (N := 8) ?hd (cs := #[.slice none 0 0, .slice none 0 0]) (t := 39) ?hr ?_; (case hd => rfl); (case hg => rfl); (case hr => go_simp <;> rfl); intro gb457 hg w41 hbox hb; have BK457 := Aside0.mk hbox; have GW457 := ge hg HB; have GE457 := ge hg HB; have NB446_457 := nl hg BK446; have NB457_446 := ng hg BK446; replace HO453 := kb HO453 hb; replace HO456 := Aside0.mk (Kd.S_below (by (with_reducible repeat (first | apply Kd.S_alloc | apply Kd.S_drewN | apply Kd.S_drew)); exact HO456.out) hb); replace BK446 := bb BK446 hb; replace HB := bh HB hb; clear hb hbox hg; obtain ⟨Ao42, co42, eo42⟩ := Kd.R_slice HO453.out; subst eo42; have hnb43 := NB457_446.out; have hnc43 := NB446_457.out; obtain ⟨hcz44_0, hcz44_1⟩ := zc2 BK457; obtain ⟨hfz44_0, hfz44_1⟩ := zf2 BK457; obtain ⟨Ao45, co45, eo45⟩ := Kd.S_slice HO456.out; subst eo45; obtain ⟨hcz46_0, hcz46_1, hcz46_2⟩ := zc3 BK446; obtain ⟨hfz46_0, hfz46_1, hfz46_2⟩ := zf3 BK446) | ((with_reducible refine gate_callee (f := 22) rfl ?_); refine goesL_ (some 46) rfl rfl Try.func22 (by kernel_rfl) rfl #[.pointer (some ⟨gT, 0, none⟩), .int .i64 a0_0, .int .i64 a0_1, .string a1, .slice A0_2 l0_2.length c0_2] rfl (by (try simp only [mA, mC, mN]); first | done | rfl | (simp only [List.length_drop, List.length_take]; rfl)) ?_; (with_reducible refine (merkle_Climb.calls (gT := gT) (hT := HT.out.below (bq HB.out)) kj3 t450 a0_0 a0_1 a1 _ _ l0_2 t458 t459 t460 _ ?side1 ?side2 A25.out).mono ?_); (case side1 => exact Kd.C_below HR0_2.out (bq HB.out)); (case side2 => exact HC0_2.out); rintro e w47 ⟨v461, rfl, ho0, hb⟩; refine ⟨_, rfl, ?_⟩; have HO462 := kw ho0 HB; replace HO453 := Aside0.mk (Kd.R_below (by (with_reducible repeat refine kl ?_); exact (Kd.R_mono (Kd.R_far (p := ⟨gb457, 1, none⟩) (Kd.R_far (p := ⟨gb457, 0, none⟩) (Kd.R_types HO453.out BK457.out (by decide)) (fun _ hk => hk.2) (.slice Ao42 t451.length co42)) (fun _ hk => hk.2) (.slice Ao45 t454.length co45)) (fun _ h_ => h_.1))) hb); replace HO456 := Aside0.mk (Kd.S_below (by (with_reducible repeat (first | apply Kd.S_alloc | apply Kd.S_drewN | apply Kd.S_drew)); exact (Kd.S_mono (Kd.S_far (p := ⟨gb457, 1, none⟩) (Kd.S_far (p := ⟨gb457, 0, none⟩) (Kd.S_types HO456.out BK457.out (by decide)) (fun _ hk => hk.2) (.slice Ao42 t451.length co42)) (fun _ hk => hk.2) (.slice Ao45 t454.length co45)) (fun _ h_ => h_.1))) hb); replace BK446 := Aside0.mk (blk_below (g := gb446) (o := .cells #[.int .i64 a0_0, .int .i64 a0_1, .slice A0_2 l0_2.length c0_2] 48 (0, 0)) (by (with_reducible repeat refine bl ?_); refine blk_far ?_ NB446_457.out _; (with_reducible repeat refine bl ?_); refine blk_far ?_ NB446_457.out _; (with_reducible repeat refine bl ?_); exact BK446.out) hb); replace BK457 := Aside0.mk (blk_below (g := gb457) (o := .cells #[.slice Ao42 t451.length co42, .slice Ao45 t454.length co45] 39 (0, 0)) (by (with_reducible repeat refine bl ?_); refine blk_put (cs := #[.slice Ao42 t451.length co42, .slice none 0 0]) ?_ 1 _ rfl; (with_reducible repeat refine bl ?_); refine blk_put (cs := #[.slice none 0 0, .slice none 0 0]) ?_ 0 _ rfl; (with_reducible repeat refine bl ?_); exact BK457.out) hb); replace HB := bh HB hb; (try clear hb); (try clear hb2); (try clear hk); (try clear hi); (try clear ho0); obtain ⟨hcz48_0, hcz48_1⟩ := zc2 BK457; obtain ⟨hfz48_0, hfz48_1⟩ := zf2 BK457; obtain ⟨hcz49_0, hcz49_1, hcz49_2⟩ := zc3 BK446; obtain ⟨hfz49_0, hfz49_1, hfz49_2⟩ := zf3 BK446) | ((with_reducible refine gate_callee (f := 23) rfl ?_); refine goesL_ (some 58) rfl rfl Try.func23 (by kernel_rfl) rfl #[.agg #[.slice Ao42 t451.length co42, .slice Ao45 t454.length co45], .int .i64 a0_0, .int .i64 a0_1, .string a1, .slice A0_2 l0_2.length c0_2] rfl (by (try simp only [mA, mC, mN]); first | done | rfl | (simp only [List.length_drop, List.length_take]; rfl)) ?_; (with_reducible refine (steepleref12_Climb.calls kj3 _ _ t451 _ _ t454 a0_0 a0_1 a1 _ _ l0_2 t463 t464 t467 _ ?side1 ?side2 ?side3 ?side4 ?side5 ?side6 A26.out).mono ?_); (case side1 => repeat (first | exact (Kd.R_reads' HO453.out).2.2 | (with_reducible refine Kd.C_alloc ?_ _) | (with_reducible refine Kd.C_drewN ?_ _) | (with_reducible refine Kd.C_drew ?_))); (case side2 => exact (Kd.R_reads' HO453.out).2.1); (case side3 => repeat (first | exact (Kd.S_reads' HO456.out).2.2 | (with_reducible refine Kd.C_alloc ?_ _) | (with_reducible refine Kd.C_drewN ?_ _) | (with_reducible refine Kd.C_drew ?_))); (case side4 => exact (Kd.S_reads' HO456.out).2.1); (case side5 => repeat (first | exact (Kd.C_below HR0_2.out HB.out) | (with_reducible refine Kd.C_alloc ?_ _) | (with_reducible refine Kd.C_drewN ?_ _) | (with_reducible refine Kd.C_drew ?_))); (case side6 => exact HC0_2.out); rintro e w50 ⟨v465, rfl, ho0, hb⟩; refine ⟨_, rfl, ?_⟩; have HO466 := Aside0.mk (Kd.R_lower (Kd.R_new' ho0 (Kd.R_lt (kr HO462.out))) (below_size (bq HB.out))); replace HO453 := kb HO453 hb; replace HO456 := Aside0.mk (Kd.S_below (by (with_reducible repeat (first | apply Kd.S_alloc | apply Kd.S_drewN | apply Kd.S_drew)); exact HO456.out) hb); replace HO462 := Aside0.mk (Kd.R_elder' (kr HO462.out) (Kd.R_base ho0) hb); replace BK446 := bb BK446 hb; replace BK457 := bb BK457 hb; replace HB := bh HB hb; (try clear hb); (try clear hb2); (try clear hk); (try clear hi); (try clear ho0)) | ((with_reducible refine gate_dst (N := 12) rfl ?_); (try (refine gate_guard (by rfl) ?_; dsimp only)); refine box_event ?hg (N := 12) ?hd (cs := #[.string (⟨#[]⟩ : ByteArray), .slice none 0 0, .int .i64 0]) (t := 53) ?hr ?_; (case hd => rfl); (case hg => rfl); (case hr => go_simp <;> rfl); intro gb468 hg w51 hbox hb; have BK468 := Aside0.mk hbox; have GW468 := ge hg HB; have GE468 := ge hg HB; have NB446_468 := nl hg BK446; have NB468_446 := ng hg BK446; have NB457_468 := nl hg BK457; have NB468_457 := ng hg BK457; replace HO453 := kb HO453 hb; replace HO456 := Aside0.mk (Kd.S_below (by (with_reducible repeat (first | apply Kd.S_alloc | apply Kd.S_drewN | apply Kd.S_drew)); exact HO456.out) hb); replace HO462 := kb HO462 hb; replace HO466 := kb HO466 hb; replace BK446 := bb BK446 hb; replace BK457 := bb BK457 hb; replace HB := bh HB hb; clear hb hbox hg; have hnb52 := NB468_446.out; have hnc52 := NB446_468.out; have hnb53 := NB468_457.out; have hnc53 := NB457_468.out; obtain ⟨hcz54_0, hcz54_1, hcz54_2⟩ := zc3 BK468; obtain ⟨hfz54_0, hfz54_1, hfz54_2⟩ := zf3 BK468; obtain ⟨Ao55, co55, eo55⟩ := Kd.R_slice HO466.out; subst eo55))
   have n0_ : Aside0 (Kd.R (Kd.int .i64) 3 (((w51.setCell ⟨gb468, 0, none⟩ (.string t463)).setCell ⟨gb468, 1, none⟩ (.slice Ao55 t464.length co55)).setCell ⟨gb468, 2, none⟩ (.int .i64 t467)) w39.heap.size (fun _ => True) (.slice Ao42 t451.length co42) t451) := ⟨by (with_reducible repeat refine kl ?_); exact Kd.R_mono (Kd.R_far (p := ⟨gb468, 2, none⟩) (Kd.R_far (p := ⟨gb468, 1, none⟩) (Kd.R_far (p := ⟨gb468, 0, none⟩) (Kd.R_types HO453.out BK468.out (by decide)) (fun _ hk => hk.2) (.string t463)) (fun _ hk => hk.2) (.slice Ao55 t464.length co55)) (fun _ hk => hk.2) (.int .i64 t467)) (fun _ hk => trivial)⟩
   have n1_ : Aside0 (Kd.S (Kd.slice 3 (Kd.int .i64)) 36 (((w51.setCell ⟨gb468, 0, none⟩ (.string t463)).setCell ⟨gb468, 1, none⟩ (.slice Ao55 t464.length co55)).setCell ⟨gb468, 2, none⟩ (.int .i64 t467)) w39.heap.size (fun k_ => some k_ ≠ (.slice Ao42 t451.length co42 : Value).ownBlock) (.slice Ao45 t454.length co45) t454) := ⟨by (with_reducible repeat (first | apply Kd.S_alloc | apply Kd.S_drewN | apply Kd.S_drew)); exact Kd.S_mono (Kd.S_far (p := ⟨gb468, 2, none⟩) (Kd.S_far (p := ⟨gb468, 1, none⟩) (Kd.S_far (p := ⟨gb468, 0, none⟩) (Kd.S_types HO456.out BK468.out (by decide)) (fun _ hk => hk.2) (.string t463)) (fun _ hk => hk.2) (.slice Ao55 t464.length co55)) (fun _ hk => hk.2) (.int .i64 t467)) (fun _ hk => hk.1)⟩
   have n2_ : Aside0 (Kd.R Kd.string 9 (((w51.setCell ⟨gb468, 0, none⟩ (.string t463)).setCell ⟨gb468, 1, none⟩ (.slice Ao55 t464.length co55)).setCell ⟨gb468, 2, none⟩ (.int .i64 t467)) w39.heap.size (fun k_ => some k_ ≠ (.slice Ao55 t464.length co55 : Value).ownBlock) v461 t459) := ⟨by (with_reducible repeat refine kl ?_); exact Kd.R_mono (Kd.R_far (p := ⟨gb468, 2, none⟩) (Kd.R_far (p := ⟨gb468, 1, none⟩) (Kd.R_far (p := ⟨gb468, 0, none⟩) (Kd.R_types HO462.out BK468.out (by decide)) (fun _ hk => hk.2) (.string t463)) (fun _ hk => hk.2) (.slice Ao55 t464.length co55)) (fun _ hk => hk.2) (.int .i64 t467)) (fun _ hk => hk.1.2)⟩
   have n3_ : Aside0 (Kd.R Kd.string 9 (((w51.setCell ⟨gb468, 0, none⟩ (.string t463)).setCell ⟨gb468, 1, none⟩ (.slice Ao55 t464.length co55)).setCell ⟨gb468, 2, none⟩ (.int .i64 t467)) w39.heap.size (fun k_ => some k_ ≠ (v461 : Value).ownBlock) (.slice Ao55 t464.length co55) t464) := ⟨by (with_reducible repeat refine kl ?_); exact Kd.R_mono (Kd.R_far (p := ⟨gb468, 2, none⟩) (Kd.R_far (p := ⟨gb468, 1, none⟩) (Kd.R_far (p := ⟨gb468, 0, none⟩) (Kd.R_types HO466.out BK468.out (by decide)) (fun _ hk => hk.2) (.string t463)) (fun _ hk => hk.2) (.slice Ao55 t464.length co55)) (fun _ hk => hk.2) (.int .i64 t467)) (fun _ hk => hk.1.2)⟩
   have n4_ : Aside0 ((((w51.setCell ⟨gb468, 0, none⟩ (.string t463)).setCell ⟨gb468, 1, none⟩ (.slice Ao55 t464.length co55)).setCell ⟨gb468, 2, none⟩ (.int .i64 t467)).heap[gb446]? = some (.cells #[.int .i64 a0_0, .int .i64 a0_1, .slice A0_2 l0_2.length c0_2] 48 (0, 0))) := ⟨by (with_reducible repeat refine bl ?_); refine blk_far ?_ NB446_468.out _; (with_reducible repeat refine bl ?_); refine blk_far ?_ NB446_468.out _; (with_reducible repeat refine bl ?_); refine blk_far ?_ NB446_468.out _; (with_reducible repeat refine bl ?_); exact BK446.out⟩
   have n5_ : Aside0 ((((w51.setCell ⟨gb468, 0, none⟩ (.string t463)).setCell ⟨gb468, 1, none⟩ (.slice Ao55 t464.length co55)).setCell ⟨gb468, 2, none⟩ (.int .i64 t467)).heap[gb457]? = some (.cells #[.slice Ao42 t451.length co42, .slice Ao45 t454.length co45] 39 (0, 0))) := ⟨by (with_reducible repeat refine bl ?_); refine blk_far ?_ NB457_468.out _; (with_reducible repeat refine bl ?_); refine blk_far ?_ NB457_468.out _; (with_reducible repeat refine bl ?_); refine blk_far ?_ NB457_468.out _; (with_reducible repeat refine bl ?_); exact BK457.out⟩
   have n6_ : Aside0 ((((w51.setCell ⟨gb468, 0, none⟩ (.string t463)).setCell ⟨gb468, 1, none⟩ (.slice Ao55 t464.length co55)).setCell ⟨gb468, 2, none⟩ (.int .i64 t467)).heap[gb468]? = some (.cells #[.string t463, .slice Ao55 t464.length co55, .int .i64 t467] 53 (0, 0))) := ⟨by (with_reducible repeat refine bl ?_); refine blk_put (cs := #[.string t463, .slice Ao55 t464.length co55, .int .i64 0]) ?_ 2 _ rfl; (with_reducible repeat refine bl ?_); refine blk_put (cs := #[.string t463, .slice none 0 0, .int .i64 0]) ?_ 1 _ rfl; (with_reducible repeat refine bl ?_); refine blk_put (cs := #[.string (⟨#[]⟩ : ByteArray), .slice none 0 0, .int .i64 0]) ?_ 0 _ rfl; (with_reducible repeat refine bl ?_); exact BK468.out⟩
   have n7_ : Aside0 (Below w39.heap.size w39 (((w51.setCell ⟨gb468, 0, none⟩ (.string t463)).setCell ⟨gb468, 1, none⟩ (.slice Ao55 t464.length co55)).setCell ⟨gb468, 2, none⟩ (.int .i64 t467))) := ⟨(by first | exact bq HB.out | exact below_step HB0.out (bq HB.out))⟩
   (try clear HO453)
   (try clear HO456)
   (try clear HO462)
   (try clear HO466)
   (try clear BK446)
   (try clear BK457)
   (try clear BK468)
   (try clear HB)
   generalize (((w51.setCell ⟨gb468, 0, none⟩ (.string t463)).setCell ⟨gb468, 1, none⟩ (.slice Ao55 t464.length co55)).setCell ⟨gb468, 2, none⟩ (.int .i64 t467)) = w56 at n0_ n1_ n2_ n3_ n4_ n5_ n6_ n7_ ⊢
   have HO453 := n0_
   have HO456 := n1_
   have HO462 := n2_
   have HO466 := n3_
   have BK446 := n4_
   have BK457 := n5_
   have BK468 := n6_
   have HB := n7_
   clear n0_ n1_ n2_ n3_ n4_ n5_ n6_ n7_
   replace HO453 := Aside0.mk (Kd.R_drew HO453.out)
   replace HO456 := Aside0.mk (Kd.S_drew HO456.out)
   replace HO462 := Aside0.mk (Kd.R_drew HO462.out)
   replace HO466 := Aside0.mk (Kd.R_drew HO466.out)
   replace BK446 := Aside0.mk (blk_drew BK446.out)
   replace BK457 := Aside0.mk (blk_drew BK457.out)
   replace BK468 := Aside0.mk (blk_drew BK468.out)
   replace HB := Aside0.mk (below_drew1 HB.out)
   refine start_ (n := 13) (S := fun w' => w'.cell? ⟨gb457, 0, none⟩ = some (.slice Ao42 t451.length co42) ∧ w'.cell? ⟨gb457, 1, none⟩ = some (.slice Ao45 t454.length co45) ∧ w'.cell? ⟨gb446, 0, none⟩ = some (.int .i64 a0_0) ∧ w'.cell? ⟨gb446, 1, none⟩ = some (.int .i64 a0_1) ∧ w'.cell? ⟨gb446, 2, none⟩ = some (.slice A0_2 l0_2.length c0_2)) (ds := []) #[nn, nn, nn, nn, nn, nn, nn, nn, nn, nn, nn, nn, nn] (by kernel_rfl) rfl rfl ⟨bc BK457 0 rfl, bc BK457 1 rfl, bc BK446 0 rfl, bc BK446 1 rfl, bc BK446 2 rfl⟩ (fun hHeld => ?_); refine with_tabW steeplelaw12_MerkleClimbs.tab7 steeplelaw12_MerkleClimbs.bits7 (fun HT_ HW_ => ?_)
   generalize w56.drew = w57 at HO453 HO456 HO462 HO466 BK446 BK457 BK468 HB hHeld ⊢
   refine pure_ (i := 1) (N := some 60) (v := ?_) (a' := ?_) #[nn, yy, nn, nn, nn, nn, nn, nn, nn, nn, nn, nn, nn] rfl rfl (any_of HT_.out (by kernel_rfl)) (fun _ _ _ h => h) (Or.inl ⟨by rfl, ?_⟩) ?_ ?_
   rotate_left
   ·intro w'
    go_simp
    with_reducible rfl
   rotate_left
   ·simp only [Act.put, sA, s0, sS, i64_w, i32_w]
    rfl
   refine pure_ (i := 3) (N := some 62) (v := ?_) (a' := ?_) #[nn, yy, nn, yy, nn, nn, nn, nn, nn, nn, nn, nn, nn] rfl rfl (any_of HT_.out (by kernel_rfl)) (fun _ _ _ h => h) (Or.inl ⟨by rfl, ?_⟩) ?_ ?_
   rotate_left
   ·intro w'
    go_simp
    with_reducible rfl
   rotate_left
   ·simp only [Act.put, sA, s0, sS, i64_w, i32_w]
    rfl
   refine pure_ (i := 6) (N := some 65) (v := ?_) (a' := ?_) #[nn, yy, nn, yy, nn, nn, yy, nn, nn, nn, nn, nn, nn] rfl rfl (any_of HT_.out (by kernel_rfl)) (fun _ _ _ h => h) (Or.inl ⟨by rfl, ?_⟩) ?_ ?_
   rotate_left
   ·intro w'
    go_simp
    with_reducible rfl
   rotate_left
   ·simp only [Act.put, sA, s0, sS, i64_w, i32_w]
    rfl
   refine pure_ (i := 8) (N := some 67) (v := ?_) (a' := ?_) #[nn, yy, nn, yy, nn, nn, yy, nn, yy, nn, nn, nn, nn] rfl rfl (any_of HT_.out (by kernel_rfl)) (fun _ _ _ h => h) (Or.inl ⟨by rfl, ?_⟩) ?_ ?_
   rotate_left
   ·intro w'
    go_simp
    with_reducible rfl
   rotate_left
   ·simp only [Act.put, sA, s0, sS, i64_w, i32_w]
    rfl
   refine take_ (i := 0) (N := some 59) (v := ?_) (a' := ?_) #[yy, yy, nn, yy, nn, nn, yy, nn, yy, nn, nn, nn, nn] rfl rfl (take_ofW HT_.out HW_.out (by kernel_rfl)) (fun _ _ _ h => h) (Or.inl ⟨by rfl, ?_⟩) hHeld ?_ ?_
   rotate_left
   ·rintro w' ⟨s0, s1, s2, s3, s4⟩
    go_simp
    with_reducible rfl
   rotate_left
   ·simp only [Act.put, sA, s0, sS, i64_w, i32_w]
    rfl
   refine take_ (i := 2) (N := some 61) (v := ?_) (a' := ?_) #[yy, yy, yy, yy, nn, nn, yy, nn, yy, nn, nn, nn, nn] rfl rfl (take_ofW HT_.out HW_.out (by kernel_rfl)) (fun _ _ _ h => h) (Or.inl ⟨by rfl, ?_⟩) hHeld ?_ ?_
   rotate_left
   ·rintro w' ⟨s0, s1, s2, s3, s4⟩
    go_simp
    with_reducible rfl
   rotate_left
   ·simp only [Act.put, sA, s0, sS, i64_w, i32_w]
    rfl
   refine take_ (i := 4) (N := some 63) (v := ?_) (a' := ?_) #[yy, yy, yy, yy, yy, nn, yy, nn, yy, nn, nn, nn, nn] rfl rfl (take_ofW HT_.out HW_.out (by kernel_rfl)) (fun _ _ _ h => h) (Or.inl ⟨by rfl, ?_⟩) hHeld ?_ ?_
   rotate_left
   ·rintro w' ⟨s0, s1, s2, s3, s4⟩
    go_simp
    with_reducible rfl
   rotate_left
   ·simp only [Act.put, sA, s0, sS, i64_w, i32_w]
    rfl
   refine take_ (i := 5) (N := some 64) (v := ?_) (a' := ?_) #[yy, yy, yy, yy, yy, yy, yy, nn, yy, nn, nn, nn, nn] rfl rfl (take_ofW HT_.out HW_.out (by kernel_rfl)) (fun _ _ _ h => h) (Or.inl ⟨by rfl, ?_⟩) hHeld ?_ ?_
   rotate_left
   ·rintro w' ⟨s0, s1, s2, s3, s4⟩
    go_simp
    with_reducible rfl
   rotate_left
   ·simp only [Act.put, sA, s0, sS, i64_w, i32_w]
    rfl
   refine take_ (i := 9) (N := some 68) (v := ?_) (a' := ?_) #[yy, yy, yy, yy, yy, yy, yy, nn, yy, yy, nn, nn, nn] rfl rfl (take_ofW HT_.out HW_.out (by kernel_rfl)) (fun _ _ _ h => h) (Or.inl ⟨by rfl, ?_⟩) hHeld ?_ ?_
   rotate_left
   ·rintro w' ⟨s0, s1, s2, s3, s4⟩
    go_simp
    with_reducible rfl
   rotate_left
   ·simp only [Act.put, sA, s0, sS, i64_w, i32_w]
    rfl
   refine join_ (σ := Value × Nat) 1 #[yy, yy, yy, yy, yy, yy, yy, yy, yy, yy, yy, yy, nn] (fun s_ => [(66, .string t469), (69, .agg #[.string t470, s_.1, .int .i64 t474]), (13, .pointer (some ⟨s_.2, 0, none⟩))]) (fun s_ w' => (w'.cell? ⟨gb457, 0, none⟩ = some (.slice Ao42 t451.length co42) ∧ w'.cell? ⟨gb457, 1, none⟩ = some (.slice Ao45 t454.length co45) ∧ w'.cell? ⟨gb446, 0, none⟩ = some (.int .i64 a0_0) ∧ w'.cell? ⟨gb446, 1, none⟩ = some (.int .i64 a0_1) ∧ w'.cell? ⟨gb446, 2, none⟩ = some (.slice A0_2 l0_2.length c0_2)) ∧ (Kd.R (Kd.int .i64) 3 w' w39.heap.size (fun _ => True) (.slice Ao42 t451.length co42) t451) ∧ (Kd.S (Kd.slice 3 (Kd.int .i64)) 36 w' w39.heap.size (fun k_ => some k_ ≠ (.slice Ao42 t451.length co42 : Value).ownBlock) (.slice Ao45 t454.length co45) t454) ∧ (Kd.R Kd.string 9 w' w39.heap.size (fun k_ => some k_ ≠ (.slice Ao55 t464.length co55 : Value).ownBlock ∧ some k_ ≠ (s_.1 : Value).ownBlock) v461 t459) ∧ (Kd.R Kd.string 9 w' w39.heap.size (fun k_ => some k_ ≠ (v461 : Value).ownBlock ∧ some k_ ≠ (s_.1 : Value).ownBlock) (.slice Ao55 t464.length co55) t464) ∧ (Kd.R Kd.string 9 w' w39.heap.size (fun k_ => some k_ ≠ (v461 : Value).ownBlock ∧ some k_ ≠ (.slice Ao55 t464.length co55 : Value).ownBlock) s_.1 t471) ∧ (w'.heap[gb446]? = some (.cells #[.int .i64 a0_0, .int .i64 a0_1, .slice A0_2 l0_2.length c0_2] 48 (0, 0))) ∧ (w'.heap[gb457]? = some (.cells #[.slice Ao42 t451.length co42, .slice Ao45 t454.length co45] 39 (0, 0))) ∧ (w'.heap[gb468]? = some (.cells #[.string t463, .slice Ao55 t464.length co55, .int .i64 t467] 53 (0, 0))) ∧ (w'.heap[s_.2]? = some (.cells #[.string (⟨#[]⟩ : ByteArray), .slice none 0 0, .int .i64 0] 53 (0, 0))) ∧ (w39.heap.size ≤ s_.2) ∧ (w39.heap.size ≤ s_.2) ∧ (gb446 ≠ s_.2) ∧ (s_.2 ≠ gb446) ∧ (gb457 ≠ s_.2) ∧ (s_.2 ≠ gb457) ∧ (gb468 ≠ s_.2) ∧ (s_.2 ≠ gb468) ∧ (Below w39.heap.size w39 w')) ?_ ?_
   rotate_left
   ·intro hCont
    refine two_ (i := 7) (j := 11) (Ni := some 66) (Nj := some 13) #[yy, yy, yy, yy, yy, yy, yy, yy, yy, yy, nn, nn, nn] #[yy, yy, yy, yy, yy, yy, yy, nn, yy, yy, nn, yy, nn] rfl rfl rfl rfl (two_of HT_.out (by kernel_rfl)) (by decide) (by decide) (fun K hK => ?_) (fun K hK => ?_)
    ·skip
     refine goes_ Try.func20 (by kernel_rfl) rfl #[.agg #[.slice Ao42 t451.length co42, .slice Ao45 t454.length co45], .string a2] (by rfl) rfl rfl (by (try simp only [mA, mC, mN]); first | done | rfl | (simp only [List.length_drop, List.length_take]; rfl)) ?_
     with_reducible refine (steepleref12_Leaf.calls kj3 _ _ t451 _ _ t454 a2 t469 _ ?side1 ?side2 ?side3 ?side4 A27.out).mono ?_
     (case side1 => repeat (first | exact (Kd.R_reads' HO453.out).2.2 | (with_reducible refine Kd.C_alloc ?_ _) | (with_reducible refine Kd.C_drewN ?_ _) | (with_reducible refine Kd.C_drew ?_)))
     (case side2 => exact (Kd.R_reads' HO453.out).2.1)
     (case side3 => repeat (first | exact (Kd.S_reads' HO456.out).2.2 | (with_reducible refine Kd.C_alloc ?_ _) | (with_reducible refine Kd.C_drewN ?_ _) | (with_reducible refine Kd.C_drew ?_)))
     (case side4 => exact (Kd.S_reads' HO456.out).2.1)
     rintro e w58 ⟨rfl, hb⟩
     refine ⟨_, rfl, ?_⟩
     replace HO453 := kb HO453 hb
     replace HO456 := Aside0.mk (Kd.S_below (by (with_reducible repeat (first | apply Kd.S_alloc | apply Kd.S_drewN | apply Kd.S_drew)); exact HO456.out) hb)
     replace HO462 := kb HO462 hb
     replace HO466 := kb HO466 hb
     replace BK446 := bb BK446 hb
     replace BK457 := bb BK457 hb
     replace BK468 := bb BK468 hb
     replace HB := bh HB hb
     (try clear hb)
     refine hK.out _ _ ⟨bc BK457 0 rfl, bc BK457 1 rfl, bc BK446 0 rfl, bc BK446 1 rfl, bc BK446 2 rfl⟩ (fun hHeld => ?_)
     clear hK K
     refine norm_ (a' := ?_) ?_ ?_
     rotate_left
     ·show Act.put _ (some 66) _ = _
      simp only [Act.put, sA, s0, sS, i64_w, i32_w]
      rfl
     refine two_ (i := 10) (j := 11) (Ni := some 69) (Nj := some 13) #[yy, yy, yy, yy, yy, yy, yy, yy, yy, yy, yy, nn, nn] #[yy, yy, yy, yy, yy, yy, yy, yy, yy, yy, nn, yy, nn] rfl rfl rfl rfl (two_of HT_.out (by kernel_rfl)) (by decide) (by decide) (fun K hK => ?_) (fun K hK => ?_)
     ·skip
      refine goes_ Try.func23 (by kernel_rfl) rfl #[.agg #[.slice Ao42 t451.length co42, .slice Ao45 t454.length co45], .int .i64 a0_0, .int .i64 a0_1, .string t469, .slice A0_2 l0_2.length c0_2] (by rfl) rfl rfl (by (try simp only [mA, mC, mN]); first | done | rfl | (simp only [List.length_drop, List.length_take]; rfl)) ?_
      with_reducible refine (steepleref12_Climb.calls kj3 _ _ t451 _ _ t454 a0_0 a0_1 t469 _ _ l0_2 t470 t471 t474 _ ?side1 ?side2 ?side3 ?side4 ?side5 ?side6 A28.out).mono ?_
      (case side1 => repeat (first | exact (Kd.R_reads' HO453.out).2.2 | (with_reducible refine Kd.C_alloc ?_ _) | (with_reducible refine Kd.C_drewN ?_ _) | (with_reducible refine Kd.C_drew ?_)))
      (case side2 => exact (Kd.R_reads' HO453.out).2.1)
      (case side3 => repeat (first | exact (Kd.S_reads' HO456.out).2.2 | (with_reducible refine Kd.C_alloc ?_ _) | (with_reducible refine Kd.C_drewN ?_ _) | (with_reducible refine Kd.C_drew ?_)))
      (case side4 => exact (Kd.S_reads' HO456.out).2.1)
      (case side5 => repeat (first | exact (Kd.C_below HR0_2.out HB.out) | (with_reducible refine Kd.C_alloc ?_ _) | (with_reducible refine Kd.C_drewN ?_ _) | (with_reducible refine Kd.C_drew ?_)))
      (case side6 => exact HC0_2.out)
      rintro e w59 ⟨v472, rfl, ho0, hb⟩
      refine ⟨_, rfl, ?_⟩
      have HO473 := Aside0.mk (Kd.R_lower (Kd.R_new' (Kd.R_new' ho0 (Kd.R_lt (kr HO462.out))) (Kd.R_lt (kr HO466.out))) (below_size (bq HB.out)))
      replace HO453 := kb HO453 hb
      replace HO456 := Aside0.mk (Kd.S_below (by (with_reducible repeat (first | apply Kd.S_alloc | apply Kd.S_drewN | apply Kd.S_drew)); exact HO456.out) hb)
      replace HO462 := Aside0.mk (Kd.R_elder' (kr HO462.out) (Kd.R_base ho0) hb)
      replace HO466 := Aside0.mk (Kd.R_elder' (kr HO466.out) (Kd.R_base ho0) hb)
      replace BK446 := bb BK446 hb
      replace BK457 := bb BK457 hb
      replace BK468 := bb BK468 hb
      replace HB := bh HB hb
      (try clear hb)
      (try clear ho0)
      refine hK.out _ _ ⟨bc BK457 0 rfl, bc BK457 1 rfl, bc BK446 0 rfl, bc BK446 1 rfl, bc BK446 2 rfl⟩ (fun hHeld => ?_)
      clear hK K
      refine norm_ (a' := ?_) ?_ ?_
      rotate_left
      ·show Act.put _ (some 69) _ = _
       simp only [Act.put, sA, s0, sS, i64_w, i32_w]
       rfl
      refine one_ (i := 11) (N := some 13) #[yy, yy, yy, yy, yy, yy, yy, yy, yy, yy, yy, yy, nn] rfl rfl (one_of HT_.out (by kernel_rfl)) (by decide) (fun K hK => ?_)
      refine box_step ?hg (N := 13) ?hd (cs := #[.string (⟨#[]⟩ : ByteArray), .slice none 0 0, .int .i64 0]) (t := 53) ?hr ?_; (case hd => rfl); (case hg => rfl); (case hr => go_simp <;> rfl)
      intro gb475 hg w60 hbox hb
      have BK475 := Aside0.mk hbox
      have GW475 := ge hg HB
      have GE475 := ge hg HB
      have NB446_475 := nl hg BK446
      have NB475_446 := ng hg BK446
      have NB457_475 := nl hg BK457
      have NB475_457 := ng hg BK457
      have NB468_475 := nl hg BK468
      have NB475_468 := ng hg BK468
      replace HO453 := kb HO453 hb
      replace HO456 := Aside0.mk (Kd.S_below (by (with_reducible repeat (first | apply Kd.S_alloc | apply Kd.S_drewN | apply Kd.S_drew)); exact HO456.out) hb)
      replace HO462 := kb HO462 hb
      replace HO466 := kb HO466 hb
      replace HO473 := kb HO473 hb
      replace BK446 := bb BK446 hb
      replace BK457 := bb BK457 hb
      replace BK468 := bb BK468 hb
      replace HB := bh HB hb
      clear hb hbox hg
      refine hK.out _ _ ⟨bc BK457 0 rfl, bc BK457 1 rfl, bc BK446 0 rfl, bc BK446 1 rfl, bc BK446 2 rfl⟩ (fun hHeld => ?_)
      clear hK K
      refine norm_ (a' := ?_) ?_ ?_
      rotate_left
      ·show Act.put _ (some 13) _ = _
       simp only [Act.put, sA, s0, sS, i64_w, i32_w]
       rfl
      exact norm_ (by simp only [putAll, Act.put, sA, s0, sS]) (hCont (v472, gb475) _ ⟨hHeld, (kr HO453.out), (by (with_reducible repeat (first | apply Kd.S_alloc | apply Kd.S_drewN | apply Kd.S_drew)); exact HO456.out), (kr HO462.out), (kr HO466.out), (by (with_reducible repeat refine kl ?_); exact Kd.R_mono HO473.out (fun _ hk => ⟨hk.1.2, hk.2⟩)), (bk BK446.out), (bk BK457.out), (bk BK468.out), (bk BK475.out), GW475.out, GE475.out, NB446_475.out, NB475_446.out, NB457_475.out, NB475_457.out, NB468_475.out, NB475_468.out, (bq HB.out)⟩)
     skip
     refine box_step ?hg (N := 13) ?hd (cs := #[.string (⟨#[]⟩ : ByteArray), .slice none 0 0, .int .i64 0]) (t := 53) ?hr ?_; (case hd => rfl); (case hg => rfl); (case hr => go_simp <;> rfl)
     intro gb475 hg w59 hbox hb
     have BK475 := Aside0.mk hbox
     have GW475 := ge hg HB
     have GE475 := ge hg HB
     have NB446_475 := nl hg BK446
     have NB475_446 := ng hg BK446
     have NB457_475 := nl hg BK457
     have NB475_457 := ng hg BK457
     have NB468_475 := nl hg BK468
     have NB475_468 := ng hg BK468
     replace HO453 := kb HO453 hb
     replace HO456 := Aside0.mk (Kd.S_below (by (with_reducible repeat (first | apply Kd.S_alloc | apply Kd.S_drewN | apply Kd.S_drew)); exact HO456.out) hb)
     replace HO462 := kb HO462 hb
     replace HO466 := kb HO466 hb
     replace BK446 := bb BK446 hb
     replace BK457 := bb BK457 hb
     replace BK468 := bb BK468 hb
     replace HB := bh HB hb
     clear hb hbox hg
     refine hK.out _ _ ⟨bc BK457 0 rfl, bc BK457 1 rfl, bc BK446 0 rfl, bc BK446 1 rfl, bc BK446 2 rfl⟩ (fun hHeld => ?_)
     clear hK K
     refine norm_ (a' := ?_) ?_ ?_
     rotate_left
     ·show Act.put _ (some 13) _ = _
      simp only [Act.put, sA, s0, sS, i64_w, i32_w]
      rfl
     refine one_ (i := 10) (N := some 69) #[yy, yy, yy, yy, yy, yy, yy, yy, yy, yy, yy, yy, nn] rfl rfl (one_of HT_.out (by kernel_rfl)) (by decide) (fun K hK => ?_)
     refine goes_ Try.func23 (by kernel_rfl) rfl #[.agg #[.slice Ao42 t451.length co42, .slice Ao45 t454.length co45], .int .i64 a0_0, .int .i64 a0_1, .string t469, .slice A0_2 l0_2.length c0_2] (by rfl) rfl rfl (by (try simp only [mA, mC, mN]); first | done | rfl | (simp only [List.length_drop, List.length_take]; rfl)) ?_
     with_reducible refine (steepleref12_Climb.calls kj3 _ _ t451 _ _ t454 a0_0 a0_1 t469 _ _ l0_2 t470 t471 t474 _ ?side1 ?side2 ?side3 ?side4 ?side5 ?side6 A28.out).mono ?_
     (case side1 => repeat (first | exact (Kd.R_reads' HO453.out).2.2 | (with_reducible refine Kd.C_alloc ?_ _) | (with_reducible refine Kd.C_drewN ?_ _) | (with_reducible refine Kd.C_drew ?_)))
     (case side2 => exact (Kd.R_reads' HO453.out).2.1)
     (case side3 => repeat (first | exact (Kd.S_reads' HO456.out).2.2 | (with_reducible refine Kd.C_alloc ?_ _) | (with_reducible refine Kd.C_drewN ?_ _) | (with_reducible refine Kd.C_drew ?_)))
     (case side4 => exact (Kd.S_reads' HO456.out).2.1)
     (case side5 => repeat (first | exact (Kd.C_below HR0_2.out HB.out) | (with_reducible refine Kd.C_alloc ?_ _) | (with_reducible refine Kd.C_drewN ?_ _) | (with_reducible refine Kd.C_drew ?_)))
     (case side6 => exact HC0_2.out)
     rintro e w60 ⟨v472, rfl, ho0, hb⟩
     refine ⟨_, rfl, ?_⟩
     have HO473 := Aside0.mk (Kd.R_lower (Kd.R_new' (Kd.R_new' ho0 (Kd.R_lt (kr HO462.out))) (Kd.R_lt (kr HO466.out))) (below_size (bq HB.out)))
     replace HO453 := kb HO453 hb
     replace HO456 := Aside0.mk (Kd.S_below (by (with_reducible repeat (first | apply Kd.S_alloc | apply Kd.S_drewN | apply Kd.S_drew)); exact HO456.out) hb)
     replace HO462 := Aside0.mk (Kd.R_elder' (kr HO462.out) (Kd.R_base ho0) hb)
     replace HO466 := Aside0.mk (Kd.R_elder' (kr HO466.out) (Kd.R_base ho0) hb)
     replace BK446 := bb BK446 hb
     replace BK457 := bb BK457 hb
     replace BK468 := bb BK468 hb
     replace BK475 := bb BK475 hb
     replace HB := bh HB hb
     (try clear hb)
     (try clear ho0)
     refine hK.out _ _ ⟨bc BK457 0 rfl, bc BK457 1 rfl, bc BK446 0 rfl, bc BK446 1 rfl, bc BK446 2 rfl⟩ (fun hHeld => ?_)
     clear hK K
     refine norm_ (a' := ?_) ?_ ?_
     rotate_left
     ·show Act.put _ (some 69) _ = _
      simp only [Act.put, sA, s0, sS, i64_w, i32_w]
      rfl
     exact norm_ (by simp only [putAll, Act.put, sA, s0, sS]) (hCont (v472, gb475) _ ⟨hHeld, (kr HO453.out), (by (with_reducible repeat (first | apply Kd.S_alloc | apply Kd.S_drewN | apply Kd.S_drew)); exact HO456.out), (kr HO462.out), (kr HO466.out), (by (with_reducible repeat refine kl ?_); exact Kd.R_mono HO473.out (fun _ hk => ⟨hk.1.2, hk.2⟩)), (bk BK446.out), (bk BK457.out), (bk BK468.out), (bk BK475.out), GW475.out, GE475.out, NB446_475.out, NB475_446.out, NB457_475.out, NB475_457.out, NB468_475.out, NB475_468.out, (bq HB.out)⟩)
    skip
    refine box_step ?hg (N := 13) ?hd (cs := #[.string (⟨#[]⟩ : ByteArray), .slice none 0 0, .int .i64 0]) (t := 53) ?hr ?_; (case hd => rfl); (case hg => rfl); (case hr => go_simp <;> rfl)
    intro gb475 hg w58 hbox hb
    have BK475 := Aside0.mk hbox
    have GW475 := ge hg HB
    have GE475 := ge hg HB
    have NB446_475 := nl hg BK446
    have NB475_446 := ng hg BK446
    have NB457_475 := nl hg BK457
    have NB475_457 := ng hg BK457
    have NB468_475 := nl hg BK468
    have NB475_468 := ng hg BK468
    replace HO453 := kb HO453 hb
    replace HO456 := Aside0.mk (Kd.S_below (by (with_reducible repeat (first | apply Kd.S_alloc | apply Kd.S_drewN | apply Kd.S_drew)); exact HO456.out) hb)
    replace HO462 := kb HO462 hb
    replace HO466 := kb HO466 hb
    replace BK446 := bb BK446 hb
    replace BK457 := bb BK457 hb
    replace BK468 := bb BK468 hb
    replace HB := bh HB hb
    clear hb hbox hg
    refine hK.out _ _ ⟨bc BK457 0 rfl, bc BK457 1 rfl, bc BK446 0 rfl, bc BK446 1 rfl, bc BK446 2 rfl⟩ (fun hHeld => ?_)
    clear hK K
    refine norm_ (a' := ?_) ?_ ?_
    rotate_left
    ·show Act.put _ (some 13) _ = _
     simp only [Act.put, sA, s0, sS, i64_w, i32_w]
     rfl
    refine one_ (i := 7) (N := some 66) #[yy, yy, yy, yy, yy, yy, yy, yy, yy, yy, nn, yy, nn] rfl rfl (one_of HT_.out (by kernel_rfl)) (by decide) (fun K hK => ?_)
    refine goes_ Try.func20 (by kernel_rfl) rfl #[.agg #[.slice Ao42 t451.length co42, .slice Ao45 t454.length co45], .string a2] (by rfl) rfl rfl (by (try simp only [mA, mC, mN]); first | done | rfl | (simp only [List.length_drop, List.length_take]; rfl)) ?_
    with_reducible refine (steepleref12_Leaf.calls kj3 _ _ t451 _ _ t454 a2 t469 _ ?side1 ?side2 ?side3 ?side4 A27.out).mono ?_
    (case side1 => repeat (first | exact (Kd.R_reads' HO453.out).2.2 | (with_reducible refine Kd.C_alloc ?_ _) | (with_reducible refine Kd.C_drewN ?_ _) | (with_reducible refine Kd.C_drew ?_)))
    (case side2 => exact (Kd.R_reads' HO453.out).2.1)
    (case side3 => repeat (first | exact (Kd.S_reads' HO456.out).2.2 | (with_reducible refine Kd.C_alloc ?_ _) | (with_reducible refine Kd.C_drewN ?_ _) | (with_reducible refine Kd.C_drew ?_)))
    (case side4 => exact (Kd.S_reads' HO456.out).2.1)
    rintro e w59 ⟨rfl, hb⟩
    refine ⟨_, rfl, ?_⟩
    replace HO453 := kb HO453 hb
    replace HO456 := Aside0.mk (Kd.S_below (by (with_reducible repeat (first | apply Kd.S_alloc | apply Kd.S_drewN | apply Kd.S_drew)); exact HO456.out) hb)
    replace HO462 := kb HO462 hb
    replace HO466 := kb HO466 hb
    replace BK446 := bb BK446 hb
    replace BK457 := bb BK457 hb
    replace BK468 := bb BK468 hb
    replace BK475 := bb BK475 hb
    replace HB := bh HB hb
    (try clear hb)
    refine hK.out _ _ ⟨bc BK457 0 rfl, bc BK457 1 rfl, bc BK446 0 rfl, bc BK446 1 rfl, bc BK446 2 rfl⟩ (fun hHeld => ?_)
    clear hK K
    refine norm_ (a' := ?_) ?_ ?_
    rotate_left
    ·show Act.put _ (some 66) _ = _
     simp only [Act.put, sA, s0, sS, i64_w, i32_w]
     rfl
    refine one_ (i := 10) (N := some 69) #[yy, yy, yy, yy, yy, yy, yy, yy, yy, yy, yy, yy, nn] rfl rfl (one_of HT_.out (by kernel_rfl)) (by decide) (fun K hK => ?_)
    refine goes_ Try.func23 (by kernel_rfl) rfl #[.agg #[.slice Ao42 t451.length co42, .slice Ao45 t454.length co45], .int .i64 a0_0, .int .i64 a0_1, .string t469, .slice A0_2 l0_2.length c0_2] (by rfl) rfl rfl (by (try simp only [mA, mC, mN]); first | done | rfl | (simp only [List.length_drop, List.length_take]; rfl)) ?_
    with_reducible refine (steepleref12_Climb.calls kj3 _ _ t451 _ _ t454 a0_0 a0_1 t469 _ _ l0_2 t470 t471 t474 _ ?side1 ?side2 ?side3 ?side4 ?side5 ?side6 A28.out).mono ?_
    (case side1 => repeat (first | exact (Kd.R_reads' HO453.out).2.2 | (with_reducible refine Kd.C_alloc ?_ _) | (with_reducible refine Kd.C_drewN ?_ _) | (with_reducible refine Kd.C_drew ?_)))
    (case side2 => exact (Kd.R_reads' HO453.out).2.1)
    (case side3 => repeat (first | exact (Kd.S_reads' HO456.out).2.2 | (with_reducible refine Kd.C_alloc ?_ _) | (with_reducible refine Kd.C_drewN ?_ _) | (with_reducible refine Kd.C_drew ?_)))
    (case side4 => exact (Kd.S_reads' HO456.out).2.1)
    (case side5 => repeat (first | exact (Kd.C_below HR0_2.out HB.out) | (with_reducible refine Kd.C_alloc ?_ _) | (with_reducible refine Kd.C_drewN ?_ _) | (with_reducible refine Kd.C_drew ?_)))
    (case side6 => exact HC0_2.out)
    rintro e w60 ⟨v472, rfl, ho0, hb⟩
    refine ⟨_, rfl, ?_⟩
    have HO473 := Aside0.mk (Kd.R_lower (Kd.R_new' (Kd.R_new' ho0 (Kd.R_lt (kr HO462.out))) (Kd.R_lt (kr HO466.out))) (below_size (bq HB.out)))
    replace HO453 := kb HO453 hb
    replace HO456 := Aside0.mk (Kd.S_below (by (with_reducible repeat (first | apply Kd.S_alloc | apply Kd.S_drewN | apply Kd.S_drew)); exact HO456.out) hb)
    replace HO462 := Aside0.mk (Kd.R_elder' (kr HO462.out) (Kd.R_base ho0) hb)
    replace HO466 := Aside0.mk (Kd.R_elder' (kr HO466.out) (Kd.R_base ho0) hb)
    replace BK446 := bb BK446 hb
    replace BK457 := bb BK457 hb
    replace BK468 := bb BK468 hb
    replace BK475 := bb BK475 hb
    replace HB := bh HB hb
    (try clear hb)
    (try clear ho0)
    refine hK.out _ _ ⟨bc BK457 0 rfl, bc BK457 1 rfl, bc BK446 0 rfl, bc BK446 1 rfl, bc BK446 2 rfl⟩ (fun hHeld => ?_)
    clear hK K
    refine norm_ (a' := ?_) ?_ ?_
    rotate_left
    ·show Act.put _ (some 69) _ = _
     simp only [Act.put, sA, s0, sS, i64_w, i32_w]
     rfl
    exact norm_ (by simp only [putAll, Act.put, sA, s0, sS]) (hCont (v472, gb475) _ ⟨hHeld, (kr HO453.out), (by (with_reducible repeat (first | apply Kd.S_alloc | apply Kd.S_drewN | apply Kd.S_drew)); exact HO456.out), (kr HO462.out), (kr HO466.out), (by (with_reducible repeat refine kl ?_); exact Kd.R_mono HO473.out (fun _ hk => ⟨hk.1.2, hk.2⟩)), (bk BK446.out), (bk BK457.out), (bk BK468.out), (bk BK475.out), GW475.out, GE475.out, NB446_475.out, NB475_446.out, NB457_475.out, NB475_457.out, NB468_475.out, NB475_468.out, (bq HB.out)⟩)
   rintro ⟨v472, gb475⟩ w61 ⟨hS_, h0_, h1_, h2_, h3_, h4_, h5_, h6_, h7_, h8_, h9_, h10_, h11_, h12_, h13_, h14_, h15_, h16_, h17_⟩
   have n0_ : Aside0 (Kd.R (Kd.int .i64) 3 w61 w39.heap.size (fun _ => True) (.slice Ao42 t451.length co42) t451) := ⟨h0_⟩
   have n1_ : Aside0 (Kd.S (Kd.slice 3 (Kd.int .i64)) 36 w61 w39.heap.size (fun k_ => some k_ ≠ (.slice Ao42 t451.length co42 : Value).ownBlock) (.slice Ao45 t454.length co45) t454) := ⟨h1_⟩
   have n2_ : Aside0 (Kd.R Kd.string 9 w61 w39.heap.size (fun k_ => some k_ ≠ (.slice Ao55 t464.length co55 : Value).ownBlock ∧ some k_ ≠ (v472 : Value).ownBlock) v461 t459) := ⟨h2_⟩
   have n3_ : Aside0 (Kd.R Kd.string 9 w61 w39.heap.size (fun k_ => some k_ ≠ (v461 : Value).ownBlock ∧ some k_ ≠ (v472 : Value).ownBlock) (.slice Ao55 t464.length co55) t464) := ⟨h3_⟩
   have n4_ : Aside0 (Kd.R Kd.string 9 w61 w39.heap.size (fun k_ => some k_ ≠ (v461 : Value).ownBlock ∧ some k_ ≠ (.slice Ao55 t464.length co55 : Value).ownBlock) v472 t471) := ⟨h4_⟩
   have n5_ : Aside0 (w61.heap[gb446]? = some (.cells #[.int .i64 a0_0, .int .i64 a0_1, .slice A0_2 l0_2.length c0_2] 48 (0, 0))) := ⟨h5_⟩
   have n6_ : Aside0 (w61.heap[gb457]? = some (.cells #[.slice Ao42 t451.length co42, .slice Ao45 t454.length co45] 39 (0, 0))) := ⟨h6_⟩
   have n7_ : Aside0 (w61.heap[gb468]? = some (.cells #[.string t463, .slice Ao55 t464.length co55, .int .i64 t467] 53 (0, 0))) := ⟨h7_⟩
   have n8_ : Aside0 (w61.heap[gb475]? = some (.cells #[.string (⟨#[]⟩ : ByteArray), .slice none 0 0, .int .i64 0] 53 (0, 0))) := ⟨h8_⟩
   have n9_ : Aside0 (w39.heap.size ≤ gb475) := ⟨h9_⟩
   have n10_ : Aside0 (w39.heap.size ≤ gb475) := ⟨h10_⟩
   have n11_ : Aside0 (gb446 ≠ gb475) := ⟨h11_⟩
   have n12_ : Aside0 (gb475 ≠ gb446) := ⟨h12_⟩
   have n13_ : Aside0 (gb457 ≠ gb475) := ⟨h13_⟩
   have n14_ : Aside0 (gb475 ≠ gb457) := ⟨h14_⟩
   have n15_ : Aside0 (gb468 ≠ gb475) := ⟨h15_⟩
   have n16_ : Aside0 (gb475 ≠ gb468) := ⟨h16_⟩
   have n17_ : Aside0 (Below w39.heap.size w39 w61) := ⟨h17_⟩
   clear HO453
   clear HO456
   clear HO462
   clear HO466
   clear BK446
   clear BK457
   clear BK468
   clear HB
   clear h0_ h1_ h2_ h3_ h4_ h5_ h6_ h7_ h8_ h9_ h10_ h11_ h12_ h13_ h14_ h15_ h16_ h17_
   have HO453 := n0_
   have HO456 := n1_
   have HO462 := n2_
   have HO466 := n3_
   have HO473 := n4_
   have BK446 := n5_
   have BK457 := n6_
   have BK468 := n7_
   have BK475 := n8_
   have GW475 := Aside1.mk n9_.out
   have GE475 := Aside1.mk n10_.out
   have NB446_475 := n11_
   have NB475_446 := n12_
   have NB457_475 := n13_
   have NB475_457 := n14_
   have NB468_475 := n15_
   have NB475_468 := n16_
   have HB := n17_
   clear n0_ n1_ n2_ n3_ n4_ n5_ n6_ n7_ n8_ n9_ n10_ n11_ n12_ n13_ n14_ n15_ n16_ n17_
   have hHeld : w61.cell? ⟨gb457, 0, none⟩ = some (.slice Ao42 t451.length co42) ∧ w61.cell? ⟨gb457, 1, none⟩ = some (.slice Ao45 t454.length co45) ∧ w61.cell? ⟨gb446, 0, none⟩ = some (.int .i64 a0_0) ∧ w61.cell? ⟨gb446, 1, none⟩ = some (.int .i64 a0_1) ∧ w61.cell? ⟨gb446, 2, none⟩ = some (.slice A0_2 l0_2.length c0_2) := hS_
   obtain ⟨Ao63, co63, eo63⟩ := Kd.R_slice HO473.out
   (first | subst eo63 | (injection eo63 with f1_ f2_ f3_; have f4_ := f1_.symm; have f5_ := f3_.symm; clear f1_ f2_ f3_; subst f4_; subst f5_))
   refine norm_ (a' := ?_) ?_ ?_
   rotate_left
   ·simp only [putAll, Act.put, sA, s0, sS]
    rfl
   refine one_ (i := 12) (N := none) #[yy, yy, yy, yy, yy, yy, yy, yy, yy, yy, yy, yy, yy] rfl rfl (one_of HT_.out (by kernel_rfl)) (by decide) (fun K hK => ?_)
   have hs62 : w61.cell? ⟨gb475, 0, none⟩ = some (.string (⟨#[]⟩ : ByteArray)) := bc BK475 0 rfl
   have hfs62 := blk_frozen BK475.out 0
   have hs64 : w61.cell? ⟨gb475, 1, none⟩ = some (.slice none 0 0) := bc BK475 1 rfl
   have hfs64 := blk_frozen BK475.out 1
   have hs65 : w61.cell? ⟨gb475, 2, none⟩ = some (.int .i64 0) := bc BK475 2 rfl
   have hfs65 := blk_frozen BK475.out 2
   refine skip_ (w1 := ?_) (by rfl) rfl ?_ ?_
   rotate_left
   ·go_simp
    rfl
   refine hK.out _ _ ⟨((cell_far (p := ⟨gb475, _, none⟩) NB457_475.out _).trans (((cell_far (p := ⟨gb475, _, none⟩) NB457_475.out _).trans (((cell_far (p := ⟨gb475, _, none⟩) NB457_475.out _).trans (hHeld.1)))))), ((cell_far (p := ⟨gb475, _, none⟩) NB457_475.out _).trans (((cell_far (p := ⟨gb475, _, none⟩) NB457_475.out _).trans (((cell_far (p := ⟨gb475, _, none⟩) NB457_475.out _).trans (hHeld.2.1)))))), ((cell_far (p := ⟨gb475, _, none⟩) NB446_475.out _).trans (((cell_far (p := ⟨gb475, _, none⟩) NB446_475.out _).trans (((cell_far (p := ⟨gb475, _, none⟩) NB446_475.out _).trans (hHeld.2.2.1)))))), ((cell_far (p := ⟨gb475, _, none⟩) NB446_475.out _).trans (((cell_far (p := ⟨gb475, _, none⟩) NB446_475.out _).trans (((cell_far (p := ⟨gb475, _, none⟩) NB446_475.out _).trans (hHeld.2.2.2.1)))))), ((cell_far (p := ⟨gb475, _, none⟩) NB446_475.out _).trans (((cell_far (p := ⟨gb475, _, none⟩) NB446_475.out _).trans (((cell_far (p := ⟨gb475, _, none⟩) NB446_475.out _).trans (hHeld.2.2.2.2))))))⟩ (fun hHeld => ?_)
   clear hK K
   refine done_ (done_of HT_.out (by kernel_rfl)) ?_
   clear hHeld
   have n0_ : Aside0 (Kd.R (Kd.int .i64) 3 (((w61.setCell ⟨gb475, 0, none⟩ (.string t470)).setCell ⟨gb475, 1, none⟩ (.slice Ao63 t471.length co63)).setCell ⟨gb475, 2, none⟩ (.int .i64 t474)) w39.heap.size (fun _ => True) (.slice Ao42 t451.length co42) t451) := ⟨by (with_reducible repeat refine kl ?_); exact Kd.R_mono (Kd.R_far (p := ⟨gb475, 2, none⟩) (Kd.R_far (p := ⟨gb475, 1, none⟩) (Kd.R_far (p := ⟨gb475, 0, none⟩) (Kd.R_types HO453.out BK475.out (by decide)) (fun _ hk => hk.2) (.string t470)) (fun _ hk => hk.2) (.slice Ao63 t471.length co63)) (fun _ hk => hk.2) (.int .i64 t474)) (fun _ h_ => by first | exact h_.1 | exact h_ | exact trivial)⟩
   have n1_ : Aside0 (Kd.S (Kd.slice 3 (Kd.int .i64)) 36 (((w61.setCell ⟨gb475, 0, none⟩ (.string t470)).setCell ⟨gb475, 1, none⟩ (.slice Ao63 t471.length co63)).setCell ⟨gb475, 2, none⟩ (.int .i64 t474)) w39.heap.size (fun k_ => some k_ ≠ (.slice Ao42 t451.length co42 : Value).ownBlock) (.slice Ao45 t454.length co45) t454) := ⟨by (with_reducible repeat (first | apply Kd.S_alloc | apply Kd.S_drewN | apply Kd.S_drew)); exact Kd.S_mono (Kd.S_far (p := ⟨gb475, 2, none⟩) (Kd.S_far (p := ⟨gb475, 1, none⟩) (Kd.S_far (p := ⟨gb475, 0, none⟩) (Kd.S_types HO456.out BK475.out (by decide)) (fun _ hk => hk.2) (.string t470)) (fun _ hk => hk.2) (.slice Ao63 t471.length co63)) (fun _ hk => hk.2) (.int .i64 t474)) (fun _ h_ => by first | exact h_.1 | exact h_ | exact trivial)⟩
   have n2_ : Aside0 (Kd.R Kd.string 9 (((w61.setCell ⟨gb475, 0, none⟩ (.string t470)).setCell ⟨gb475, 1, none⟩ (.slice Ao63 t471.length co63)).setCell ⟨gb475, 2, none⟩ (.int .i64 t474)) w39.heap.size (fun k_ => some k_ ≠ (.slice Ao55 t464.length co55 : Value).ownBlock ∧ some k_ ≠ (.slice Ao63 t471.length co63 : Value).ownBlock) v461 t459) := ⟨by (with_reducible repeat refine kl ?_); exact Kd.R_mono (Kd.R_far (p := ⟨gb475, 2, none⟩) (Kd.R_far (p := ⟨gb475, 1, none⟩) (Kd.R_far (p := ⟨gb475, 0, none⟩) (Kd.R_types HO462.out BK475.out (by decide)) (fun _ hk => hk.2) (.string t470)) (fun _ hk => hk.2) (.slice Ao63 t471.length co63)) (fun _ hk => hk.2) (.int .i64 t474)) (fun _ h_ => by first | exact h_.1 | exact h_ | exact trivial)⟩
   have n3_ : Aside0 (Kd.R Kd.string 9 (((w61.setCell ⟨gb475, 0, none⟩ (.string t470)).setCell ⟨gb475, 1, none⟩ (.slice Ao63 t471.length co63)).setCell ⟨gb475, 2, none⟩ (.int .i64 t474)) w39.heap.size (fun k_ => some k_ ≠ (v461 : Value).ownBlock ∧ some k_ ≠ (.slice Ao63 t471.length co63 : Value).ownBlock) (.slice Ao55 t464.length co55) t464) := ⟨by (with_reducible repeat refine kl ?_); exact Kd.R_mono (Kd.R_far (p := ⟨gb475, 2, none⟩) (Kd.R_far (p := ⟨gb475, 1, none⟩) (Kd.R_far (p := ⟨gb475, 0, none⟩) (Kd.R_types HO466.out BK475.out (by decide)) (fun _ hk => hk.2) (.string t470)) (fun _ hk => hk.2) (.slice Ao63 t471.length co63)) (fun _ hk => hk.2) (.int .i64 t474)) (fun _ h_ => by first | exact h_.1 | exact h_ | exact trivial)⟩
   have n4_ : Aside0 (Kd.R Kd.string 9 (((w61.setCell ⟨gb475, 0, none⟩ (.string t470)).setCell ⟨gb475, 1, none⟩ (.slice Ao63 t471.length co63)).setCell ⟨gb475, 2, none⟩ (.int .i64 t474)) w39.heap.size (fun k_ => some k_ ≠ (v461 : Value).ownBlock ∧ some k_ ≠ (.slice Ao55 t464.length co55 : Value).ownBlock) (.slice Ao63 t471.length co63) t471) := ⟨by (with_reducible repeat refine kl ?_); exact Kd.R_mono (Kd.R_far (p := ⟨gb475, 2, none⟩) (Kd.R_far (p := ⟨gb475, 1, none⟩) (Kd.R_far (p := ⟨gb475, 0, none⟩) (Kd.R_types HO473.out BK475.out (by decide)) (fun _ hk => hk.2) (.string t470)) (fun _ hk => hk.2) (.slice Ao63 t471.length co63)) (fun _ hk => hk.2) (.int .i64 t474)) (fun _ h_ => by first | exact h_.1 | exact h_ | exact trivial)⟩
   have n5_ : Aside0 ((((w61.setCell ⟨gb475, 0, none⟩ (.string t470)).setCell ⟨gb475, 1, none⟩ (.slice Ao63 t471.length co63)).setCell ⟨gb475, 2, none⟩ (.int .i64 t474)).heap[gb446]? = some (.cells #[.int .i64 a0_0, .int .i64 a0_1, .slice A0_2 l0_2.length c0_2] 48 (0, 0))) := ⟨by (with_reducible repeat refine bl ?_); refine blk_far ?_ NB446_475.out _; (with_reducible repeat refine bl ?_); refine blk_far ?_ NB446_475.out _; (with_reducible repeat refine bl ?_); refine blk_far ?_ NB446_475.out _; (with_reducible repeat refine bl ?_); exact BK446.out⟩
   have n6_ : Aside0 ((((w61.setCell ⟨gb475, 0, none⟩ (.string t470)).setCell ⟨gb475, 1, none⟩ (.slice Ao63 t471.length co63)).setCell ⟨gb475, 2, none⟩ (.int .i64 t474)).heap[gb457]? = some (.cells #[.slice Ao42 t451.length co42, .slice Ao45 t454.length co45] 39 (0, 0))) := ⟨by (with_reducible repeat refine bl ?_); refine blk_far ?_ NB457_475.out _; (with_reducible repeat refine bl ?_); refine blk_far ?_ NB457_475.out _; (with_reducible repeat refine bl ?_); refine blk_far ?_ NB457_475.out _; (with_reducible repeat refine bl ?_); exact BK457.out⟩
   have n7_ : Aside0 ((((w61.setCell ⟨gb475, 0, none⟩ (.string t470)).setCell ⟨gb475, 1, none⟩ (.slice Ao63 t471.length co63)).setCell ⟨gb475, 2, none⟩ (.int .i64 t474)).heap[gb468]? = some (.cells #[.string t463, .slice Ao55 t464.length co55, .int .i64 t467] 53 (0, 0))) := ⟨by (with_reducible repeat refine bl ?_); refine blk_far ?_ NB468_475.out _; (with_reducible repeat refine bl ?_); refine blk_far ?_ NB468_475.out _; (with_reducible repeat refine bl ?_); refine blk_far ?_ NB468_475.out _; (with_reducible repeat refine bl ?_); exact BK468.out⟩
   have n8_ : Aside0 ((((w61.setCell ⟨gb475, 0, none⟩ (.string t470)).setCell ⟨gb475, 1, none⟩ (.slice Ao63 t471.length co63)).setCell ⟨gb475, 2, none⟩ (.int .i64 t474)).heap[gb475]? = some (.cells #[.string t470, .slice Ao63 t471.length co63, .int .i64 t474] 53 (0, 0))) := ⟨by (with_reducible repeat refine bl ?_); refine blk_put (cs := #[.string t470, .slice Ao63 t471.length co63, .int .i64 0]) ?_ 2 _ rfl; (with_reducible repeat refine bl ?_); refine blk_put (cs := #[.string t470, .slice none 0 0, .int .i64 0]) ?_ 1 _ rfl; (with_reducible repeat refine bl ?_); refine blk_put (cs := #[.string (⟨#[]⟩ : ByteArray), .slice none 0 0, .int .i64 0]) ?_ 0 _ rfl; (with_reducible repeat refine bl ?_); exact BK475.out⟩
   have n9_ : Aside0 (Below w39.heap.size w39 (((w61.setCell ⟨gb475, 0, none⟩ (.string t470)).setCell ⟨gb475, 1, none⟩ (.slice Ao63 t471.length co63)).setCell ⟨gb475, 2, none⟩ (.int .i64 t474))) := ⟨(by first | exact bq HB.out | exact below_step HB0.out (bq HB.out))⟩
   clear HO453 HO456 HO462 HO466 HO473 BK446 BK457 BK468 BK475 HB
   generalize (((w61.setCell ⟨gb475, 0, none⟩ (.string t470)).setCell ⟨gb475, 1, none⟩ (.slice Ao63 t471.length co63)).setCell ⟨gb475, 2, none⟩ (.int .i64 t474)) = w61z at n0_ n1_ n2_ n3_ n4_ n5_ n6_ n7_ n8_ n9_ ⊢
   have HO453 := n0_
   have HO456 := n1_
   have HO462 := n2_
   have HO466 := n3_
   have HO473 := n4_
   have BK446 := n5_
   have BK457 := n6_
   have BK468 := n7_
   have BK475 := n8_
   have HB := n9_
   clear n0_ n1_ n2_ n3_ n4_ n5_ n6_ n7_ n8_ n9_
   obtain ⟨hczb_0, hczb_1, hczb_2⟩ := zc3 BK475
   obtain ⟨hfzb_0, hfzb_1, hfzb_2⟩ := zf3 BK475
   obtain ⟨hcz67_0, hcz67_1, hcz67_2⟩ := zc3 BK468
   obtain ⟨hfz67_0, hfz67_1, hfz67_2⟩ := zf3 BK468
   obtain ⟨Ao68, co68, eo68⟩ := Kd.R_slice HO462.out
   subst eo68
   try go_wp2_with (first | (go_at_call 18; (with_reducible refine (steeplelaw01_Texts.calls kj3 _ _ t459 _ _ t464 true _ ?side1 ?side2 ?side3 ?side4 A30.out).mono ?_); (case side1 => refine (Kd.R_reads' (e := 9) (base := w39.heap.size) (ok := fun k_ => (some k_ ≠ (.slice Ao55 t464.length co55 : Value).ownBlock ∧ some k_ ≠ (.slice Ao63 t471.length co63 : Value).ownBlock)) (n := t459.length) (c := co68) ?_).2.2; exact (kr HO462.out)); (case side2 => exact (Kd.R_reads' HO462.out).2.1); (case side3 => refine (Kd.R_reads' (e := 9) (base := w39.heap.size) (ok := fun k_ => (some k_ ≠ (.slice Ao68 t459.length co68 : Value).ownBlock ∧ some k_ ≠ (.slice Ao63 t471.length co63 : Value).ownBlock)) (n := t464.length) (c := co55) ?_).2.2; exact (kr HO466.out)); (case side4 => exact (Kd.R_reads' HO466.out).2.1); rintro e w' ⟨rfl, ⟨nd, rfl⟩⟩; have hnb69 := NB446_475.out; have hnc69 := NB475_446.out; obtain ⟨hcz70_0, hcz70_1, hcz70_2⟩ := zc3 BK446; obtain ⟨hfz70_0, hfz70_1, hfz70_2⟩ := zf3 BK446) | ((with_reducible refine gate_callee (f := 22) rfl ?_); refine goesL_ (some 95) rfl rfl Try.func22 (by kernel_rfl) rfl #[.pointer none, .int .i64 a0_0, .int .i64 a0_1, .string a1, .slice A0_2 l0_2.length c0_2] rfl (by (try simp only [mA, mC, mN]); first | done | rfl | (simp only [List.length_drop, List.length_take]; rfl)) ?_; (with_reducible refine (merkle_ClimbNil.calls kj3 a0_0 a0_1 a1 _ _ l0_2 t477 t478 t479 _ ?side1 ?side2 A33.out).mono ?_); (case side1 => exact Kd.C_below HR0_2.out (bq HB.out)); (case side2 => exact HC0_2.out); rintro e w71 ⟨v480, rfl, ho0, hb⟩; refine ⟨_, rfl, ?_⟩; have HO481 := Aside0.mk (Kd.R_lower (Kd.R_new' (Kd.R_new' (Kd.R_new' ho0 (Kd.R_lt (kr HO462.out))) (Kd.R_lt (kr HO466.out))) (Kd.R_lt (kr HO473.out))) (below_size (bq HB.out))); replace HO453 := Aside0.mk (Kd.R_below (kr HO453.out) hb); replace HO456 := Aside0.mk (Kd.S_below (by (with_reducible repeat (first | apply Kd.S_alloc | apply Kd.S_drewN | apply Kd.S_drew)); exact HO456.out) hb); replace HO462 := Aside0.mk (Kd.R_elder' (kr HO462.out) (Kd.R_base ho0) hb); replace HO466 := Aside0.mk (Kd.R_elder' (kr HO466.out) (Kd.R_base ho0) hb); replace HO473 := Aside0.mk (Kd.R_elder' (kr HO473.out) (Kd.R_base ho0) hb); replace BK446 := bb BK446 hb; replace BK457 := bb BK457 hb; replace BK468 := bb BK468 hb; replace BK475 := bb BK475 hb; replace HB := bh HB hb; (try clear hb); (try clear hb2); (try clear hk); (try clear hi); (try clear ho0)))
   replace HO453 := Aside0.mk (Kd.R_drew HO453.out)
   replace HO456 := Aside0.mk (Kd.S_drew HO456.out)
   replace HO462 := Aside0.mk (Kd.R_drew HO462.out)
   replace HO466 := Aside0.mk (Kd.R_drew HO466.out)
   replace HO473 := Aside0.mk (Kd.R_drew HO473.out)
   replace HO481 := Aside0.mk (Kd.R_drew HO481.out)
   replace BK446 := Aside0.mk (blk_drew BK446.out)
   replace BK457 := Aside0.mk (blk_drew BK457.out)
   replace BK468 := Aside0.mk (blk_drew BK468.out)
   replace BK475 := Aside0.mk (blk_drew BK475.out)
   replace HB := Aside0.mk (below_drew1 HB.out)
   refine start_ (n := 43) (S := fun w' => w'.cell? ⟨gb446, 0, none⟩ = some (.int .i64 a0_0) ∧ w'.cell? ⟨gb446, 1, none⟩ = some (.int .i64 a0_1) ∧ w'.cell? ⟨gb446, 2, none⟩ = some (.slice A0_2 l0_2.length c0_2) ∧ w'.cell? ⟨gb475, 0, none⟩ = some (.string t470) ∧ w'.cell? ⟨gb475, 1, none⟩ = some (.slice Ao63 t471.length co63) ∧ w'.cell? ⟨gb475, 2, none⟩ = some (.int .i64 t474)) (ds := []) #[nn, nn, nn, nn, nn, nn, nn, nn, nn, nn, nn, nn, nn, nn, nn, nn, nn, nn, nn, nn, nn, nn, nn, nn, nn, nn, nn, nn, nn, nn, nn, nn, nn, nn, nn, nn, nn, nn, nn, nn, nn, nn, nn] (by kernel_rfl) rfl rfl ⟨bc BK446 0 rfl, bc BK446 1 rfl, bc BK446 2 rfl, bc BK475 0 rfl, bc BK475 1 rfl, bc BK475 2 rfl⟩ (fun hHeld => ?_); refine with_tabW steeplelaw12_MerkleClimbs.tab11 steeplelaw12_MerkleClimbs.bits11 (fun HT_ HW_ => ?_)
   generalize w71.drew = w72 at HO453 HO456 HO462 HO466 HO473 HO481 BK446 BK457 BK468 BK475 HB hHeld ⊢
   refine pure_ (i := 0) (N := some 99) (v := ?_) (a' := ?_) #[yy, nn, nn, nn, nn, nn, nn, nn, nn, nn, nn, nn, nn, nn, nn, nn, nn, nn, nn, nn, nn, nn, nn, nn, nn, nn, nn, nn, nn, nn, nn, nn, nn, nn, nn, nn, nn, nn, nn, nn, nn, nn, nn] rfl rfl (any_of HT_.out (by kernel_rfl)) (fun _ _ _ h => h) (Or.inl ⟨by rfl, ?_⟩) ?_ ?_
   rotate_left
   ·intro w'
    go_simp
    with_reducible rfl
   rotate_left
   ·simp only [Act.put, sA, s0, sS, i64_w, i32_w]
    rfl
   refine pure_ (i := 1) (N := some 100) (v := ?_) (a' := ?_) #[yy, yy, nn, nn, nn, nn, nn, nn, nn, nn, nn, nn, nn, nn, nn, nn, nn, nn, nn, nn, nn, nn, nn, nn, nn, nn, nn, nn, nn, nn, nn, nn, nn, nn, nn, nn, nn, nn, nn, nn, nn, nn, nn] rfl rfl (any_of HT_.out (by kernel_rfl)) (fun _ _ _ h => h) (Or.inl ⟨by rfl, ?_⟩) ?_ ?_
   rotate_left
   ·intro w'
    go_simp
    with_reducible rfl
   rotate_left
   ·simp only [Act.put, sA, s0, sS, i64_w, i32_w]
    rfl
   refine pure_ (i := 2) (N := some 101) (v := ?_) (a' := ?_) #[yy, yy, yy, nn, nn, nn, nn, nn, nn, nn, nn, nn, nn, nn, nn, nn, nn, nn, nn, nn, nn, nn, nn, nn, nn, nn, nn, nn, nn, nn, nn, nn, nn, nn, nn, nn, nn, nn, nn, nn, nn, nn, nn] rfl rfl (any_of HT_.out (by kernel_rfl)) (fun _ _ _ h => h) (Or.inl ⟨by rfl, ?_⟩) ?_ ?_
   rotate_left
   ·intro w'
    go_simp
    with_reducible rfl
   rotate_left
   ·simp only [Act.put, sA, s0, sS, i64_w, i32_w]
    rfl
   refine pure_ (i := 3) (N := some 102) (v := ?_) (a' := ?_) #[yy, yy, yy, yy, nn, nn, nn, nn, nn, nn, nn, nn, nn, nn, nn, nn, nn, nn, nn, nn, nn, nn, nn, nn, nn, nn, nn, nn, nn, nn, nn, nn, nn, nn, nn, nn, nn, nn, nn, nn, nn, nn, nn] rfl rfl (any_of HT_.out (by kernel_rfl)) (fun _ _ _ h => h) (Or.inl ⟨by rfl, ?_⟩) ?_ ?_
   rotate_left
   ·intro w'
    go_simp
    with_reducible rfl
   rotate_left
   ·simp only [Act.put, sA, s0, sS, i64_w, i32_w]
    rfl
   refine pure_ (i := 4) (N := some 103) (v := ?_) (a' := ?_) #[yy, yy, yy, yy, yy, nn, nn, nn, nn, nn, nn, nn, nn, nn, nn, nn, nn, nn, nn, nn, nn, nn, nn, nn, nn, nn, nn, nn, nn, nn, nn, nn, nn, nn, nn, nn, nn, nn, nn, nn, nn, nn, nn] rfl rfl (any_of HT_.out (by kernel_rfl)) (fun _ _ _ h => h) (Or.inl ⟨by rfl, ?_⟩) ?_ ?_
   rotate_left
   ·intro w'
    go_simp
    with_reducible rfl
   rotate_left
   ·simp only [Act.put, sA, s0, sS, i64_w, i32_w]
    rfl
   refine pure_ (i := 5) (N := some 104) (v := ?_) (a' := ?_) #[yy, yy, yy, yy, yy, yy, nn, nn, nn, nn, nn, nn, nn, nn, nn, nn, nn, nn, nn, nn, nn, nn, nn, nn, nn, nn, nn, nn, nn, nn, nn, nn, nn, nn, nn, nn, nn, nn, nn, nn, nn, nn, nn] rfl rfl (any_of HT_.out (by kernel_rfl)) (fun _ _ _ h => h) (Or.inl ⟨by rfl, ?_⟩) ?_ ?_
   rotate_left
   ·intro w'
    go_simp
    with_reducible rfl
   rotate_left
   ·simp only [Act.put, sA, s0, sS, i64_w, i32_w]
    rfl
   refine pure_ (i := 7) (N := some 106) (v := ?_) (a' := ?_) #[yy, yy, yy, yy, yy, yy, nn, yy, nn, nn, nn, nn, nn, nn, nn, nn, nn, nn, nn, nn, nn, nn, nn, nn, nn, nn, nn, nn, nn, nn, nn, nn, nn, nn, nn, nn, nn, nn, nn, nn, nn, nn, nn] rfl rfl (any_of HT_.out (by kernel_rfl)) (fun _ _ _ h => h) (Or.inl ⟨by rfl, ?_⟩) ?_ ?_
   rotate_left
   ·intro w'
    go_simp
    with_reducible rfl
   rotate_left
   ·simp only [Act.put, sA, s0, sS, i64_w, i32_w]
    rfl
   refine pure_ (i := 9) (N := some 108) (v := ?_) (a' := ?_) #[yy, yy, yy, yy, yy, yy, nn, yy, nn, yy, nn, nn, nn, nn, nn, nn, nn, nn, nn, nn, nn, nn, nn, nn, nn, nn, nn, nn, nn, nn, nn, nn, nn, nn, nn, nn, nn, nn, nn, nn, nn, nn, nn] rfl rfl (any_of HT_.out (by kernel_rfl)) (fun _ _ _ h => h) (Or.inl ⟨by rfl, ?_⟩) ?_ ?_
   rotate_left
   ·intro w'
    go_simp
    with_reducible rfl
   rotate_left
   ·simp only [Act.put, sA, s0, sS, i64_w, i32_w]
    rfl
   refine pure_ (i := 10) (N := some 109) (v := ?_) (a' := ?_) #[yy, yy, yy, yy, yy, yy, nn, yy, nn, yy, yy, nn, nn, nn, nn, nn, nn, nn, nn, nn, nn, nn, nn, nn, nn, nn, nn, nn, nn, nn, nn, nn, nn, nn, nn, nn, nn, nn, nn, nn, nn, nn, nn] rfl rfl (any_of HT_.out (by kernel_rfl)) (fun _ _ _ h => h) (Or.inl ⟨by rfl, ?_⟩) ?_ ?_
   rotate_left
   ·intro w'
    go_simp
    with_reducible rfl
   rotate_left
   ·simp only [Act.put, sA, s0, sS, i64_w, i32_w]
    rfl
   refine pure_ (i := 13) (N := some 112) (v := ?_) (a' := ?_) #[yy, yy, yy, yy, yy, yy, nn, yy, nn, yy, yy, nn, nn, yy, nn, nn, nn, nn, nn, nn, nn, nn, nn, nn, nn, nn, nn, nn, nn, nn, nn, nn, nn, nn, nn, nn, nn, nn, nn, nn, nn, nn, nn] rfl rfl (any_of HT_.out (by kernel_rfl)) (fun _ _ _ h => h) (Or.inl ⟨by rfl, ?_⟩) ?_ ?_
   rotate_left
   ·intro w'
    go_simp
    with_reducible rfl
   rotate_left
   ·simp only [Act.put, sA, s0, sS, i64_w, i32_w]
    rfl
   refine take_ (i := 6) (N := some 105) (v := ?_) (a' := ?_) #[yy, yy, yy, yy, yy, yy, yy, yy, nn, yy, yy, nn, nn, yy, nn, nn, nn, nn, nn, nn, nn, nn, nn, nn, nn, nn, nn, nn, nn, nn, nn, nn, nn, nn, nn, nn, nn, nn, nn, nn, nn, nn, nn] rfl rfl (take_ofW HT_.out HW_.out (by kernel_rfl)) (fun _ _ _ h => h) (Or.inl ⟨by rfl, ?_⟩) hHeld ?_ ?_
   rotate_left
   ·rintro w' ⟨s0, s1, s2, s3, s4, s5⟩
    go_simp
    with_reducible rfl
   rotate_left
   ·simp only [Act.put, sA, s0, sS, i64_w, i32_w]
    rfl
   refine take_ (i := 8) (N := some 107) (v := ?_) (a' := ?_) #[yy, yy, yy, yy, yy, yy, yy, yy, yy, yy, yy, nn, nn, yy, nn, nn, nn, nn, nn, nn, nn, nn, nn, nn, nn, nn, nn, nn, nn, nn, nn, nn, nn, nn, nn, nn, nn, nn, nn, nn, nn, nn, nn] rfl rfl (take_ofW HT_.out HW_.out (by kernel_rfl)) (fun _ _ _ h => h) (Or.inl ⟨by rfl, ?_⟩) hHeld ?_ ?_
   rotate_left
   ·rintro w' ⟨s0, s1, s2, s3, s4, s5⟩
    go_simp
    with_reducible rfl
   rotate_left
   ·simp only [Act.put, sA, s0, sS, i64_w, i32_w]
    rfl
   refine take_ (i := 11) (N := some 110) (v := ?_) (a' := ?_) #[yy, yy, yy, yy, yy, yy, yy, yy, yy, yy, yy, yy, nn, yy, nn, nn, nn, nn, nn, nn, nn, nn, nn, nn, nn, nn, nn, nn, nn, nn, nn, nn, nn, nn, nn, nn, nn, nn, nn, nn, nn, nn, nn] rfl rfl (take_ofW HT_.out HW_.out (by kernel_rfl)) (fun _ _ _ h => h) (Or.inl ⟨by rfl, ?_⟩) hHeld ?_ ?_
   rotate_left
   ·rintro w' ⟨s0, s1, s2, s3, s4, s5⟩
    go_simp
    with_reducible rfl
   rotate_left
   ·simp only [Act.put, sA, s0, sS, i64_w, i32_w]
    rfl
   refine take_ (i := 14) (N := some 113) (v := ?_) (a' := ?_) #[yy, yy, yy, yy, yy, yy, yy, yy, yy, yy, yy, yy, nn, yy, yy, nn, nn, nn, nn, nn, nn, nn, nn, nn, nn, nn, nn, nn, nn, nn, nn, nn, nn, nn, nn, nn, nn, nn, nn, nn, nn, nn, nn] rfl rfl (take_ofW HT_.out HW_.out (by kernel_rfl)) (fun _ _ _ h => h) (Or.inl ⟨by rfl, ?_⟩) hHeld ?_ ?_
   rotate_left
   ·rintro w' ⟨s0, s1, s2, s3, s4, s5⟩
    go_simp
    with_reducible rfl
   rotate_left
   ·simp only [Act.put, sA, s0, sS, i64_w, i32_w]
    rfl
   refine pure_ (i := 15) (N := some 114) (v := ?_) (a' := ?_) #[yy, yy, yy, yy, yy, yy, yy, yy, yy, yy, yy, yy, nn, yy, yy, yy, nn, nn, nn, nn, nn, nn, nn, nn, nn, nn, nn, nn, nn, nn, nn, nn, nn, nn, nn, nn, nn, nn, nn, nn, nn, nn, nn] rfl rfl (any_of HT_.out (by kernel_rfl)) (fun _ _ _ h => h) (Or.inl ⟨by rfl, ?_⟩) ?_ ?_
   rotate_left
   ·intro w'
    go_simp
    with_reducible rfl
   rotate_left
   ·simp only [Act.put, sA, s0, sS, i64_w, i32_w]
    rfl
   refine one_ (i := 12) (N := some 111) #[yy, yy, yy, yy, yy, yy, yy, yy, yy, yy, yy, yy, yy, yy, yy, yy, nn, nn, nn, nn, nn, nn, nn, nn, nn, nn, nn, nn, nn, nn, nn, nn, nn, nn, nn, nn, nn, nn, nn, nn, nn, nn, nn] rfl rfl (one_of HT_.out (by kernel_rfl)) (by decide) (fun K hK => ?_)
   refine goes_ Try.func24 (by kernel_rfl) rfl #[.pointer (some ⟨gT, 0, none⟩), .string a1, .int .i64 a0_0, .int .i64 a0_1, .string a2, .slice A0_2 l0_2.length c0_2] (by rfl) rfl rfl (by (try simp only [mA, mC, mN]); first | done | rfl | (simp only [List.length_drop, List.length_take]; rfl)) ?_
   with_reducible refine (merkle_Check.calls (gT := gT) (hT := HT.out.below (bq HB.out)) kj3 t450 a1 a0_0 a0_1 a2 _ _ l0_2 t482 _ ?side1 ?side2 A35.out).mono ?_
   (case side1 => repeat (first | exact (Kd.C_below HR0_2.out HB.out) | (with_reducible refine Kd.C_alloc ?_ _) | (with_reducible refine Kd.C_drewN ?_ _) | (with_reducible refine Kd.C_drew ?_)))
   (case side2 => exact HC0_2.out)
   rintro e w73 ⟨rfl, hb⟩
   refine ⟨_, rfl, ?_⟩
   replace HO453 := kb HO453 hb
   replace HO456 := Aside0.mk (Kd.S_below (by (with_reducible repeat (first | apply Kd.S_alloc | apply Kd.S_drewN | apply Kd.S_drew)); exact HO456.out) hb)
   replace HO462 := kb HO462 hb
   replace HO466 := kb HO466 hb
   replace HO473 := kb HO473 hb
   replace HO481 := kb HO481 hb
   replace BK446 := bb BK446 hb
   replace BK457 := bb BK457 hb
   replace BK468 := bb BK468 hb
   replace BK475 := bb BK475 hb
   replace HB := bh HB hb
   (try clear hb)
   refine hK.out _ _ ⟨bc BK446 0 rfl, bc BK446 1 rfl, bc BK446 2 rfl, bc BK475 0 rfl, bc BK475 1 rfl, bc BK475 2 rfl⟩ (fun hHeld => ?_)
   clear hK K
   refine norm_ (a' := ?_) ?_ ?_
   rotate_left
   ·show Act.put _ (some 111) _ = _
    simp only [Act.put, sA, s0, sS, i64_w, i32_w]
    rfl
   refine pure_ (i := 16) (N := some 115) (v := ?_) (a' := ?_) #[yy, yy, yy, yy, yy, yy, yy, yy, yy, yy, yy, yy, yy, yy, yy, yy, yy, nn, nn, nn, nn, nn, nn, nn, nn, nn, nn, nn, nn, nn, nn, nn, nn, nn, nn, nn, nn, nn, nn, nn, nn, nn, nn] rfl rfl (any_of HT_.out (by kernel_rfl)) (fun _ _ _ h => h) (Or.inl ⟨by rfl, ?_⟩) ?_ ?_
   rotate_left
   ·intro w'
    go_simp
    with_reducible rfl
   rotate_left
   ·simp only [Act.put, sA, s0, sS, i64_w, i32_w]
    rfl
   refine pure_ (i := 17) (N := some 116) (v := ?_) (a' := ?_) #[yy, yy, yy, yy, yy, yy, yy, yy, yy, yy, yy, yy, yy, yy, yy, yy, yy, yy, nn, nn, nn, nn, nn, nn, nn, nn, nn, nn, nn, nn, nn, nn, nn, nn, nn, nn, nn, nn, nn, nn, nn, nn, nn] rfl rfl (any_of HT_.out (by kernel_rfl)) (fun _ _ _ h => h) (Or.inl ⟨by rfl, ?_⟩) ?_ ?_
   rotate_left
   ·intro w'
    go_simp
    with_reducible rfl
   rotate_left
   ·simp only [Act.put, sA, s0, sS, i64_w, i32_w]
    rfl
   refine pure_ (i := 19) (N := some 118) (v := ?_) (a' := ?_) #[yy, yy, yy, yy, yy, yy, yy, yy, yy, yy, yy, yy, yy, yy, yy, yy, yy, yy, nn, yy, nn, nn, nn, nn, nn, nn, nn, nn, nn, nn, nn, nn, nn, nn, nn, nn, nn, nn, nn, nn, nn, nn, nn] rfl rfl (any_of HT_.out (by kernel_rfl)) (fun _ _ _ h => h) (Or.inl ⟨by rfl, ?_⟩) ?_ ?_
   rotate_left
   ·intro w'
    go_simp
    with_reducible rfl
   rotate_left
   ·simp only [Act.put, sA, s0, sS, i64_w, i32_w]
    rfl
   refine take_ (i := 18) (N := some 117) (v := ?_) (a' := ?_) #[yy, yy, yy, yy, yy, yy, yy, yy, yy, yy, yy, yy, yy, yy, yy, yy, yy, yy, yy, yy, nn, nn, nn, nn, nn, nn, nn, nn, nn, nn, nn, nn, nn, nn, nn, nn, nn, nn, nn, nn, nn, nn, nn] rfl rfl (take_ofW HT_.out HW_.out (by kernel_rfl)) (fun _ _ _ h => h) (Or.inl ⟨by rfl, ?_⟩) hHeld ?_ ?_
   rotate_left
   ·rintro w' ⟨s0, s1, s2, s3, s4, s5⟩
    go_simp
    with_reducible rfl
   rotate_left
   ·simp only [Act.put, sA, s0, sS, i64_w, i32_w]
    rfl
   refine pure_ (i := 20) (N := some 119) (v := ?_) (a' := ?_) #[yy, yy, yy, yy, yy, yy, yy, yy, yy, yy, yy, yy, yy, yy, yy, yy, yy, yy, yy, yy, yy, nn, nn, nn, nn, nn, nn, nn, nn, nn, nn, nn, nn, nn, nn, nn, nn, nn, nn, nn, nn, nn, nn] rfl rfl (any_of HT_.out (by kernel_rfl)) (fun _ _ _ h => h) (Or.inl ⟨by rfl, ?_⟩) ?_ ?_
   rotate_left
   ·intro w'
    go_simp
    with_reducible rfl
   rotate_left
   ·simp only [Act.put, sA, s0, sS, i64_w, i32_w]
    rfl
   refine pure_ (i := 21) (N := some 120) (v := ?_) (a' := ?_) #[yy, yy, yy, yy, yy, yy, yy, yy, yy, yy, yy, yy, yy, yy, yy, yy, yy, yy, yy, yy, yy, yy, nn, nn, nn, nn, nn, nn, nn, nn, nn, nn, nn, nn, nn, nn, nn, nn, nn, nn, nn, nn, nn] rfl rfl (any_of HT_.out (by kernel_rfl)) (fun _ _ _ h => h) (Or.inl ⟨by rfl, ?_⟩) ?_ ?_
   rotate_left
   ·intro w'
    go_simp
    with_reducible rfl
   rotate_left
   ·simp only [Act.put, sA, s0, sS, i64_w, i32_w]
    rfl
   refine pure_ (i := 22) (N := some 121) (v := ?_) (a' := ?_) #[yy, yy, yy, yy, yy, yy, yy, yy, yy, yy, yy, yy, yy, yy, yy, yy, yy, yy, yy, yy, yy, yy, yy, nn, nn, nn, nn, nn, nn, nn, nn, nn, nn, nn, nn, nn, nn, nn, nn, nn, nn, nn, nn] rfl rfl (any_of HT_.out (by kernel_rfl)) (fun _ _ _ h => h) (Or.inl ⟨by rfl, ?_⟩) ?_ ?_
   rotate_left
   ·intro w'
    go_simp
    with_reducible rfl
   rotate_left
   ·simp only [Act.put, sA, s0, sS, i64_w, i32_w]
    rfl
   refine pure_ (i := 23) (N := some 122) (v := ?_) (a' := ?_) #[yy, yy, yy, yy, yy, yy, yy, yy, yy, yy, yy, yy, yy, yy, yy, yy, yy, yy, yy, yy, yy, yy, yy, yy, nn, nn, nn, nn, nn, nn, nn, nn, nn, nn, nn, nn, nn, nn, nn, nn, nn, nn, nn] rfl rfl (any_of HT_.out (by kernel_rfl)) (fun _ _ _ h => h) (Or.inl ⟨by rfl, ?_⟩) ?_ ?_
   rotate_left
   ·intro w'
    go_simp
    with_reducible rfl
   rotate_left
   ·simp only [Act.put, sA, s0, sS, i64_w, i32_w]
    rfl
   refine pure_ (i := 24) (N := some 123) (v := ?_) (a' := ?_) #[yy, yy, yy, yy, yy, yy, yy, yy, yy, yy, yy, yy, yy, yy, yy, yy, yy, yy, yy, yy, yy, yy, yy, yy, yy, nn, nn, nn, nn, nn, nn, nn, nn, nn, nn, nn, nn, nn, nn, nn, nn, nn, nn] rfl rfl (any_of HT_.out (by kernel_rfl)) (fun _ _ _ h => h) (Or.inl ⟨by rfl, ?_⟩) ?_ ?_
   rotate_left
   ·intro w'
    go_simp
    with_reducible rfl
   rotate_left
   ·simp only [Act.put, sA, s0, sS, i64_w, i32_w]
    rfl
   refine pure_ (i := 25) (N := some 124) (v := ?_) (a' := ?_) #[yy, yy, yy, yy, yy, yy, yy, yy, yy, yy, yy, yy, yy, yy, yy, yy, yy, yy, yy, yy, yy, yy, yy, yy, yy, yy, nn, nn, nn, nn, nn, nn, nn, nn, nn, nn, nn, nn, nn, nn, nn, nn, nn] rfl rfl (any_of HT_.out (by kernel_rfl)) (fun _ _ _ h => h) (Or.inl ⟨by rfl, ?_⟩) ?_ ?_
   rotate_left
   ·intro w'
    go_simp
    with_reducible rfl
   rotate_left
   ·simp only [Act.put, sA, s0, sS, i64_w, i32_w]
    rfl
   refine take_ (i := 26) (N := some 125) (v := ?_) (a' := ?_) #[yy, yy, yy, yy, yy, yy, yy, yy, yy, yy, yy, yy, yy, yy, yy, yy, yy, yy, yy, yy, yy, yy, yy, yy, yy, yy, yy, nn, nn, nn, nn, nn, nn, nn, nn, nn, nn, nn, nn, nn, nn, nn, nn] rfl rfl (take_ofW HT_.out HW_.out (by kernel_rfl)) (fun _ _ _ h => h) (Or.inl ⟨by rfl, ?_⟩) hHeld ?_ ?_
   rotate_left
   ·rintro w' ⟨s0, s1, s2, s3, s4, s5⟩
    go_simp
    with_reducible rfl
   rotate_left
   ·simp only [Act.put, sA, s0, sS, i64_w, i32_w]
    rfl
   refine pure_ (i := 27) (N := some 126) (v := ?_) (a' := ?_) #[yy, yy, yy, yy, yy, yy, yy, yy, yy, yy, yy, yy, yy, yy, yy, yy, yy, yy, yy, yy, yy, yy, yy, yy, yy, yy, yy, yy, nn, nn, nn, nn, nn, nn, nn, nn, nn, nn, nn, nn, nn, nn, nn] rfl rfl (any_of HT_.out (by kernel_rfl)) (fun _ _ _ h => h) (Or.inl ⟨by rfl, ?_⟩) ?_ ?_
   rotate_left
   ·intro w'
    go_simp
    with_reducible rfl
   rotate_left
   ·simp only [Act.put, sA, s0, sS, i64_w, i32_w]
    rfl
   refine pure_ (i := 28) (N := some 127) (v := ?_) (a' := ?_) #[yy, yy, yy, yy, yy, yy, yy, yy, yy, yy, yy, yy, yy, yy, yy, yy, yy, yy, yy, yy, yy, yy, yy, yy, yy, yy, yy, yy, yy, nn, nn, nn, nn, nn, nn, nn, nn, nn, nn, nn, nn, nn, nn] rfl rfl (any_of HT_.out (by kernel_rfl)) (fun _ _ _ h => h) (Or.inl ⟨by rfl, ?_⟩) ?_ ?_
   rotate_left
   ·intro w'
    go_simp
    with_reducible rfl
   rotate_left
   ·simp only [Act.put, sA, s0, sS, i64_w, i32_w]
    rfl
   refine pure_ (i := 29) (N := some 128) (v := ?_) (a' := ?_) #[yy, yy, yy, yy, yy, yy, yy, yy, yy, yy, yy, yy, yy, yy, yy, yy, yy, yy, yy, yy, yy, yy, yy, yy, yy, yy, yy, yy, yy, yy, nn, nn, nn, nn, nn, nn, nn, nn, nn, nn, nn, nn, nn] rfl rfl (any_of HT_.out (by kernel_rfl)) (fun _ _ _ h => h) (Or.inl ⟨by rfl, ?_⟩) ?_ ?_
   rotate_left
   ·intro w'
    go_simp
    with_reducible rfl
   rotate_left
   ·simp only [Act.put, sA, s0, sS, i64_w, i32_w]
    rfl
   refine pure_ (i := 30) (N := some 129) (v := ?_) (a' := ?_) #[yy, yy, yy, yy, yy, yy, yy, yy, yy, yy, yy, yy, yy, yy, yy, yy, yy, yy, yy, yy, yy, yy, yy, yy, yy, yy, yy, yy, yy, yy, yy, nn, nn, nn, nn, nn, nn, nn, nn, nn, nn, nn, nn] rfl rfl (any_of HT_.out (by kernel_rfl)) (fun _ _ _ h => h) (Or.inl ⟨by rfl, ?_⟩) ?_ ?_
   rotate_left
   ·intro w'
    go_simp
    with_reducible rfl
   rotate_left
   ·simp only [Act.put, sA, s0, sS, i64_w, i32_w]
    rfl
   refine pure_ (i := 32) (N := some 131) (v := ?_) (a' := ?_) #[yy, yy, yy, yy, yy, yy, yy, yy, yy, yy, yy, yy, yy, yy, yy, yy, yy, yy, yy, yy, yy, yy, yy, yy, yy, yy, yy, yy, yy, yy, yy, nn, yy, nn, nn, nn, nn, nn, nn, nn, nn, nn, nn] rfl rfl (any_of HT_.out (by kernel_rfl)) (fun _ _ _ h => h) (Or.inl ⟨by rfl, ?_⟩) ?_ ?_
   rotate_left
   ·intro w'
    go_simp
    with_reducible rfl
   rotate_left
   ·simp only [Act.put, sA, s0, sS, i64_w, i32_w]
    rfl
   refine pure_ (i := 34) (N := some 133) (v := ?_) (a' := ?_) #[yy, yy, yy, yy, yy, yy, yy, yy, yy, yy, yy, yy, yy, yy, yy, yy, yy, yy, yy, yy, yy, yy, yy, yy, yy, yy, yy, yy, yy, yy, yy, nn, yy, nn, yy, nn, nn, nn, nn, nn, nn, nn, nn] rfl rfl (any_of HT_.out (by kernel_rfl)) (fun _ _ _ h => h) (Or.inl ⟨by rfl, ?_⟩) ?_ ?_
   rotate_left
   ·intro w'
    go_simp
    with_reducible rfl
   rotate_left
   ·simp only [Act.put, sA, s0, sS, i64_w, i32_w]
    rfl
   refine pure_ (i := 36) (N := some 135) (v := ?_) (a' := ?_) #[yy, yy, yy, yy, yy, yy, yy, yy, yy, yy, yy, yy, yy, yy, yy, yy, yy, yy, yy, yy, yy, yy, yy, yy, yy, yy, yy, yy, yy, yy, yy, nn, yy, nn, yy, nn, yy, nn, nn, nn, nn, nn, nn] rfl rfl (any_of HT_.out (by kernel_rfl)) (fun _ _ _ h => h) (Or.inl ⟨by rfl, ?_⟩) ?_ ?_
   rotate_left
   ·intro w'
    go_simp
    with_reducible rfl
   rotate_left
   ·simp only [Act.put, sA, s0, sS, i64_w, i32_w]
    rfl
   refine pure_ (i := 37) (N := some 136) (v := ?_) (a' := ?_) #[yy, yy, yy, yy, yy, yy, yy, yy, yy, yy, yy, yy, yy, yy, yy, yy, yy, yy, yy, yy, yy, yy, yy, yy, yy, yy, yy, yy, yy, yy, yy, nn, yy, nn, yy, nn, yy, yy, nn, nn, nn, nn, nn] rfl rfl (any_of HT_.out (by kernel_rfl)) (fun _ _ _ h => h) (Or.inl ⟨by rfl, ?_⟩) ?_ ?_
   rotate_left
   ·intro w'
    go_simp
    with_reducible rfl
   rotate_left
   ·simp only [Act.put, sA, s0, sS, i64_w, i32_w]
    rfl
   refine take_ (i := 31) (N := some 130) (v := ?_) (a' := ?_) #[yy, yy, yy, yy, yy, yy, yy, yy, yy, yy, yy, yy, yy, yy, yy, yy, yy, yy, yy, yy, yy, yy, yy, yy, yy, yy, yy, yy, yy, yy, yy, yy, yy, nn, yy, nn, yy, yy, nn, nn, nn, nn, nn] rfl rfl (take_ofW HT_.out HW_.out (by kernel_rfl)) (fun _ _ _ h => h) (Or.inl ⟨by rfl, ?_⟩) hHeld ?_ ?_
   rotate_left
   ·rintro w' ⟨s0, s1, s2, s3, s4, s5⟩
    go_simp
    with_reducible rfl
   rotate_left
   ·simp only [Act.put, sA, s0, sS, i64_w, i32_w]
    rfl
   refine take_ (i := 33) (N := some 132) (v := ?_) (a' := ?_) #[yy, yy, yy, yy, yy, yy, yy, yy, yy, yy, yy, yy, yy, yy, yy, yy, yy, yy, yy, yy, yy, yy, yy, yy, yy, yy, yy, yy, yy, yy, yy, yy, yy, yy, yy, nn, yy, yy, nn, nn, nn, nn, nn] rfl rfl (take_ofW HT_.out HW_.out (by kernel_rfl)) (fun _ _ _ h => h) (Or.inl ⟨by rfl, ?_⟩) hHeld ?_ ?_
   rotate_left
   ·rintro w' ⟨s0, s1, s2, s3, s4, s5⟩
    go_simp
    with_reducible rfl
   rotate_left
   ·simp only [Act.put, sA, s0, sS, i64_w, i32_w]
    rfl
   refine take_ (i := 35) (N := some 134) (v := ?_) (a' := ?_) #[yy, yy, yy, yy, yy, yy, yy, yy, yy, yy, yy, yy, yy, yy, yy, yy, yy, yy, yy, yy, yy, yy, yy, yy, yy, yy, yy, yy, yy, yy, yy, yy, yy, yy, yy, yy, yy, yy, nn, nn, nn, nn, nn] rfl rfl (take_ofW HT_.out HW_.out (by kernel_rfl)) (fun _ _ _ h => h) (Or.inl ⟨by rfl, ?_⟩) hHeld ?_ ?_
   rotate_left
   ·rintro w' ⟨s0, s1, s2, s3, s4, s5⟩
    go_simp
    with_reducible rfl
   rotate_left
   ·simp only [Act.put, sA, s0, sS, i64_w, i32_w]
    rfl
   refine take_ (i := 38) (N := some 137) (v := ?_) (a' := ?_) #[yy, yy, yy, yy, yy, yy, yy, yy, yy, yy, yy, yy, yy, yy, yy, yy, yy, yy, yy, yy, yy, yy, yy, yy, yy, yy, yy, yy, yy, yy, yy, yy, yy, yy, yy, yy, yy, yy, yy, nn, nn, nn, nn] rfl rfl (take_ofW HT_.out HW_.out (by kernel_rfl)) (fun _ _ _ h => h) (Or.inl ⟨by rfl, ?_⟩) hHeld ?_ ?_
   rotate_left
   ·rintro w' ⟨s0, s1, s2, s3, s4, s5⟩
    go_simp
    with_reducible rfl
   rotate_left
   ·simp only [Act.put, sA, s0, sS, i64_w, i32_w]
    rfl
   refine one_ (i := 39) (N := some 138) #[yy, yy, yy, yy, yy, yy, yy, yy, yy, yy, yy, yy, yy, yy, yy, yy, yy, yy, yy, yy, yy, yy, yy, yy, yy, yy, yy, yy, yy, yy, yy, yy, yy, yy, yy, yy, yy, yy, yy, yy, nn, nn, nn] rfl rfl (one_of HT_.out (by kernel_rfl)) (by decide) (fun K hK => ?_)
   refine goes_ Try.func24 (by kernel_rfl) rfl #[.pointer (some ⟨gT, 0, none⟩), .string t470, .int .i64 a0_0, .int .i64 a0_1, .string a2, .slice A0_2 l0_2.length c0_2] (by rfl) rfl rfl (by (try simp only [mA, mC, mN]); first | done | rfl | (simp only [List.length_drop, List.length_take]; rfl)) ?_
   with_reducible refine (merkle_Check.calls (gT := gT) (hT := HT.out.below (bq HB.out)) kj3 t450 t470 a0_0 a0_1 a2 _ _ l0_2 t483 _ ?side1 ?side2 A38.out).mono ?_
   (case side1 => repeat (first | exact (Kd.C_below HR0_2.out HB.out) | (with_reducible refine Kd.C_alloc ?_ _) | (with_reducible refine Kd.C_drewN ?_ _) | (with_reducible refine Kd.C_drew ?_)))
   (case side2 => exact HC0_2.out)
   rintro e w74 ⟨rfl, hb⟩
   refine ⟨_, rfl, ?_⟩
   replace HO453 := kb HO453 hb
   replace HO456 := Aside0.mk (Kd.S_below (by (with_reducible repeat (first | apply Kd.S_alloc | apply Kd.S_drewN | apply Kd.S_drew)); exact HO456.out) hb)
   replace HO462 := kb HO462 hb
   replace HO466 := kb HO466 hb
   replace HO473 := kb HO473 hb
   replace HO481 := kb HO481 hb
   replace BK446 := bb BK446 hb
   replace BK457 := bb BK457 hb
   replace BK468 := bb BK468 hb
   replace BK475 := bb BK475 hb
   replace HB := bh HB hb
   (try clear hb)
   refine hK.out _ _ ⟨bc BK446 0 rfl, bc BK446 1 rfl, bc BK446 2 rfl, bc BK475 0 rfl, bc BK475 1 rfl, bc BK475 2 rfl⟩ (fun hHeld => ?_)
   clear hK K
   refine norm_ (a' := ?_) ?_ ?_
   rotate_left
   ·show Act.put _ (some 138) _ = _
    simp only [Act.put, sA, s0, sS, i64_w, i32_w]
    rfl
   refine pure_ (i := 40) (N := some 139) (v := ?_) (a' := ?_) #[yy, yy, yy, yy, yy, yy, yy, yy, yy, yy, yy, yy, yy, yy, yy, yy, yy, yy, yy, yy, yy, yy, yy, yy, yy, yy, yy, yy, yy, yy, yy, yy, yy, yy, yy, yy, yy, yy, yy, yy, yy, nn, nn] rfl rfl (any_of HT_.out (by kernel_rfl)) (fun _ _ _ h => h) (Or.inl ⟨by rfl, ?_⟩) ?_ ?_
   rotate_left
   ·intro w'
    go_simp
    with_reducible rfl
   rotate_left
   ·simp only [Act.put, sA, s0, sS, i64_w, i32_w]
    rfl
   refine pure_ (i := 41) (N := some 140) (v := ?_) (a' := ?_) #[yy, yy, yy, yy, yy, yy, yy, yy, yy, yy, yy, yy, yy, yy, yy, yy, yy, yy, yy, yy, yy, yy, yy, yy, yy, yy, yy, yy, yy, yy, yy, yy, yy, yy, yy, yy, yy, yy, yy, yy, yy, yy, nn] rfl rfl (any_of HT_.out (by kernel_rfl)) (fun _ _ _ h => h) (Or.inl ⟨by rfl, ?_⟩) ?_ ?_
   rotate_left
   ·intro w'
    go_simp
    with_reducible rfl
   rotate_left
   ·simp only [Act.put, sA, s0, sS, i64_w, i32_w]
    rfl
   refine pure_ (i := 42) (N := some 6) (v := ?_) (a' := ?_) #[yy, yy, yy, yy, yy, yy, yy, yy, yy, yy, yy, yy, yy, yy, yy, yy, yy, yy, yy, yy, yy, yy, yy, yy, yy, yy, yy, yy, yy, yy, yy, yy, yy, yy, yy, yy, yy, yy, yy, yy, yy, yy, yy] rfl rfl (any_of HT_.out (by kernel_rfl)) (fun _ _ _ h => h) (Or.inl ⟨by rfl, ?_⟩) ?_ ?_
   rotate_left
   ·intro w'
    go_simp
    with_reducible rfl
   rotate_left
   ·simp only [Act.put, sA, s0, sS, i64_w, i32_w]
    rfl
   refine done_ (done_of HT_.out (by kernel_rfl)) ?_
   try go_wp2
   go_ret
   exact ⟨by first | rfl | (simp [errW_none, errW_some] <;> rfl) | (simp [*, errW_none, errW_some] <;> rfl), (by first | exact bq HB.out | exact below_step HB0.out (bq HB.out))⟩
/-- THE ONE PURE STATEMENT of steeplelaw12_MerkleClimbs. -/
def steeplelaw12_MerkleClimbs.Pure : Prop := ∀ (x0 : S48) (x1 : ByteArray) (x2 : ByteArray), ((Lit.int .i64 x0.f0).wf = true ∧ (Lit.int .i64 x0.f1).wf = true ∧ (x0.f2.length ≤ maxLen ∧ x0.f2.length * 16 ≤ 140737488351232 ∧ ∀ y0 ∈ x0.f2, y0.size ≤ 140737488351232)) → x1.size ≤ 140737488351232 → x2.size ≤ 140737488351232 → ∃ k, steeplelaw12_MerkleClimbs.f k x0.f0 x0.f1 x0.f2 x1 x2 = some true
end Go.Proofs.Ytmibjgjgfombaaa.P
