/- Written by a program of this session: functions that the law reaches, as Lean functions, and that the code comes to their answers. Conditions: those that each theorem names. -/
import Derived.Test.YtmibjgjgfombaaaPx0
import Derived.Test.YtmibjgjgfombaaaPx1
import Derived.Test.YtmibjgjgfombaaaPx5
import Derived.Test.YtmibjgjgfombaaaPx6
import Derived.Test.YtmibjgjgfombaaaPx6a
import Derived.Test.YtmibjgjgfombaaaPx9
import Derived.Test.YtmibjgjgfombaaaPx12
import Derived.Test.YtmibjgjgfombaaaPx13
import Derived.Test.YtmibjgjgfombaaaPx14
import Derived.Test.YtmibjgjgfombaaaHSu
import Derived.Test.YtmibjgjgfombaaaHRows
-- HND
-- HND2
-- FIX15
namespace Go.Proofs.Ytmibjgjgfombaaa.P
open Go.RowKit Go.Proofs.YtmibjgjgfombaaaX Go.Proofs.YtmibjgjgfombaaaW.PrintWords Go.Proofs.YtmibjgjgfombaaaW.PrintLast Go.Proofs.YtmibjgjgfombaaaW.PrintMore
attribute [local go_sem] max2_int min2_int max_two min_two max_three min_three max_four min_four   -- for this text's walks alone
set_option linter.unusedVariables false
set_option linter.unusedSimpArgs false

/-! ### steeplelaw12_MerkleRoots: function 3 -/
mutual
def steeplelaw12_MerkleRoots.j0 : Nat → List ByteArray → Int → Bool → Option (Bool)
 | 0, _, _, _ => none
 | k + 1, x0, x1, x19 => if x19 = true then ((steeplelaw12_awake.f k).bind fun t382 => (some t382)) else ((perm_Make.f).bind fun t383 => ((merkle_Rows.f t383 x0).bind fun bt384 => ((merkle_Root.f t383 x0).bind fun bt388 => ((merkle_Path.f k bt384.1 x1).bind fun bt390 => ((steepleref12_Height.f k (x0.length : Int)).bind fun t394 => (if t394 < 0 then (if bt384.2 = 6 then (if bt388.2 = 6 then (if (bt384.1.length : Int) = 0 then (if bt388.1.toList = ([] : List UInt8) then (some (bt390.2 == 4)) else (none)) else (none)) else (none)) else (none)) else ((steepleref10_Make.f k).bind fun bt395 => (if bt384.2 = 0 then (if bt388.2 = 0 then ((steepleref12_Root.f k bt395.1 bt395.2 x0).bind fun t402 => (if bt388.1.toList = t402.toList then ((steepleref12_Height.f k (x0.length : Int)).bind fun t403 => (if (bt384.1.length : Int) = (wrap64 (t403 + 1)) then (if x1 < 0 then (steeplelaw12_MerkleRoots.j1 k x0 x1 bt384.1 bt390.1 bt390.2 true bt395.1 bt395.2) else (steeplelaw12_MerkleRoots.j1 k x0 x1 bt384.1 bt390.1 bt390.2 (decide (x1 ≥ (x0.length : Int))) bt395.1 bt395.2)) else (none))) else (none))) else (none)) else (none)))))))))
def steeplelaw12_MerkleRoots.j1 : Nat → List ByteArray → Int → List (List ByteArray) → List ByteArray → Int → Bool → List Int → List (List Int) → Option (Bool)
 | 0, _, _, _, _, _, _, _, _ => none
 | k + 1, x0, x1, x6, x10, x11, x93, x402000, x402001 => if x93 = true then (if x11 = 4 then (some ((x10.length : Int) == 0)) else (none)) else (if x11 = 0 then ((steepleref12_Path.f k x402000 x402001 x0 x1).bind fun t404 => ((steeplelaw01_Texts.f k x10 t404).bind fun t407 => (if t407 = true then (if 0 < (x6.length : Int) then (if 0 ≤ x1 then (if x1 < ((rd_L1 x6 0).length : Int) then (if x1 < (x0.length : Int) then ((steepleref12_Leaf.f k x402000 x402001 (rdOf ByteArray.empty x0 x1)).bind fun t411 => (some ((rdOf ByteArray.empty (rd_L1 x6 0) x1).toList == t411.toList))) else (none)) else (none)) else (none)) else (none)) else (none)))) else (none))
end
def steeplelaw12_MerkleRoots.f (k : Nat) (l0 : List ByteArray) (a1 : Int) : Option (Bool) := (steeplelaw01_Few.f k l0 16 100).bind fun t380 => (if t380 = true then ((steeplelaw12_awake.f k).bind fun t381 => (steeplelaw12_MerkleRoots.j0 k l0 a1 (!t381))) else (steeplelaw12_MerkleRoots.j0 k l0 a1 true))
theorem steeplelaw12_MerkleRoots.mono_l : ∀ k, (∀ y0 y1 y2, LeO (steeplelaw12_MerkleRoots.j0 k y0 y1 y2) (steeplelaw12_MerkleRoots.j0 (k + 1) y0 y1 y2)) ∧ (∀ y0 y1 y2 y3 y4 y5 y6 y7, LeO (steeplelaw12_MerkleRoots.j1 k y0 y1 y2 y3 y4 y5 y6 y7) (steeplelaw12_MerkleRoots.j1 (k + 1) y0 y1 y2 y3 y4 y5 y6 y7))
 | 0 => ⟨fun _ _ _ r h => by simp [steeplelaw12_MerkleRoots.j0] at h, fun _ _ _ _ _ _ _ _ r h => by simp [steeplelaw12_MerkleRoots.j1] at h⟩
 | k + 1 => by
  obtain ⟨ih0, ih1⟩ := steeplelaw12_MerkleRoots.mono_l k
  refine ⟨?_, ?_⟩
  ·intro y0 y1 y2
   unfold steeplelaw12_MerkleRoots.j0
   repeat' first
   | (with_reducible exact ih0 _ _ _)
   | (with_reducible exact ih1 _ _ _ _ _ _ _ _)
   | (with_reducible exact merkle_Path.mono _ _ _)
   | (with_reducible exact steeplelaw01_Few.mono _ _ _ _)
   | (with_reducible exact steeplelaw01_Texts.mono _ _ _)
   | (with_reducible exact steeplelaw12_awake.mono _)
   | (with_reducible exact steepleref10_Make.mono _)
   | (with_reducible exact steepleref12_Height.mono _ _)
   | (with_reducible exact steepleref12_Leaf.mono _ _ _ _)
   | (with_reducible exact steepleref12_Path.mono _ _ _ _ _)
   | (with_reducible exact steepleref12_Root.mono _ _ _ _)
   | (with_reducible exact LeO.refl _)
   | (with_reducible exact LeO.none _)
   | (with_reducible refine LeO.ite ?_ ?_)
   | (with_reducible refine LeO.bind ?_ (fun _ => ?_))
   | exact ih0 _ _ _
   | exact ih1 _ _ _ _ _ _ _ _
   | exact merkle_Path.mono _ _ _
   | exact steeplelaw01_Few.mono _ _ _ _
   | exact steeplelaw01_Texts.mono _ _ _
   | exact steeplelaw12_awake.mono _
   | exact steepleref10_Make.mono _
   | exact steepleref12_Height.mono _ _
   | exact steepleref12_Leaf.mono _ _ _ _
   | exact steepleref12_Path.mono _ _ _ _ _
   | exact steepleref12_Root.mono _ _ _ _
   | exact LeO.none _
   | refine LeO.ite ?_ ?_
   | refine LeO.bind ?_ (fun _ => ?_)
  ·intro y0 y1 y2 y3 y4 y5 y6 y7
   unfold steeplelaw12_MerkleRoots.j1
   repeat' first
   | (with_reducible exact ih0 _ _ _)
   | (with_reducible exact ih1 _ _ _ _ _ _ _ _)
   | (with_reducible exact merkle_Path.mono _ _ _)
   | (with_reducible exact steeplelaw01_Few.mono _ _ _ _)
   | (with_reducible exact steeplelaw01_Texts.mono _ _ _)
   | (with_reducible exact steeplelaw12_awake.mono _)
   | (with_reducible exact steepleref10_Make.mono _)
   | (with_reducible exact steepleref12_Height.mono _ _)
   | (with_reducible exact steepleref12_Leaf.mono _ _ _ _)
   | (with_reducible exact steepleref12_Path.mono _ _ _ _ _)
   | (with_reducible exact steepleref12_Root.mono _ _ _ _)
   | (with_reducible exact LeO.refl _)
   | (with_reducible exact LeO.none _)
   | (with_reducible refine LeO.ite ?_ ?_)
   | (with_reducible refine LeO.bind ?_ (fun _ => ?_))
   | exact ih0 _ _ _
   | exact ih1 _ _ _ _ _ _ _ _
   | exact merkle_Path.mono _ _ _
   | exact steeplelaw01_Few.mono _ _ _ _
   | exact steeplelaw01_Texts.mono _ _ _
   | exact steeplelaw12_awake.mono _
   | exact steepleref10_Make.mono _
   | exact steepleref12_Height.mono _ _
   | exact steepleref12_Leaf.mono _ _ _ _
   | exact steepleref12_Path.mono _ _ _ _ _
   | exact steepleref12_Root.mono _ _ _ _
   | exact LeO.none _
   | refine LeO.ite ?_ ?_
   | refine LeO.bind ?_ (fun _ => ?_)
theorem steeplelaw12_MerkleRoots.mono : ∀ a0 a1 k, LeO (steeplelaw12_MerkleRoots.f k a0 a1) (steeplelaw12_MerkleRoots.f (k + 1) a0 a1) := by
 intro a0 a1 k
 obtain ⟨ih0, ih1⟩ := steeplelaw12_MerkleRoots.mono_l k
 unfold steeplelaw12_MerkleRoots.f
 repeat' first
   | (with_reducible exact ih0 _ _ _)
   | (with_reducible exact ih1 _ _ _ _ _ _ _ _)
   | (with_reducible exact merkle_Path.mono _ _ _)
   | (with_reducible exact steeplelaw01_Few.mono _ _ _ _)
   | (with_reducible exact steeplelaw01_Texts.mono _ _ _)
   | (with_reducible exact steeplelaw12_awake.mono _)
   | (with_reducible exact steepleref10_Make.mono _)
   | (with_reducible exact steepleref12_Height.mono _ _)
   | (with_reducible exact steepleref12_Leaf.mono _ _ _ _)
   | (with_reducible exact steepleref12_Path.mono _ _ _ _ _)
   | (with_reducible exact steepleref12_Root.mono _ _ _ _)
   | (with_reducible exact LeO.refl _)
   | (with_reducible exact LeO.none _)
   | (with_reducible refine LeO.ite ?_ ?_)
   | (with_reducible refine LeO.bind ?_ (fun _ => ?_))
   | exact ih0 _ _ _
   | exact ih1 _ _ _ _ _ _ _ _
   | exact merkle_Path.mono _ _ _
   | exact steeplelaw01_Few.mono _ _ _ _
   | exact steeplelaw01_Texts.mono _ _ _
   | exact steeplelaw12_awake.mono _
   | exact steepleref10_Make.mono _
   | exact steepleref12_Height.mono _ _
   | exact steepleref12_Leaf.mono _ _ _ _
   | exact steepleref12_Path.mono _ _ _ _ _
   | exact steepleref12_Root.mono _ _ _ _
   | exact LeO.none _
   | refine LeO.ite ?_ ?_
   | refine LeO.bind ?_ (fun _ => ?_)
def steeplelaw12_MerkleRoots.T14 : Bool × List (List Nat × List Nat) := (true, [([], []), ([0], [0]), ([1], [1]), ([2], [2]), ([2], [2]), ([2], [2]), ([2], [2]), ([4, 5, 6, 2, 2], [2, 4, 5, 6]), ([3, 7, 7, 2], [2, 3, 7]), ([2, 8], [2, 8]), ([9, 8], [9]), ([10], [10]), ([11, 10], [10, 11]), ([12, 10], [10, 12]), ([10], [10]), ([13, 14, 10], [10, 13, 14]), ([15, 10], [10, 15]), ([10], [10]), ([10], [10]), ([10], [10]), ([18, 19, 10], [10, 18, 19]), ([20, 10], [10, 20]), ([17, 21, 10, 10], [10, 17, 21]), ([16, 22, 10], [10, 16, 22]), ([10, 23], [10, 23]), ([24, 22, 0, 1, 2, 3, 4, 5, 6, 7, 8, 9, 10, 11, 12, 13, 14, 15, 16, 17, 18, 19, 20, 21, 22, 23, 24], [24])])
def steeplelaw12_MerkleRoots.B14 : List Nat := [0, 1, 3, 7, 7, 7, 7, 119, 255, 511, 1023, 2047, 4095, 8191, 2047, 32767, 65535, 2047, 2047, 2047, 788479, 1837055, 4065279, 8388607, 16777215, 33554431]
theorem steeplelaw12_MerkleRoots.tab14 : rtab .any (opsOf Try.f3 14) = steeplelaw12_MerkleRoots.T14 := by kernel_rfl
theorem steeplelaw12_MerkleRoots.bits14 : waitsOk steeplelaw12_MerkleRoots.T14.2 steeplelaw12_MerkleRoots.B14 = true := by kernel_rfl
set_option maxHeartbeats 8000000 in
set_option maxRecDepth 100000 in
theorem steeplelaw12_MerkleRoots.calls (k : Nat) (A0 : Option Addr) (c0 : Nat) (l0 : List ByteArray) (a1 : Int) (r : Bool) (w : World) (hr0 : Kd.C Kd.string w A0 l0.length l0) (hc0 : l0.length ≤ c0) (h : steeplelaw12_MerkleRoots.f k l0 a1 = some r) :
  Calls Try.prog 3 #[.slice A0 l0.length c0, .int .i64 a1] w fun e w' => e = .returned (.bool r) ∧ Below w.heap.size w w' := by
 have hu39 := Try.underlying39
 have HR0 := Aside0.mk hr0
 have HC0 := Aside0.mk hc0
 clear hr0 hc0
 have HB := Aside0.mk (Below.refl w.heap.size w)
 have H : ((steeplelaw01_Few.f k l0 16 100).bind fun t380 => (if t380 = true then ((steeplelaw12_awake.f k).bind fun t381 => (steeplelaw12_MerkleRoots.j0 k l0 a1 (!t381))) else (steeplelaw12_MerkleRoots.j0 k l0 a1 true))) = some r := h
 clear h
 have HC3 := Aside0.mk H
 clear H
 go_enter Try.func3, Try.ntmps3
 go_upto_region 1 with (fail)
 go_cut [19] (fun v19 wc => ∃ (kq : Nat) (x19_2 : Bool), v19 = .bool x19_2 ∧ Aside0 (steeplelaw12_MerkleRoots.j0 kq l0 a1 x19_2 = some r) ∧ Aside0 (kq ≤ k) ∧ Aside0 (Below w.heap.size w wc))
 case first =>
  have H := HC3.out
  clear HC3
  replace H := Option.bind_eq_some_iff.mp H
  obtain ⟨t380, A40, H⟩ := H
  replace H : (if t380 = true then ((steeplelaw12_awake.f k).bind fun t381 => (steeplelaw12_MerkleRoots.j0 k l0 a1 (!t381))) else (steeplelaw12_MerkleRoots.j0 k l0 a1 true)) = some r := H
  have A4 := Aside0.mk A40
  clear A40
  by_cases c5 : t380 = true
  ·subst c5
   have H1 : ((steeplelaw12_awake.f k).bind fun t381 => (steeplelaw12_MerkleRoots.j0 k l0 a1 (!t381))) = some r := by rw [if_pos rfl] at H; exact H
   clear H
   have H := H1
   clear H1
   replace H := Option.bind_eq_some_iff.mp H
   obtain ⟨t381, A60, H⟩ := H
   replace H : (steeplelaw12_MerkleRoots.j0 k l0 a1 (!t381)) = some r := H
   have A6 := Aside0.mk A60
   clear A60
   have H' := Aside0.mk H
   clear H
   go_wp2_with (first | ((with_reducible refine gate_callee (f := 9) rfl ?_); refine goesL_ (some 14) rfl rfl Try.func9 (by kernel_rfl) rfl #[.slice A0 l0.length c0, .int .i64 16, .int .i64 100] rfl (by (try simp only [List.map_toArray, List.map_cons, List.map_nil]); first | done | rfl | (simp only [List.length_drop, List.length_take]; rfl)) ?_; (with_reducible refine (steeplelaw01_Few.calls k _ _ l0 16 100 true _ ?side1 ?side2 A4.out).mono ?_); (case side1 => repeat (first | exact (Kd.C_below HR0.out HB.out) | (with_reducible refine Kd.C_alloc ?_ _) | (with_reducible refine Kd.C_drewN ?_ _) | (with_reducible refine Kd.C_drew ?_))); (case side2 => exact HC0.out); rintro e w' ⟨rfl, ⟨nd, rfl⟩⟩; refine ⟨_, rfl, ?_⟩) | (go_at_call 10; (with_reducible refine (steeplelaw12_awake.calls k  t381 _ A6.out).mono ?_); rintro e w7 ⟨rfl, hb⟩; replace HB := bh HB hb; (try clear hb); (try clear hb2); (try clear hk); (try clear hi)))
   go_meet
   case rel => exact ⟨_, (!t381), (by first | rfl | (simp; done) | (simp [*]; done)), H', ⟨by first | omega | exact Nat.le_refl _⟩, ⟨(by first | exact bq HB.out | exact below_step HB0.out (bq HB.out))⟩⟩
  ·replace c5 := Bool.eq_false_iff.mpr c5
   subst c5
   have H1 : (steeplelaw12_MerkleRoots.j0 k l0 a1 true) = some r := by rw [if_neg (show ¬ (false = true) by decide)] at H; exact H
   clear H
   have H := H1
   clear H1
   have H' := Aside0.mk H
   clear H
   go_wp2_with (first | ((with_reducible refine gate_callee (f := 9) rfl ?_); refine goesL_ (some 14) rfl rfl Try.func9 (by kernel_rfl) rfl #[.slice A0 l0.length c0, .int .i64 16, .int .i64 100] rfl (by (try simp only [List.map_toArray, List.map_cons, List.map_nil]); first | done | rfl | (simp only [List.length_drop, List.length_take]; rfl)) ?_; (with_reducible refine (steeplelaw01_Few.calls k _ _ l0 16 100 false _ ?side1 ?side2 A4.out).mono ?_); (case side1 => repeat (first | exact (Kd.C_below HR0.out HB.out) | (with_reducible refine Kd.C_alloc ?_ _) | (with_reducible refine Kd.C_drewN ?_ _) | (with_reducible refine Kd.C_drew ?_))); (case side2 => exact HC0.out); rintro e w' ⟨rfl, ⟨nd, rfl⟩⟩; refine ⟨_, rfl, ?_⟩))
   go_meet
   case rel => exact ⟨_, (true), (by first | rfl | (simp; done) | (simp [*]; done)), H', ⟨by first | omega | exact Nat.le_refl _⟩, ⟨(by first | exact bq HB.out | exact below_step HB0.out (bq HB.out))⟩⟩
 case rest =>
  clear HC3
  try clear p2
  try clear c3
  try clear c5
  obtain ⟨kq, x19_2, rfl, HA, HJ2, HB⟩ := hcut
  cases kq with
  | zero => exact absurd HA.out (by simp [steeplelaw12_MerkleRoots.j0])
  | succ kj2 =>
   have H := HA.out
   clear HA
   simp only [steeplelaw12_MerkleRoots.j0] at H
   by_cases c8 : x19_2 = true
   ·subst c8
    have H1 : ((steeplelaw12_awake.f kj2).bind fun t382 => (some t382)) = some r := by rw [if_pos rfl] at H; exact H
    clear H
    have H := H1
    clear H1
    replace H := Option.bind_eq_some_iff.mp H
    obtain ⟨t382, A90, H⟩ := H
    replace H : (some t382) = some r := H
    have A9 := Aside0.mk A90
    clear A90
    obtain rfl := Option.some.inj H
    go_wp2_with (first | ((with_reducible refine gate_callee (f := 10) rfl ?_); refine goesL_ (some 20) rfl rfl Try.func10 (by kernel_rfl) rfl #[] rfl (by (try simp only [List.map_toArray, List.map_cons, List.map_nil]); first | done | rfl | (simp only [List.length_drop, List.length_take]; rfl)) ?_; (with_reducible refine (steeplelaw12_awake.calls kj2  t382 _ A9.out).mono ?_); rintro e w10 ⟨rfl, hb⟩; refine ⟨_, rfl, ?_⟩; replace HB := bh HB hb; (try clear hb); (try clear hb2); (try clear hk); (try clear hi)))
    go_ret
    exact ⟨by first | rfl | (simp [errW_none, errW_some] <;> rfl) | (simp [*, errW_none, errW_some] <;> rfl), (by first | exact bq HB.out | exact below_step HB0.out (bq HB.out))⟩
   ·replace c8 := Bool.eq_false_iff.mpr c8
    subst c8
    have H1 : ((perm_Make.f).bind fun t383 => ((merkle_Rows.f t383 l0).bind fun bt384 => ((merkle_Root.f t383 l0).bind fun bt388 => ((merkle_Path.f kj2 bt384.1 a1).bind fun bt390 => ((steepleref12_Height.f kj2 (l0.length : Int)).bind fun t394 => (if t394 < 0 then (if bt384.2 = 6 then (if bt388.2 = 6 then (if (bt384.1.length : Int) = 0 then (if bt388.1.toList = ([] : List UInt8) then (some (bt390.2 == 4)) else (none)) else (none)) else (none)) else (none)) else ((steepleref10_Make.f kj2).bind fun bt395 => (if bt384.2 = 0 then (if bt388.2 = 0 then ((steepleref12_Root.f kj2 bt395.1 bt395.2 l0).bind fun t402 => (if bt388.1.toList = t402.toList then ((steepleref12_Height.f kj2 (l0.length : Int)).bind fun t403 => (if (bt384.1.length : Int) = (wrap64 (t403 + 1)) then (if a1 < 0 then (steeplelaw12_MerkleRoots.j1 kj2 l0 a1 bt384.1 bt390.1 bt390.2 true bt395.1 bt395.2) else (steeplelaw12_MerkleRoots.j1 kj2 l0 a1 bt384.1 bt390.1 bt390.2 (decide (a1 ≥ (l0.length : Int))) bt395.1 bt395.2)) else (none))) else (none))) else (none)) else (none))))))))) = some r := by rw [if_neg (show ¬ (false = true) by decide)] at H; exact H
    clear H
    have H := H1
    clear H1
    replace H := Option.bind_eq_some_iff.mp H
    obtain ⟨t383, A110, H⟩ := H
    replace H : ((merkle_Rows.f t383 l0).bind fun bt384 => ((merkle_Root.f t383 l0).bind fun bt388 => ((merkle_Path.f kj2 bt384.1 a1).bind fun bt390 => ((steepleref12_Height.f kj2 (l0.length : Int)).bind fun t394 => (if t394 < 0 then (if bt384.2 = 6 then (if bt388.2 = 6 then (if (bt384.1.length : Int) = 0 then (if bt388.1.toList = ([] : List UInt8) then (some (bt390.2 == 4)) else (none)) else (none)) else (none)) else (none)) else ((steepleref10_Make.f kj2).bind fun bt395 => (if bt384.2 = 0 then (if bt388.2 = 0 then ((steepleref12_Root.f kj2 bt395.1 bt395.2 l0).bind fun t402 => (if bt388.1.toList = t402.toList then ((steepleref12_Height.f kj2 (l0.length : Int)).bind fun t403 => (if (bt384.1.length : Int) = (wrap64 (t403 + 1)) then (if a1 < 0 then (steeplelaw12_MerkleRoots.j1 kj2 l0 a1 bt384.1 bt390.1 bt390.2 true bt395.1 bt395.2) else (steeplelaw12_MerkleRoots.j1 kj2 l0 a1 bt384.1 bt390.1 bt390.2 (decide (a1 ≥ (l0.length : Int))) bt395.1 bt395.2)) else (none))) else (none))) else (none)) else (none)))))))) = some r := H
    have A11 := Aside0.mk A110
    clear A110
    replace H := Option.bind_eq_some_iff.mp H
    obtain ⟨⟨t384, t385⟩, A120, H⟩ := H
    replace H : ((merkle_Root.f t383 l0).bind fun bt388 => ((merkle_Path.f kj2 t384 a1).bind fun bt390 => ((steepleref12_Height.f kj2 (l0.length : Int)).bind fun t394 => (if t394 < 0 then (if t385 = 6 then (if bt388.2 = 6 then (if (t384.length : Int) = 0 then (if bt388.1.toList = ([] : List UInt8) then (some (bt390.2 == 4)) else (none)) else (none)) else (none)) else (none)) else ((steepleref10_Make.f kj2).bind fun bt395 => (if t385 = 0 then (if bt388.2 = 0 then ((steepleref12_Root.f kj2 bt395.1 bt395.2 l0).bind fun t402 => (if bt388.1.toList = t402.toList then ((steepleref12_Height.f kj2 (l0.length : Int)).bind fun t403 => (if (t384.length : Int) = (wrap64 (t403 + 1)) then (if a1 < 0 then (steeplelaw12_MerkleRoots.j1 kj2 l0 a1 t384 bt390.1 bt390.2 true bt395.1 bt395.2) else (steeplelaw12_MerkleRoots.j1 kj2 l0 a1 t384 bt390.1 bt390.2 (decide (a1 ≥ (l0.length : Int))) bt395.1 bt395.2)) else (none))) else (none))) else (none)) else (none))))))) = some r := H
    have A12 := Aside0.mk A120
    clear A120
    replace H := Option.bind_eq_some_iff.mp H
    obtain ⟨⟨t388, t389⟩, A130, H⟩ := H
    replace H : ((merkle_Path.f kj2 t384 a1).bind fun bt390 => ((steepleref12_Height.f kj2 (l0.length : Int)).bind fun t394 => (if t394 < 0 then (if t385 = 6 then (if t389 = 6 then (if (t384.length : Int) = 0 then (if t388.toList = ([] : List UInt8) then (some (bt390.2 == 4)) else (none)) else (none)) else (none)) else (none)) else ((steepleref10_Make.f kj2).bind fun bt395 => (if t385 = 0 then (if t389 = 0 then ((steepleref12_Root.f kj2 bt395.1 bt395.2 l0).bind fun t402 => (if t388.toList = t402.toList then ((steepleref12_Height.f kj2 (l0.length : Int)).bind fun t403 => (if (t384.length : Int) = (wrap64 (t403 + 1)) then (if a1 < 0 then (steeplelaw12_MerkleRoots.j1 kj2 l0 a1 t384 bt390.1 bt390.2 true bt395.1 bt395.2) else (steeplelaw12_MerkleRoots.j1 kj2 l0 a1 t384 bt390.1 bt390.2 (decide (a1 ≥ (l0.length : Int))) bt395.1 bt395.2)) else (none))) else (none))) else (none)) else (none)))))) = some r := H
    have A13 := Aside0.mk A130
    clear A130
    replace H := Option.bind_eq_some_iff.mp H
    obtain ⟨⟨t390, t391⟩, A140, H⟩ := H
    replace H : ((steepleref12_Height.f kj2 (l0.length : Int)).bind fun t394 => (if t394 < 0 then (if t385 = 6 then (if t389 = 6 then (if (t384.length : Int) = 0 then (if t388.toList = ([] : List UInt8) then (some (t391 == 4)) else (none)) else (none)) else (none)) else (none)) else ((steepleref10_Make.f kj2).bind fun bt395 => (if t385 = 0 then (if t389 = 0 then ((steepleref12_Root.f kj2 bt395.1 bt395.2 l0).bind fun t402 => (if t388.toList = t402.toList then ((steepleref12_Height.f kj2 (l0.length : Int)).bind fun t403 => (if (t384.length : Int) = (wrap64 (t403 + 1)) then (if a1 < 0 then (steeplelaw12_MerkleRoots.j1 kj2 l0 a1 t384 t390 t391 true bt395.1 bt395.2) else (steeplelaw12_MerkleRoots.j1 kj2 l0 a1 t384 t390 t391 (decide (a1 ≥ (l0.length : Int))) bt395.1 bt395.2)) else (none))) else (none))) else (none)) else (none))))) = some r := H
    have A14 := Aside0.mk A140
    clear A140
    replace H := Option.bind_eq_some_iff.mp H
    obtain ⟨t394, A150, H⟩ := H
    replace H : (if t394 < 0 then (if t385 = 6 then (if t389 = 6 then (if (t384.length : Int) = 0 then (if t388.toList = ([] : List UInt8) then (some (t391 == 4)) else (none)) else (none)) else (none)) else (none)) else ((steepleref10_Make.f kj2).bind fun bt395 => (if t385 = 0 then (if t389 = 0 then ((steepleref12_Root.f kj2 bt395.1 bt395.2 l0).bind fun t402 => (if t388.toList = t402.toList then ((steepleref12_Height.f kj2 (l0.length : Int)).bind fun t403 => (if (t384.length : Int) = (wrap64 (t403 + 1)) then (if a1 < 0 then (steeplelaw12_MerkleRoots.j1 kj2 l0 a1 t384 t390 t391 true bt395.1 bt395.2) else (steeplelaw12_MerkleRoots.j1 kj2 l0 a1 t384 t390 t391 (decide (a1 ≥ (l0.length : Int))) bt395.1 bt395.2)) else (none))) else (none))) else (none)) else (none)))) = some r := H
    have A15 := Aside0.mk A150
    clear A150
    by_cases c16 : t394 < 0
    ·rw [if_pos c16] at H
     have c16b0 : decide (t394 < 0) = true := decide_eq_true c16
     clear c16
     by_cases c17 : t385 = 6
     ·rw [if_pos c17] at H
      have c17b0 : (t385 == 6) = true := beq_iff_eq.mpr c17
      have c17b1 : (t385 != 6) = false := bne_eq_false_iff_eq.mpr c17
      clear c17
      by_cases c18 : t389 = 6
      ·rw [if_pos c18] at H
       have c18b0 : (t389 == 6) = true := beq_iff_eq.mpr c18
       have c18b1 : (t389 != 6) = false := bne_eq_false_iff_eq.mpr c18
       clear c18
       by_cases c19 : (t384.length : Int) = 0
       ·rw [if_pos c19] at H
        have c19b0 : ((t384.length : Int) == 0) = true := beq_iff_eq.mpr c19
        have c19b1 : ((t384.length : Int) != 0) = false := bne_eq_false_iff_eq.mpr c19
        clear c19
        by_cases c20 : t388.toList = ([] : List UInt8)
        ·rw [if_pos c20] at H
         have c20b0 : (t388.toList == ([] : List UInt8)) = true := beq_iff_eq.mpr c20
         have c20b1 : (t388.toList != ([] : List UInt8)) = false := bne_eq_false_iff_eq.mpr c20
         clear c20
         obtain rfl := Option.some.inj H
         go_wp2_with (first | ((with_reducible refine gate_callee (f := 11) rfl ?_); refine goesL_ (some 21) rfl rfl Try.func11 (by kernel_rfl) rfl #[] rfl (by (try simp only [List.map_toArray, List.map_cons, List.map_nil]); first | done | rfl | (simp only [List.length_drop, List.length_take]; rfl)) ?_; (with_reducible refine (perm_Make.calls  t383 _ A11.out).mono ?_); rintro e w21 ⟨gT, rfl, hTT, hb⟩; refine ⟨_, rfl, ?_⟩; have HT := Aside0.mk hTT; clear hTT; replace HB := bh HB hb; have HB0 := HB; (try replace HR0 := Aside0.mk (Kd.C_below HR0.out HB.out)); (try replace HR408_0 := Aside0.mk (Kd.C_below HR408_0.out HB.out)); replace HB := Aside0.mk (Below.refl w21.heap.size w21); (try clear hb); (try clear hb2); (try clear hk); (try clear hi)) | ((with_reducible refine gate_callee (f := 12) rfl ?_); refine goesL_ (some 25) rfl rfl Try.func12 (by kernel_rfl) rfl #[.pointer (some ⟨gT, 0, none⟩), .slice A0 l0.length c0] rfl (by (try simp only [List.map_toArray, List.map_cons, List.map_nil]); first | done | rfl | (simp only [List.length_drop, List.length_take]; rfl)) ?_; (with_reducible refine (merkle_Rows.calls (gT := gT) (hT := HT.out.below (bq HB.out)) t383 _ _ l0 t384 t385 _ ?side1 ?side2 A12.out).mono ?_); (case side1 => repeat (first | exact (Kd.C_below HR0.out HB.out) | (with_reducible refine Kd.C_alloc ?_ _) | (with_reducible refine Kd.C_drewN ?_ _) | (with_reducible refine Kd.C_drew ?_))); (case side2 => exact HC0.out); rintro e w22 ⟨v386, rfl, ho0, hb⟩; refine ⟨_, rfl, ?_⟩; have HO387 := Aside0.mk (Kd.S_lower ho0 (below_size (bq HB.out))); replace HB := bh HB hb; (try clear hb); (try clear hb2); (try clear hk); (try clear hi); (try clear ho0)) | ((with_reducible refine gate_callee (f := 13) rfl ?_); refine goesL_ (some 31) rfl rfl Try.func13 (by kernel_rfl) rfl #[.pointer (some ⟨gT, 0, none⟩), .slice A0 l0.length c0] rfl (by (try simp only [List.map_toArray, List.map_cons, List.map_nil]); first | done | rfl | (simp only [List.length_drop, List.length_take]; rfl)) ?_; (with_reducible refine (merkle_Root.calls (gT := gT) (hT := HT.out.below (bq HB.out)) t383 _ _ l0 t388 t389 _ ?side1 ?side2 A13.out).mono ?_); (case side1 => repeat (first | exact (Kd.C_below HR0.out HB.out) | (with_reducible refine Kd.C_alloc ?_ _) | (with_reducible refine Kd.C_drewN ?_ _) | (with_reducible refine Kd.C_drew ?_))); (case side2 => exact HC0.out); rintro e w23 ⟨rfl, hb⟩; refine ⟨_, rfl, ?_⟩; replace HO387 := Aside0.mk (Kd.S_below (by (with_reducible repeat (first | apply Kd.S_alloc | apply Kd.S_drewN | apply Kd.S_drew)); exact HO387.out) hb); replace HB := bh HB hb; (try clear hb); (try clear hb2); (try clear hk); (try clear hi); obtain ⟨Ao24, co24, eo24⟩ := Kd.S_slice HO387.out; subst eo24) | ((with_reducible refine gate_callee (f := 14) rfl ?_); refine goesL_ (some 37) rfl rfl Try.func14 (by kernel_rfl) rfl #[.slice Ao24 t384.length co24, .int .i64 a1] rfl (by (try simp only [List.map_toArray, List.map_cons, List.map_nil]); first | done | rfl | (simp only [List.length_drop, List.length_take]; rfl)) ?_; (with_reducible refine (merkle_Path.calls kj2 _ _ t384 a1 t390 t391 _ ?side1 ?side2 A14.out).mono ?_); (case side1 => repeat (first | exact (Kd.S_reads' HO387.out).2.2 | (with_reducible refine Kd.C_alloc ?_ _) | (with_reducible refine Kd.C_drewN ?_ _) | (with_reducible refine Kd.C_drew ?_))); (case side2 => exact (Kd.S_reads' HO387.out).2.1); rintro e w25 ⟨v392, rfl, ho0, hb⟩; refine ⟨_, rfl, ?_⟩; have HO393 := kw ho0 HB; replace HO387 := Aside0.mk (Kd.S_elder' (by (with_reducible repeat (first | apply Kd.S_alloc | apply Kd.S_drewN | apply Kd.S_drew)); exact HO387.out) (Kd.R_base ho0) hb); replace HB := bh HB hb; (try clear hb); (try clear hb2); (try clear hk); (try clear hi); (try clear ho0)) | ((with_reducible refine gate_callee (f := 15) rfl ?_); refine goesL_ (some 42) rfl rfl Try.func15 (by kernel_rfl) rfl #[.int .i64 (l0.length : Int)] rfl (by (try simp only [List.map_toArray, List.map_cons, List.map_nil]); first | done | rfl | (simp only [List.length_drop, List.length_take]; rfl)) ?_; (with_reducible refine (steepleref12_Height.calls kj2 (l0.length : Int) t394 _ A15.out).mono ?_); rintro e w' ⟨rfl, ⟨nd, rfl⟩⟩; refine ⟨_, rfl, ?_⟩))
         go_ret
         exact ⟨by first | rfl | (simp [errW_none, errW_some] <;> rfl) | (simp [*, errW_none, errW_some] <;> rfl), (by first | exact bq HB.out | exact below_step HB0.out (bq HB.out))⟩
        ·rw [if_neg c20] at H
         exact absurd H (by simp)
       ·rw [if_neg c19] at H
        exact absurd H (by simp)
      ·rw [if_neg c18] at H
       exact absurd H (by simp)
     ·rw [if_neg c17] at H
      exact absurd H (by simp)
    ·rw [if_neg c16] at H
     have c16b0 : decide (t394 < 0) = false := decide_eq_false c16
     clear c16
     replace H := Option.bind_eq_some_iff.mp H
     obtain ⟨⟨t395, t398⟩, A260, H⟩ := H
     replace H : (if t385 = 0 then (if t389 = 0 then ((steepleref12_Root.f kj2 t395 t398 l0).bind fun t402 => (if t388.toList = t402.toList then ((steepleref12_Height.f kj2 (l0.length : Int)).bind fun t403 => (if (t384.length : Int) = (wrap64 (t403 + 1)) then (if a1 < 0 then (steeplelaw12_MerkleRoots.j1 kj2 l0 a1 t384 t390 t391 true t395 t398) else (steeplelaw12_MerkleRoots.j1 kj2 l0 a1 t384 t390 t391 (decide (a1 ≥ (l0.length : Int))) t395 t398)) else (none))) else (none))) else (none)) else (none)) = some r := H
     have A26 := Aside0.mk A260
     clear A260
     by_cases c27 : t385 = 0
     ·rw [if_pos c27] at H
      have c27b0 : (t385 == 0) = true := beq_iff_eq.mpr c27
      have c27b1 : (t385 != 0) = false := bne_eq_false_iff_eq.mpr c27
      clear c27
      by_cases c28 : t389 = 0
      ·rw [if_pos c28] at H
       have c28b0 : (t389 == 0) = true := beq_iff_eq.mpr c28
       have c28b1 : (t389 != 0) = false := bne_eq_false_iff_eq.mpr c28
       clear c28
       replace H := Option.bind_eq_some_iff.mp H
       obtain ⟨t402, A290, H⟩ := H
       replace H : (if t388.toList = t402.toList then ((steepleref12_Height.f kj2 (l0.length : Int)).bind fun t403 => (if (t384.length : Int) = (wrap64 (t403 + 1)) then (if a1 < 0 then (steeplelaw12_MerkleRoots.j1 kj2 l0 a1 t384 t390 t391 true t395 t398) else (steeplelaw12_MerkleRoots.j1 kj2 l0 a1 t384 t390 t391 (decide (a1 ≥ (l0.length : Int))) t395 t398)) else (none))) else (none)) = some r := H
       have A29 := Aside0.mk A290
       clear A290
       by_cases c30 : t388.toList = t402.toList
       ·rw [if_pos c30] at H
        have c30b0 : (t388.toList == t402.toList) = true := beq_iff_eq.mpr c30
        have c30b1 : (t388.toList != t402.toList) = false := bne_eq_false_iff_eq.mpr c30
        clear c30
        replace H := Option.bind_eq_some_iff.mp H
        obtain ⟨t403, A310, H⟩ := H
        replace H : (if (t384.length : Int) = (wrap64 (t403 + 1)) then (if a1 < 0 then (steeplelaw12_MerkleRoots.j1 kj2 l0 a1 t384 t390 t391 true t395 t398) else (steeplelaw12_MerkleRoots.j1 kj2 l0 a1 t384 t390 t391 (decide (a1 ≥ (l0.length : Int))) t395 t398)) else (none)) = some r := H
        have A31 := Aside0.mk A310
        clear A310
        by_cases c32 : (t384.length : Int) = (wrap64 (t403 + 1))
        ·rw [if_pos c32] at H
         have c32b0 : ((t384.length : Int) == (wrap64 (t403 + 1))) = true := beq_iff_eq.mpr c32
         have c32b1 : ((t384.length : Int) != (wrap64 (t403 + 1))) = false := bne_eq_false_iff_eq.mpr c32
         clear c32
         have HC33 := Aside0.mk H
         clear H
         go_upto_region 12 with (first | ((with_reducible refine gate_callee (f := 11) rfl ?_); refine goesL_ (some 21) rfl rfl Try.func11 (by kernel_rfl) rfl #[] rfl (by (try simp only [List.map_toArray, List.map_cons, List.map_nil]); first | done | rfl | (simp only [List.length_drop, List.length_take]; rfl)) ?_; (with_reducible refine (perm_Make.calls  t383 _ A11.out).mono ?_); rintro e w34 ⟨gT, rfl, hTT, hb⟩; refine ⟨_, rfl, ?_⟩; have HT := Aside0.mk hTT; clear hTT; replace HB := bh HB hb; have HB0 := HB; (try replace HR0 := Aside0.mk (Kd.C_below HR0.out HB.out)); (try replace HR408_0 := Aside0.mk (Kd.C_below HR408_0.out HB.out)); replace HB := Aside0.mk (Below.refl w34.heap.size w34); (try clear hb); (try clear hb2); (try clear hk); (try clear hi)) | ((with_reducible refine gate_callee (f := 12) rfl ?_); refine goesL_ (some 25) rfl rfl Try.func12 (by kernel_rfl) rfl #[.pointer (some ⟨gT, 0, none⟩), .slice A0 l0.length c0] rfl (by (try simp only [List.map_toArray, List.map_cons, List.map_nil]); first | done | rfl | (simp only [List.length_drop, List.length_take]; rfl)) ?_; (with_reducible refine (merkle_Rows.calls (gT := gT) (hT := HT.out.below (bq HB.out)) t383 _ _ l0 t384 t385 _ ?side1 ?side2 A12.out).mono ?_); (case side1 => repeat (first | exact (Kd.C_below HR0.out HB.out) | (with_reducible refine Kd.C_alloc ?_ _) | (with_reducible refine Kd.C_drewN ?_ _) | (with_reducible refine Kd.C_drew ?_))); (case side2 => exact HC0.out); rintro e w35 ⟨v386, rfl, ho0, hb⟩; refine ⟨_, rfl, ?_⟩; have HO387 := Aside0.mk (Kd.S_lower ho0 (below_size (bq HB.out))); replace HB := bh HB hb; (try clear hb); (try clear hb2); (try clear hk); (try clear hi); (try clear ho0)) | ((with_reducible refine gate_callee (f := 13) rfl ?_); refine goesL_ (some 31) rfl rfl Try.func13 (by kernel_rfl) rfl #[.pointer (some ⟨gT, 0, none⟩), .slice A0 l0.length c0] rfl (by (try simp only [List.map_toArray, List.map_cons, List.map_nil]); first | done | rfl | (simp only [List.length_drop, List.length_take]; rfl)) ?_; (with_reducible refine (merkle_Root.calls (gT := gT) (hT := HT.out.below (bq HB.out)) t383 _ _ l0 t388 t389 _ ?side1 ?side2 A13.out).mono ?_); (case side1 => repeat (first | exact (Kd.C_below HR0.out HB.out) | (with_reducible refine Kd.C_alloc ?_ _) | (with_reducible refine Kd.C_drewN ?_ _) | (with_reducible refine Kd.C_drew ?_))); (case side2 => exact HC0.out); rintro e w36 ⟨rfl, hb⟩; refine ⟨_, rfl, ?_⟩; replace HO387 := Aside0.mk (Kd.S_below (by (with_reducible repeat (first | apply Kd.S_alloc | apply Kd.S_drewN | apply Kd.S_drew)); exact HO387.out) hb); replace HB := bh HB hb; (try clear hb); (try clear hb2); (try clear hk); (try clear hi); obtain ⟨Ao37, co37, eo37⟩ := Kd.S_slice HO387.out; subst eo37) | ((with_reducible refine gate_callee (f := 14) rfl ?_); refine goesL_ (some 37) rfl rfl Try.func14 (by kernel_rfl) rfl #[.slice Ao37 t384.length co37, .int .i64 a1] rfl (by (try simp only [List.map_toArray, List.map_cons, List.map_nil]); first | done | rfl | (simp only [List.length_drop, List.length_take]; rfl)) ?_; (with_reducible refine (merkle_Path.calls kj2 _ _ t384 a1 t390 t391 _ ?side1 ?side2 A14.out).mono ?_); (case side1 => repeat (first | exact (Kd.S_reads' HO387.out).2.2 | (with_reducible refine Kd.C_alloc ?_ _) | (with_reducible refine Kd.C_drewN ?_ _) | (with_reducible refine Kd.C_drew ?_))); (case side2 => exact (Kd.S_reads' HO387.out).2.1); rintro e w38 ⟨v392, rfl, ho0, hb⟩; refine ⟨_, rfl, ?_⟩; have HO393 := kw ho0 HB; replace HO387 := Aside0.mk (Kd.S_elder' (by (with_reducible repeat (first | apply Kd.S_alloc | apply Kd.S_drewN | apply Kd.S_drew)); exact HO387.out) (Kd.R_base ho0) hb); replace HB := bh HB hb; (try clear hb); (try clear hb2); (try clear hk); (try clear hi); (try clear ho0)) | ((with_reducible refine gate_callee (f := 15) rfl ?_); refine goesL_ (some 42) rfl rfl Try.func15 (by kernel_rfl) rfl #[.int .i64 (l0.length : Int)] rfl (by (try simp only [List.map_toArray, List.map_cons, List.map_nil]); first | done | rfl | (simp only [List.length_drop, List.length_take]; rfl)) ?_; (with_reducible refine (steepleref12_Height.calls kj2 (l0.length : Int) t394 _ A15.out).mono ?_); rintro e w' ⟨rfl, ⟨nd, rfl⟩⟩; refine ⟨_, rfl, ?_⟩; (try (rw [drewN_self w38]; generalize hq_ : World.drewN w38 _ = w38; have n0_ : Aside0 (Kd.S (Kd.slice 9 Kd.string) 22 w38 w34.heap.size (fun k_ => some k_ ≠ (v392 : Value).ownBlock) (.slice Ao37 t384.length co37) t384) := ⟨by rw [← hq_]; exact (by (with_reducible repeat (first | apply Kd.S_alloc | apply Kd.S_drewN | apply Kd.S_drew)); exact Kd.S_mono HO387.out (fun _ hk => hk.2))⟩; have n1_ : Aside0 (Kd.R Kd.string 9 w38 w34.heap.size (fun _ => True) v392 t390) := ⟨by rw [← hq_]; exact (kr HO393.out)⟩; have n2_ : Aside0 (Below w34.heap.size w34 w38) := ⟨by rw [← hq_]; exact (bq HB.out)⟩; clear HO387 HO393 HB hq_; have HO387 := n0_; have HO393 := n1_; have HB := n2_; clear n0_ n1_ n2_))) | ((with_reducible refine gate_callee (f := 16) rfl ?_); refine goesL_ (some 63) rfl rfl Try.func16 (by kernel_rfl) rfl #[] rfl (by (try simp only [List.map_toArray, List.map_cons, List.map_nil]); first | done | rfl | (simp only [List.length_drop, List.length_take]; rfl)) ?_; (with_reducible refine (steepleref10_Make.calls kj2  t395 t398 _ A26.out).mono ?_); rintro e w39 ⟨v396, v399, rfl, ho0, ho1, hb⟩; refine ⟨_, rfl, ?_⟩; have HO397 := kw ho0 HB; have HO400 := Aside0.mk (Kd.S_lower ho1 (below_size (bq HB.out))); replace HO387 := Aside0.mk (Kd.S_below (by (with_reducible repeat (first | apply Kd.S_alloc | apply Kd.S_drewN | apply Kd.S_drew)); exact HO387.out) hb); replace HO393 := kb HO393 hb; replace HB := bh HB hb; (try clear hb); (try clear hb2); (try clear hk); (try clear hi); (try clear ho0); (try clear ho1)) | ((with_reducible refine gate_dst (N := 12) rfl ?_); (try (refine gate_guard (by rfl) ?_; dsimp only)); refine box_event ?hg (N := 12) ?hd (cs := #[.slice none 0 0, .slice none 0 0]) (t := 39) ?hr ?_; (case hd => rfl); (case hg => rfl); (case hr => first | (go_simp; done) | (go_simp; rfl)); intro gb401 hg w40 hbox hb; have BK401 := Aside0.mk hbox; have GW401 := ge hg HB; have GE401 := ge hg HB; replace HO387 := Aside0.mk (Kd.S_below (by (with_reducible repeat (first | apply Kd.S_alloc | apply Kd.S_drewN | apply Kd.S_drew)); exact HO387.out) hb); replace HO393 := kb HO393 hb; replace HO397 := kb HO397 hb; replace HO400 := Aside0.mk (Kd.S_below (by (with_reducible repeat (first | apply Kd.S_alloc | apply Kd.S_drewN | apply Kd.S_drew)); exact HO400.out) hb); replace HB := bh HB hb; clear hb hbox hg; obtain ⟨Ao41, co41, eo41⟩ := Kd.R_slice HO397.out; subst eo41; obtain ⟨hcz42_0, hcz42_1⟩ := zc2 BK401; obtain ⟨hfz42_0, hfz42_1⟩ := zf2 BK401; obtain ⟨Ao43, co43, eo43⟩ := Kd.S_slice HO400.out; subst eo43) | (go_at_call 17; (with_reducible refine (steepleref12_Root.calls kj2 _ _ t395 _ _ t398 _ _ l0 t402 _ ?side1 ?side2 ?side3 ?side4 ?side5 ?side6 A29.out).mono ?_); (case side1 => refine (Kd.R_reads' (e := 3) (base := w34.heap.size) (ok := fun k_ => True) (n := t395.length) (c := co41) ?_).2.2; exact (by (with_reducible repeat refine kl ?_); exact (Kd.R_mono (Kd.R_far (p := ⟨gb401, 1, none⟩) (Kd.R_far (p := ⟨gb401, 0, none⟩) (Kd.R_types HO397.out BK401.out (by decide)) (fun _ hk => hk.2) (.slice Ao41 t395.length co41)) (fun _ hk => hk.2) (.slice Ao43 t398.length co43)) (fun _ h_ => h_.1)))); (case side2 => exact (Kd.R_reads' HO397.out).2.1); (case side3 => refine (Kd.S_reads' (e := 36) (base := w34.heap.size) (ok := fun k_ => some k_ ≠ (.slice Ao41 t395.length co41 : Value).ownBlock) (n := t398.length) (c := co43) ?_).2.2; exact (by (with_reducible repeat (first | apply Kd.S_alloc | apply Kd.S_drewN | apply Kd.S_drew)); exact (Kd.S_mono (Kd.S_far (p := ⟨gb401, 1, none⟩) (Kd.S_far (p := ⟨gb401, 0, none⟩) (Kd.S_types HO400.out BK401.out (by decide)) (fun _ hk => hk.2) (.slice Ao41 t395.length co41)) (fun _ hk => hk.2) (.slice Ao43 t398.length co43)) (fun _ h_ => h_.1)))); (case side4 => exact (Kd.S_reads' HO400.out).2.1); (case side5 => exact Kd.C_below HR0.out (bq HB.out)); (case side6 => exact HC0.out); rintro e w44 ⟨rfl, hb⟩; replace HO387 := Aside0.mk (Kd.S_below (by (with_reducible repeat (first | apply Kd.S_alloc | apply Kd.S_drewN | apply Kd.S_drew)); exact (Kd.S_mono (Kd.S_far (p := ⟨gb401, 1, none⟩) (Kd.S_far (p := ⟨gb401, 0, none⟩) (Kd.S_types HO387.out BK401.out (by decide)) (fun _ hk => hk.2) (.slice Ao41 t395.length co41)) (fun _ hk => hk.2) (.slice Ao43 t398.length co43)) (fun _ h_ => h_.1))) hb); replace HO393 := Aside0.mk (Kd.R_below (by (with_reducible repeat refine kl ?_); exact (Kd.R_mono (Kd.R_far (p := ⟨gb401, 1, none⟩) (Kd.R_far (p := ⟨gb401, 0, none⟩) (Kd.R_types HO393.out BK401.out (by decide)) (fun _ hk => hk.2) (.slice Ao41 t395.length co41)) (fun _ hk => hk.2) (.slice Ao43 t398.length co43)) (fun _ h_ => h_.1))) hb); replace HO397 := Aside0.mk (Kd.R_below (by (with_reducible repeat refine kl ?_); exact (Kd.R_mono (Kd.R_far (p := ⟨gb401, 1, none⟩) (Kd.R_far (p := ⟨gb401, 0, none⟩) (Kd.R_types HO397.out BK401.out (by decide)) (fun _ hk => hk.2) (.slice Ao41 t395.length co41)) (fun _ hk => hk.2) (.slice Ao43 t398.length co43)) (fun _ h_ => h_.1))) hb); replace HO400 := Aside0.mk (Kd.S_below (by (with_reducible repeat (first | apply Kd.S_alloc | apply Kd.S_drewN | apply Kd.S_drew)); exact (Kd.S_mono (Kd.S_far (p := ⟨gb401, 1, none⟩) (Kd.S_far (p := ⟨gb401, 0, none⟩) (Kd.S_types HO400.out BK401.out (by decide)) (fun _ hk => hk.2) (.slice Ao41 t395.length co41)) (fun _ hk => hk.2) (.slice Ao43 t398.length co43)) (fun _ h_ => h_.1))) hb); replace BK401 := Aside0.mk (blk_below (g := gb401) (o := .cells #[.slice Ao41 t395.length co41, .slice Ao43 t398.length co43] 39 (0, 0)) (by (with_reducible repeat refine bl ?_); refine blk_put (cs := #[.slice Ao41 t395.length co41, .slice none 0 0]) ?_ 1 _ rfl; (with_reducible repeat refine bl ?_); refine blk_put (cs := #[.slice none 0 0, .slice none 0 0]) ?_ 0 _ rfl; (with_reducible repeat refine bl ?_); exact BK401.out) hb); replace HB := bh HB hb; (try clear hb); (try clear hb2); (try clear hk); (try clear hi)) | (go_at_call 15; (with_reducible refine (steepleref12_Height.calls kj2 (l0.length : Int) t403 _ A31.out).mono ?_); rintro e w' ⟨rfl, ⟨nd, rfl⟩⟩))
         (try simp only [Act.put, List.setIfInBounds_toArray, List.set_cons_zero, List.set_cons_succ])
         go_cut [93] (fun v93 wc => ∃ (kq : Nat) (x93_32 : Bool), v93 = .bool x93_32 ∧ Aside0 (steeplelaw12_MerkleRoots.j1 kq l0 a1 t384 t390 t391 x93_32 t395 t398 = some r) ∧ Aside0 (kq ≤ kj2) ∧ Aside0 (Kd.S (Kd.slice 9 Kd.string) 22 wc w34.heap.size (fun k_ => some k_ ≠ (v392 : Value).ownBlock) (.slice Ao37 t384.length co37) t384) ∧ Aside0 (Kd.R Kd.string 9 wc w34.heap.size (fun _ => True) v392 t390) ∧ Aside0 (Kd.R (Kd.int .i64) 3 wc w34.heap.size (fun _ => True) (.slice Ao41 t395.length co41) t395) ∧ Aside0 (Kd.S (Kd.slice 3 (Kd.int .i64)) 36 wc w34.heap.size (fun k_ => some k_ ≠ ((.slice Ao41 t395.length co41) : Value).ownBlock) (.slice Ao43 t398.length co43) t398) ∧ Aside0 (wc.heap[gb401]? = some (.cells #[(.slice Ao41 t395.length co41), (.slice Ao43 t398.length co43)] 39 (0, 0))) ∧ Aside0 (Below w34.heap.size w34 wc))
         case first =>
          have H := HC33.out
          clear HC33
          by_cases c45 : a1 < 0
          ·rw [if_pos c45] at H
           have c45b0 : decide (a1 < 0) = true := decide_eq_true c45
           clear c45
           (first | rw [c45b0] | (simp only [i64_w, i32_w]; rw [c45b0]) | skip)
           have H' := Aside0.mk H
           clear H
           go_wp2
           go_meet
           case rel => exact ⟨_, (true), (by first | rfl | (simp; done) | (simp [*]; done)), H', ⟨by have := HJ2.out; first | omega | exact Nat.le_refl _⟩, ⟨by (with_reducible repeat (first | apply Kd.S_alloc | apply Kd.S_drewN | apply Kd.S_drew)); first | exact Kd.S_mono HO387.out (fun _ hk => hk.2) | exact HO387.out⟩, ⟨kr HO393.out⟩, ⟨kr HO397.out⟩, ⟨by (with_reducible repeat (first | apply Kd.S_alloc | apply Kd.S_drewN | apply Kd.S_drew)); exact HO400.out⟩, ⟨bk BK401.out⟩, ⟨(by first | exact bq HB.out | exact below_step HB0.out (bq HB.out))⟩⟩
          ·rw [if_neg c45] at H
           have c45b0 : decide (a1 < 0) = false := decide_eq_false c45
           clear c45
           (first | rw [c45b0] | (simp only [i64_w, i32_w]; rw [c45b0]) | skip)
           have H' := Aside0.mk H
           clear H
           go_wp2
           go_meet
           case rel => exact ⟨_, (decide (a1 ≥ (l0.length : Int))), (by first | rfl | (simp; done) | (simp [*]; done)), H', ⟨by have := HJ2.out; first | omega | exact Nat.le_refl _⟩, ⟨by (with_reducible repeat (first | apply Kd.S_alloc | apply Kd.S_drewN | apply Kd.S_drew)); first | exact Kd.S_mono HO387.out (fun _ hk => hk.2) | exact HO387.out⟩, ⟨kr HO393.out⟩, ⟨kr HO397.out⟩, ⟨by (with_reducible repeat (first | apply Kd.S_alloc | apply Kd.S_drewN | apply Kd.S_drew)); exact HO400.out⟩, ⟨bk BK401.out⟩, ⟨(by first | exact bq HB.out | exact below_step HB0.out (bq HB.out))⟩⟩
         case rest =>
          clear HC33
          try clear c1
          try clear c2
          try clear p2
          try clear c3
          try clear c4
          try clear c5
          try clear p6
          try clear c8
          try clear c9
          try clear c10
          try clear c11
          try clear c12
          try clear c13
          try clear c14
          try clear c15
          try clear c16
          try clear c16b0
          try clear c17
          try clear c17b0
          try clear c17b1
          try clear c18
          try clear c18b0
          try clear c18b1
          try clear c19
          try clear c19b0
          try clear c19b1
          try clear c20
          try clear c20b0
          try clear c20b1
          try clear c27
          try clear c27b0
          try clear c27b1
          try clear c28
          try clear c28b0
          try clear c28b1
          try clear c30
          try clear c30b0
          try clear c30b1
          try clear c32
          try clear c32b0
          try clear c32b1
          try clear c45
          try clear c45b0
          try clear hcz42_0
          try clear hcz42_1
          try clear hfz42_0
          try clear hfz42_1
          try clear p2
          obtain ⟨kq, x93_32, rfl, HA, HJ32, HO_6, HO_10, HO_402000, HO_402001, BK401, HB⟩ := hcut
          cases kq with
          | zero => exact absurd HA.out (by simp [steeplelaw12_MerkleRoots.j1])
          | succ kj32 =>
           have H := HA.out
           clear HA
           simp only [steeplelaw12_MerkleRoots.j1] at H
           by_cases c46 : x93_32 = true
           ·subst c46
            have H1 : (if t391 = 4 then (some ((t390.length : Int) == 0)) else (none)) = some r := by rw [if_pos rfl] at H; exact H
            clear H
            have H := H1
            clear H1
            by_cases c47 : t391 = 4
            ·rw [if_pos c47] at H
             have c47b0 : (t391 == 4) = true := beq_iff_eq.mpr c47
             have c47b1 : (t391 != 4) = false := bne_eq_false_iff_eq.mpr c47
             clear c47
             obtain rfl := Option.some.inj H
             obtain ⟨Ao48, co48, eo48⟩ := Kd.R_slice HO_10.out
             subst eo48
             go_wp2
             go_ret
             exact ⟨by first | rfl | (simp [errW_none, errW_some] <;> rfl) | (simp [*, errW_none, errW_some] <;> rfl), (by first | exact bq HB.out | exact below_step HB0.out (bq HB.out))⟩
            ·rw [if_neg c47] at H
             exact absurd H (by simp)
           ·replace c46 := Bool.eq_false_iff.mpr c46
            subst c46
            have H1 : (if t391 = 0 then ((steepleref12_Path.f kj32 t395 t398 l0 a1).bind fun t404 => ((steeplelaw01_Texts.f kj32 t390 t404).bind fun t407 => (if t407 = true then (if 0 < (t384.length : Int) then (if 0 ≤ a1 then (if a1 < ((rd_L1 t384 0).length : Int) then (if a1 < (l0.length : Int) then ((steepleref12_Leaf.f kj32 t395 t398 (rdOf ByteArray.empty l0 a1)).bind fun t411 => (some ((rdOf ByteArray.empty (rd_L1 t384 0) a1).toList == t411.toList))) else (none)) else (none)) else (none)) else (none)) else (none)))) else (none)) = some r := by rw [if_neg (show ¬ (false = true) by decide)] at H; exact H
            clear H
            have H := H1
            clear H1
            by_cases c49 : t391 = 0
            ·rw [if_pos c49] at H
             have c49b0 : (t391 == 0) = true := beq_iff_eq.mpr c49
             have c49b1 : (t391 != 0) = false := bne_eq_false_iff_eq.mpr c49
             clear c49
             replace H := Option.bind_eq_some_iff.mp H
             obtain ⟨t404, A500, H⟩ := H
             replace H : ((steeplelaw01_Texts.f kj32 t390 t404).bind fun t407 => (if t407 = true then (if 0 < (t384.length : Int) then (if 0 ≤ a1 then (if a1 < ((rd_L1 t384 0).length : Int) then (if a1 < (l0.length : Int) then ((steepleref12_Leaf.f kj32 t395 t398 (rdOf ByteArray.empty l0 a1)).bind fun t411 => (some ((rdOf ByteArray.empty (rd_L1 t384 0) a1).toList == t411.toList))) else (none)) else (none)) else (none)) else (none)) else (none))) = some r := H
             have A50 := Aside0.mk A500
             clear A500
             replace H := Option.bind_eq_some_iff.mp H
             obtain ⟨t407, A510, H⟩ := H
             replace H : (if t407 = true then (if 0 < (t384.length : Int) then (if 0 ≤ a1 then (if a1 < ((rd_L1 t384 0).length : Int) then (if a1 < (l0.length : Int) then ((steepleref12_Leaf.f kj32 t395 t398 (rdOf ByteArray.empty l0 a1)).bind fun t411 => (some ((rdOf ByteArray.empty (rd_L1 t384 0) a1).toList == t411.toList))) else (none)) else (none)) else (none)) else (none)) else (none)) = some r := H
             have A51 := Aside0.mk A510
             clear A510
             by_cases c52 : t407 = true
             ·subst c52
              have H1 : (if 0 < (t384.length : Int) then (if 0 ≤ a1 then (if a1 < ((rd_L1 t384 0).length : Int) then (if a1 < (l0.length : Int) then ((steepleref12_Leaf.f kj32 t395 t398 (rdOf ByteArray.empty l0 a1)).bind fun t411 => (some ((rdOf ByteArray.empty (rd_L1 t384 0) a1).toList == t411.toList))) else (none)) else (none)) else (none)) else (none)) = some r := by rw [if_pos rfl] at H; exact H
              clear H
              have H := H1
              clear H1
              by_cases c53 : 0 < (t384.length : Int)
              ·rw [if_pos c53] at H
               have c53b0 : decide (0 < (t384.length : Int)) = true := decide_eq_true c53
               have c53b1 : decide (0 < t384.length) = true := decide_eq_true (by omega)
               clear c53
               by_cases c54 : 0 ≤ a1
               ·rw [if_pos c54] at H
                have c54b0 : decide (0 ≤ a1) = true := decide_eq_true c54
                clear c54
                by_cases c55 : a1 < ((rd_L1 t384 0).length : Int)
                ·rw [if_pos c55] at H
                 have c55b0 : decide (a1 < ((rd_L1 t384 0).length : Int)) = true := decide_eq_true c55
                 clear c55
                 by_cases c56 : a1 < (l0.length : Int)
                 ·rw [if_pos c56] at H
                  have c56b0 : decide (a1 < (l0.length : Int)) = true := decide_eq_true c56
                  clear c56
                  replace H := Option.bind_eq_some_iff.mp H
                  obtain ⟨t411, A570, H⟩ := H
                  replace H : (some ((rdOf ByteArray.empty (rd_L1 t384 0) a1).toList == t411.toList)) = some r := H
                  have A57 := Aside0.mk A570
                  clear A570
                  obtain rfl := Option.some.inj H
                  try go_wp2
                  replace HO_6 := Aside0.mk (Kd.S_drew HO_6.out)
                  replace HO_10 := Aside0.mk (Kd.R_drew HO_10.out)
                  replace HO_402000 := Aside0.mk (Kd.R_drew HO_402000.out)
                  replace HO_402001 := Aside0.mk (Kd.S_drew HO_402001.out)
                  replace BK401 := Aside0.mk (blk_drew BK401.out)
                  replace HB := Aside0.mk (below_drew1 HB.out)
                  have p408 : 0 ≤ (0 : Int) := (by omega)
                  have q408 : 0 < (t384.length : Int) := of_decide_eq_true (by first | (with_reducible assumption) | assumption)
                  obtain ⟨ad408, A408_0, c408_0, e408, hx408_0, hl408_0, hi408_0⟩ := at_L1 (Kd.S_reads' HO_6.out).2.2 0 p408 q408
                  cases e408
                  obtain ⟨ce408, hce408, hMe408, hcc408⟩ := Kd.S_get HO_6.out [] 0 p408 (by first | exact q408 | exact of_decide_eq_true (by first | (with_reducible assumption) | assumption) | (have e_ := (Kd.S_reads' HO_6.out).1; omega))
                  obtain ⟨ve408_0, rfl, ge408_0⟩ := hMe408
                  have hv408_0 := hcc408 0 _ rfl
                  rw [Nat.add_zero, show ((Kd.slice 9 Kd.string)).sz = 1 from rfl, Nat.mul_one] at hv408_0
                  replace hv408_0 := Option.some.inj (hv408_0.symm.trans hx408_0)
                  rw [hv408_0] at ge408_0
                  have HL408_0 := Aside0.mk (show Kd.R Kd.string 9 _ _ _ _ (rd_L1 t384 0) from ge408_0)
                  clear hv408_0 ge408_0
                  clear hcc408 hce408
                  have qi408 : (0 < t384.length) = True := eq_true (by omega)
                  (try rw [show ((0 : Int)).toNat = 0 from rfl] at hx408_0)
                  (try rw [Addr.add_zero'] at hx408_0)
                  have HR408_0 := Aside0.mk hi408_0
                  have HC408_0 := Aside0.mk hl408_0
                  clear hi408_0 hl408_0
                  replace p408 := eq_true p408
                  replace q408 := eq_true q408
                  have p409 : 0 ≤ (a1 : Int) := of_decide_eq_true (by first | (with_reducible assumption) | assumption)
                  have q409 : a1 < ((rd_L1 t384 0).length : Int) := of_decide_eq_true (by first | (with_reducible assumption) | assumption)
                  obtain ⟨ad409, e409, hx409_0⟩ := Kd.at_string (by repeat (first | (with_reducible exact HR408_0.out) | (with_reducible refine Kd.C_alloc ?_ _) | (with_reducible refine Kd.C_drewN ?_ _) | (with_reducible refine Kd.C_drew ?_) | exact HR408_0.out)) a1 p409 q409
                  cases e409
                  replace p409 := eq_true p409
                  replace q409 := eq_true q409
                  have p410 : 0 ≤ (a1 : Int) := of_decide_eq_true (by first | (with_reducible assumption) | assumption)
                  have q410 : a1 < (l0.length : Int) := of_decide_eq_true (by first | (with_reducible assumption) | assumption)
                  obtain ⟨ad410, e410, hx410_0⟩ := Kd.at_string HR0.out a1 p410 q410
                  have hw410_0 := hx410_0
                  cases e410
                  replace hx410_0 := (HB.out.cell (World.block_lt_of_cell? _ _ hx410_0)).trans hx410_0
                  replace p410 := eq_true p410
                  replace q410 := eq_true q410
                  refine start_ (n := 26) (S := fun w' => w'.cell? ⟨gb401, 0, none⟩ = some (.slice Ao41 t395.length co41) ∧ w'.cell? ⟨gb401, 1, none⟩ = some (.slice Ao43 t398.length co43) ∧ w'.cell? ad408 = some (.slice (some ad409) (rd_L1 t384 0).length c408_0) ∧ w'.cell? (ad409.add (a1).toNat) = some (.string (rdOf ByteArray.empty (rd_L1 t384 0) a1)) ∧ w'.cell? (ad410.add (a1).toNat) = some (.string (rdOf ByteArray.empty l0 a1))) (ds := []) #[false, false, false, false, false, false, false, false, false, false, false, false, false, false, false, false, false, false, false, false, false, false, false, false, false, false] (by kernel_rfl) rfl rfl ⟨(blk_cell BK401.out 0).trans rfl, (blk_cell BK401.out 1).trans rfl, hx408_0, hx409_0, ((HB.out.cell (World.block_lt_of_cell? _ _ hw410_0)).trans hw410_0)⟩ (fun hHeld => ?_); refine with_tabW steeplelaw12_MerkleRoots.tab14 steeplelaw12_MerkleRoots.bits14 (fun HT_ HW_ => ?_)
                  generalize wc.drew = w58 at HO_6 HO_10 HO_402000 HO_402001 BK401 HB HL408_0 HR408_0 hx408_0 hx409_0 hx410_0 hHeld ⊢
                  refine pure_ (i := 0) (N := some 101) (v := ?_) (a' := ?_) #[true, false, false, false, false, false, false, false, false, false, false, false, false, false, false, false, false, false, false, false, false, false, false, false, false, false] rfl rfl (any_of HT_.out (by kernel_rfl)) (fun _ _ _ h => h) (Or.inl ⟨by rfl, ?_⟩) ?_ ?_
                  rotate_left
                  ·intro w'
                   go_simp
                   with_reducible rfl
                  rotate_left
                  ·simp only [Act.put, List.setIfInBounds_toArray, List.set_cons_zero, List.set_cons_succ, i64_w, i32_w]
                   rfl
                  refine pure_ (i := 1) (N := some 102) (v := ?_) (a' := ?_) #[true, true, false, false, false, false, false, false, false, false, false, false, false, false, false, false, false, false, false, false, false, false, false, false, false, false] rfl rfl (any_of HT_.out (by kernel_rfl)) (fun _ _ _ h => h) (Or.inl ⟨by rfl, ?_⟩) ?_ ?_
                  rotate_left
                  ·intro w'
                   go_simp
                   with_reducible rfl
                  rotate_left
                  ·simp only [Act.put, List.setIfInBounds_toArray, List.set_cons_zero, List.set_cons_succ, i64_w, i32_w]
                   rfl
                  refine pure_ (i := 2) (N := some 103) (v := ?_) (a' := ?_) #[true, true, true, false, false, false, false, false, false, false, false, false, false, false, false, false, false, false, false, false, false, false, false, false, false, false] rfl rfl (any_of HT_.out (by kernel_rfl)) (fun _ _ _ h => h) (Or.inl ⟨by rfl, ?_⟩) ?_ ?_
                  rotate_left
                  ·intro w'
                   go_simp
                   with_reducible rfl
                  rotate_left
                  ·simp only [Act.put, List.setIfInBounds_toArray, List.set_cons_zero, List.set_cons_succ, i64_w, i32_w]
                   rfl
                  refine pure_ (i := 3) (N := some 104) (v := ?_) (a' := ?_) #[true, true, true, true, false, false, false, false, false, false, false, false, false, false, false, false, false, false, false, false, false, false, false, false, false, false] rfl rfl (any_of HT_.out (by kernel_rfl)) (fun _ _ _ h => h) (Or.inl ⟨by rfl, ?_⟩) ?_ ?_
                  rotate_left
                  ·intro w'
                   go_simp
                   with_reducible rfl
                  rotate_left
                  ·simp only [Act.put, List.setIfInBounds_toArray, List.set_cons_zero, List.set_cons_succ, i64_w, i32_w]
                   rfl
                  refine pure_ (i := 5) (N := some 106) (v := ?_) (a' := ?_) #[true, true, true, true, false, true, false, false, false, false, false, false, false, false, false, false, false, false, false, false, false, false, false, false, false, false] rfl rfl (any_of HT_.out (by kernel_rfl)) (fun _ _ _ h => h) (Or.inl ⟨by rfl, ?_⟩) ?_ ?_
                  rotate_left
                  ·intro w'
                   go_simp
                   with_reducible rfl
                  rotate_left
                  ·simp only [Act.put, List.setIfInBounds_toArray, List.set_cons_zero, List.set_cons_succ, i64_w, i32_w]
                   rfl
                  refine pure_ (i := 6) (N := some 107) (v := ?_) (a' := ?_) #[true, true, true, true, false, true, true, false, false, false, false, false, false, false, false, false, false, false, false, false, false, false, false, false, false, false] rfl rfl (any_of HT_.out (by kernel_rfl)) (fun _ _ _ h => h) (Or.inl ⟨by rfl, ?_⟩) ?_ ?_
                  rotate_left
                  ·intro w'
                   go_simp
                   with_reducible rfl
                  rotate_left
                  ·simp only [Act.put, List.setIfInBounds_toArray, List.set_cons_zero, List.set_cons_succ, i64_w, i32_w]
                   rfl
                  refine take_ (i := 4) (N := some 105) (v := ?_) (a' := ?_) #[true, true, true, true, true, true, true, false, false, false, false, false, false, false, false, false, false, false, false, false, false, false, false, false, false, false] rfl rfl (take_ofW HT_.out HW_.out (by kernel_rfl)) (fun _ _ _ h => h) (Or.inl ⟨by rfl, ?_⟩) hHeld ?_ ?_
                  rotate_left
                  ·rintro w' ⟨s0, s1, s2, s3, s4⟩
                   go_simp
                   with_reducible rfl
                  rotate_left
                  ·simp only [Act.put, List.setIfInBounds_toArray, List.set_cons_zero, List.set_cons_succ, i64_w, i32_w]
                   rfl
                  refine one_ (i := 7) (N := some 108) #[true, true, true, true, true, true, true, true, false, false, false, false, false, false, false, false, false, false, false, false, false, false, false, false, false, false] rfl rfl (one_of HT_.out (by kernel_rfl)) (by decide) (fun K hK => ?_)
                  refine goes_ Try.func19 (by kernel_rfl) rfl #[.agg #[.slice Ao41 t395.length co41, .slice Ao43 t398.length co43], .slice (some ad410) l0.length c0, .int .i64 a1] (by rfl) rfl rfl (by (try simp only [List.map_toArray, List.map_cons, List.map_nil]); first | done | rfl | (simp only [List.length_drop, List.length_take]; rfl)) ?_
                  with_reducible refine (steepleref12_Path.calls kj32 _ _ t395 _ _ t398 _ _ l0 a1 t404 _ ?side1 ?side2 ?side3 ?side4 ?side5 ?side6 A50.out).mono ?_
                  (case side1 => repeat (first | exact (Kd.R_reads' HO_402000.out).2.2 | (with_reducible refine Kd.C_alloc ?_ _) | (with_reducible refine Kd.C_drewN ?_ _) | (with_reducible refine Kd.C_drew ?_)))
                  (case side2 => exact (Kd.R_reads' HO_402000.out).2.1)
                  (case side3 => repeat (first | exact (Kd.S_reads' HO_402001.out).2.2 | (with_reducible refine Kd.C_alloc ?_ _) | (with_reducible refine Kd.C_drewN ?_ _) | (with_reducible refine Kd.C_drew ?_)))
                  (case side4 => exact (Kd.S_reads' HO_402001.out).2.1)
                  (case side5 => repeat (first | exact (Kd.C_below HR0.out HB.out) | (with_reducible refine Kd.C_alloc ?_ _) | (with_reducible refine Kd.C_drewN ?_ _) | (with_reducible refine Kd.C_drew ?_)))
                  (case side6 => exact HC0.out)
                  rintro e w59 ⟨v405, rfl, ho0, hb⟩
                  have HS2_ := (hb.cell (World.block_lt_of_cell? _ _ (hHeld.2.2.1))).trans (hHeld.2.2.1)
                  have HS3_ := (hb.cell (World.block_lt_of_cell? _ _ (hHeld.2.2.2.1))).trans (hHeld.2.2.2.1)
                  refine ⟨_, rfl, ?_⟩
                  have HO406 := Aside0.mk (Kd.R_lower (Kd.R_new' ho0 (Kd.R_lt (kr HO_10.out))) (below_size (bq HB.out)))
                  replace HO_6 := Aside0.mk (Kd.S_elder' (by (with_reducible repeat (first | apply Kd.S_alloc | apply Kd.S_drewN | apply Kd.S_drew)); exact HO_6.out) (Kd.R_base ho0) hb)
                  replace HO_10 := Aside0.mk (Kd.R_elder' (kr HO_10.out) (Kd.R_base ho0) hb)
                  replace HO_402000 := kb HO_402000 hb
                  replace HO_402001 := Aside0.mk (Kd.S_below (by (with_reducible repeat (first | apply Kd.S_alloc | apply Kd.S_drewN | apply Kd.S_drew)); exact HO_402001.out) hb)
                  replace BK401 := bb BK401 hb
                  replace HB := bh HB hb
                  (try clear hb)
                  (try clear hb2)
                  (try clear hk)
                  (try clear hi)
                  (try clear ho0)
                  obtain ⟨Ao60, co60, eo60⟩ := Kd.R_slice HO_10.out
                  (first | subst eo60 | (injection eo60 with f1_ f2_ f3_; have f4_ := f1_.symm; have f5_ := f3_.symm; clear f1_ f2_ f3_; subst f4_; subst f5_))
                  obtain ⟨Ao61, co61, eo61⟩ := Kd.R_slice HO406.out
                  (first | subst eo61 | (injection eo61 with f1_ f2_ f3_; have f4_ := f1_.symm; have f5_ := f3_.symm; clear f1_ f2_ f3_; subst f4_; subst f5_))
                  refine hK.out _ _ ⟨(blk_cell BK401.out 0).trans rfl, (blk_cell BK401.out 1).trans rfl, HS2_, HS3_, ((HB.out.cell (World.block_lt_of_cell? _ _ hw410_0)).trans hw410_0)⟩ (fun hHeld => ?_)
                  clear hK K
                  refine norm_ (a' := ?_) ?_ ?_
                  rotate_left
                  ·show Act.put _ (some 108) _ = _
                   simp only [Act.put, List.setIfInBounds_toArray, List.set_cons_zero, List.set_cons_succ, i64_w, i32_w]
                   rfl
                  refine one_ (i := 8) (N := some 109) #[true, true, true, true, true, true, true, true, true, false, false, false, false, false, false, false, false, false, false, false, false, false, false, false, false, false] rfl rfl (one_of HT_.out (by kernel_rfl)) (by decide) (fun K hK => ?_)
                  refine goes_ Try.func18 (by kernel_rfl) rfl #[.slice Ao60 t390.length co60, .slice Ao61 t404.length co61] (by rfl) rfl rfl (by (try simp only [List.map_toArray, List.map_cons, List.map_nil]); first | done | rfl | (simp only [List.length_drop, List.length_take]; rfl)) ?_
                  with_reducible refine (steeplelaw01_Texts.calls kj32 _ _ t390 _ _ t404 true _ ?side1 ?side2 ?side3 ?side4 A51.out).mono ?_
                  (case side1 => repeat (first | exact (Kd.R_reads' HO_10.out).2.2 | (with_reducible refine Kd.C_alloc ?_ _) | (with_reducible refine Kd.C_drewN ?_ _) | (with_reducible refine Kd.C_drew ?_)))
                  (case side2 => exact (Kd.R_reads' HO_10.out).2.1)
                  (case side3 => repeat (first | exact (Kd.R_reads' HO406.out).2.2 | (with_reducible refine Kd.C_alloc ?_ _) | (with_reducible refine Kd.C_drewN ?_ _) | (with_reducible refine Kd.C_drew ?_)))
                  (case side4 => exact (Kd.R_reads' HO406.out).2.1)
                  rintro e w' ⟨rfl, ⟨nd, rfl⟩⟩
                  refine ⟨_, rfl, ?_⟩
                  refine hK.out _ _ ⟨(blk_cell BK401.out 0).trans rfl, (blk_cell BK401.out 1).trans rfl, hHeld.2.2.1, hHeld.2.2.2.1, ((HB.out.cell (World.block_lt_of_cell? _ _ hw410_0)).trans hw410_0)⟩ (fun hHeld => ?_)
                  clear hK K
                  refine norm_ (a' := ?_) ?_ ?_
                  rotate_left
                  ·show Act.put _ (some 109) _ = _
                   simp only [Act.put, List.setIfInBounds_toArray, List.set_cons_zero, List.set_cons_succ, i64_w, i32_w]
                   rfl
                  refine pure_ (i := 9) (N := some 110) (v := ?_) (a' := ?_) #[true, true, true, true, true, true, true, true, true, true, false, false, false, false, false, false, false, false, false, false, false, false, false, false, false, false] rfl rfl (any_of HT_.out (by kernel_rfl)) (fun _ _ _ h => h) (Or.inl ⟨by rfl, ?_⟩) ?_ ?_
                  rotate_left
                  ·intro w'
                   go_simp
                   with_reducible rfl
                  rotate_left
                  ·simp only [Act.put, List.setIfInBounds_toArray, List.set_cons_zero, List.set_cons_succ, i64_w, i32_w]
                   rfl
                  refine pure_ (i := 10) (N := some 111) (v := ?_) (a' := ?_) #[true, true, true, true, true, true, true, true, true, true, true, false, false, false, false, false, false, false, false, false, false, false, false, false, false, false] rfl rfl (any_of HT_.out (by kernel_rfl)) (fun _ _ _ h => h) (Or.inl ⟨by rfl, ?_⟩) ?_ ?_
                  rotate_left
                  ·intro w'
                   go_simp
                   with_reducible rfl
                  rotate_left
                  ·simp only [Act.put, List.setIfInBounds_toArray, List.set_cons_zero, List.set_cons_succ, i64_w, i32_w]
                   rfl
                  refine pure_ (i := 11) (N := some 112) (v := ?_) (a' := ?_) #[true, true, true, true, true, true, true, true, true, true, true, true, false, false, false, false, false, false, false, false, false, false, false, false, false, false] rfl rfl (any_of HT_.out (by kernel_rfl)) (fun _ _ _ h => h) (Or.inl ⟨by rfl, ?_⟩) ?_ ?_
                  rotate_left
                  ·intro w'
                   go_simp
                   with_reducible rfl
                  rotate_left
                  ·simp only [Act.put, List.setIfInBounds_toArray, List.set_cons_zero, List.set_cons_succ, i64_w, i32_w]
                   rfl
                  refine pure_ (i := 12) (N := some 113) (v := ?_) (a' := ?_) #[true, true, true, true, true, true, true, true, true, true, true, true, true, false, false, false, false, false, false, false, false, false, false, false, false, false] rfl rfl (any_of HT_.out (by kernel_rfl)) (fun _ _ _ h => h) (Or.inl ⟨by rfl, ?_⟩) ?_ ?_
                  rotate_left
                  ·intro w'
                   go_simp
                   with_reducible rfl
                  rotate_left
                  ·simp only [Act.put, List.setIfInBounds_toArray, List.set_cons_zero, List.set_cons_succ, i64_w, i32_w]
                   rfl
                  refine pure_ (i := 14) (N := some 115) (v := ?_) (a' := ?_) #[true, true, true, true, true, true, true, true, true, true, true, true, true, false, true, false, false, false, false, false, false, false, false, false, false, false] rfl rfl (any_of HT_.out (by kernel_rfl)) (fun _ _ _ h => h) (Or.inl ⟨by rfl, ?_⟩) ?_ ?_
                  rotate_left
                  ·intro w'
                   go_simp
                   with_reducible rfl
                  rotate_left
                  ·simp only [Act.put, List.setIfInBounds_toArray, List.set_cons_zero, List.set_cons_succ, i64_w, i32_w]
                   rfl
                  refine pure_ (i := 18) (N := some 119) (v := ?_) (a' := ?_) #[true, true, true, true, true, true, true, true, true, true, true, true, true, false, true, false, false, false, true, false, false, false, false, false, false, false] rfl rfl (any_of HT_.out (by kernel_rfl)) (fun _ _ _ h => h) (Or.inl ⟨by rfl, ?_⟩) ?_ ?_
                  rotate_left
                  ·intro w'
                   go_simp
                   with_reducible rfl
                  rotate_left
                  ·simp only [Act.put, List.setIfInBounds_toArray, List.set_cons_zero, List.set_cons_succ, i64_w, i32_w]
                   rfl
                  refine pure_ (i := 19) (N := some 120) (v := ?_) (a' := ?_) #[true, true, true, true, true, true, true, true, true, true, true, true, true, false, true, false, false, false, true, true, false, false, false, false, false, false] rfl rfl (any_of HT_.out (by kernel_rfl)) (fun _ _ _ h => h) (Or.inl ⟨by rfl, ?_⟩) ?_ ?_
                  rotate_left
                  ·intro w'
                   go_simp
                   with_reducible rfl
                  rotate_left
                  ·simp only [Act.put, List.setIfInBounds_toArray, List.set_cons_zero, List.set_cons_succ, i64_w, i32_w]
                   rfl
                  refine pure_ (i := 20) (N := some 121) (v := ?_) (a' := ?_) #[true, true, true, true, true, true, true, true, true, true, true, true, true, false, true, false, false, false, true, true, true, false, false, false, false, false] rfl rfl (any_of HT_.out (by kernel_rfl)) (fun _ _ _ h => h) (Or.inl ⟨by rfl, ?_⟩) ?_ ?_
                  rotate_left
                  ·intro w'
                   go_simp
                   with_reducible rfl
                  rotate_left
                  ·simp only [Act.put, List.setIfInBounds_toArray, List.set_cons_zero, List.set_cons_succ, i64_w, i32_w]
                   rfl
                  refine take_ (i := 13) (N := some 114) (v := ?_) (a' := ?_) #[true, true, true, true, true, true, true, true, true, true, true, true, true, true, true, false, false, false, true, true, true, false, false, false, false, false] rfl rfl (take_ofW HT_.out HW_.out (by kernel_rfl)) (fun _ _ _ h => h) (Or.inl ⟨by rfl, ?_⟩) hHeld ?_ ?_
                  rotate_left
                  ·rintro w' ⟨s0, s1, s2, s3, s4⟩
                   go_simp
                   with_reducible rfl
                  rotate_left
                  ·simp only [Act.put, List.setIfInBounds_toArray, List.set_cons_zero, List.set_cons_succ, i64_w, i32_w]
                   rfl
                  refine pure_ (i := 15) (N := some 116) (v := ?_) (a' := ?_) #[true, true, true, true, true, true, true, true, true, true, true, true, true, true, true, true, false, false, true, true, true, false, false, false, false, false] rfl rfl (any_of HT_.out (by kernel_rfl)) (fun _ _ _ h => h) (Or.inl ⟨by rfl, ?_⟩) ?_ ?_
                  rotate_left
                  ·intro w'
                   go_simp
                   with_reducible rfl
                  rotate_left
                  ·simp only [Act.put, List.setIfInBounds_toArray, List.set_cons_zero, List.set_cons_succ, i64_w, i32_w]
                   rfl
                  refine take_ (i := 16) (N := some 117) (v := ?_) (a' := ?_) #[true, true, true, true, true, true, true, true, true, true, true, true, true, true, true, true, true, false, true, true, true, false, false, false, false, false] rfl rfl (take_ofW HT_.out HW_.out (by kernel_rfl)) (fun _ _ _ h => h) (Or.inl ⟨by rfl, ?_⟩) hHeld ?_ ?_
                  rotate_left
                  ·rintro w' ⟨s0, s1, s2, s3, s4⟩
                   go_simp
                   with_reducible rfl
                  rotate_left
                  ·simp only [Act.put, List.setIfInBounds_toArray, List.set_cons_zero, List.set_cons_succ, i64_w, i32_w]
                   rfl
                  refine take_ (i := 17) (N := some 118) (v := ?_) (a' := ?_) #[true, true, true, true, true, true, true, true, true, true, true, true, true, true, true, true, true, true, true, true, true, false, false, false, false, false] rfl rfl (take_ofW HT_.out HW_.out (by kernel_rfl)) (fun _ _ _ h => h) (Or.inl ⟨by rfl, ?_⟩) hHeld ?_ ?_
                  rotate_left
                  ·rintro w' ⟨s0, s1, s2, s3, s4⟩
                   go_simp
                   with_reducible rfl
                  rotate_left
                  ·simp only [Act.put, List.setIfInBounds_toArray, List.set_cons_zero, List.set_cons_succ, i64_w, i32_w]
                   rfl
                  refine take_ (i := 21) (N := some 122) (v := ?_) (a' := ?_) #[true, true, true, true, true, true, true, true, true, true, true, true, true, true, true, true, true, true, true, true, true, true, false, false, false, false] rfl rfl (take_ofW HT_.out HW_.out (by kernel_rfl)) (fun _ _ _ h => h) (Or.inl ⟨by rfl, ?_⟩) hHeld ?_ ?_
                  rotate_left
                  ·rintro w' ⟨s0, s1, s2, s3, s4⟩
                   go_simp
                   with_reducible rfl
                  rotate_left
                  ·simp only [Act.put, List.setIfInBounds_toArray, List.set_cons_zero, List.set_cons_succ, i64_w, i32_w]
                   rfl
                  refine one_ (i := 22) (N := some 123) #[true, true, true, true, true, true, true, true, true, true, true, true, true, true, true, true, true, true, true, true, true, true, true, false, false, false] rfl rfl (one_of HT_.out (by kernel_rfl)) (by decide) (fun K hK => ?_)
                  refine goes_ Try.func20 (by kernel_rfl) rfl #[.agg #[.slice Ao41 t395.length co41, .slice Ao43 t398.length co43], .string (rdOf ByteArray.empty l0 a1)] (by rfl) rfl rfl (by (try simp only [List.map_toArray, List.map_cons, List.map_nil]); first | done | rfl | (simp only [List.length_drop, List.length_take]; rfl)) ?_
                  with_reducible refine (steepleref12_Leaf.calls kj32 _ _ t395 _ _ t398 (rdOf ByteArray.empty l0 a1) t411 _ ?side1 ?side2 ?side3 ?side4 A57.out).mono ?_
                  (case side1 => repeat (first | exact (Kd.R_reads' HO_402000.out).2.2 | (with_reducible refine Kd.C_alloc ?_ _) | (with_reducible refine Kd.C_drewN ?_ _) | (with_reducible refine Kd.C_drew ?_)))
                  (case side2 => exact (Kd.R_reads' HO_402000.out).2.1)
                  (case side3 => repeat (first | exact (Kd.S_reads' HO_402001.out).2.2 | (with_reducible refine Kd.C_alloc ?_ _) | (with_reducible refine Kd.C_drewN ?_ _) | (with_reducible refine Kd.C_drew ?_)))
                  (case side4 => exact (Kd.S_reads' HO_402001.out).2.1)
                  rintro e w62 ⟨rfl, hb⟩
                  have HS2_ := (hb.cell (World.block_lt_of_cell? _ _ (hHeld.2.2.1))).trans (hHeld.2.2.1)
                  have HS3_ := (hb.cell (World.block_lt_of_cell? _ _ (hHeld.2.2.2.1))).trans (hHeld.2.2.2.1)
                  refine ⟨_, rfl, ?_⟩
                  replace HO_6 := Aside0.mk (Kd.S_below (by (with_reducible repeat (first | apply Kd.S_alloc | apply Kd.S_drewN | apply Kd.S_drew)); exact HO_6.out) hb)
                  replace HO_10 := kb HO_10 hb
                  replace HO_402000 := kb HO_402000 hb
                  replace HO_402001 := Aside0.mk (Kd.S_below (by (with_reducible repeat (first | apply Kd.S_alloc | apply Kd.S_drewN | apply Kd.S_drew)); exact HO_402001.out) hb)
                  replace HO406 := kb HO406 hb
                  replace BK401 := bb BK401 hb
                  replace HB := bh HB hb
                  (try clear hb)
                  (try clear hb2)
                  (try clear hk)
                  (try clear hi)
                  refine hK.out _ _ ⟨(blk_cell BK401.out 0).trans rfl, (blk_cell BK401.out 1).trans rfl, HS2_, HS3_, ((HB.out.cell (World.block_lt_of_cell? _ _ hw410_0)).trans hw410_0)⟩ (fun hHeld => ?_)
                  clear hK K
                  refine norm_ (a' := ?_) ?_ ?_
                  rotate_left
                  ·show Act.put _ (some 123) _ = _
                   simp only [Act.put, List.setIfInBounds_toArray, List.set_cons_zero, List.set_cons_succ, i64_w, i32_w]
                   rfl
                  refine pure_ (i := 23) (N := some 124) (v := ?_) (a' := ?_) #[true, true, true, true, true, true, true, true, true, true, true, true, true, true, true, true, true, true, true, true, true, true, true, true, false, false] rfl rfl (any_of HT_.out (by kernel_rfl)) (fun _ _ _ h => h) (Or.inl ⟨by rfl, ?_⟩) ?_ ?_
                  rotate_left
                  ·intro w'
                   go_simp
                   with_reducible rfl
                  rotate_left
                  ·simp only [Act.put, List.setIfInBounds_toArray, List.set_cons_zero, List.set_cons_succ, i64_w, i32_w]
                   rfl
                  refine pure_ (i := 24) (N := some 125) (v := ?_) (a' := ?_) #[true, true, true, true, true, true, true, true, true, true, true, true, true, true, true, true, true, true, true, true, true, true, true, true, true, false] rfl rfl (any_of HT_.out (by kernel_rfl)) (fun _ _ _ h => h) (Or.inl ⟨by rfl, ?_⟩) ?_ ?_
                  rotate_left
                  ·intro w'
                   go_simp
                   with_reducible rfl
                  rotate_left
                  ·simp only [Act.put, List.setIfInBounds_toArray, List.set_cons_zero, List.set_cons_succ, i64_w, i32_w]
                   rfl
                  refine pure_ (i := 25) (N := some 4) (v := ?_) (a' := ?_) #[true, true, true, true, true, true, true, true, true, true, true, true, true, true, true, true, true, true, true, true, true, true, true, true, true, true] rfl rfl (any_of HT_.out (by kernel_rfl)) (fun _ _ _ h => h) (Or.inl ⟨by rfl, ?_⟩) ?_ ?_
                  rotate_left
                  ·intro w'
                   go_simp
                   with_reducible rfl
                  rotate_left
                  ·simp only [Act.put, List.setIfInBounds_toArray, List.set_cons_zero, List.set_cons_succ, i64_w, i32_w]
                   rfl
                  refine done_ (done_of HT_.out (by kernel_rfl)) ?_
                  try go_wp2
                  go_ret
                  exact ⟨by first | rfl | (simp [errW_none, errW_some] <;> rfl) | (simp [*, errW_none, errW_some] <;> rfl), (by first | exact bq HB.out | exact below_step HB0.out (bq HB.out))⟩
                 ·rw [if_neg c56] at H
                  exact absurd H (by simp)
                ·rw [if_neg c55] at H
                 exact absurd H (by simp)
               ·rw [if_neg c54] at H
                exact absurd H (by simp)
              ·rw [if_neg c53] at H
               exact absurd H (by simp)
             ·replace c52 := Bool.eq_false_iff.mpr c52
              subst c52
              have H1 : (none) = some r := by rw [if_neg (show ¬ (false = true) by decide)] at H; exact H
              clear H
              have H := H1
              clear H1
              exact absurd H (by simp)
            ·rw [if_neg c49] at H
             have c49b0 : (t391 == 0) = false := beq_eq_false_iff_ne.mpr c49
             have c49b1 : (t391 != 0) = true := bne_iff_ne.mpr c49
             exact absurd H (by simp)
        ·rw [if_neg c32] at H
         exact absurd H (by simp)
       ·rw [if_neg c30] at H
        exact absurd H (by simp)
      ·rw [if_neg c28] at H
       exact absurd H (by simp)
     ·rw [if_neg c27] at H
      exact absurd H (by simp)

/-- THE ONE PURE STATEMENT of steeplelaw12_MerkleRoots. -/
def steeplelaw12_MerkleRoots.Pure : Prop := ∀ (x0 : List ByteArray) (x1 : Int), (x0.length ≤ maxLen ∧ x0.length * 16 ≤ 140737488351232 ∧ ∀ y0 ∈ x0, y0.size ≤ 140737488351232) → (Lit.int .i64 x1).wf = true → ∃ k, steeplelaw12_MerkleRoots.f k x0 x1 = some true

end Go.Proofs.Ytmibjgjgfombaaa.P
