/- Functions that the law reaches, as Lean functions. Conditions: those that each theorem names. -/
import Derived.Test.YthgiifakcgjlaaaPx0
import Derived.Test.YthgiifakcgjlaaaX2
import Derived.Test.YthgiifakcgjlaaaHBox
import Derived.Test.YthgiifakcgjlaaaPx5
import Derived.Test.YthgiifakcgjlaaaPx8
import Derived.Test.YthgiifakcgjlaaaPx9
set_option maxHeartbeats 8000000
set_option maxRecDepth 100000
namespace Go.Proofs.Ythgiifakcgjlaaa.P
open Go.RowKit YthgiifakcgjlaaaX YthgiifakcgjlaaaW.PrintWords YthgiifakcgjlaaaW.PrintLast YthgiifakcgjlaaaW.PrintMore
attribute [local go_sem] max2_int min2_int max_two min_two max_three min_three max_four min_four
set_option linter.unusedVariables false
set_option linter.unusedSimpArgs false

def octet_Reader_Elem.l0 : Nat → Int → ByteArray → Int → Int → ByteArray → Int → Int → Int → Option (Int × Int × ByteArray × Int)
 | 0, _, _, _, _, _, _, _, _ => none
 | k + 1, x1, x5, x26, x27, x1000, x1001, x270000, x270001 => if x27 < x26 then (if x27 < 8 then (if 0 ≤ x27 then (if x27 < (x5.size : Int) then (if 0 ≤ (wrap64 (8 * x27)) then (octet_Reader_Elem.l0 k x1 x5 x26 (wrap64 (x27 + 1)) x1000 x1001 x270000 (Go.bits .or .u64 x270001 (shl .u64 (IntKind.u64.wrap (bt x5 x27)) (wrap64 (8 * x27))))) else (none)) else (none)) else (none)) else (if 0 ≤ x27 then (if x27 < (x5.size : Int) then (if 0 ≤ (wrap64 (8 * (wrap64 (x27 - 8)))) then (octet_Reader_Elem.l0 k x1 x5 x26 (wrap64 (x27 + 1)) x1000 x1001 (Go.bits .or .u64 x270000 (shl .u64 (IntKind.u64.wrap (bt x5 x27)) (wrap64 (8 * (wrap64 (x27 - 8)))))) x270001) else (none)) else (none)) else (none))) else ((octet_Of.f k x1 x270000 x270001).bind fun t270 => (if t270 = true then (some (x270000, x270001, x1000, x1001)) else ((octet_Reader_stop.f x1000 x1001 5).bind fun bt271 => (some (0, 0, bt271.1, bt271.2)))))
def octet_Reader_Elem.f (k : Nat) (s0_0 : ByteArray) (s0_1 : Int) (a1 : Int) : Option (Int × Int × ByteArray × Int) := (octet_Wide.f k a1).bind fun t261 => (if t261 = 0 then ((octet_Reader_stop.f s0_0 s0_1 1).bind fun bt262 => (some (0, 0, bt262.1, bt262.2))) else ((octet_Wide.f k a1).bind fun t264 => ((octet_Reader_take.f s0_0 s0_1 t264).bind fun bt265 => (if bt265.2.1 = true then (octet_Reader_Elem.l0 k a1 bt265.1 (bt265.1.size : Int) 0 bt265.2.2.1 bt265.2.2.2 0 0) else (some (0, 0, bt265.2.2.1, bt265.2.2.2))))))
def octet_Reader_Elem.T12 : Bool × List (List Nat × List Nat) := (true, [([], []), ([0], [0]), ([], []), ([], []), ([2, 3], [2, 3]), ([4], [4]), ([], []), ([6], [6]), ([5, 7], [5, 7]), ([1, 8], [1, 8]), ([0, 1, 2, 3, 4, 5, 6, 7, 8, 9], []), ([10, 9, 0, 1, 2, 3, 4, 5, 6, 7, 8, 9], [9, 10])])
def octet_Reader_Elem.B12 : List Nat := [0, 1, 0, 0, 12, 28, 0, 64, 252, 511, 1023, 2047]
theorem octet_Reader_Elem.tab12 : rtab .any (opsOf Try.f48 12) = octet_Reader_Elem.T12 := by kernel_rfl
theorem octet_Reader_Elem.bits12 : waitsOk octet_Reader_Elem.T12.2 octet_Reader_Elem.B12 = true := by kernel_rfl
def octet_Reader_Elem.T13 : Bool × List (List Nat × List Nat) := (true, [([], []), ([0], [0]), ([], []), ([], []), ([2, 3], [2, 3]), ([4], [4]), ([], []), ([6], [6]), ([7], [7]), ([5, 8], [5, 8]), ([1, 9], [1, 9]), ([0, 1, 2, 3, 4, 5, 6, 7, 8, 9, 10], []), ([11, 10, 0, 1, 2, 3, 4, 5, 6, 7, 8, 9, 10], [10, 11])])
def octet_Reader_Elem.B13 : List Nat := [0, 1, 0, 0, 12, 28, 0, 64, 192, 508, 1023, 2047, 4095]
theorem octet_Reader_Elem.tab13 : rtab .any (opsOf Try.f48 13) = octet_Reader_Elem.T13 := by kernel_rfl
theorem octet_Reader_Elem.bits13 : waitsOk octet_Reader_Elem.T13.2 octet_Reader_Elem.B13 = true := by kernel_rfl
theorem octet_Reader_Elem.calls (k : Nat) (g : Nat) (s0_0 : ByteArray) (s0_1 : Int) (a1 : Int) (r1 : Int) (r2 : Int) (r3 : ByteArray) (r4 : Int) (w0 w : World) (hI : IsS145 w0 w g s0_0 s0_1) (hB : Below w0.heap.size w0 w) (h : octet_Reader_Elem.f k s0_0 s0_1 a1 = some (r1, r2, r3, r4)) :
  Calls Try.prog 48 #[.pointer (some ⟨g, 0, none⟩), .int .i64 a1] w fun e w' => e = .returned (.agg #[.int .u64 r1, .int .u64 r2]) ∧ IsS145 w0 w' g r3 r4 ∧ Below w0.heap.size w0 w' ∧ KeepBut w w' g none := by
 have hu61 := Try.underlying61
 have HI0 := Aside0.mk hI
 have HK := Aside0.mk (KeepBut.refl w g none)
 have HL := Aside0.mk hB.size
 clear hI
 have HW0 := Aside0.mk hB.size
 have HB := Aside0.mk hB
 clear hB
 have H : ((octet_Wide.f k a1).bind fun t261 => (if t261 = 0 then ((octet_Reader_stop.f s0_0 s0_1 1).bind fun bt262 => (some (0, 0, bt262.1, bt262.2))) else ((octet_Wide.f k a1).bind fun t264 => ((octet_Reader_take.f s0_0 s0_1 t264).bind fun bt265 => (if bt265.2.1 = true then (octet_Reader_Elem.l0 k a1 bt265.1 (bt265.1.size : Int) 0 bt265.2.2.1 bt265.2.2.2 0 0) else (some (0, 0, bt265.2.2.1, bt265.2.2.2))))))) = some (r1, r2, r3, r4) := h
 clear h
 obtain ⟨t261, A3, H⟩ := bm2 H
 try dsimp only at H
 by_cases c4 : t261 = 0
 ·rw [if_pos c4] at H
  have c4b0 : (t261 == 0) = true := beq_iff_eq.mpr c4
  have c4b1 : (t261 != 0) = false := bne_eq_false_iff_eq.mpr c4
  clear c4
  obtain ⟨⟨t262, t263⟩, A5, H⟩ := bm2 H
  try dsimp only at H
  simp only [Option.some.injEq, Prod.mk.injEq] at H
  obtain ⟨rfl, rfl, rfl, rfl⟩ := H
  go_enter Try.func48, Try.ntmps48
  go_wp2_with (first | ((with_reducible refine gate_dst (N := 4) rfl ?_); refine box_event ?hg (N := 4) ?hd (cs := #[.int .u64 0, .int .u64 0]) (t := 61) ?hr ?_; (case hd => rfl); (case hg => rfl); (case hr => go_simp <;> rfl); intro gb260 hg w6 hbox hb; have n0_ := Aside0.mk (IsS145.below (by repeat (first | (with_reducible first | exact HI0.out | apply ia | apply iN | apply iD | apply i0 | apply i1) | exact HI0.out)) hb); have n1_ := Aside0.mk (KeepBut.trans (by repeat (first | (with_reducible first | exact HK.out | apply kS | apply kN | apply kD | apply kA) | exact HK.out)) (KeepBut.of_below hb g none) (.inl rfl)); have n2_ := Aside0.mk (below_step (by repeat (first | (with_reducible first | exact HB.out | apply ba | apply bN | apply bD | refine bS ?_ (IsS145.ge HI0.out)) | exact HB.out)) hb); have n3_ := Aside0.mk (hbox); have n4_ := Aside0.mk ((by rw [hg]; exact (keep_size (w := w) (g := g) (row := none) (by repeat (first | (with_reducible first | exact HK.out | apply kS | apply kN | apply kD | apply kA) | exact HK.out))) : w.heap.size ≤ gb260)); have n5_ := Aside0.mk ((Nat.le_trans HW0.out (by rw [hg]; exact (keep_size (w := w) (g := g) (row := none) (by repeat (first | (with_reducible first | exact HK.out | apply kS | apply kN | apply kD | apply kA) | exact HK.out))) : w.heap.size ≤ gb260) : w0.heap.size ≤ gb260)); have n6_ := Aside0.mk ((by rw [hg]; exact Nat.ne_of_lt (IsS145.lt (show IsS145 w0 _ g s0_0 s0_1 from by repeat (first | (with_reducible first | exact HI0.out | apply ia | apply iN | apply iD | apply i0 | apply i1) | exact HI0.out))) : g ≠ gb260)); have n7_ := Aside0.mk ((by rw [hg]; exact Nat.ne_of_gt (IsS145.lt (show IsS145 w0 _ g s0_0 s0_1 from by repeat (first | (with_reducible first | exact HI0.out | apply ia | apply iN | apply iD | apply i0 | apply i1) | exact HI0.out))) : gb260 ≠ g)); clear HI0; clear HK; clear HB; have HI0 := n0_; have HK := n1_; have HB := n2_; have BK260 := n3_; have GW260 := n4_; have GE260 := n5_; have NB0_260 := n6_; have NB260_0 := n7_; clear n0_ n1_ n2_ n3_ n4_ n5_ n6_ n7_; clear hb hbox hg) | ((with_reducible refine gate_callee (f := 90) rfl ?_); refine gL (some 10) rfl Try.func90 #[.int .i64 a1] rfl ?_; (with_reducible refine (octet_Wide.calls k a1 t261 _ A3.out).mono ?_); rintro e w' ⟨rfl, ⟨nd, rfl⟩⟩; refine ⟨_, rfl, ?_⟩; (try (rw [drewN_self w6]; generalize hq_ : World.drewN w6 _ = w6; have n0_ : Aside0 (w6.heap[gb260]? = some (.cells #[.int .u64 0, .int .u64 0] 61 (0, 0))) := ⟨by rw [← hq_]; exact (by (with_reducible repeat (first | refine blk_drewN ?_ _ | refine blk_drew ?_ | refine blk_alloc ?_ _)); exact BK260.out)⟩; have n1_ : Aside0 (IsS145 w0 w6 g s0_0 s0_1) := ⟨by rw [← hq_]; exact (by repeat (first | (with_reducible first | exact HI0.out | apply ia | apply iN | apply iD | apply i0 | apply i1 | refine iF ?_ NB0_260.out _) | exact HI0.out))⟩; have n2_ : Aside0 (KeepBut w w6 g none) := ⟨by rw [← hq_]; exact (by repeat (first | (with_reducible first | exact HK.out | apply kS | apply kN | apply kD | apply kA | refine keep_far ?_ GW260.out _) | exact HK.out))⟩; have n3_ : Aside0 (Below w0.heap.size w0 w6) := ⟨by rw [← hq_]; exact (by repeat (first | (with_reducible first | exact HB.out | apply ba | apply bN | apply bD | refine bS ?_ (IsS145.ge HI0.out) | refine bS ?_ GE260.out) | exact HB.out))⟩; clear BK260 HI0 HK HB hq_; have BK260 := n0_; have HI0 := n1_; have HK := n2_; have HB := n3_; clear n0_ n1_ n2_ n3_))) | ((with_reducible refine gate_callee (f := 87) rfl ?_); refine gL (some 13) rfl Try.func87 #[.pointer (some ⟨g, 0, none⟩), .int .i64 1] rfl ?_; (with_reducible refine (octet_Reader_stop.calls g s0_0 s0_1 1 t262 t263 w0 _ ?side1 ?side2 A5.out).mono ?_); (case side1 => repeat (first | (with_reducible first | exact HI0.out | apply ia | apply iN | apply iD | apply i0 | apply i1 | refine iF ?_ NB0_260.out _) | exact HI0.out)); (case side2 => repeat (first | (with_reducible first | exact HB.out | apply ba | apply bN | apply bD | refine bS ?_ (IsS145.ge HI0.out) | refine bS ?_ GE260.out) | exact HB.out)); rintro e w7 ⟨rfl, hi, hb, hk⟩; refine ⟨_, rfl, ?_⟩; have n0_ := Aside0.mk (KeepBut.blk hk (g' := gb260) (o := .cells #[.int .u64 0, .int .u64 0] 61 (0, 0)) (by (with_reducible repeat (first | refine blk_drewN ?_ _ | refine blk_drew ?_ | refine blk_alloc ?_ _)); exact BK260.out) NB260_0.out (by simp)); have n1_ := Aside0.mk (KeepBut.trans (by repeat (first | (with_reducible first | exact HK.out | apply kS | apply kN | apply kD | apply kA | refine keep_far ?_ GW260.out _) | exact HK.out)) hk (.inl rfl)); have n2_ := Aside0.mk (hb); have n3_ := Aside0.mk (hi); clear BK260; clear HK; clear HB; clear HI0; have BK260 := n0_; have HK := n1_; have HB := n2_; have HI0 := n3_; clear n0_ n1_ n2_ n3_; (try clear hb); (try clear hk hi); have hnb8 := NB260_0.out; have hnc8 := NB0_260.out; have hcz9_0 : w7.cell? ⟨gb260, 0, none⟩ = some (.int .u64 0) := bc BK260 0 rfl; have hcz9_1 : w7.cell? ⟨gb260, 1, none⟩ = some (.int .u64 0) := bc BK260 1 rfl; have hfz9_0 := blk_frozen BK260.out 0; have hfz9_1 := blk_frozen BK260.out 1))
  refine bodyPost_ret (results_cell_row rfl _ _ gb260 61 #[.int .u64 0, .int .u64 0] (0, 0) _ rfl (by (with_reducible repeat (first | refine blk_drewN ?_ _ | refine blk_drew ?_ | refine blk_alloc ?_ _)); refine blk_put (cs := #[.int .u64 0, .int .u64 0]) ?_ 1 _ rfl; (with_reducible repeat (first | refine blk_drewN ?_ _ | refine blk_drew ?_ | refine blk_alloc ?_ _)); refine blk_put (cs := #[.int .u64 0, .int .u64 0]) ?_ 0 _ rfl; (with_reducible repeat (first | refine blk_drewN ?_ _ | refine blk_drew ?_ | refine blk_alloc ?_ _)); exact BK260.out) Try.underlying61 rfl (by kernel_rfl)) rfl ?_
  exact ⟨er, by repeat (first | (with_reducible first | exact HI0.out | apply ia | apply iN | apply iD | apply i0 | apply i1 | refine iF ?_ NB0_260.out _) | exact HI0.out), by repeat (first | (with_reducible first | exact HB.out | apply ba | apply bN | apply bD | refine bS ?_ (IsS145.ge HI0.out) | refine bS ?_ GE260.out) | exact HB.out), by repeat (first | (with_reducible first | exact HK.out | apply kS | apply kN | apply kD | apply kA | refine keep_far ?_ GW260.out _) | exact HK.out)⟩
 rw [if_neg c4] at H
 have c4b0 : (t261 == 0) = false := beq_eq_false_iff_ne.mpr c4
 have c4b1 : (t261 != 0) = true := bne_iff_ne.mpr c4
 obtain ⟨t264, A10, H⟩ := bm2 H
 try dsimp only at H
 obtain ⟨⟨t265, t266, t267, t268⟩, A11, H⟩ := bm2 H
 try dsimp only at H
 by_cases c12 : t266 = true
 rotate_left
 ·replace c12 := Bool.eq_false_iff.mpr c12
  subst c12
  have H1 : (some (0, 0, t267, t268)) = some (r1, r2, r3, r4) := by rw [if_neg (show ¬ (false = true) by decide)] at H; exact H
  clear H
  have H := H1
  clear H1
  simp only [Option.some.injEq, Prod.mk.injEq] at H
  obtain ⟨rfl, rfl, rfl, rfl⟩ := H
  go_enter Try.func48, Try.ntmps48
  go_wp2_with (first | ((with_reducible refine gate_dst (N := 4) rfl ?_); refine box_event ?hg (N := 4) ?hd (cs := #[.int .u64 0, .int .u64 0]) (t := 61) ?hr ?_; (case hd => rfl); (case hg => rfl); (case hr => go_simp <;> rfl); intro gb260 hg w51 hbox hb; have n0_ := Aside0.mk (IsS145.below (by repeat (first | (with_reducible first | exact HI0.out | apply ia | apply iN | apply iD | apply i0 | apply i1) | exact HI0.out)) hb); have n1_ := Aside0.mk (KeepBut.trans (by repeat (first | (with_reducible first | exact HK.out | apply kS | apply kN | apply kD | apply kA) | exact HK.out)) (KeepBut.of_below hb g none) (.inl rfl)); have n2_ := Aside0.mk (below_step (by repeat (first | (with_reducible first | exact HB.out | apply ba | apply bN | apply bD | refine bS ?_ (IsS145.ge HI0.out)) | exact HB.out)) hb); have n3_ := Aside0.mk (hbox); have n4_ := Aside0.mk ((by rw [hg]; exact (keep_size (w := w) (g := g) (row := none) (by repeat (first | (with_reducible first | exact HK.out | apply kS | apply kN | apply kD | apply kA) | exact HK.out))) : w.heap.size ≤ gb260)); have n5_ := Aside0.mk ((Nat.le_trans HW0.out (by rw [hg]; exact (keep_size (w := w) (g := g) (row := none) (by repeat (first | (with_reducible first | exact HK.out | apply kS | apply kN | apply kD | apply kA) | exact HK.out))) : w.heap.size ≤ gb260) : w0.heap.size ≤ gb260)); have n6_ := Aside0.mk ((by rw [hg]; exact Nat.ne_of_lt (IsS145.lt (show IsS145 w0 _ g s0_0 s0_1 from by repeat (first | (with_reducible first | exact HI0.out | apply ia | apply iN | apply iD | apply i0 | apply i1) | exact HI0.out))) : g ≠ gb260)); have n7_ := Aside0.mk ((by rw [hg]; exact Nat.ne_of_gt (IsS145.lt (show IsS145 w0 _ g s0_0 s0_1 from by repeat (first | (with_reducible first | exact HI0.out | apply ia | apply iN | apply iD | apply i0 | apply i1) | exact HI0.out))) : gb260 ≠ g)); clear HI0; clear HK; clear HB; have HI0 := n0_; have HK := n1_; have HB := n2_; have BK260 := n3_; have GW260 := n4_; have GE260 := n5_; have NB0_260 := n6_; have NB260_0 := n7_; clear n0_ n1_ n2_ n3_ n4_ n5_ n6_ n7_; clear hb hbox hg) | ((with_reducible refine gate_callee (f := 90) rfl ?_); refine gL (some 10) rfl Try.func90 #[.int .i64 a1] rfl ?_; (with_reducible refine (octet_Wide.calls k a1 t261 _ A3.out).mono ?_); rintro e w' ⟨rfl, ⟨nd, rfl⟩⟩; refine ⟨_, rfl, ?_⟩; (try (rw [drewN_self w51]; generalize hq_ : World.drewN w51 _ = w51; have n0_ : Aside0 (w51.heap[gb260]? = some (.cells #[.int .u64 0, .int .u64 0] 61 (0, 0))) := ⟨by rw [← hq_]; exact (by (with_reducible repeat (first | refine blk_drewN ?_ _ | refine blk_drew ?_ | refine blk_alloc ?_ _)); exact BK260.out)⟩; have n1_ : Aside0 (IsS145 w0 w51 g s0_0 s0_1) := ⟨by rw [← hq_]; exact (by repeat (first | (with_reducible first | exact HI0.out | apply ia | apply iN | apply iD | apply i0 | apply i1 | refine iF ?_ NB0_260.out _) | exact HI0.out))⟩; have n2_ : Aside0 (KeepBut w w51 g none) := ⟨by rw [← hq_]; exact (by repeat (first | (with_reducible first | exact HK.out | apply kS | apply kN | apply kD | apply kA | refine keep_far ?_ GW260.out _) | exact HK.out))⟩; have n3_ : Aside0 (Below w0.heap.size w0 w51) := ⟨by rw [← hq_]; exact (by repeat (first | (with_reducible first | exact HB.out | apply ba | apply bN | apply bD | refine bS ?_ (IsS145.ge HI0.out) | refine bS ?_ GE260.out) | exact HB.out))⟩; clear BK260 HI0 HK HB hq_; have BK260 := n0_; have HI0 := n1_; have HK := n2_; have HB := n3_; clear n0_ n1_ n2_ n3_))) | ((with_reducible refine gate_callee (f := 90) rfl ?_); refine gL (some 18) rfl Try.func90 #[.int .i64 a1] rfl ?_; (with_reducible refine (octet_Wide.calls k a1 t264 _ A10.out).mono ?_); rintro e w' ⟨rfl, ⟨nd, rfl⟩⟩; refine ⟨_, rfl, ?_⟩; (try (rw [drewN_self w51]; generalize hq_ : World.drewN w51 _ = w51; have n0_ : Aside0 (w51.heap[gb260]? = some (.cells #[.int .u64 0, .int .u64 0] 61 (0, 0))) := ⟨by rw [← hq_]; exact (by (with_reducible repeat (first | refine blk_drewN ?_ _ | refine blk_drew ?_ | refine blk_alloc ?_ _)); exact BK260.out)⟩; have n1_ : Aside0 (IsS145 w0 w51 g s0_0 s0_1) := ⟨by rw [← hq_]; exact (by repeat (first | (with_reducible first | exact HI0.out | apply ia | apply iN | apply iD | apply i0 | apply i1 | refine iF ?_ NB0_260.out _) | exact HI0.out))⟩; have n2_ : Aside0 (KeepBut w w51 g none) := ⟨by rw [← hq_]; exact (by repeat (first | (with_reducible first | exact HK.out | apply kS | apply kN | apply kD | apply kA | refine keep_far ?_ GW260.out _) | exact HK.out))⟩; have n3_ : Aside0 (Below w0.heap.size w0 w51) := ⟨by rw [← hq_]; exact (by repeat (first | (with_reducible first | exact HB.out | apply ba | apply bN | apply bD | refine bS ?_ (IsS145.ge HI0.out) | refine bS ?_ GE260.out) | exact HB.out))⟩; clear BK260 HI0 HK HB hq_; have BK260 := n0_; have HI0 := n1_; have HK := n2_; have HB := n3_; clear n0_ n1_ n2_ n3_))) | ((with_reducible refine gate_callee (f := 86) rfl ?_); refine gL (some 19) rfl Try.func86 #[.pointer (some ⟨g, 0, none⟩), .int .i64 t264] rfl ?_; (with_reducible refine (octet_Reader_take.calls g s0_0 s0_1 t264 t265 false t267 t268 w0 _ ?side1 ?side2 A11.out).mono ?_); (case side1 => repeat (first | (with_reducible first | exact HI0.out | apply ia | apply iN | apply iD | apply i0 | apply i1 | refine iF ?_ NB0_260.out _) | exact HI0.out)); (case side2 => repeat (first | (with_reducible first | exact HB.out | apply ba | apply bN | apply bD | refine bS ?_ (IsS145.ge HI0.out) | refine bS ?_ GE260.out) | exact HB.out)); rintro e w52 ⟨rfl, hi, hb, hk⟩; refine ⟨_, rfl, ?_⟩; have n0_ := Aside0.mk (KeepBut.blk hk (g' := gb260) (o := .cells #[.int .u64 0, .int .u64 0] 61 (0, 0)) (by (with_reducible repeat (first | refine blk_drewN ?_ _ | refine blk_drew ?_ | refine blk_alloc ?_ _)); exact BK260.out) NB260_0.out (by simp)); have n1_ := Aside0.mk (KeepBut.trans (by repeat (first | (with_reducible first | exact HK.out | apply kS | apply kN | apply kD | apply kA | refine keep_far ?_ GW260.out _) | exact HK.out)) hk (.inl rfl)); have n2_ := Aside0.mk (hb); have n3_ := Aside0.mk (hi); clear BK260; clear HK; clear HB; clear HI0; have BK260 := n0_; have HK := n1_; have HB := n2_; have HI0 := n3_; clear n0_ n1_ n2_ n3_; (try clear hb); (try clear hk hi); have hnb53 := NB260_0.out; have hnc53 := NB0_260.out; have hcz54_0 : w52.cell? ⟨gb260, 0, none⟩ = some (.int .u64 0) := bc BK260 0 rfl; have hcz54_1 : w52.cell? ⟨gb260, 1, none⟩ = some (.int .u64 0) := bc BK260 1 rfl; have hfz54_0 := blk_frozen BK260.out 0; have hfz54_1 := blk_frozen BK260.out 1))
  refine bodyPost_ret (results_cell_row rfl _ _ gb260 61 #[.int .u64 0, .int .u64 0] (0, 0) _ rfl (by (with_reducible repeat (first | refine blk_drewN ?_ _ | refine blk_drew ?_ | refine blk_alloc ?_ _)); refine blk_put (cs := #[.int .u64 0, .int .u64 0]) ?_ 1 _ rfl; (with_reducible repeat (first | refine blk_drewN ?_ _ | refine blk_drew ?_ | refine blk_alloc ?_ _)); refine blk_put (cs := #[.int .u64 0, .int .u64 0]) ?_ 0 _ rfl; (with_reducible repeat (first | refine blk_drewN ?_ _ | refine blk_drew ?_ | refine blk_alloc ?_ _)); exact BK260.out) Try.underlying61 rfl (by kernel_rfl)) rfl ?_
  exact ⟨er, by repeat (first | (with_reducible first | exact HI0.out | apply ia | apply iN | apply iD | apply i0 | apply i1 | refine iF ?_ NB0_260.out _) | exact HI0.out), by repeat (first | (with_reducible first | exact HB.out | apply ba | apply bN | apply bD | refine bS ?_ (IsS145.ge HI0.out) | refine bS ?_ GE260.out) | exact HB.out), by repeat (first | (with_reducible first | exact HK.out | apply kS | apply kN | apply kD | apply kA | refine keep_far ?_ GW260.out _) | exact HK.out)⟩

 subst c12
 have H1 : (octet_Reader_Elem.l0 k a1 t265 (t265.size : Int) 0 t267 t268 0 0) = some (r1, r2, r3, r4) := by rw [if_pos rfl] at H; exact H
 clear H
 have H := H1
 clear H1
 have H' := Aside0.mk H
 clear H
 go_enter Try.func48, Try.ntmps48
 go_wp2_with (first | ((with_reducible refine gate_dst (N := 4) rfl ?_); refine box_event ?hg (N := 4) ?hd (cs := #[.int .u64 0, .int .u64 0]) (t := 61) ?hr ?_; (case hd => rfl); (case hg => rfl); (case hr => go_simp <;> rfl); intro gb260 hg w13 hbox hb; have n0_ := Aside0.mk (IsS145.below (by repeat (first | (with_reducible first | exact HI0.out | apply ia | apply iN | apply iD | apply i0 | apply i1) | exact HI0.out)) hb); have n1_ := Aside0.mk (KeepBut.trans (by repeat (first | (with_reducible first | exact HK.out | apply kS | apply kN | apply kD | apply kA) | exact HK.out)) (KeepBut.of_below hb g none) (.inl rfl)); have n2_ := Aside0.mk (below_step (by repeat (first | (with_reducible first | exact HB.out | apply ba | apply bN | apply bD | refine bS ?_ (IsS145.ge HI0.out)) | exact HB.out)) hb); have n3_ := Aside0.mk (hbox); have n4_ := Aside0.mk ((by rw [hg]; exact (keep_size (w := w) (g := g) (row := none) (by repeat (first | (with_reducible first | exact HK.out | apply kS | apply kN | apply kD | apply kA) | exact HK.out))) : w.heap.size ≤ gb260)); have n5_ := Aside0.mk ((Nat.le_trans HW0.out (by rw [hg]; exact (keep_size (w := w) (g := g) (row := none) (by repeat (first | (with_reducible first | exact HK.out | apply kS | apply kN | apply kD | apply kA) | exact HK.out))) : w.heap.size ≤ gb260) : w0.heap.size ≤ gb260)); have n6_ := Aside0.mk ((by rw [hg]; exact Nat.ne_of_lt (IsS145.lt (show IsS145 w0 _ g s0_0 s0_1 from by repeat (first | (with_reducible first | exact HI0.out | apply ia | apply iN | apply iD | apply i0 | apply i1) | exact HI0.out))) : g ≠ gb260)); have n7_ := Aside0.mk ((by rw [hg]; exact Nat.ne_of_gt (IsS145.lt (show IsS145 w0 _ g s0_0 s0_1 from by repeat (first | (with_reducible first | exact HI0.out | apply ia | apply iN | apply iD | apply i0 | apply i1) | exact HI0.out))) : gb260 ≠ g)); clear HI0; clear HK; clear HB; have HI0 := n0_; have HK := n1_; have HB := n2_; have BK260 := n3_; have GW260 := n4_; have GE260 := n5_; have NB0_260 := n6_; have NB260_0 := n7_; clear n0_ n1_ n2_ n3_ n4_ n5_ n6_ n7_; clear hb hbox hg) | ((with_reducible refine gate_callee (f := 90) rfl ?_); refine gL (some 10) rfl Try.func90 #[.int .i64 a1] rfl ?_; (with_reducible refine (octet_Wide.calls k a1 t261 _ A3.out).mono ?_); rintro e w' ⟨rfl, ⟨nd, rfl⟩⟩; refine ⟨_, rfl, ?_⟩) | ((with_reducible refine gate_callee (f := 90) rfl ?_); refine gL (some 18) rfl Try.func90 #[.int .i64 a1] rfl ?_; (with_reducible refine (octet_Wide.calls k a1 t264 _ A10.out).mono ?_); rintro e w' ⟨rfl, ⟨nd, rfl⟩⟩; refine ⟨_, rfl, ?_⟩) | ((with_reducible refine gate_callee (f := 86) rfl ?_); refine gL (some 19) rfl Try.func86 #[.pointer (some ⟨g, 0, none⟩), .int .i64 t264] rfl ?_; (with_reducible refine (octet_Reader_take.calls g s0_0 s0_1 t264 t265 true t267 t268 w0 _ ?side1 ?side2 A11.out).mono ?_); (case side1 => repeat (first | (with_reducible first | exact HI0.out | apply ia | apply iN | apply iD | apply i0 | apply i1 | refine iF ?_ NB0_260.out _) | exact HI0.out)); (case side2 => repeat (first | (with_reducible first | exact HB.out | apply ba | apply bN | apply bD | refine bS ?_ (IsS145.ge HI0.out) | refine bS ?_ GE260.out) | exact HB.out)); rintro e w14 ⟨rfl, hi, hb, hk⟩; refine ⟨_, rfl, ?_⟩; have n0_ := Aside0.mk (KeepBut.blk hk (g' := gb260) (o := .cells #[.int .u64 0, .int .u64 0] 61 (0, 0)) (by (with_reducible repeat (first | refine blk_drewN ?_ _ | refine blk_drew ?_ | refine blk_alloc ?_ _)); exact BK260.out) NB260_0.out (by simp)); have n1_ := Aside0.mk (KeepBut.trans (by repeat (first | (with_reducible first | exact HK.out | apply kS | apply kN | apply kD | apply kA | refine keep_far ?_ GW260.out _) | exact HK.out)) hk (.inl rfl)); have n2_ := Aside0.mk (hb); have n3_ := Aside0.mk (hi); clear BK260; clear HK; clear HB; clear HI0; have BK260 := n0_; have HK := n1_; have HB := n2_; have HI0 := n3_; clear n0_ n1_ n2_ n3_; (try clear hb); (try clear hk hi)) | ((with_reducible refine gate_dst (N := 7) rfl ?_); refine box_event ?hg (N := 7) ?hd (cs := #[.int .u64 0, .int .u64 0]) (t := 61) ?hr ?_; (case hd => rfl); (case hg => rfl); (case hr => go_simp <;> rfl); intro gb269 hg w15 hbox hb; have n0_ := Aside0.mk (IsS145.below (by repeat (first | (with_reducible first | exact HI0.out | apply ia | apply iN | apply iD | apply i0 | apply i1 | refine iF ?_ NB0_260.out _) | exact HI0.out)) hb); have n1_ := Aside0.mk (blk_below (g := gb260) (o := .cells #[.int .u64 0, .int .u64 0] 61 (0, 0)) (by (with_reducible repeat (first | refine blk_drewN ?_ _ | refine blk_drew ?_ | refine blk_alloc ?_ _)); exact BK260.out) hb); have n2_ := Aside0.mk (KeepBut.trans (by repeat (first | (with_reducible first | exact HK.out | apply kS | apply kN | apply kD | apply kA | refine keep_far ?_ GW260.out _) | exact HK.out)) (KeepBut.of_below hb g none) (.inl rfl)); have n3_ := Aside0.mk (below_step (by repeat (first | (with_reducible first | exact HB.out | apply ba | apply bN | apply bD | refine bS ?_ (IsS145.ge HI0.out) | refine bS ?_ GE260.out) | exact HB.out)) hb); have n4_ := Aside0.mk (hbox); have n5_ := Aside0.mk ((by rw [hg]; exact (keep_size (w := w) (g := g) (row := none) (by repeat (first | (with_reducible first | exact HK.out | apply kS | apply kN | apply kD | apply kA | refine keep_far ?_ GW260.out _) | exact HK.out))) : w.heap.size ≤ gb269)); have n6_ := Aside0.mk ((Nat.le_trans HW0.out (by rw [hg]; exact (keep_size (w := w) (g := g) (row := none) (by repeat (first | (with_reducible first | exact HK.out | apply kS | apply kN | apply kD | apply kA | refine keep_far ?_ GW260.out _) | exact HK.out))) : w.heap.size ≤ gb269) : w0.heap.size ≤ gb269)); have n7_ := Aside0.mk ((by rw [hg]; exact Nat.ne_of_lt (blk_lt (g := gb260) (o := .cells #[.int .u64 0, .int .u64 0] 61 (0, 0)) (by (with_reducible repeat (first | refine blk_drewN ?_ _ | refine blk_drew ?_ | refine blk_alloc ?_ _)); exact BK260.out)) : gb260 ≠ gb269)); have n8_ := Aside0.mk ((by rw [hg]; exact Nat.ne_of_gt (blk_lt (g := gb260) (o := .cells #[.int .u64 0, .int .u64 0] 61 (0, 0)) (by (with_reducible repeat (first | refine blk_drewN ?_ _ | refine blk_drew ?_ | refine blk_alloc ?_ _)); exact BK260.out)) : gb269 ≠ gb260)); have n9_ := Aside0.mk ((by rw [hg]; exact Nat.ne_of_lt (IsS145.lt (show IsS145 w0 _ g t267 t268 from by repeat (first | (with_reducible first | exact HI0.out | apply ia | apply iN | apply iD | apply i0 | apply i1 | refine iF ?_ NB0_260.out _) | exact HI0.out))) : g ≠ gb269)); have n10_ := Aside0.mk ((by rw [hg]; exact Nat.ne_of_gt (IsS145.lt (show IsS145 w0 _ g t267 t268 from by repeat (first | (with_reducible first | exact HI0.out | apply ia | apply iN | apply iD | apply i0 | apply i1 | refine iF ?_ NB0_260.out _) | exact HI0.out))) : gb269 ≠ g)); clear HI0; clear BK260; clear HK; clear HB; have HI0 := n0_; have BK260 := n1_; have HK := n2_; have HB := n3_; have BK269 := n4_; have GW269 := n5_; have GE269 := n6_; have NB260_269 := n7_; have NB269_260 := n8_; have NB0_269 := n9_; have NB269_0 := n10_; clear n0_ n1_ n2_ n3_ n4_ n5_ n6_ n7_ n8_ n9_ n10_; clear hb hbox hg))
 go_loopg [27] k (fun kq v27 w' => ∃ (x27_1 : Int) (x270000_1 : Int) (x270001_1 : Int), v27 = .int .i64 x27_1 ∧ Aside0 (octet_Reader_Elem.l0 kq a1 t265 (t265.size : Int) x27_1 t267 t268 x270000_1 x270001_1 = some (r1, r2, r3, r4)) ∧ Aside0 (kq ≤ k) ∧ Aside0 (w'.heap[gb260]? = some (.cells #[.int .u64 0, .int .u64 0] 61 (0, 0))) ∧ Aside0 (w'.heap[gb269]? = some (.cells #[.int .u64 x270000_1, .int .u64 x270001_1] 61 (0, 0))) ∧ Aside0 (IsS145 w0 w' g t267 t268) ∧ Aside0 (KeepBut w w' g none) ∧ Aside0 (Below w0.heap.size w0 w'))
 case atStart => exact ⟨(0), (0), (0), (by first | rfl | (simp; done) | (simp [*]; done)), H', ⟨Nat.le_refl _⟩, ⟨by (with_reducible repeat (first | refine blk_drewN ?_ _ | refine blk_drew ?_ | refine blk_alloc ?_ _)); exact BK260.out⟩, ⟨by (with_reducible repeat (first | refine blk_drewN ?_ _ | refine blk_drew ?_ | refine blk_alloc ?_ _)); exact BK269.out⟩, ⟨by repeat (first | (with_reducible first | exact HI0.out | apply ia | apply iN | apply iD | apply i0 | apply i1 | refine iF ?_ NB0_260.out _ | refine iF ?_ NB0_269.out _) | exact HI0.out)⟩, ⟨by repeat (first | (with_reducible first | exact HK.out | apply kS | apply kN | apply kD | apply kA | refine keep_far ?_ GW260.out _ | refine keep_far ?_ GW269.out _) | exact HK.out)⟩, ⟨by repeat (first | (with_reducible first | exact HB.out | apply ba | apply bN | apply bD | refine bS ?_ (IsS145.ge HI0.out) | refine bS ?_ GE260.out | refine bS ?_ GE269.out) | exact HB.out)⟩⟩
 case round =>
  clear H'
  try clear c1
  try clear p2
  try clear c4
  try clear c4b0
  try clear c4b1
  try clear c8
  try clear c9
  try clear c12
  try clear hcz9_0 hcz9_1
  try clear hfz9_0 hfz9_1
  obtain ⟨x27_1, x270000_1, x270001_1, rfl, HA, HK1, BK260, BK269, HI0, HK, HB⟩ := hrel
  cases gk with
  | zero => exact absurd HA.out (by simp [octet_Reader_Elem.l0])
  | succ k1 =>
   have H := HA.out
   clear HA
   simp only [octet_Reader_Elem.l0] at H
   by_cases c16 : x27_1 < (t265.size : Int)
   rotate_left
   ·rw [if_neg c16] at H
    have c16b0 : decide (x27_1 < (t265.size : Int)) = false := decide_eq_false c16
    clear c16
    obtain ⟨t270, A34, H⟩ := bm2 H
    try dsimp only at H
    by_cases c35 : t270 = true
    ·subst c35
     have H1 : (some (x270000_1, x270001_1, t267, t268)) = some (r1, r2, r3, r4) := by rw [if_pos rfl] at H; exact H
     clear H
     have H := H1
     clear H1
     simp only [Option.some.injEq, Prod.mk.injEq] at H
     obtain ⟨rfl, rfl, rfl, rfl⟩ := H
     have hnb36 := NB269_260.out
     have hnc36 := NB260_269.out
     have hnb37 := NB269_0.out
     have hnc37 := NB0_269.out
     have hcz38_0 : wr.cell? ⟨gb269, 0, none⟩ = some (.int .u64 x270000_1) := bc BK269 0 rfl
     have hcz38_1 : wr.cell? ⟨gb269, 1, none⟩ = some (.int .u64 x270001_1) := bc BK269 1 rfl
     have hfz38_0 := blk_frozen BK269.out 0
     have hfz38_1 := blk_frozen BK269.out 1
     go_wp2_with (first | ((with_reducible refine gate_callee (f := 91) rfl ?_); refine gL (some 58) rfl Try.func91 #[.int .i64 a1, .agg #[.int .u64 x270000_1, .int .u64 x270001_1]] rfl ?_; (with_reducible refine (octet_Of.calls k1 a1 x270000_1 x270001_1 true _ A34.out).mono ?_); rintro e w39 ⟨rfl, hb⟩; refine ⟨_, rfl, ?_⟩; have n0_ := Aside0.mk (blk_below (g := gb260) (o := .cells #[.int .u64 0, .int .u64 0] 61 (0, 0)) (by (with_reducible repeat (first | refine blk_drewN ?_ _ | refine blk_drew ?_ | refine blk_alloc ?_ _)); exact BK260.out) hb); have n1_ := Aside0.mk (blk_below (g := gb269) (o := .cells #[.int .u64 x270000_1, .int .u64 x270001_1] 61 (0, 0)) (by (with_reducible repeat (first | refine blk_drewN ?_ _ | refine blk_drew ?_ | refine blk_alloc ?_ _)); exact BK269.out) hb); have n2_ := Aside0.mk (IsS145.below (by repeat (first | (with_reducible first | exact HI0.out | apply ia | apply iN | apply iD | apply i0 | apply i1 | refine iF ?_ NB0_260.out _ | refine iF ?_ NB0_269.out _) | exact HI0.out)) hb); have n3_ := Aside0.mk (KeepBut.trans (by repeat (first | (with_reducible first | exact HK.out | apply kS | apply kN | apply kD | apply kA | refine keep_far ?_ GW260.out _ | refine keep_far ?_ GW269.out _) | exact HK.out)) (KeepBut.of_below hb g none) (.inl rfl)); have n4_ := Aside0.mk (below_step (by repeat (first | (with_reducible first | exact HB.out | apply ba | apply bN | apply bD | refine bS ?_ (IsS145.ge HI0.out) | refine bS ?_ GE260.out | refine bS ?_ GE269.out) | exact HB.out)) hb); clear BK260; clear BK269; clear HI0; clear HK; clear HB; have BK260 := n0_; have BK269 := n1_; have HI0 := n2_; have HK := n3_; have HB := n4_; clear n0_ n1_ n2_ n3_ n4_; (try clear hb); (try clear hk hi); have hcz40_0 : w39.cell? ⟨gb269, 0, none⟩ = some (.int .u64 x270000_1) := bc BK269 0 rfl; have hcz40_1 : w39.cell? ⟨gb269, 1, none⟩ = some (.int .u64 x270001_1) := bc BK269 1 rfl; have hfz40_0 := blk_frozen BK269.out 0; have hfz40_1 := blk_frozen BK269.out 1; have hnb41 := NB260_0.out; have hnc41 := NB0_260.out; have hcz42_0 : w39.cell? ⟨gb260, 0, none⟩ = some (.int .u64 0) := bc BK260 0 rfl; have hcz42_1 : w39.cell? ⟨gb260, 1, none⟩ = some (.int .u64 0) := bc BK260 1 rfl; have hfz42_0 := blk_frozen BK260.out 0; have hfz42_1 := blk_frozen BK260.out 1))
     refine bodyPost_ret (results_cell_row rfl _ _ gb260 61 #[.int .u64 x270000_1, .int .u64 x270001_1] (0, 0) _ rfl (by (with_reducible repeat (first | refine blk_drewN ?_ _ | refine blk_drew ?_ | refine blk_alloc ?_ _)); refine blk_put (cs := #[.int .u64 x270000_1, .int .u64 0]) ?_ 1 _ rfl; (with_reducible repeat (first | refine blk_drewN ?_ _ | refine blk_drew ?_ | refine blk_alloc ?_ _)); refine blk_put (cs := #[.int .u64 0, .int .u64 0]) ?_ 0 _ rfl; (with_reducible repeat (first | refine blk_drewN ?_ _ | refine blk_drew ?_ | refine blk_alloc ?_ _)); exact BK260.out) Try.underlying61 rfl (by kernel_rfl)) rfl ?_
     exact ⟨er, by repeat (first | (with_reducible first | exact HI0.out | apply ia | apply iN | apply iD | apply i0 | apply i1 | refine iF ?_ NB0_260.out _ | refine iF ?_ NB0_269.out _) | exact HI0.out), by repeat (first | (with_reducible first | exact HB.out | apply ba | apply bN | apply bD | refine bS ?_ (IsS145.ge HI0.out) | refine bS ?_ GE260.out | refine bS ?_ GE269.out) | exact HB.out), by repeat (first | (with_reducible first | exact HK.out | apply kS | apply kN | apply kD | apply kA | refine keep_far ?_ GW260.out _ | refine keep_far ?_ GW269.out _) | exact HK.out)⟩
    replace c35 := Bool.eq_false_iff.mpr c35
    subst c35
    have H1 : ((octet_Reader_stop.f t267 t268 5).bind fun bt271 => (some (0, 0, bt271.1, bt271.2))) = some (r1, r2, r3, r4) := by rw [if_neg (show ¬ (false = true) by decide)] at H; exact H
    clear H
    have H := H1
    clear H1
    obtain ⟨⟨t271, t272⟩, A43, H⟩ := bm2 H
    try dsimp only at H
    simp only [Option.some.injEq, Prod.mk.injEq] at H
    obtain ⟨rfl, rfl, rfl, rfl⟩ := H
    have hnb44 := NB269_260.out
    have hnc44 := NB260_269.out
    have hnb45 := NB269_0.out
    have hnc45 := NB0_269.out
    have hcz46_0 : wr.cell? ⟨gb269, 0, none⟩ = some (.int .u64 x270000_1) := bc BK269 0 rfl
    have hcz46_1 : wr.cell? ⟨gb269, 1, none⟩ = some (.int .u64 x270001_1) := bc BK269 1 rfl
    have hfz46_0 := blk_frozen BK269.out 0
    have hfz46_1 := blk_frozen BK269.out 1
    go_wp2_with (first | ((with_reducible refine gate_callee (f := 91) rfl ?_); refine gL (some 58) rfl Try.func91 #[.int .i64 a1, .agg #[.int .u64 x270000_1, .int .u64 x270001_1]] rfl ?_; (with_reducible refine (octet_Of.calls k1 a1 x270000_1 x270001_1 false _ A34.out).mono ?_); rintro e w47 ⟨rfl, hb⟩; refine ⟨_, rfl, ?_⟩; have n0_ := Aside0.mk (blk_below (g := gb260) (o := .cells #[.int .u64 0, .int .u64 0] 61 (0, 0)) (by (with_reducible repeat (first | refine blk_drewN ?_ _ | refine blk_drew ?_ | refine blk_alloc ?_ _)); exact BK260.out) hb); have n1_ := Aside0.mk (blk_below (g := gb269) (o := .cells #[.int .u64 x270000_1, .int .u64 x270001_1] 61 (0, 0)) (by (with_reducible repeat (first | refine blk_drewN ?_ _ | refine blk_drew ?_ | refine blk_alloc ?_ _)); exact BK269.out) hb); have n2_ := Aside0.mk (IsS145.below (by repeat (first | (with_reducible first | exact HI0.out | apply ia | apply iN | apply iD | apply i0 | apply i1 | refine iF ?_ NB0_260.out _ | refine iF ?_ NB0_269.out _) | exact HI0.out)) hb); have n3_ := Aside0.mk (KeepBut.trans (by repeat (first | (with_reducible first | exact HK.out | apply kS | apply kN | apply kD | apply kA | refine keep_far ?_ GW260.out _ | refine keep_far ?_ GW269.out _) | exact HK.out)) (KeepBut.of_below hb g none) (.inl rfl)); have n4_ := Aside0.mk (below_step (by repeat (first | (with_reducible first | exact HB.out | apply ba | apply bN | apply bD | refine bS ?_ (IsS145.ge HI0.out) | refine bS ?_ GE260.out | refine bS ?_ GE269.out) | exact HB.out)) hb); clear BK260; clear BK269; clear HI0; clear HK; clear HB; have BK260 := n0_; have BK269 := n1_; have HI0 := n2_; have HK := n3_; have HB := n4_; clear n0_ n1_ n2_ n3_ n4_; (try clear hb); (try clear hk hi)) | ((with_reducible refine gate_callee (f := 87) rfl ?_); refine gL (some 61) rfl Try.func87 #[.pointer (some ⟨g, 0, none⟩), .int .i64 5] rfl ?_; (with_reducible refine (octet_Reader_stop.calls g t267 t268 5 t271 t272 w0 _ ?side1 ?side2 A43.out).mono ?_); (case side1 => repeat (first | (with_reducible first | exact HI0.out | apply ia | apply iN | apply iD | apply i0 | apply i1 | refine iF ?_ NB0_260.out _ | refine iF ?_ NB0_269.out _) | exact HI0.out)); (case side2 => repeat (first | (with_reducible first | exact HB.out | apply ba | apply bN | apply bD | refine bS ?_ (IsS145.ge HI0.out) | refine bS ?_ GE260.out | refine bS ?_ GE269.out) | exact HB.out)); rintro e w48 ⟨rfl, hi, hb, hk⟩; refine ⟨_, rfl, ?_⟩; have n0_ := Aside0.mk (KeepBut.blk hk (g' := gb260) (o := .cells #[.int .u64 0, .int .u64 0] 61 (0, 0)) (by (with_reducible repeat (first | refine blk_drewN ?_ _ | refine blk_drew ?_ | refine blk_alloc ?_ _)); exact BK260.out) NB260_0.out (by simp)); have n1_ := Aside0.mk (KeepBut.blk hk (g' := gb269) (o := .cells #[.int .u64 x270000_1, .int .u64 x270001_1] 61 (0, 0)) (by (with_reducible repeat (first | refine blk_drewN ?_ _ | refine blk_drew ?_ | refine blk_alloc ?_ _)); exact BK269.out) NB269_0.out (by simp)); have n2_ := Aside0.mk (KeepBut.trans (by repeat (first | (with_reducible first | exact HK.out | apply kS | apply kN | apply kD | apply kA | refine keep_far ?_ GW260.out _ | refine keep_far ?_ GW269.out _) | exact HK.out)) hk (.inl rfl)); have n3_ := Aside0.mk (hb); have n4_ := Aside0.mk (hi); clear BK260; clear BK269; clear HK; clear HB; clear HI0; have BK260 := n0_; have HK := n2_; have HB := n3_; have HI0 := n4_; clear n0_ n1_ n2_ n3_ n4_; (try clear hb); (try clear hk hi); have hnb49 := NB260_0.out; have hnc49 := NB0_260.out; have hcz50_0 : w48.cell? ⟨gb260, 0, none⟩ = some (.int .u64 0) := bc BK260 0 rfl; have hcz50_1 : w48.cell? ⟨gb260, 1, none⟩ = some (.int .u64 0) := bc BK260 1 rfl; have hfz50_0 := blk_frozen BK260.out 0; have hfz50_1 := blk_frozen BK260.out 1))
    refine bodyPost_ret (results_cell_row rfl _ _ gb260 61 #[.int .u64 0, .int .u64 0] (0, 0) _ rfl (by (with_reducible repeat (first | refine blk_drewN ?_ _ | refine blk_drew ?_ | refine blk_alloc ?_ _)); refine blk_put (cs := #[.int .u64 0, .int .u64 0]) ?_ 1 _ rfl; (with_reducible repeat (first | refine blk_drewN ?_ _ | refine blk_drew ?_ | refine blk_alloc ?_ _)); refine blk_put (cs := #[.int .u64 0, .int .u64 0]) ?_ 0 _ rfl; (with_reducible repeat (first | refine blk_drewN ?_ _ | refine blk_drew ?_ | refine blk_alloc ?_ _)); exact BK260.out) Try.underlying61 rfl (by kernel_rfl)) rfl ?_
    exact ⟨er, by repeat (first | (with_reducible first | exact HI0.out | apply ia | apply iN | apply iD | apply i0 | apply i1 | refine iF ?_ NB0_260.out _ | refine iF ?_ NB0_269.out _) | exact HI0.out), by repeat (first | (with_reducible first | exact HB.out | apply ba | apply bN | apply bD | refine bS ?_ (IsS145.ge HI0.out) | refine bS ?_ GE260.out | refine bS ?_ GE269.out) | exact HB.out), by repeat (first | (with_reducible first | exact HK.out | apply kS | apply kN | apply kD | apply kA | refine keep_far ?_ GW260.out _ | refine keep_far ?_ GW269.out _) | exact HK.out)⟩
   rw [if_pos c16] at H
   have c16b0 : decide (x27_1 < (t265.size : Int)) = true := decide_eq_true c16
   clear c16
   by_cases c17 : x27_1 < 8
   ·rw [if_pos c17] at H
    have c17b0 : decide (x27_1 < 8) = true := decide_eq_true c17
    clear c17
    by_cases c18 : 0 ≤ x27_1
    rotate_left
    ·rw [if_neg c18] at H
     exact absurd H (by simp)
    rw [if_pos c18] at H
    have c18b0 : decide (0 ≤ x27_1) = true := decide_eq_true c18
    clear c18
    by_cases c19 : x27_1 < (t265.size : Int)
    rotate_left
    ·rw [if_neg c19] at H
     exact absurd H (by simp)
    rw [if_pos c19] at H
    have c19b0 : decide (x27_1 < (t265.size : Int)) = true := decide_eq_true c19
    clear c19
    obtain ⟨ji21, hji21⟩ : ∃ j_ : Int, (wrap64 (8 * x27_1)) = j_ := ⟨_, rfl⟩
    replace H : (if 0 ≤ (ji21) then (octet_Reader_Elem.l0 k1 a1 t265 (t265.size : Int) (wrap64 (x27_1 + 1)) t267 t268 x270000_1 (Go.bits .or .u64 x270001_1 (shl .u64 (IntKind.u64.wrap (bt t265 x27_1)) (ji21)))) else (none)) = some (r1, r2, r3, r4) := by first | (rw [hji21] at H; exact H) | (simp only [hji21] at H ⊢; exact H)
    have hji21w : (IntKind.i64.wrap (8 * x27_1)) = ji21 := (i64_w _).trans hji21
    by_cases c22 : 0 ≤ (ji21)
    rotate_left
    ·rw [if_neg c22] at H
     exact absurd H (by simp)
    rw [if_pos c22] at H
    have c22b0 := eq_true c22
    have c22b1 : decide (0 ≤ (ji21)) = true := decide_eq_true c22
    clear c22
    obtain ⟨ji23, hji23⟩ : ∃ j_ : Int, (shl .u64 (IntKind.u64.wrap (bt t265 x27_1)) (ji21)) = j_ := ⟨_, rfl⟩
    replace H : (octet_Reader_Elem.l0 k1 a1 t265 (t265.size : Int) (wrap64 (x27_1 + 1)) t267 t268 x270000_1 (Go.bits .or .u64 x270001_1 (ji23))) = some (r1, r2, r3, r4) := by first | (rw [hji23] at H; exact H) | (simp only [hji23] at H ⊢; exact H)
    have hji23_ : (IntKind.u64.wrap ((IntKind.u64.wrap (bt t265 x27_1)) * 2 ^ min (ji21).toNat 64)) = ji23 := hji23
    have hji23z : (ji21) ≤ 64 → (IntKind.u64.wrap ((IntKind.u64.wrap (bt t265 x27_1)) * 2 ^ (ji21).toNat)) = ji23 := shl_small hji23
    have hji23p0 := eq_true (show (0 : Int) ≤ ji23 by rw [← hji23_]; exact wrap_u64_nonneg _)
    have hji23p1 : decide (0 ≤ (ji23 : Int)) = true := decide_eq_true (of_eq_true hji23p0)
    have H' := Aside0.mk H
    clear H
    try go_wp2
    have n0_ := Aside0.mk (blk_drew BK260.out)
    have n1_ := Aside0.mk (blk_drew BK269.out)
    have n2_ := Aside0.mk (IsS145.drew HI0.out)
    have n3_ := Aside0.mk (keep_drew HK.out)
    have n4_ := Aside0.mk (below_drew1 HB.out)
    clear BK260
    clear BK269
    clear HI0
    clear HK
    clear HB
    have BK260 := n0_
    have BK269 := n1_
    have HI0 := n2_
    have HK := n3_
    have HB := n4_
    clear n0_ n1_ n2_ n3_ n4_
    have p20 : 0 ≤ (x27_1 : Int) := dt
    have q20 : x27_1 < (t265.size : Int) := dt
    have hx20 := bt_at t265 x27_1
    replace p20 := eq_true p20
    replace q20 := eq_true q20
    refine start_ (n := 12) (S := fun w' => w'.cell? ⟨gb269, 0, none⟩ = some (.int .u64 x270000_1) ∧ w'.cell? ⟨gb269, 1, none⟩ = some (.int .u64 x270001_1)) (ds := [11]) #[Z,Z,Z,Z,Z,Z,Z,Z,Z,Z,Z,Z] (by kernel_rfl) rfl rfl (zc2 BK269) (fun hHeld => ?_); refine with_tabW octet_Reader_Elem.tab12 octet_Reader_Elem.bits12 (fun HT_ HW_ => ?_)
    generalize wr.drew = w24 at BK260 BK269 HI0 HK HB hHeld ⊢
    refine pA 0 32 #[Y,Z,Z,Z,Z,Z,Z,Z,Z,Z,Z,Z] HT_ ?_
    refine pA 2 34 #[Y,Z,Y,Z,Z,Z,Z,Z,Z,Z,Z,Z] HT_ ?_
    refine pA 3 35 #[Y,Z,Y,Y,Z,Z,Z,Z,Z,Z,Z,Z] HT_ ?_
    refine pA 6 38 #[Y,Z,Y,Y,Z,Z,Y,Z,Z,Z,Z,Z] HT_ ?_
    refine pA 7 39 #[Y,Z,Y,Y,Z,Z,Y,Y,Z,Z,Z,Z] HT_ ?_
    refine take_ (i := 1) (N := some 33) (v := ?_) (a' := ?_) #[Y,Y,Y,Y,Z,Z,Y,Y,Z,Z,Z,Z] rfl rfl (take_ofW HT_.out HW_.out (by kernel_rfl)) (fun _ _ _ h => h) (Or.inl ⟨by rfl, ?_⟩) hHeld ?_ ?_
    rotate_left
    ·rintro w' ⟨s0, s1⟩
     go_simp
     with_reducible rfl
    rotate_left
    ·simp only [Act.put, sA, s0, sS, i64_w, i32_w]
     rfl
    refine take_ (i := 4) (N := some 36) (v := ?_) (a' := ?_) #[Y,Y,Y,Y,Y,Z,Y,Y,Z,Z,Z,Z] rfl rfl (take_ofW HT_.out HW_.out (by kernel_rfl)) (fun _ _ _ h => h) (Or.inl ⟨by rfl, ?_⟩) hHeld ?_ ?_
    rotate_left
    ·rintro w' ⟨s0, s1⟩
     go_simp
     with_reducible rfl
    rotate_left
    ·simp only [Act.put, sA, s0, sS, i64_w, i32_w]
     rfl
    refine pA 5 37 #[Y,Y,Y,Y,Y,Y,Y,Y,Z,Z,Z,Z] HT_ ?_
    refine pA 8 40 #[Y,Y,Y,Y,Y,Y,Y,Y,Y,Z,Z,Z] HT_ ?_
    refine pA 9 41 #[Y,Y,Y,Y,Y,Y,Y,Y,Y,Y,Z,Z] HT_ ?_
    refine pA 10 42 #[Y,Y,Y,Y,Y,Y,Y,Y,Y,Y,Y,Z] HT_ ?_
    refine last_ (i := 11) (N := none) #[Y,Y,Y,Y,Y,Y,Y,Y,Y,Y,Y,Y] rfl rfl (one_of HT_.out (by kernel_rfl)) (by decide) (fun K hK => ?_)
    have hs25 : w24.cell? ⟨gb269, 1, none⟩ = some (.int .u64 x270001_1) := bc BK269 1 rfl
    have hfs25 := blk_frozen BK269.out 1
    have hns25_0 := NB260_269.out
    have hms25_0 := NB269_260.out
    refine skip_ (w1 := ?_) (by rfl) rfl ?_ ?_
    rotate_left
    ·go_simp
     rfl
    refine hK.out _ _ ?_
    clear hK K
    refine done_ (done_of HT_.out (by kernel_rfl)) ?_
    try go_wp2
    go_roundg k1
    case measure => have := HK1.out; omega
    case rel => exact ⟨(wrap64 (x27_1 + 1)), (x270000_1), (Go.bits .or .u64 x270001_1 (ji23)), (by first | rfl | (simp; done) | (simp [*]; done)), H', ⟨by have := HK1.out; omega⟩, ⟨by (with_reducible repeat (first | refine blk_drewN ?_ _ | refine blk_drew ?_ | refine blk_alloc ?_ _)); refine blk_far ?_ NB260_269.out _; (with_reducible repeat (first | refine blk_drewN ?_ _ | refine blk_drew ?_ | refine blk_alloc ?_ _)); exact BK260.out⟩, ⟨by (with_reducible repeat (first | refine blk_drewN ?_ _ | refine blk_drew ?_ | refine blk_alloc ?_ _)); refine blk_put (cs := #[.int .u64 x270000_1, .int .u64 x270001_1]) ?_ 1 _ rfl; (with_reducible repeat (first | refine blk_drewN ?_ _ | refine blk_drew ?_ | refine blk_alloc ?_ _)); exact BK269.out⟩, ⟨by repeat (first | (with_reducible first | exact HI0.out | apply ia | apply iN | apply iD | apply i0 | apply i1 | refine iF ?_ NB0_260.out _ | refine iF ?_ NB0_269.out _) | exact HI0.out)⟩, ⟨by repeat (first | (with_reducible first | exact HK.out | apply kS | apply kN | apply kD | apply kA | refine keep_far ?_ GW260.out _ | refine keep_far ?_ GW269.out _) | exact HK.out)⟩, ⟨by repeat (first | (with_reducible first | exact HB.out | apply ba | apply bN | apply bD | refine bS ?_ (IsS145.ge HI0.out) | refine bS ?_ GE260.out | refine bS ?_ GE269.out) | exact HB.out)⟩⟩
   rw [if_neg c17] at H
   have c17b0 : decide (x27_1 < 8) = false := decide_eq_false c17
   clear c17
   by_cases c26 : 0 ≤ x27_1
   rotate_left
   ·rw [if_neg c26] at H
    exact absurd H (by simp)
   rw [if_pos c26] at H
   have c26b0 : decide (0 ≤ x27_1) = true := decide_eq_true c26
   clear c26
   by_cases c27 : x27_1 < (t265.size : Int)
   rotate_left
   ·rw [if_neg c27] at H
    exact absurd H (by simp)
   rw [if_pos c27] at H
   have c27b0 : decide (x27_1 < (t265.size : Int)) = true := decide_eq_true c27
   clear c27
   obtain ⟨ji29, hji29⟩ : ∃ j_ : Int, (wrap64 (8 * (wrap64 (x27_1 - 8)))) = j_ := ⟨_, rfl⟩
   replace H : (if 0 ≤ (ji29) then (octet_Reader_Elem.l0 k1 a1 t265 (t265.size : Int) (wrap64 (x27_1 + 1)) t267 t268 (Go.bits .or .u64 x270000_1 (shl .u64 (IntKind.u64.wrap (bt t265 x27_1)) (ji29))) x270001_1) else (none)) = some (r1, r2, r3, r4) := by first | (rw [hji29] at H; exact H) | (simp only [hji29] at H ⊢; exact H)
   have hji29w : (IntKind.i64.wrap (8 * (wrap64 (x27_1 - 8)))) = ji29 := (i64_w _).trans hji29
   by_cases c30 : 0 ≤ (ji29)
   rotate_left
   ·rw [if_neg c30] at H
    exact absurd H (by simp)
   rw [if_pos c30] at H
   have c30b0 := eq_true c30
   have c30b1 : decide (0 ≤ (ji29)) = true := decide_eq_true c30
   clear c30
   obtain ⟨ji31, hji31⟩ : ∃ j_ : Int, (shl .u64 (IntKind.u64.wrap (bt t265 x27_1)) (ji29)) = j_ := ⟨_, rfl⟩
   replace H : (octet_Reader_Elem.l0 k1 a1 t265 (t265.size : Int) (wrap64 (x27_1 + 1)) t267 t268 (Go.bits .or .u64 x270000_1 (ji31)) x270001_1) = some (r1, r2, r3, r4) := by first | (rw [hji31] at H; exact H) | (simp only [hji31] at H ⊢; exact H)
   have hji31_ : (IntKind.u64.wrap ((IntKind.u64.wrap (bt t265 x27_1)) * 2 ^ min (ji29).toNat 64)) = ji31 := hji31
   have hji31z : (ji29) ≤ 64 → (IntKind.u64.wrap ((IntKind.u64.wrap (bt t265 x27_1)) * 2 ^ (ji29).toNat)) = ji31 := shl_small hji31
   have hji31p0 := eq_true (show (0 : Int) ≤ ji31 by rw [← hji31_]; exact wrap_u64_nonneg _)
   have hji31p1 : decide (0 ≤ (ji31 : Int)) = true := decide_eq_true (of_eq_true hji31p0)
   have H' := Aside0.mk H
   clear H
   try go_wp2
   have n0_ := Aside0.mk (blk_drew BK260.out)
   have n1_ := Aside0.mk (blk_drew BK269.out)
   have n2_ := Aside0.mk (IsS145.drew HI0.out)
   have n3_ := Aside0.mk (keep_drew HK.out)
   have n4_ := Aside0.mk (below_drew1 HB.out)
   clear BK260
   clear BK269
   clear HI0
   clear HK
   clear HB
   have BK260 := n0_
   have BK269 := n1_
   have HI0 := n2_
   have HK := n3_
   have HB := n4_
   clear n0_ n1_ n2_ n3_ n4_
   have p28 : 0 ≤ (x27_1 : Int) := dt
   have q28 : x27_1 < (t265.size : Int) := dt
   have hx28 := bt_at t265 x27_1
   replace p28 := eq_true p28
   replace q28 := eq_true q28
   refine start_ (n := 13) (S := fun w' => w'.cell? ⟨gb269, 0, none⟩ = some (.int .u64 x270000_1) ∧ w'.cell? ⟨gb269, 1, none⟩ = some (.int .u64 x270001_1)) (ds := [12]) #[Z,Z,Z,Z,Z,Z,Z,Z,Z,Z,Z,Z,Z] (by kernel_rfl) rfl rfl (zc2 BK269) (fun hHeld => ?_); refine with_tabW octet_Reader_Elem.tab13 octet_Reader_Elem.bits13 (fun HT_ HW_ => ?_)
   generalize wr.drew = w32 at BK260 BK269 HI0 HK HB hHeld ⊢
   refine pA 0 43 #[Y,Z,Z,Z,Z,Z,Z,Z,Z,Z,Z,Z,Z] HT_ ?_
   refine pA 2 45 #[Y,Z,Y,Z,Z,Z,Z,Z,Z,Z,Z,Z,Z] HT_ ?_
   refine pA 3 46 #[Y,Z,Y,Y,Z,Z,Z,Z,Z,Z,Z,Z,Z] HT_ ?_
   refine pA 6 49 #[Y,Z,Y,Y,Z,Z,Y,Z,Z,Z,Z,Z,Z] HT_ ?_
   refine pA 7 50 #[Y,Z,Y,Y,Z,Z,Y,Y,Z,Z,Z,Z,Z] HT_ ?_
   refine pA 8 51 #[Y,Z,Y,Y,Z,Z,Y,Y,Y,Z,Z,Z,Z] HT_ ?_
   refine take_ (i := 1) (N := some 44) (v := ?_) (a' := ?_) #[Y,Y,Y,Y,Z,Z,Y,Y,Y,Z,Z,Z,Z] rfl rfl (take_ofW HT_.out HW_.out (by kernel_rfl)) (fun _ _ _ h => h) (Or.inl ⟨by rfl, ?_⟩) hHeld ?_ ?_
   rotate_left
   ·rintro w' ⟨s0, s1⟩
    go_simp
    with_reducible rfl
   rotate_left
   ·simp only [Act.put, sA, s0, sS, i64_w, i32_w]
    rfl
   refine take_ (i := 4) (N := some 47) (v := ?_) (a' := ?_) #[Y,Y,Y,Y,Y,Z,Y,Y,Y,Z,Z,Z,Z] rfl rfl (take_ofW HT_.out HW_.out (by kernel_rfl)) (fun _ _ _ h => h) (Or.inl ⟨by rfl, ?_⟩) hHeld ?_ ?_
   rotate_left
   ·rintro w' ⟨s0, s1⟩
    go_simp
    with_reducible rfl
   rotate_left
   ·simp only [Act.put, sA, s0, sS, i64_w, i32_w]
    rfl
   refine pA 5 48 #[Y,Y,Y,Y,Y,Y,Y,Y,Y,Z,Z,Z,Z] HT_ ?_
   refine pA 9 52 #[Y,Y,Y,Y,Y,Y,Y,Y,Y,Y,Z,Z,Z] HT_ ?_
   refine pA 10 53 #[Y,Y,Y,Y,Y,Y,Y,Y,Y,Y,Y,Z,Z] HT_ ?_
   refine pA 11 54 #[Y,Y,Y,Y,Y,Y,Y,Y,Y,Y,Y,Y,Z] HT_ ?_
   refine last_ (i := 12) (N := none) #[Y,Y,Y,Y,Y,Y,Y,Y,Y,Y,Y,Y,Y] rfl rfl (one_of HT_.out (by kernel_rfl)) (by decide) (fun K hK => ?_)
   have hs33 : w32.cell? ⟨gb269, 0, none⟩ = some (.int .u64 x270000_1) := bc BK269 0 rfl
   have hfs33 := blk_frozen BK269.out 0
   have hns33_0 := NB260_269.out
   have hms33_0 := NB269_260.out
   refine skip_ (w1 := ?_) (by rfl) rfl ?_ ?_
   rotate_left
   ·go_simp
    rfl
   refine hK.out _ _ ?_
   clear hK K
   refine done_ (done_of HT_.out (by kernel_rfl)) ?_
   try go_wp2
   go_roundg k1
   case measure => have := HK1.out; omega
   case rel => exact ⟨(wrap64 (x27_1 + 1)), (Go.bits .or .u64 x270000_1 (ji31)), (x270001_1), (by first | rfl | (simp; done) | (simp [*]; done)), H', ⟨by have := HK1.out; omega⟩, ⟨by (with_reducible repeat (first | refine blk_drewN ?_ _ | refine blk_drew ?_ | refine blk_alloc ?_ _)); refine blk_far ?_ NB260_269.out _; (with_reducible repeat (first | refine blk_drewN ?_ _ | refine blk_drew ?_ | refine blk_alloc ?_ _)); exact BK260.out⟩, ⟨by (with_reducible repeat (first | refine blk_drewN ?_ _ | refine blk_drew ?_ | refine blk_alloc ?_ _)); refine blk_put (cs := #[.int .u64 x270000_1, .int .u64 x270001_1]) ?_ 0 _ rfl; (with_reducible repeat (first | refine blk_drewN ?_ _ | refine blk_drew ?_ | refine blk_alloc ?_ _)); exact BK269.out⟩, ⟨by repeat (first | (with_reducible first | exact HI0.out | apply ia | apply iN | apply iD | apply i0 | apply i1 | refine iF ?_ NB0_260.out _ | refine iF ?_ NB0_269.out _) | exact HI0.out)⟩, ⟨by repeat (first | (with_reducible first | exact HK.out | apply kS | apply kN | apply kD | apply kA | refine keep_far ?_ GW260.out _ | refine keep_far ?_ GW269.out _) | exact HK.out)⟩, ⟨by repeat (first | (with_reducible first | exact HB.out | apply ba | apply bN | apply bD | refine bS ?_ (IsS145.ge HI0.out) | refine bS ?_ GE260.out | refine bS ?_ GE269.out) | exact HB.out)⟩⟩
def octet_Reader_Elems.l0 : Nat → Int → Int → List (S61) → Int → ByteArray → Int → Option ((List (S61)) × ByteArray × Int)
 | 0, _, _, _, _, _, _ => none
 | k + 1, x1, x7, x8, x9, x1000, x1001 => if x9 < x7 then ((octet_Reader_Fail.f x1000 x1001).bind fun bt279 => (if bt279.1 = 0 then ((octet_Reader_Elem.f k bt279.2.1 bt279.2.2 x1).bind fun bt282 => (if x8.length < 8796093022208 then (octet_Reader_Elems.l0 k x1 x7 (x8 ++ [(⟨bt282.1, bt282.2.1⟩ : S61)]) (wrap64 (x9 + 1)) bt282.2.2.1 bt282.2.2.2) else (none))) else ((octet_Reader_Fail.f bt279.2.1 bt279.2.2).bind fun bt289 => (if bt289.1 = 0 then (some (x8, bt289.2.1, bt289.2.2)) else (some (([] : List (S61)), bt289.2.1, bt289.2.2)))))) else ((octet_Reader_Fail.f x1000 x1001).bind fun bt292 => (if bt292.1 = 0 then (some (x8, bt292.2.1, bt292.2.2)) else (some (([] : List (S61)), bt292.2.1, bt292.2.2))))
def octet_Reader_Elems.f (k : Nat) (s0_0 : ByteArray) (s0_1 : Int) (a1 : Int) (a2 : Int) : Option ((List (S61)) × ByteArray × Int) := (octet_Wide.f k a1).bind fun t273 => (if t273 = 0 then ((octet_Reader_stop.f s0_0 s0_1 1).bind fun bt274 => (some (([] : List (S61)), bt274.1, bt274.2))) else ((octet_Reader_Num.f s0_0 s0_1 a2).bind fun bt276 => (octet_Reader_Elems.l0 k a1 bt276.1 ([] : List (S61)) 0 bt276.2.1 bt276.2.2)))
theorem octet_Reader_Elems.calls (k : Nat) (g : Nat) (s0_0 : ByteArray) (s0_1 : Int) (a1 : Int) (a2 : Int) (r1 : List (S61)) (r2 : ByteArray) (r3 : Int) (w0 w : World) (hI : IsS145 w0 w g s0_0 s0_1) (hB : Below w0.heap.size w0 w) (h : octet_Reader_Elems.f k s0_0 s0_1 a1 a2 = some (r1, r2, r3)) :
  Calls Try.prog 74 #[.pointer (some ⟨g, 0, none⟩), .int .i64 a1, .int .i64 a2] w fun e w' => ∃ v0_ : Value, e = .returned (v0_) ∧ Kd.R k61 61 w' w.heap.size (fun _ => True) v0_ r1 ∧ IsS145 w0 w' g r2 r3 ∧ Below w0.heap.size w0 w' ∧ KeepBut w w' g none := by
 have HI0 := Aside0.mk hI
 have HK := Aside0.mk (KeepBut.refl w g none)
 have HL := Aside0.mk hB.size
 clear hI
 have HW0 := Aside0.mk hB.size
 have HB := Aside0.mk hB
 clear hB
 have H : ((octet_Wide.f k a1).bind fun t273 => (if t273 = 0 then ((octet_Reader_stop.f s0_0 s0_1 1).bind fun bt274 => (some (([] : List (S61)), bt274.1, bt274.2))) else ((octet_Reader_Num.f s0_0 s0_1 a2).bind fun bt276 => (octet_Reader_Elems.l0 k a1 bt276.1 ([] : List (S61)) 0 bt276.2.1 bt276.2.2)))) = some (r1, r2, r3) := h
 clear h
 obtain ⟨t273, A4, H⟩ := bm2 H
 try dsimp only at H
 by_cases c5 : t273 = 0
 ·rw [if_pos c5] at H
  have c5b0 : (t273 == 0) = true := beq_iff_eq.mpr c5
  have c5b1 : (t273 != 0) = false := bne_eq_false_iff_eq.mpr c5
  clear c5
  obtain ⟨⟨t274, t275⟩, A6, H⟩ := bm2 H
  try dsimp only at H
  simp only [Option.some.injEq, Prod.mk.injEq] at H
  obtain ⟨rfl, rfl, rfl⟩ := H
  go_enter Try.func74, Try.ntmps74
  go_wp2_with (first | ((with_reducible refine gate_callee (f := 90) rfl ?_); refine gL (some 11) rfl Try.func90 #[.int .i64 a1] rfl ?_; (with_reducible refine (octet_Wide.calls k a1 t273 _ A4.out).mono ?_); rintro e w' ⟨rfl, ⟨nd, rfl⟩⟩; refine ⟨_, rfl, ?_⟩) | ((with_reducible refine gate_callee (f := 87) rfl ?_); refine gL (some 14) rfl Try.func87 #[.pointer (some ⟨g, 0, none⟩), .int .i64 1] rfl ?_; (with_reducible refine (octet_Reader_stop.calls g s0_0 s0_1 1 t274 t275 w0 _ ?side1 ?side2 A6.out).mono ?_); (case side1 => repeat (first | (with_reducible first | exact HI0.out | apply ia | apply iN | apply iD | apply i0 | apply i1) | exact HI0.out)); (case side2 => repeat (first | (with_reducible first | exact HB.out | apply ba | apply bN | apply bD | refine bS ?_ (IsS145.ge HI0.out)) | exact HB.out)); rintro e w7 ⟨rfl, hi, hb, hk⟩; refine ⟨_, rfl, ?_⟩; have n0_ := Aside0.mk (KeepBut.trans (by repeat (first | (with_reducible first | exact HK.out | apply kS | apply kN | apply kD | apply kA) | exact HK.out)) hk (.inl rfl)); have n1_ := Aside0.mk (hb); have n2_ := Aside0.mk (hi); clear HK; clear HB; clear HI0; have HK := n0_; have HB := n1_; have HI0 := n2_; clear n0_ n1_ n2_; (try clear hb); (try clear hk hi)))
  go_ret
  exact ⟨_, er, by first | exact Kd.R_nil _ _ _ _ _ | exact Kd.N_nil _ _ _ _ _ | exact Kd.V_nil _ _ _ _ _ | exact Kd.Q_nil _ _ _ _ _ | exact Kd.S_nil _ _ _ _ _, by repeat (first | (with_reducible first | exact HI0.out | apply ia | apply iN | apply iD | apply i0 | apply i1) | exact HI0.out), by repeat (first | (with_reducible first | exact HB.out | apply ba | apply bN | apply bD | refine bS ?_ (IsS145.ge HI0.out)) | exact HB.out), by repeat (first | (with_reducible first | exact HK.out | apply kS | apply kN | apply kD | apply kA) | exact HK.out)⟩
 rw [if_neg c5] at H
 have c5b0 : (t273 == 0) = false := beq_eq_false_iff_ne.mpr c5
 have c5b1 : (t273 != 0) = true := bne_iff_ne.mpr c5
 obtain ⟨⟨t276, t277, t278⟩, A8, H⟩ := bm2 H
 try dsimp only at H
 have H' := Aside0.mk H
 clear H
 go_enter Try.func74, Try.ntmps74
 go_wp2_with (first | ((with_reducible refine gate_callee (f := 90) rfl ?_); refine gL (some 11) rfl Try.func90 #[.int .i64 a1] rfl ?_; (with_reducible refine (octet_Wide.calls k a1 t273 _ A4.out).mono ?_); rintro e w' ⟨rfl, ⟨nd, rfl⟩⟩; refine ⟨_, rfl, ?_⟩) | ((with_reducible refine gate_callee (f := 35) rfl ?_); refine gL (some 17) rfl Try.func35 #[.pointer (some ⟨g, 0, none⟩), .int .i64 a2] rfl ?_; (with_reducible refine (octet_Reader_Num.calls g s0_0 s0_1 a2 t276 t277 t278 w0 _ ?side1 ?side2 A8.out).mono ?_); (case side1 => repeat (first | (with_reducible first | exact HI0.out | apply ia | apply iN | apply iD | apply i0 | apply i1) | exact HI0.out)); (case side2 => repeat (first | (with_reducible first | exact HB.out | apply ba | apply bN | apply bD | refine bS ?_ (IsS145.ge HI0.out)) | exact HB.out)); rintro e w9 ⟨rfl, hi, hb, hk⟩; refine ⟨_, rfl, ?_⟩; have n0_ := Aside0.mk (KeepBut.trans (by repeat (first | (with_reducible first | exact HK.out | apply kS | apply kN | apply kD | apply kA) | exact HK.out)) hk (.inl rfl)); have n1_ := Aside0.mk (hb); have n2_ := Aside0.mk (hi); clear HK; clear HB; clear HI0; have HK := n0_; have HB := n1_; have HI0 := n2_; clear n0_ n1_ n2_; (try clear hb); (try clear hk hi)))
 go_loopg [8, 9] k (fun kq v8 v9 w' => ∃ (x8_1 : List (S61)) (x9_1 : Int) (x1000_1 : ByteArray) (x1001_1 : Int), v9 = .int .i64 x9_1 ∧ Aside0 (octet_Reader_Elems.l0 kq a1 t276 x8_1 x9_1 x1000_1 x1001_1 = some (r1, r2, r3)) ∧ Aside0 (kq ≤ k) ∧ Aside0 (Kd.R k61 61 w' w.heap.size (fun _ => True) v8 x8_1) ∧ Aside0 (IsS145 w0 w' g x1000_1 x1001_1) ∧ Aside0 (KeepBut w w' g none) ∧ Aside0 (Below w0.heap.size w0 w'))
 case atStart => exact ⟨(([] : List (S61))), (0), (t277), (t278), (by first | rfl | (simp; done) | (simp [*]; done)), H', ⟨Nat.le_refl _⟩, ⟨by first | exact Kd.R_nil _ _ _ _ _ | exact Kd.N_nil _ _ _ _ _ | exact Kd.V_nil _ _ _ _ _ | exact Kd.Q_nil _ _ _ _ _ | exact Kd.S_nil _ _ _ _ _⟩, ⟨by repeat (first | (with_reducible first | exact HI0.out | apply ia | apply iN | apply iD | apply i0 | apply i1) | exact HI0.out)⟩, ⟨by repeat (first | (with_reducible first | exact HK.out | apply kS | apply kN | apply kD | apply kA) | exact HK.out)⟩, ⟨by repeat (first | (with_reducible first | exact HB.out | apply ba | apply bN | apply bD | refine bS ?_ (IsS145.ge HI0.out)) | exact HB.out)⟩⟩
 case round =>
  clear H'
  try clear p2
  try clear c3
  try clear c5
  try clear c5b0
  try clear c5b1
  try clear c7
  try clear c8
  try clear c9
  obtain ⟨x8_1, x9_1, x1000_1, x1001_1, rfl, HA, HK1, HO_8, HI0, HK, HB⟩ := hrel
  cases gk with
  | zero => exact absurd HA.out (by simp [octet_Reader_Elems.l0])
  | succ k1 =>
   have H := HA.out
   clear HA
   simp only [octet_Reader_Elems.l0] at H
   by_cases c10 : x9_1 < t276
   rotate_left
   ·rw [if_neg c10] at H
    have c10b0 : decide (x9_1 < t276) = false := decide_eq_false c10
    clear c10
    obtain ⟨⟨t292, t293, t294⟩, A24, H⟩ := bm2 H
    try dsimp only at H
    by_cases c25 : t292 = 0
    ·rw [if_pos c25] at H
     have c25b0 : (t292 == 0) = true := beq_iff_eq.mpr c25
     have c25b1 : (t292 != 0) = false := bne_eq_false_iff_eq.mpr c25
     clear c25
     simp only [Option.some.injEq, Prod.mk.injEq] at H
     obtain ⟨rfl, rfl, rfl⟩ := H
     go_wp2_with (first | ((with_reducible refine gate_callee (f := 88) rfl ?_); refine gL (some 35) rfl Try.func88 #[.pointer (some ⟨g, 0, none⟩)] rfl ?_; (with_reducible refine (octet_Reader_Fail.calls g x1000_1 x1001_1 t292 t293 t294 w0 _ ?side1 ?side2 A24.out).mono ?_); (case side1 => repeat (first | (with_reducible first | exact HI0.out | apply ia | apply iN | apply iD | apply i0 | apply i1) | exact HI0.out)); (case side2 => repeat (first | (with_reducible first | exact HB.out | apply ba | apply bN | apply bD | refine bS ?_ (IsS145.ge HI0.out)) | exact HB.out)); rintro e w26 ⟨rfl, hi, hb, hk⟩; refine ⟨_, rfl, ?_⟩; have n0_ := Aside0.mk (Kd.R_mono (Kd.R_keep (IsS145.apart (show IsS145 w0 _ g x1000_1 x1001_1 from by repeat (first | (with_reducible first | exact HI0.out | apply ia | apply iN | apply iD | apply i0 | apply i1) | exact HI0.out)) (by (with_reducible repeat (first | apply Kd.R_alloc | apply Kd.R_drewN | apply Kd.R_drew)); exact HO_8.out) (by decide)) hk (fun _ h => h.2)) (fun _ h => h.1)); have n1_ := Aside0.mk (KeepBut.trans (by repeat (first | (with_reducible first | exact HK.out | apply kS | apply kN | apply kD | apply kA) | exact HK.out)) hk (.inl rfl)); have n2_ := Aside0.mk (hb); have n3_ := Aside0.mk (hi); clear HO_8; clear HK; clear HB; clear HI0; have HO_8 := n0_; have HK := n1_; have HB := n2_; have HI0 := n3_; clear n0_ n1_ n2_ n3_; (try clear hb); (try clear hk hi)))
     go_ret
     exact ⟨_, er, by (with_reducible repeat (first | apply Kd.R_alloc | apply Kd.R_drewN | apply Kd.R_drew)); exact HO_8.out, by repeat (first | (with_reducible first | exact HI0.out | apply ia | apply iN | apply iD | apply i0 | apply i1) | exact HI0.out), by repeat (first | (with_reducible first | exact HB.out | apply ba | apply bN | apply bD | refine bS ?_ (IsS145.ge HI0.out)) | exact HB.out), by repeat (first | (with_reducible first | exact HK.out | apply kS | apply kN | apply kD | apply kA) | exact HK.out)⟩
    rw [if_neg c25] at H
    have c25b0 : (t292 == 0) = false := beq_eq_false_iff_ne.mpr c25
    have c25b1 : (t292 != 0) = true := bne_iff_ne.mpr c25
    simp only [Option.some.injEq, Prod.mk.injEq] at H
    obtain ⟨rfl, rfl, rfl⟩ := H
    go_wp2_with (first | ((with_reducible refine gate_callee (f := 88) rfl ?_); refine gL (some 35) rfl Try.func88 #[.pointer (some ⟨g, 0, none⟩)] rfl ?_; (with_reducible refine (octet_Reader_Fail.calls g x1000_1 x1001_1 t292 t293 t294 w0 _ ?side1 ?side2 A24.out).mono ?_); (case side1 => repeat (first | (with_reducible first | exact HI0.out | apply ia | apply iN | apply iD | apply i0 | apply i1) | exact HI0.out)); (case side2 => repeat (first | (with_reducible first | exact HB.out | apply ba | apply bN | apply bD | refine bS ?_ (IsS145.ge HI0.out)) | exact HB.out)); rintro e w27 ⟨rfl, hi, hb, hk⟩; refine ⟨_, rfl, ?_⟩; have n0_ := Aside0.mk (Kd.R_mono (Kd.R_keep (IsS145.apart (show IsS145 w0 _ g x1000_1 x1001_1 from by repeat (first | (with_reducible first | exact HI0.out | apply ia | apply iN | apply iD | apply i0 | apply i1) | exact HI0.out)) (by (with_reducible repeat (first | apply Kd.R_alloc | apply Kd.R_drewN | apply Kd.R_drew)); exact HO_8.out) (by decide)) hk (fun _ h => h.2)) (fun _ h => h.1)); have n1_ := Aside0.mk (KeepBut.trans (by repeat (first | (with_reducible first | exact HK.out | apply kS | apply kN | apply kD | apply kA) | exact HK.out)) hk (.inl rfl)); have n2_ := Aside0.mk (hb); have n3_ := Aside0.mk (hi); clear HO_8; clear HK; clear HB; clear HI0; have HK := n1_; have HB := n2_; have HI0 := n3_; clear n0_ n1_ n2_ n3_; (try clear hb); (try clear hk hi)))
    go_ret
    exact ⟨_, er, by first | exact Kd.R_nil _ _ _ _ _ | exact Kd.N_nil _ _ _ _ _ | exact Kd.V_nil _ _ _ _ _ | exact Kd.Q_nil _ _ _ _ _ | exact Kd.S_nil _ _ _ _ _, by repeat (first | (with_reducible first | exact HI0.out | apply ia | apply iN | apply iD | apply i0 | apply i1) | exact HI0.out), by repeat (first | (with_reducible first | exact HB.out | apply ba | apply bN | apply bD | refine bS ?_ (IsS145.ge HI0.out)) | exact HB.out), by repeat (first | (with_reducible first | exact HK.out | apply kS | apply kN | apply kD | apply kA) | exact HK.out)⟩

   rw [if_pos c10] at H
   have c10b0 : decide (x9_1 < t276) = true := decide_eq_true c10
   clear c10
   obtain ⟨⟨t279, t280, t281⟩, A11, H⟩ := bm2 H
   try dsimp only at H
   by_cases c12 : t279 = 0
   ·rw [if_pos c12] at H
    have c12b0 : (t279 == 0) = true := beq_iff_eq.mpr c12
    have c12b1 : (t279 != 0) = false := bne_eq_false_iff_eq.mpr c12
    clear c12
    obtain ⟨⟨t282, t283, t284, t285⟩, A13, H⟩ := bm2 H
    try dsimp only at H
    by_cases c14 : x8_1.length < 8796093022208
    rotate_left
    ·rw [if_neg c14] at H
     exact absurd H (by simp)
    rw [if_pos c14] at H
    have LMc14 := Aside0.mk c14
    clear c14
    obtain ⟨y286, hy286⟩ : ∃ y_ : List (S61), y_ = (x8_1 ++ [(⟨t282, t283⟩ : S61)]) := ⟨_, rfl⟩
    replace H : (octet_Reader_Elems.l0 k1 a1 t276 y286 (wrap64 (x9_1 + 1)) t284 t285) = some (r1, r2, r3) := by first | (rw [hy286]; with_reducible exact H) | (have H2_ := (Option.bind_some _ _).symm.trans H; rw [hy286]; with_reducible exact H2_) | (have H2_ := (Option.bind_some _ _).symm.trans H; with_reducible exact H2_) | with_reducible exact H | (rw [hy286]; exact H) | exact H
    have Ny286 := Aside0.mk hy286
    clear hy286
    have H' := Aside0.mk H
    clear H
    go_wp2_with (first | (go_at_call 88; (with_reducible refine (octet_Reader_Fail.calls g x1000_1 x1001_1 t279 t280 t281 w0 _ ?side1 ?side2 A11.out).mono ?_); (case side1 => repeat (first | (with_reducible first | exact HI0.out | apply ia | apply iN | apply iD | apply i0 | apply i1) | exact HI0.out)); (case side2 => repeat (first | (with_reducible first | exact HB.out | apply ba | apply bN | apply bD | refine bS ?_ (IsS145.ge HI0.out)) | exact HB.out)); rintro e w15 ⟨rfl, hi, hb, hk⟩; have n0_ := Aside0.mk (Kd.R_mono (Kd.R_keep (IsS145.apart (show IsS145 w0 _ g x1000_1 x1001_1 from by repeat (first | (with_reducible first | exact HI0.out | apply ia | apply iN | apply iD | apply i0 | apply i1) | exact HI0.out)) (by (with_reducible repeat (first | apply Kd.R_alloc | apply Kd.R_drewN | apply Kd.R_drew)); exact HO_8.out) (by decide)) hk (fun _ h => h.2)) (fun _ h => h.1)); have n1_ := Aside0.mk (KeepBut.trans (by repeat (first | (with_reducible first | exact HK.out | apply kS | apply kN | apply kD | apply kA) | exact HK.out)) hk (.inl rfl)); have n2_ := Aside0.mk (hb); have n3_ := Aside0.mk (hi); clear HO_8; clear HK; clear HB; clear HI0; have HO_8 := n0_; have HK := n1_; have HB := n2_; have HI0 := n3_; clear n0_ n1_ n2_ n3_; (try clear hb); (try clear hk hi)) | ((with_reducible refine gate_callee (f := 48) rfl ?_); refine gL (some 31) rfl Try.func48 #[.pointer (some ⟨g, 0, none⟩), .int .i64 a1] rfl ?_; (with_reducible refine (octet_Reader_Elem.calls k1 g t280 t281 a1 t282 t283 t284 t285 w0 _ ?side1 ?side2 A13.out).mono ?_); (case side1 => repeat (first | (with_reducible first | exact HI0.out | apply ia | apply iN | apply iD | apply i0 | apply i1) | exact HI0.out)); (case side2 => repeat (first | (with_reducible first | exact HB.out | apply ba | apply bN | apply bD | refine bS ?_ (IsS145.ge HI0.out)) | exact HB.out)); rintro e w16 ⟨rfl, hi, hb, hk⟩; refine ⟨_, rfl, ?_⟩; have n0_ := Aside0.mk (Kd.R_mono (Kd.R_keep (IsS145.apart (show IsS145 w0 _ g t280 t281 from by repeat (first | (with_reducible first | exact HI0.out | apply ia | apply iN | apply iD | apply i0 | apply i1) | exact HI0.out)) (by (with_reducible repeat (first | apply Kd.R_alloc | apply Kd.R_drewN | apply Kd.R_drew)); exact HO_8.out) (by decide)) hk (fun _ h => h.2)) (fun _ h => h.1)); have n1_ := Aside0.mk (KeepBut.trans (by repeat (first | (with_reducible first | exact HK.out | apply kS | apply kN | apply kD | apply kA) | exact HK.out)) hk (.inl rfl)); have n2_ := Aside0.mk (hb); have n3_ := Aside0.mk (hi); clear HO_8; clear HK; clear HB; clear HI0; have HO_8 := n0_; have HK := n1_; have HB := n2_; have HI0 := n3_; clear n0_ n1_ n2_ n3_; (try clear hb); (try clear hk hi)) | ((with_reducible refine gate_builtin (b := .append) (xs := #[.tmp 28, .tmp 32]) rfl ?_); at_builtin; refine Kd.R_append k61 w.heap.size rfl (.tmp 28) (.tmp 32) 58 61 (.agg #[(.int .u64 0), (.int .u64 0)]) 16 rfl Try.underlying58 info61 rfl (by decide) (by omega) u8 x8_1 (⟨t282, t283⟩ : S61) [.int .u64 t282, .int .u64 t283] (fun _ => True) (fun _ => False) rfl rfl ?aP (fun _ hk => hk.elim) ?aF ?aO (Below.refl _ _) ?aS ?aL ?_; (case aP => exact k61_mkM _ _ _ (⟨t282, t283⟩ : S61)); (case aF => exact (fun _ _ => trivial)); (case aO => exact (by (with_reducible repeat (first | apply Kd.R_alloc | apply Kd.R_drewN | apply Kd.R_drew)); exact HO_8.out)); (case aS => exact (keep_size (w := w) (g := g) (row := none) (by repeat (first | (with_reducible first | exact HK.out | apply kS | apply kN | apply kD | apply kA) | exact HK.out)))); (case aL => have := LMc14.out; omega); intro v287 w17 ho hb hg hat; rw [← Ny286.out] at ho; have n0_ := Aside0.mk (IsS145.grown (by repeat (first | (with_reducible first | exact HI0.out | apply ia | apply iN | apply iD | apply i0 | apply i1) | exact HI0.out)) hg (IsS145.own_ne HI0.out HO_8.out (by decide))); have n1_ := Aside0.mk (below_weaken (by repeat (first | (with_reducible first | exact HB.out | apply ba | apply bN | apply bD | refine bS ?_ (IsS145.ge HI0.out)) | exact HB.out)) HL.out hb); have n2_ := Aside0.mk (KeepBut.trans (by repeat (first | (with_reducible first | exact HK.out | apply kS | apply kN | apply kD | apply kA) | exact HK.out)) (KeepBut.of_grown hg g) (Kd.R_base2 HO_8.out)); have n3_ := Aside0.mk (ho); clear HI0; clear HB; clear HK; clear HO_8; have HI0 := n0_; have HB := n1_; have HK := n2_; have HO288 := n3_; clear n0_ n1_ n2_ n3_; clear ho hb hg hat))
    go_roundg k1
    case measure => have := HK1.out; omega
    case rel => exact ⟨(y286), (wrap64 (x9_1 + 1)), (t284), (t285), (by first | rfl | (simp; done) | (simp [*]; done)), H', ⟨by have := HK1.out; omega⟩, ⟨by (with_reducible repeat (first | apply Kd.R_alloc | apply Kd.R_drewN | apply Kd.R_drew)); exact HO288.out⟩, ⟨by repeat (first | (with_reducible first | exact HI0.out | apply ia | apply iN | apply iD | apply i0 | apply i1) | exact HI0.out)⟩, ⟨by repeat (first | (with_reducible first | exact HK.out | apply kS | apply kN | apply kD | apply kA) | exact HK.out)⟩, ⟨by repeat (first | (with_reducible first | exact HB.out | apply ba | apply bN | apply bD | refine bS ?_ (IsS145.ge HI0.out)) | exact HB.out)⟩⟩
   rw [if_neg c12] at H
   have c12b0 : (t279 == 0) = false := beq_eq_false_iff_ne.mpr c12
   have c12b1 : (t279 != 0) = true := bne_iff_ne.mpr c12
   obtain ⟨⟨t289, t290, t291⟩, A18, H⟩ := bm2 H
   try dsimp only at H
   by_cases c19 : t289 = 0
   rotate_left
   ·rw [if_neg c19] at H
    have c19b0 : (t289 == 0) = false := beq_eq_false_iff_ne.mpr c19
    have c19b1 : (t289 != 0) = true := bne_iff_ne.mpr c19
    simp only [Option.some.injEq, Prod.mk.injEq] at H
    obtain ⟨rfl, rfl, rfl⟩ := H
    go_wp2_with (first | (go_at_call 88; (with_reducible refine (octet_Reader_Fail.calls g x1000_1 x1001_1 t279 t280 t281 w0 _ ?side1 ?side2 A11.out).mono ?_); (case side1 => repeat (first | (with_reducible first | exact HI0.out | apply ia | apply iN | apply iD | apply i0 | apply i1) | exact HI0.out)); (case side2 => repeat (first | (with_reducible first | exact HB.out | apply ba | apply bN | apply bD | refine bS ?_ (IsS145.ge HI0.out)) | exact HB.out)); rintro e w22 ⟨rfl, hi, hb, hk⟩; have n0_ := Aside0.mk (Kd.R_mono (Kd.R_keep (IsS145.apart (show IsS145 w0 _ g x1000_1 x1001_1 from by repeat (first | (with_reducible first | exact HI0.out | apply ia | apply iN | apply iD | apply i0 | apply i1) | exact HI0.out)) (by (with_reducible repeat (first | apply Kd.R_alloc | apply Kd.R_drewN | apply Kd.R_drew)); exact HO_8.out) (by decide)) hk (fun _ h => h.2)) (fun _ h => h.1)); have n1_ := Aside0.mk (KeepBut.trans (by repeat (first | (with_reducible first | exact HK.out | apply kS | apply kN | apply kD | apply kA) | exact HK.out)) hk (.inl rfl)); have n2_ := Aside0.mk (hb); have n3_ := Aside0.mk (hi); clear HO_8; clear HK; clear HB; clear HI0; have HO_8 := n0_; have HK := n1_; have HB := n2_; have HI0 := n3_; clear n0_ n1_ n2_ n3_; (try clear hb); (try clear hk hi)) | ((with_reducible refine gate_callee (f := 88) rfl ?_); refine gL (some 35) rfl Try.func88 #[.pointer (some ⟨g, 0, none⟩)] rfl ?_; (with_reducible refine (octet_Reader_Fail.calls g t280 t281 t289 t290 t291 w0 _ ?side1 ?side2 A18.out).mono ?_); (case side1 => repeat (first | (with_reducible first | exact HI0.out | apply ia | apply iN | apply iD | apply i0 | apply i1) | exact HI0.out)); (case side2 => repeat (first | (with_reducible first | exact HB.out | apply ba | apply bN | apply bD | refine bS ?_ (IsS145.ge HI0.out)) | exact HB.out)); rintro e w23 ⟨rfl, hi, hb, hk⟩; refine ⟨_, rfl, ?_⟩; have n0_ := Aside0.mk (Kd.R_mono (Kd.R_keep (IsS145.apart (show IsS145 w0 _ g t280 t281 from by repeat (first | (with_reducible first | exact HI0.out | apply ia | apply iN | apply iD | apply i0 | apply i1) | exact HI0.out)) (by (with_reducible repeat (first | apply Kd.R_alloc | apply Kd.R_drewN | apply Kd.R_drew)); exact HO_8.out) (by decide)) hk (fun _ h => h.2)) (fun _ h => h.1)); have n1_ := Aside0.mk (KeepBut.trans (by repeat (first | (with_reducible first | exact HK.out | apply kS | apply kN | apply kD | apply kA) | exact HK.out)) hk (.inl rfl)); have n2_ := Aside0.mk (hb); have n3_ := Aside0.mk (hi); clear HO_8; clear HK; clear HB; clear HI0; have HK := n1_; have HB := n2_; have HI0 := n3_; clear n0_ n1_ n2_ n3_; (try clear hb); (try clear hk hi)))
    go_ret
    exact ⟨_, er, by first | exact Kd.R_nil _ _ _ _ _ | exact Kd.N_nil _ _ _ _ _ | exact Kd.V_nil _ _ _ _ _ | exact Kd.Q_nil _ _ _ _ _ | exact Kd.S_nil _ _ _ _ _, by repeat (first | (with_reducible first | exact HI0.out | apply ia | apply iN | apply iD | apply i0 | apply i1) | exact HI0.out), by repeat (first | (with_reducible first | exact HB.out | apply ba | apply bN | apply bD | refine bS ?_ (IsS145.ge HI0.out)) | exact HB.out), by repeat (first | (with_reducible first | exact HK.out | apply kS | apply kN | apply kD | apply kA) | exact HK.out)⟩
   rw [if_pos c19] at H
   have c19b0 : (t289 == 0) = true := beq_iff_eq.mpr c19
   have c19b1 : (t289 != 0) = false := bne_eq_false_iff_eq.mpr c19
   clear c19
   simp only [Option.some.injEq, Prod.mk.injEq] at H
   obtain ⟨rfl, rfl, rfl⟩ := H
   go_wp2_with (first | (go_at_call 88; (with_reducible refine (octet_Reader_Fail.calls g x1000_1 x1001_1 t279 t280 t281 w0 _ ?side1 ?side2 A11.out).mono ?_); (case side1 => repeat (first | (with_reducible first | exact HI0.out | apply ia | apply iN | apply iD | apply i0 | apply i1) | exact HI0.out)); (case side2 => repeat (first | (with_reducible first | exact HB.out | apply ba | apply bN | apply bD | refine bS ?_ (IsS145.ge HI0.out)) | exact HB.out)); rintro e w20 ⟨rfl, hi, hb, hk⟩; have n0_ := Aside0.mk (Kd.R_mono (Kd.R_keep (IsS145.apart (show IsS145 w0 _ g x1000_1 x1001_1 from by repeat (first | (with_reducible first | exact HI0.out | apply ia | apply iN | apply iD | apply i0 | apply i1) | exact HI0.out)) (by (with_reducible repeat (first | apply Kd.R_alloc | apply Kd.R_drewN | apply Kd.R_drew)); exact HO_8.out) (by decide)) hk (fun _ h => h.2)) (fun _ h => h.1)); have n1_ := Aside0.mk (KeepBut.trans (by repeat (first | (with_reducible first | exact HK.out | apply kS | apply kN | apply kD | apply kA) | exact HK.out)) hk (.inl rfl)); have n2_ := Aside0.mk (hb); have n3_ := Aside0.mk (hi); clear HO_8; clear HK; clear HB; clear HI0; have HO_8 := n0_; have HK := n1_; have HB := n2_; have HI0 := n3_; clear n0_ n1_ n2_ n3_; (try clear hb); (try clear hk hi)) | ((with_reducible refine gate_callee (f := 88) rfl ?_); refine gL (some 35) rfl Try.func88 #[.pointer (some ⟨g, 0, none⟩)] rfl ?_; (with_reducible refine (octet_Reader_Fail.calls g t280 t281 t289 t290 t291 w0 _ ?side1 ?side2 A18.out).mono ?_); (case side1 => repeat (first | (with_reducible first | exact HI0.out | apply ia | apply iN | apply iD | apply i0 | apply i1) | exact HI0.out)); (case side2 => repeat (first | (with_reducible first | exact HB.out | apply ba | apply bN | apply bD | refine bS ?_ (IsS145.ge HI0.out)) | exact HB.out)); rintro e w21 ⟨rfl, hi, hb, hk⟩; refine ⟨_, rfl, ?_⟩; have n0_ := Aside0.mk (Kd.R_mono (Kd.R_keep (IsS145.apart (show IsS145 w0 _ g t280 t281 from by repeat (first | (with_reducible first | exact HI0.out | apply ia | apply iN | apply iD | apply i0 | apply i1) | exact HI0.out)) (by (with_reducible repeat (first | apply Kd.R_alloc | apply Kd.R_drewN | apply Kd.R_drew)); exact HO_8.out) (by decide)) hk (fun _ h => h.2)) (fun _ h => h.1)); have n1_ := Aside0.mk (KeepBut.trans (by repeat (first | (with_reducible first | exact HK.out | apply kS | apply kN | apply kD | apply kA) | exact HK.out)) hk (.inl rfl)); have n2_ := Aside0.mk (hb); have n3_ := Aside0.mk (hi); clear HO_8; clear HK; clear HB; clear HI0; have HO_8 := n0_; have HK := n1_; have HB := n2_; have HI0 := n3_; clear n0_ n1_ n2_ n3_; (try clear hb); (try clear hk hi)))
   go_ret
   exact ⟨_, er, by (with_reducible repeat (first | apply Kd.R_alloc | apply Kd.R_drewN | apply Kd.R_drew)); exact HO_8.out, by repeat (first | (with_reducible first | exact HI0.out | apply ia | apply iN | apply iD | apply i0 | apply i1) | exact HI0.out), by repeat (first | (with_reducible first | exact HB.out | apply ba | apply bN | apply bD | refine bS ?_ (IsS145.ge HI0.out)) | exact HB.out), by repeat (first | (with_reducible first | exact HK.out | apply kS | apply kN | apply kD | apply kA) | exact HK.out)⟩
def proof_ReadProof_1.f (k : Nat) (s0_0 : ByteArray) (s0_1 : Int) (a1 : Int) : Option ((List (S61)) × ByteArray × Int) := (octet_Reader_Elems.f k s0_0 s0_1 a1 4096).bind fun bt295 => (some (bt295.1, bt295.2.1, bt295.2.2))
theorem proof_ReadProof_1.calls (k : Nat) (g : Nat) (s0_0 : ByteArray) (s0_1 : Int) (a1 : Int) (r1 : List (S61)) (r2 : ByteArray) (r3 : Int) (w0 w : World) (gb gl : Nat) (hX : Boxed w gb g) (hY : BoxedI w gl g a1) (hI : IsS145 w0 w g s0_0 s0_1) (hB : Below w0.heap.size w0 w) (h : proof_ReadProof_1.f k s0_0 s0_1 a1 = some (r1, r2, r3)) :
  Calls Try.prog 73 #[.pointer (some ⟨gb, 0, none⟩), .pointer (some ⟨gl, 0, none⟩)] w fun e w' => ∃ v0_ : Value, e = .returned (v0_) ∧ Kd.R k61 61 w' w.heap.size (fun _ => True) v0_ r1 ∧ IsS145 w0 w' g r2 r3 ∧ Below w0.heap.size w0 w' ∧ KeepBut w w' g none := by
 have HX0 := Aside0.mk hX
 have hcX := hX.cell
 clear hX
 have HY0 := Aside0.mk hY
 have hcY := hY.cell
 clear hY
 have HI0 := Aside0.mk hI
 have HK := Aside0.mk (KeepBut.refl w g none)
 have HL := Aside0.mk hB.size
 clear hI
 have HW0 := Aside0.mk hB.size
 have HB := Aside0.mk hB
 clear hB
 have H : ((octet_Reader_Elems.f k s0_0 s0_1 a1 4096).bind fun bt295 => (some (bt295.1, bt295.2.1, bt295.2.2))) = some (r1, r2, r3) := h
 clear h
 obtain ⟨⟨t295, t298, t299⟩, A3, H⟩ := bm2 H
 try dsimp only at H
 simp only [Option.some.injEq, Prod.mk.injEq] at H
 obtain ⟨rfl, rfl, rfl⟩ := H
 go_enter Try.func73, Try.ntmps73
 go_wp2_with (first | ((with_reducible refine gate_callee (f := 74) rfl ?_); refine gL (some 5) rfl Try.func74 #[.pointer (some ⟨g, 0, none⟩), .int .i64 a1, .int .i64 4096] rfl ?_; (with_reducible refine (octet_Reader_Elems.calls k g s0_0 s0_1 a1 4096 t295 t298 t299 w0 _ ?side1 ?side2 A3.out).mono ?_); (case side1 => repeat (first | (with_reducible first | exact HI0.out | apply ia | apply iN | apply iD | apply i0 | apply i1) | exact HI0.out)); (case side2 => repeat (first | (with_reducible first | exact HB.out | apply ba | apply bN | apply bD | refine bS ?_ (IsS145.ge HI0.out)) | exact HB.out)); rintro e w4 ⟨v296, rfl, ho0, hi, hb, hk⟩; refine ⟨_, rfl, ?_⟩; have n0_ := Aside0.mk (Kd.R_lower ho0 (keep_size (w := w) (g := g) (row := none) (by repeat (first | (with_reducible first | exact HK.out | apply kS | apply kN | apply kD | apply kA) | exact HK.out)))); have n1_ := Aside0.mk (KeepBut.trans (by repeat (first | (with_reducible first | exact HK.out | apply kS | apply kN | apply kD | apply kA) | exact HK.out)) hk (.inl rfl)); have n2_ := Aside0.mk (hb); have n3_ := Aside0.mk (hi); clear HK; clear HB; clear HI0; have HO297 := n0_; have HK := n1_; have HB := n2_; have HI0 := n3_; clear n0_ n1_ n2_ n3_; (try clear hb); (try clear hk hi); (try clear ho0)))
 go_ret
 exact ⟨_, er, by (with_reducible repeat (first | apply Kd.R_alloc | apply Kd.R_drewN | apply Kd.R_drew)); exact HO297.out, by repeat (first | (with_reducible first | exact HI0.out | apply ia | apply iN | apply iD | apply i0 | apply i1) | exact HI0.out), by repeat (first | (with_reducible first | exact HB.out | apply ba | apply bN | apply bD | refine bS ?_ (IsS145.ge HI0.out)) | exact HB.out), by repeat (first | (with_reducible first | exact HK.out | apply kS | apply kN | apply kD | apply kA) | exact HK.out)⟩

def proof_ReadProof_2.f (k : Nat) (s0_0 : ByteArray) (s0_1 : Int) (a1 : Int) : Option (Int × Int × ByteArray × Int) := (octet_Reader_Elems.f k s0_0 s0_1 a1 1).bind fun bt301 => (if (bt301.1.length : Int) = 1 then (if 0 < (bt301.1.length : Int) then (some ((rd_T61 bt301.1 0).f0, (rd_T61 bt301.1 0).f1, bt301.2.1, bt301.2.2)) else (none)) else (some (0, 0, bt301.2.1, bt301.2.2)))
theorem proof_ReadProof_2.calls (k : Nat) (g : Nat) (s0_0 : ByteArray) (s0_1 : Int) (a1 : Int) (r1 : Int) (r2 : Int) (r3 : ByteArray) (r4 : Int) (w0 w : World) (gb gl : Nat) (hX : Boxed w gb g) (hY : BoxedI w gl g a1) (hI : IsS145 w0 w g s0_0 s0_1) (hB : Below w0.heap.size w0 w) (h : proof_ReadProof_2.f k s0_0 s0_1 a1 = some (r1, r2, r3, r4)) :
  Calls Try.prog 75 #[.pointer (some ⟨gb, 0, none⟩), .pointer (some ⟨gl, 0, none⟩)] w fun e w' => e = .returned (.agg #[.int .u64 r1, .int .u64 r2]) ∧ IsS145 w0 w' g r3 r4 ∧ Below w0.heap.size w0 w' ∧ KeepBut w w' g none := by
 have hu61 := Try.underlying61
 have HX0 := Aside0.mk hX
 have hcX := hX.cell
 clear hX
 have HY0 := Aside0.mk hY
 have hcY := hY.cell
 clear hY
 have HI0 := Aside0.mk hI
 have HK := Aside0.mk (KeepBut.refl w g none)
 have HL := Aside0.mk hB.size
 clear hI
 have HW0 := Aside0.mk hB.size
 have HB := Aside0.mk hB
 clear hB
 have H : ((octet_Reader_Elems.f k s0_0 s0_1 a1 1).bind fun bt301 => (if (bt301.1.length : Int) = 1 then (if 0 < (bt301.1.length : Int) then (some ((rd_T61 bt301.1 0).f0, (rd_T61 bt301.1 0).f1, bt301.2.1, bt301.2.2)) else (none)) else (some (0, 0, bt301.2.1, bt301.2.2)))) = some (r1, r2, r3, r4) := h
 clear h
 obtain ⟨⟨t301, t304, t305⟩, A3, H⟩ := bm2 H
 try dsimp only at H
 by_cases c4 : (t301.length : Int) = 1
 rotate_left
 ·rw [if_neg c4] at H
  have c4b0 : ((t301.length : Int) == 1) = false := beq_eq_false_iff_ne.mpr c4
  have c4b1 : ((t301.length : Int) != 1) = true := bne_iff_ne.mpr c4
  simp only [Option.some.injEq, Prod.mk.injEq] at H
  obtain ⟨rfl, rfl, rfl, rfl⟩ := H
  go_enter Try.func75, Try.ntmps75
  go_wp2_with (first | ((with_reducible refine gate_dst (N := 2) rfl ?_); refine box_event ?hg (N := 2) ?hd (cs := #[.int .u64 0, .int .u64 0]) (t := 61) ?hr ?_; (case hd => rfl); (case hg => rfl); (case hr => go_simp <;> rfl); intro gb300 hg w11 hbox hb; have n0_ := Aside0.mk (IsS145.below (by repeat (first | (with_reducible first | exact HI0.out | apply ia | apply iN | apply iD | apply i0 | apply i1) | exact HI0.out)) hb); have n1_ := Aside0.mk (KeepBut.trans (by repeat (first | (with_reducible first | exact HK.out | apply kS | apply kN | apply kD | apply kA) | exact HK.out)) (KeepBut.of_below hb g none) (.inl rfl)); have n2_ := Aside0.mk (below_step (by repeat (first | (with_reducible first | exact HB.out | apply ba | apply bN | apply bD | refine bS ?_ (IsS145.ge HI0.out)) | exact HB.out)) hb); have n3_ := Aside0.mk (hbox); have n4_ := Aside0.mk ((by rw [hg]; exact (keep_size (w := w) (g := g) (row := none) (by repeat (first | (with_reducible first | exact HK.out | apply kS | apply kN | apply kD | apply kA) | exact HK.out))) : w.heap.size ≤ gb300)); have n5_ := Aside0.mk ((Nat.le_trans HW0.out (by rw [hg]; exact (keep_size (w := w) (g := g) (row := none) (by repeat (first | (with_reducible first | exact HK.out | apply kS | apply kN | apply kD | apply kA) | exact HK.out))) : w.heap.size ≤ gb300) : w0.heap.size ≤ gb300)); have n6_ := Aside0.mk ((by rw [hg]; exact Nat.ne_of_lt (IsS145.lt (show IsS145 w0 _ g s0_0 s0_1 from by repeat (first | (with_reducible first | exact HI0.out | apply ia | apply iN | apply iD | apply i0 | apply i1) | exact HI0.out))) : g ≠ gb300)); have n7_ := Aside0.mk ((by rw [hg]; exact Nat.ne_of_gt (IsS145.lt (show IsS145 w0 _ g s0_0 s0_1 from by repeat (first | (with_reducible first | exact HI0.out | apply ia | apply iN | apply iD | apply i0 | apply i1) | exact HI0.out))) : gb300 ≠ g)); clear HI0; clear HK; clear HB; have HI0 := n0_; have HK := n1_; have HB := n2_; have BK300 := n3_; have GW300 := n4_; have GE300 := n5_; have NB0_300 := n6_; have NB300_0 := n7_; clear n0_ n1_ n2_ n3_ n4_ n5_ n6_ n7_; replace HX0 := Aside0.mk (HX0.out.below hb); clear hcX; have hcX := HX0.out.cell; replace HY0 := Aside0.mk (HY0.out.below hb); clear hcY; have hcY := HY0.out.cell; clear hb hbox hg) | ((with_reducible refine gate_callee (f := 74) rfl ?_); refine gL (some 6) rfl Try.func74 #[.pointer (some ⟨g, 0, none⟩), .int .i64 a1, .int .i64 1] rfl ?_; (with_reducible refine (octet_Reader_Elems.calls k g s0_0 s0_1 a1 1 t301 t304 t305 w0 _ ?side1 ?side2 A3.out).mono ?_); (case side1 => repeat (first | (with_reducible first | exact HI0.out | apply ia | apply iN | apply iD | apply i0 | apply i1 | refine iF ?_ NB0_300.out _) | exact HI0.out)); (case side2 => repeat (first | (with_reducible first | exact HB.out | apply ba | apply bN | apply bD | refine bS ?_ (IsS145.ge HI0.out) | refine bS ?_ GE300.out) | exact HB.out)); rintro e w12 ⟨v302, rfl, ho0, hi, hb, hk⟩; refine ⟨_, rfl, ?_⟩; have n0_ := Aside0.mk (KeepBut.blk hk (g' := gb300) (o := .cells #[.int .u64 0, .int .u64 0] 61 (0, 0)) (by (with_reducible repeat (first | refine blk_drewN ?_ _ | refine blk_drew ?_ | refine blk_alloc ?_ _)); exact BK300.out) NB300_0.out (by simp)); have n1_ := Aside0.mk (Kd.R_lower (Kd.R_newB ho0 (g := gb300) (o := .cells #[.int .u64 0, .int .u64 0] 61 (0, 0)) (by (with_reducible repeat (first | refine blk_drewN ?_ _ | refine blk_drew ?_ | refine blk_alloc ?_ _)); exact BK300.out)) (keep_size (w := w) (g := g) (row := none) (by repeat (first | (with_reducible first | exact HK.out | apply kS | apply kN | apply kD | apply kA | refine keep_far ?_ GW300.out _) | exact HK.out)))); have n2_ := Aside0.mk (KeepBut.trans (by repeat (first | (with_reducible first | exact HK.out | apply kS | apply kN | apply kD | apply kA | refine keep_far ?_ GW300.out _) | exact HK.out)) hk (.inl rfl)); have n3_ := Aside0.mk (hb); have n4_ := Aside0.mk (hi); clear BK300; clear HK; clear HB; clear HI0; have BK300 := n0_; have HO303 := n1_; have HK := n2_; have HB := n3_; have HI0 := n4_; clear n0_ n1_ n2_ n3_ n4_; (try clear hb); (try clear hk hi); (try clear ho0); obtain ⟨Ao13, co13, eo13⟩ := Kd.R_slice HO303.out; subst eo13; have hnb14 := NB300_0.out; have hnc14 := NB0_300.out; have hcz15_0 : w12.cell? ⟨gb300, 0, none⟩ = some (.int .u64 0) := bc BK300 0 rfl; have hcz15_1 : w12.cell? ⟨gb300, 1, none⟩ = some (.int .u64 0) := bc BK300 1 rfl; have hfz15_0 := blk_frozen BK300.out 0; have hfz15_1 := blk_frozen BK300.out 1))
  refine bodyPost_ret (results_cell_row rfl _ _ gb300 61 #[.int .u64 0, .int .u64 0] (0, 0) _ rfl (by (with_reducible repeat (first | refine blk_drewN ?_ _ | refine blk_drew ?_ | refine blk_alloc ?_ _)); refine blk_put (cs := #[.int .u64 0, .int .u64 0]) ?_ 1 _ rfl; (with_reducible repeat (first | refine blk_drewN ?_ _ | refine blk_drew ?_ | refine blk_alloc ?_ _)); refine blk_put (cs := #[.int .u64 0, .int .u64 0]) ?_ 0 _ rfl; (with_reducible repeat (first | refine blk_drewN ?_ _ | refine blk_drew ?_ | refine blk_alloc ?_ _)); exact BK300.out) Try.underlying61 rfl (by kernel_rfl)) rfl ?_
  exact ⟨er, by repeat (first | (with_reducible first | exact HI0.out | apply ia | apply iN | apply iD | apply i0 | apply i1 | refine iF ?_ NB0_300.out _) | exact HI0.out), by repeat (first | (with_reducible first | exact HB.out | apply ba | apply bN | apply bD | refine bS ?_ (IsS145.ge HI0.out) | refine bS ?_ GE300.out) | exact HB.out), by repeat (first | (with_reducible first | exact HK.out | apply kS | apply kN | apply kD | apply kA | refine keep_far ?_ GW300.out _) | exact HK.out)⟩

 rw [if_pos c4] at H
 have c4b0 : ((t301.length : Int) == 1) = true := beq_iff_eq.mpr c4
 have c4b1 : ((t301.length : Int) != 1) = false := bne_eq_false_iff_eq.mpr c4
 clear c4
 by_cases c5 : 0 < (t301.length : Int)
 rotate_left
 ·rw [if_neg c5] at H
  exact absurd H (by simp)
 rw [if_pos c5] at H
 have c5b0 : decide (0 < (t301.length : Int)) = true := decide_eq_true c5
 have c5b1 : decide (0 < t301.length) = true := decide_eq_true (by omega)
 clear c5
 simp only [Option.some.injEq, Prod.mk.injEq] at H
 obtain ⟨rfl, rfl, rfl, rfl⟩ := H
 go_enter Try.func75, Try.ntmps75
 go_wp2_with (first | ((with_reducible refine gate_dst (N := 2) rfl ?_); refine box_event ?hg (N := 2) ?hd (cs := #[.int .u64 0, .int .u64 0]) (t := 61) ?hr ?_; (case hd => rfl); (case hg => rfl); (case hr => go_simp <;> rfl); intro gb300 hg w6 hbox hb; have n0_ := Aside0.mk (IsS145.below (by repeat (first | (with_reducible first | exact HI0.out | apply ia | apply iN | apply iD | apply i0 | apply i1) | exact HI0.out)) hb); have n1_ := Aside0.mk (KeepBut.trans (by repeat (first | (with_reducible first | exact HK.out | apply kS | apply kN | apply kD | apply kA) | exact HK.out)) (KeepBut.of_below hb g none) (.inl rfl)); have n2_ := Aside0.mk (below_step (by repeat (first | (with_reducible first | exact HB.out | apply ba | apply bN | apply bD | refine bS ?_ (IsS145.ge HI0.out)) | exact HB.out)) hb); have n3_ := Aside0.mk (hbox); have n4_ := Aside0.mk ((by rw [hg]; exact (keep_size (w := w) (g := g) (row := none) (by repeat (first | (with_reducible first | exact HK.out | apply kS | apply kN | apply kD | apply kA) | exact HK.out))) : w.heap.size ≤ gb300)); have n5_ := Aside0.mk ((Nat.le_trans HW0.out (by rw [hg]; exact (keep_size (w := w) (g := g) (row := none) (by repeat (first | (with_reducible first | exact HK.out | apply kS | apply kN | apply kD | apply kA) | exact HK.out))) : w.heap.size ≤ gb300) : w0.heap.size ≤ gb300)); have n6_ := Aside0.mk ((by rw [hg]; exact Nat.ne_of_lt (IsS145.lt (show IsS145 w0 _ g s0_0 s0_1 from by repeat (first | (with_reducible first | exact HI0.out | apply ia | apply iN | apply iD | apply i0 | apply i1) | exact HI0.out))) : g ≠ gb300)); have n7_ := Aside0.mk ((by rw [hg]; exact Nat.ne_of_gt (IsS145.lt (show IsS145 w0 _ g s0_0 s0_1 from by repeat (first | (with_reducible first | exact HI0.out | apply ia | apply iN | apply iD | apply i0 | apply i1) | exact HI0.out))) : gb300 ≠ g)); clear HI0; clear HK; clear HB; have HI0 := n0_; have HK := n1_; have HB := n2_; have BK300 := n3_; have GW300 := n4_; have GE300 := n5_; have NB0_300 := n6_; have NB300_0 := n7_; clear n0_ n1_ n2_ n3_ n4_ n5_ n6_ n7_; replace HX0 := Aside0.mk (HX0.out.below hb); clear hcX; have hcX := HX0.out.cell; replace HY0 := Aside0.mk (HY0.out.below hb); clear hcY; have hcY := HY0.out.cell; clear hb hbox hg) | ((with_reducible refine gate_callee (f := 74) rfl ?_); refine gL (some 6) rfl Try.func74 #[.pointer (some ⟨g, 0, none⟩), .int .i64 a1, .int .i64 1] rfl ?_; (with_reducible refine (octet_Reader_Elems.calls k g s0_0 s0_1 a1 1 t301 t304 t305 w0 _ ?side1 ?side2 A3.out).mono ?_); (case side1 => repeat (first | (with_reducible first | exact HI0.out | apply ia | apply iN | apply iD | apply i0 | apply i1 | refine iF ?_ NB0_300.out _) | exact HI0.out)); (case side2 => repeat (first | (with_reducible first | exact HB.out | apply ba | apply bN | apply bD | refine bS ?_ (IsS145.ge HI0.out) | refine bS ?_ GE300.out) | exact HB.out)); rintro e w7 ⟨v302, rfl, ho0, hi, hb, hk⟩; refine ⟨_, rfl, ?_⟩; have n0_ := Aside0.mk (KeepBut.blk hk (g' := gb300) (o := .cells #[.int .u64 0, .int .u64 0] 61 (0, 0)) (by (with_reducible repeat (first | refine blk_drewN ?_ _ | refine blk_drew ?_ | refine blk_alloc ?_ _)); exact BK300.out) NB300_0.out (by simp)); have n1_ := Aside0.mk (Kd.R_lower (Kd.R_newB ho0 (g := gb300) (o := .cells #[.int .u64 0, .int .u64 0] 61 (0, 0)) (by (with_reducible repeat (first | refine blk_drewN ?_ _ | refine blk_drew ?_ | refine blk_alloc ?_ _)); exact BK300.out)) (keep_size (w := w) (g := g) (row := none) (by repeat (first | (with_reducible first | exact HK.out | apply kS | apply kN | apply kD | apply kA | refine keep_far ?_ GW300.out _) | exact HK.out)))); have n2_ := Aside0.mk (KeepBut.trans (by repeat (first | (with_reducible first | exact HK.out | apply kS | apply kN | apply kD | apply kA | refine keep_far ?_ GW300.out _) | exact HK.out)) hk (.inl rfl)); have n3_ := Aside0.mk (hb); have n4_ := Aside0.mk (hi); clear BK300; clear HK; clear HB; clear HI0; have BK300 := n0_; have HO303 := n1_; have HK := n2_; have HB := n3_; have HI0 := n4_; clear n0_ n1_ n2_ n3_ n4_; (try clear hb); (try clear hk hi); (try clear ho0); obtain ⟨Ao8, co8, eo8⟩ := Kd.R_slice HO303.out; subst eo8; have p306 : 0 ≤ (0 : Int) := (by omega); have q306 : 0 < (t301.length : Int) := dt; obtain ⟨ad306, e306, hx306_0, hx306_1⟩ := at_T61 (Kd.R_reads' HO303.out).2.2 0 p306 q306; cases e306; have qi306 : (0 < t301.length) = True := eq_true (by omega); (try rw [show ((0 : Int)).toNat = 0 from rfl] at hx306_0); (try rw [show 0 * 2 = 0 from rfl] at hx306_0); (try rw [Addr.add_zero'] at hx306_0); (try rw [show ((0 : Int)).toNat = 0 from rfl] at hx306_1); (try rw [show 0 * 2 = 0 from rfl] at hx306_1); (try rw [Addr.add_zero'] at hx306_1); replace p306 := eq_true p306; replace q306 := eq_true q306; have hnb9 := NB300_0.out; have hnc9 := NB0_300.out; have hcz10_0 : w7.cell? ⟨gb300, 0, none⟩ = some (.int .u64 0) := bc BK300 0 rfl; have hcz10_1 : w7.cell? ⟨gb300, 1, none⟩ = some (.int .u64 0) := bc BK300 1 rfl; have hfz10_0 := blk_frozen BK300.out 0; have hfz10_1 := blk_frozen BK300.out 1))
 refine bodyPost_ret (results_cell_row rfl _ _ gb300 61 #[.int .u64 ((rd_T61 t301 0).f0), .int .u64 ((rd_T61 t301 0).f1)] (0, 0) _ rfl (by (with_reducible repeat (first | refine blk_drewN ?_ _ | refine blk_drew ?_ | refine blk_alloc ?_ _)); refine blk_put (cs := #[.int .u64 ((rd_T61 t301 0).f0), .int .u64 0]) ?_ 1 _ rfl; (with_reducible repeat (first | refine blk_drewN ?_ _ | refine blk_drew ?_ | refine blk_alloc ?_ _)); refine blk_put (cs := #[.int .u64 0, .int .u64 0]) ?_ 0 _ rfl; (with_reducible repeat (first | refine blk_drewN ?_ _ | refine blk_drew ?_ | refine blk_alloc ?_ _)); exact BK300.out) Try.underlying61 rfl (by kernel_rfl)) rfl ?_
 exact ⟨er, by repeat (first | (with_reducible first | exact HI0.out | apply ia | apply iN | apply iD | apply i0 | apply i1 | refine iF ?_ NB0_300.out _) | exact HI0.out), by repeat (first | (with_reducible first | exact HB.out | apply ba | apply bN | apply bD | refine bS ?_ (IsS145.ge HI0.out) | refine bS ?_ GE300.out) | exact HB.out), by repeat (first | (with_reducible first | exact HK.out | apply kS | apply kN | apply kD | apply kA | refine keep_far ?_ GW300.out _) | exact HK.out)⟩
end Go.Proofs.Ythgiifakcgjlaaa.P
