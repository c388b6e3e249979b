/- Written by a program of this session: functions that the law reaches, as Lean functions, and that the code comes to their answers. Conditions: those that each theorem names. -/
import Derived.Test.YthgiifakcgjlaaaPx0
import Derived.Test.YthgiifakcgjlaaaPx4
import Derived.Test.YthgiifakcgjlaaaPx5
import Derived.Test.YthgiifakcgjlaaaPx9
import Derived.Test.YthgiifakcgjlaaaPx11
import Derived.Test.YthgiifakcgjlaaaPx12
import Derived.Test.YthgiifakcgjlaaaPx12a
import Derived.Test.YthgiifakcgjlaaaPx13
import Derived.Test.YthgiifakcgjlaaaPx14
namespace Go.Proofs.Ythgiifakcgjlaaa.P
open Go.RowKit Go.Proofs.YthgiifakcgjlaaaX Go.Proofs.YthgiifakcgjlaaaW.PrintWords Go.Proofs.YthgiifakcgjlaaaW.PrintLast Go.Proofs.YthgiifakcgjlaaaW.PrintMore
attribute [local go_sem] max2_int min2_int max_two min_two max_three min_three max_four min_four   -- for this text's walks alone
set_option linter.unusedVariables false
set_option linter.unusedSimpArgs false

/-! ### steeplelaw29_ProofSystems: function 5 -/
mutual
def steeplelaw29_ProofSystems.j0 : Nat → ByteArray → Bool → Int → Int → Int → Int → Int → List (S107) → Option (Bool)
 | 0, _, _, _, _, _, _, _, _ => none
 | k + 1, x1, x21, x283000, x283001, x283002, x283003, x283004, x283005 => if x21 = true then ((steeplelaw29_awake.f k).bind fun t283 => (some t283)) else ((steeplelaw25_Ref.f k x283000 x283001 x283002 x283003 x283004 x283005).bind fun bt284 => ((proof_System.f k x283000 x283001 x283002 x283003 x283004 x283005).bind fun bt293 => ((steepleref25_Check.f k bt284.1 bt284.2.1 bt284.2.2.1 bt284.2.2.2.1 bt284.2.2.2.2.1 bt284.2.2.2.2.2).bind fun t295 => (if bt293.2 = t295 then (if bt293.2 = 0 then ((proof_ReadSystem.f k bt293.1).bind fun bt296 => ((steepleref29_System.f k bt284.1 bt284.2.1 bt284.2.2.1 bt284.2.2.2.1 bt284.2.2.2.2.1 bt284.2.2.2.2.2).bind fun t306 => (if bt293.1.toList = t306.toList then (if bt296.2.2.2.2.2.2 = 0 then ((steeplelaw29_gates.f k bt296.1 bt296.2.1 bt296.2.2.1 bt296.2.2.2.1 bt296.2.2.2.2.1 bt296.2.2.2.2.2.1 x283000 x283001 x283002 x283003 x283004 x283005).bind fun t307 => (if t307 = true then (steeplelaw29_ProofSystems.j1 k x1) else (none))) else (none)) else (none)))) else (if bt293.1.toList = ([] : List UInt8) then (steeplelaw29_ProofSystems.j1 k x1) else (none))) else (none)))))
def steeplelaw29_ProofSystems.j1 : Nat → ByteArray → Option (Bool)
 | 0, _ => none
 | k + 1, x1 => (proof_ReadSystem.f k x1).bind fun bt308 => (if bt308.2.2.2.2.2.2 = 0 then ((steeplelaw25_Ref.f k bt308.1 bt308.2.1 bt308.2.2.1 bt308.2.2.2.1 bt308.2.2.2.2.1 bt308.2.2.2.2.2.1).bind fun bt320 => ((steeplelaw29_awake.f k).bind fun t329 => (if t329 = true then ((steepleref25_Check.f k bt320.1 bt320.2.1 bt320.2.2.1 bt320.2.2.2.1 bt320.2.2.2.2.1 bt320.2.2.2.2.2).bind fun t330 => (if t330 = 0 then ((steepleref29_System.f k bt320.1 bt320.2.1 bt320.2.2.1 bt320.2.2.2.1 bt320.2.2.2.2.1 bt320.2.2.2.2.2).bind fun t331 => (some (t331.toList == x1.toList))) else (none))) else (none)))) else ((steeplelaw29_awake.f k).bind fun t318 => (if t318 = true then (if bt308.2.2.2.2.2.2 = 3 then ((steeplelaw29_gates.f k bt308.1 bt308.2.1 bt308.2.2.1 bt308.2.2.2.1 bt308.2.2.2.2.1 bt308.2.2.2.2.2.1 0 0 0 0 0 ([] : List (S107))).bind fun t319 => (some t319)) else (none)) else (none))))
end
def steeplelaw29_ProofSystems.f (k : Nat) (a0_0 : Int) (a0_1 : Int) (a0_2 : Int) (a0_3 : Int) (a0_4 : Int) (l0_5 : List (S107)) (a1 : ByteArray) : Option (Bool) := if (l0_5.length : Int) > 40 then (steeplelaw29_ProofSystems.j0 k a1 true a0_0 a0_1 a0_2 a0_3 a0_4 l0_5) else (steeplelaw29_ProofSystems.j0 k a1 (decide ((a1.size : Int) > 2000)) a0_0 a0_1 a0_2 a0_3 a0_4 l0_5)
theorem steeplelaw29_ProofSystems.mono_l : ∀ k, (∀ y0 y1 y2 y3 y4 y5 y6 y7, LeO (steeplelaw29_ProofSystems.j0 k y0 y1 y2 y3 y4 y5 y6 y7) (steeplelaw29_ProofSystems.j0 (k + 1) y0 y1 y2 y3 y4 y5 y6 y7)) ∧ (∀ y0, LeO (steeplelaw29_ProofSystems.j1 k y0) (steeplelaw29_ProofSystems.j1 (k + 1) y0))
 | 0 => ⟨fun _ _ _ _ _ _ _ _ r h => by simp [steeplelaw29_ProofSystems.j0] at h, fun _ r h => by simp [steeplelaw29_ProofSystems.j1] at h⟩
 | k + 1 => by
  obtain ⟨ih0, ih1⟩ := steeplelaw29_ProofSystems.mono_l k
  refine ⟨?_, ?_⟩
  ·intro y0 y1 y2 y3 y4 y5 y6 y7
   unfold steeplelaw29_ProofSystems.j0
   repeat' first
   | (with_reducible exact ih0 _ _ _ _ _ _ _ _)
   | (with_reducible exact ih1 _)
   | (with_reducible exact proof_ReadSystem.mono _ _)
   | (with_reducible exact proof_System.mono _ _ _ _ _ _ _)
   | (with_reducible exact steeplelaw25_Ref.mono _ _ _ _ _ _ _)
   | (with_reducible exact steeplelaw29_awake.mono _)
   | (with_reducible exact steeplelaw29_gates.mono _ _ _ _ _ _ _ _ _ _ _ _ _)
   | (with_reducible exact steepleref25_Check.mono _ _ _ _ _ _ _)
   | (with_reducible exact steepleref29_System.mono _ _ _ _ _ _ _)
   | (with_reducible exact LeO.refl _)
   | (with_reducible exact LeO.none _)
   | (with_reducible refine LeO.ite ?_ ?_)
   | (with_reducible refine LeO.bind ?_ (fun _ => ?_))
   | exact ih0 _ _ _ _ _ _ _ _
   | exact ih1 _
   | exact proof_ReadSystem.mono _ _
   | exact proof_System.mono _ _ _ _ _ _ _
   | exact steeplelaw25_Ref.mono _ _ _ _ _ _ _
   | exact steeplelaw29_awake.mono _
   | exact steeplelaw29_gates.mono _ _ _ _ _ _ _ _ _ _ _ _ _
   | exact steepleref25_Check.mono _ _ _ _ _ _ _
   | exact steepleref29_System.mono _ _ _ _ _ _ _
   | exact LeO.none _
   | refine LeO.ite ?_ ?_
   | refine LeO.bind ?_ (fun _ => ?_)
  ·intro y0
   unfold steeplelaw29_ProofSystems.j1
   repeat' first
   | (with_reducible exact ih0 _ _ _ _ _ _ _ _)
   | (with_reducible exact ih1 _)
   | (with_reducible exact proof_ReadSystem.mono _ _)
   | (with_reducible exact proof_System.mono _ _ _ _ _ _ _)
   | (with_reducible exact steeplelaw25_Ref.mono _ _ _ _ _ _ _)
   | (with_reducible exact steeplelaw29_awake.mono _)
   | (with_reducible exact steeplelaw29_gates.mono _ _ _ _ _ _ _ _ _ _ _ _ _)
   | (with_reducible exact steepleref25_Check.mono _ _ _ _ _ _ _)
   | (with_reducible exact steepleref29_System.mono _ _ _ _ _ _ _)
   | (with_reducible exact LeO.refl _)
   | (with_reducible exact LeO.none _)
   | (with_reducible refine LeO.ite ?_ ?_)
   | (with_reducible refine LeO.bind ?_ (fun _ => ?_))
   | exact ih0 _ _ _ _ _ _ _ _
   | exact ih1 _
   | exact proof_ReadSystem.mono _ _
   | exact proof_System.mono _ _ _ _ _ _ _
   | exact steeplelaw25_Ref.mono _ _ _ _ _ _ _
   | exact steeplelaw29_awake.mono _
   | exact steeplelaw29_gates.mono _ _ _ _ _ _ _ _ _ _ _ _ _
   | exact steepleref25_Check.mono _ _ _ _ _ _ _
   | exact steepleref29_System.mono _ _ _ _ _ _ _
   | exact LeO.none _
   | refine LeO.ite ?_ ?_
   | refine LeO.bind ?_ (fun _ => ?_)
theorem steeplelaw29_ProofSystems.mono : ∀ a0 a1 a2 a3 a4 a5 a6 k, LeO (steeplelaw29_ProofSystems.f k a0 a1 a2 a3 a4 a5 a6) (steeplelaw29_ProofSystems.f (k + 1) a0 a1 a2 a3 a4 a5 a6) := by
 intro a0 a1 a2 a3 a4 a5 a6 k
 obtain ⟨ih0, ih1⟩ := steeplelaw29_ProofSystems.mono_l k
 unfold steeplelaw29_ProofSystems.f
 repeat' first
   | (with_reducible exact ih0 _ _ _ _ _ _ _ _)
   | (with_reducible exact ih1 _)
   | (with_reducible exact proof_ReadSystem.mono _ _)
   | (with_reducible exact proof_System.mono _ _ _ _ _ _ _)
   | (with_reducible exact steeplelaw25_Ref.mono _ _ _ _ _ _ _)
   | (with_reducible exact steeplelaw29_awake.mono _)
   | (with_reducible exact steeplelaw29_gates.mono _ _ _ _ _ _ _ _ _ _ _ _ _)
   | (with_reducible exact steepleref25_Check.mono _ _ _ _ _ _ _)
   | (with_reducible exact steepleref29_System.mono _ _ _ _ _ _ _)
   | (with_reducible exact LeO.refl _)
   | (with_reducible exact LeO.none _)
   | (with_reducible refine LeO.ite ?_ ?_)
   | (with_reducible refine LeO.bind ?_ (fun _ => ?_))
   | exact ih0 _ _ _ _ _ _ _ _
   | exact ih1 _
   | exact proof_ReadSystem.mono _ _
   | exact proof_System.mono _ _ _ _ _ _ _
   | exact steeplelaw25_Ref.mono _ _ _ _ _ _ _
   | exact steeplelaw29_awake.mono _
   | exact steeplelaw29_gates.mono _ _ _ _ _ _ _ _ _ _ _ _ _
   | exact steepleref25_Check.mono _ _ _ _ _ _ _
   | exact steepleref29_System.mono _ _ _ _ _ _ _
   | exact LeO.none _
   | refine LeO.ite ?_ ?_
   | refine LeO.bind ?_ (fun _ => ?_)
set_option maxHeartbeats 8000000 in
set_option maxRecDepth 100000 in
theorem steeplelaw29_ProofSystems.calls (k : Nat) (a0_0 : Int) (a0_1 : Int) (a0_2 : Int) (a0_3 : Int) (a0_4 : Int) (A0_5 : Option Addr) (c0_5 : Nat) (l0_5 : List (S107)) (a1 : ByteArray) (r : Bool) (w : World) (hr0_5 : Kd.C k107 w A0_5 l0_5.length l0_5) (hc0_5 : l0_5.length ≤ c0_5) (h : steeplelaw29_ProofSystems.f k a0_0 a0_1 a0_2 a0_3 a0_4 l0_5 a1 = some r) :
  Calls Try.prog 5 #[.agg #[.int .i64 a0_0, .int .i64 a0_1, .int .i64 a0_2, .int .i64 a0_3, .int .i64 a0_4, .slice A0_5 l0_5.length c0_5], .string a1] w fun e w' => e = .returned (.bool r) ∧ Below w.heap.size w w' := by
 have hu45 := Try.underlying45
 have hu48 := Try.underlying48
 have HR0_5 := Aside0.mk hr0_5
 have HC0_5 := Aside0.mk hc0_5
 clear hr0_5 hc0_5
 have HB := Aside0.mk (Below.refl w.heap.size w)
 have H : (if (l0_5.length : Int) > 40 then (steeplelaw29_ProofSystems.j0 k a1 true a0_0 a0_1 a0_2 a0_3 a0_4 l0_5) else (steeplelaw29_ProofSystems.j0 k a1 (decide ((a1.size : Int) > 2000)) a0_0 a0_1 a0_2 a0_3 a0_4 l0_5)) = some r := h
 clear h
 have HC3 := Aside0.mk H
 clear H
 go_enter Try.func5, Try.ntmps5
 go_upto_region 1 with (first | ((with_reducible refine gate_dst (N := 2) rfl ?_); (try (refine gate_guard (by rfl) ?_; dsimp only)); refine box_event ?hg (N := 2) ?hd (cs := #[.int .i64 a0_0, .int .i64 a0_1, .int .i64 a0_2, .int .i64 a0_3, .int .i64 a0_4, .slice A0_5 l0_5.length c0_5]) (t := 45) ?hr ?_; (case hd => rfl); (case hg => rfl); (case hr => first | (go_simp; done) | (go_simp; rfl)); intro gb282 hg w4 hbox hb; have BK282 := Aside0.mk hbox; have GW282 := ge hg HB; have GE282 := ge hg HB; replace HB := bh HB hb; clear hb hbox hg))
 (try simp only [Act.put, List.setIfInBounds_toArray, List.set_cons_zero, List.set_cons_succ])
 go_cut [21] (fun v21 wc => ∃ (kq : Nat) (x21_2 : Bool), v21 = .bool x21_2 ∧ Aside0 (steeplelaw29_ProofSystems.j0 kq a1 x21_2 a0_0 a0_1 a0_2 a0_3 a0_4 l0_5 = some r) ∧ Aside0 (kq ≤ k) ∧ Aside0 (wc.heap[gb282]? = some (.cells #[.int .i64 a0_0, .int .i64 a0_1, .int .i64 a0_2, .int .i64 a0_3, .int .i64 a0_4, (.slice A0_5 l0_5.length c0_5)] 45 (0, 0))) ∧ Aside0 (Below w.heap.size w wc))
 case first =>
  have H := HC3.out
  clear HC3
  by_cases c5 : (l0_5.length : Int) > 40
  ·rw [if_pos c5] at H
   have c5b0 : decide (40 < (l0_5.length : Int)) = true := decide_eq_true c5
   have c5b1 : decide (40 < l0_5.length) = true := decide_eq_true (by omega)
   clear c5
   (first | rw [c5b0] | (simp only [i64_w, i32_w]; rw [c5b0]) | skip)
   have H' := Aside0.mk H
   clear H
   have hcz6_0 : w4.cell? ⟨gb282, 0, none⟩ = some (.int .i64 a0_0) := (blk_cell BK282.out 0).trans rfl
   have hcz6_1 : w4.cell? ⟨gb282, 1, none⟩ = some (.int .i64 a0_1) := (blk_cell BK282.out 1).trans rfl
   have hcz6_2 : w4.cell? ⟨gb282, 2, none⟩ = some (.int .i64 a0_2) := (blk_cell BK282.out 2).trans rfl
   have hcz6_3 : w4.cell? ⟨gb282, 3, none⟩ = some (.int .i64 a0_3) := (blk_cell BK282.out 3).trans rfl
   have hcz6_4 : w4.cell? ⟨gb282, 4, none⟩ = some (.int .i64 a0_4) := (blk_cell BK282.out 4).trans rfl
   have hcz6_5 : w4.cell? ⟨gb282, 5, none⟩ = some (.slice A0_5 l0_5.length c0_5) := (blk_cell BK282.out 5).trans rfl
   have hfz6_0 := blk_frozen BK282.out 0
   have hfz6_1 := blk_frozen BK282.out 1
   have hfz6_2 := blk_frozen BK282.out 2
   have hfz6_3 := blk_frozen BK282.out 3
   have hfz6_4 := blk_frozen BK282.out 4
   have hfz6_5 := blk_frozen BK282.out 5
   go_wp2
   go_meet
   case rel => exact ⟨_, (true), (by first | rfl | (simp; done) | (simp [*]; done)), H', ⟨by first | omega | exact Nat.le_refl _⟩, ⟨bk BK282.out⟩, ⟨bq HB.out⟩⟩
  ·rw [if_neg c5] at H
   have c5b0 : decide (40 < (l0_5.length : Int)) = false := decide_eq_false c5
   have c5b1 : decide (40 < l0_5.length) = false := decide_eq_false (by omega)
   clear c5
   (first | rw [c5b0] | (simp only [i64_w, i32_w]; rw [c5b0]) | skip)
   have H' := Aside0.mk H
   clear H
   have hcz7_0 : w4.cell? ⟨gb282, 0, none⟩ = some (.int .i64 a0_0) := (blk_cell BK282.out 0).trans rfl
   have hcz7_1 : w4.cell? ⟨gb282, 1, none⟩ = some (.int .i64 a0_1) := (blk_cell BK282.out 1).trans rfl
   have hcz7_2 : w4.cell? ⟨gb282, 2, none⟩ = some (.int .i64 a0_2) := (blk_cell BK282.out 2).trans rfl
   have hcz7_3 : w4.cell? ⟨gb282, 3, none⟩ = some (.int .i64 a0_3) := (blk_cell BK282.out 3).trans rfl
   have hcz7_4 : w4.cell? ⟨gb282, 4, none⟩ = some (.int .i64 a0_4) := (blk_cell BK282.out 4).trans rfl
   have hcz7_5 : w4.cell? ⟨gb282, 5, none⟩ = some (.slice A0_5 l0_5.length c0_5) := (blk_cell BK282.out 5).trans rfl
   have hfz7_0 := blk_frozen BK282.out 0
   have hfz7_1 := blk_frozen BK282.out 1
   have hfz7_2 := blk_frozen BK282.out 2
   have hfz7_3 := blk_frozen BK282.out 3
   have hfz7_4 := blk_frozen BK282.out 4
   have hfz7_5 := blk_frozen BK282.out 5
   go_wp2
   go_meet
   case rel => exact ⟨_, (decide ((a1.size : Int) > 2000)), (by first | rfl | (simp; done) | (simp [*]; done)), H', ⟨by first | omega | exact Nat.le_refl _⟩, ⟨bk BK282.out⟩, ⟨bq HB.out⟩⟩
 case rest =>
  clear HC3
  try clear p2
  try clear c5
  try clear c5b0
  try clear c5b1
  try clear hcz6_0
  try clear hcz6_1
  try clear hcz6_2
  try clear hcz6_3
  try clear hcz6_4
  try clear hcz6_5
  try clear hcz7_0
  try clear hcz7_1
  try clear hcz7_2
  try clear hcz7_3
  try clear hcz7_4
  try clear hcz7_5
  try clear hfz6_0
  try clear hfz6_1
  try clear hfz6_2
  try clear hfz6_3
  try clear hfz6_4
  try clear hfz6_5
  try clear hfz7_0
  try clear hfz7_1
  try clear hfz7_2
  try clear hfz7_3
  try clear hfz7_4
  try clear hfz7_5
  obtain ⟨kq, x21_2, rfl, HA, HJ2, BK282, HB⟩ := hcut
  cases kq with
  | zero => exact absurd HA.out (by simp [steeplelaw29_ProofSystems.j0])
  | succ kj2 =>
   have H := HA.out
   clear HA
   simp only [steeplelaw29_ProofSystems.j0] at H
   by_cases c8 : x21_2 = true
   ·subst c8
    have H1 : ((steeplelaw29_awake.f kj2).bind fun t283 => (some t283)) = some r := by rw [if_pos rfl] at H; exact H
    clear H
    have H := H1
    clear H1
    replace H := Option.bind_eq_some_iff.mp H
    obtain ⟨t283, A90, H⟩ := H
    replace H : (some t283) = some r := H
    have A9 := Aside0.mk A90
    clear A90
    obtain rfl := Option.some.inj H
    go_wp2_with (first | ((with_reducible refine gate_callee (f := 9) rfl ?_); refine goesL_ (some 22) rfl rfl Try.func9 (by kernel_rfl) rfl #[] rfl (by (try simp only [List.map_toArray, List.map_cons, List.map_nil]); first | done | rfl | (simp only [List.length_drop, List.length_take]; rfl)) ?_; (with_reducible refine (steeplelaw29_awake.calls kj2  t283 _ A9.out).mono ?_); rintro e w10 ⟨rfl, hb⟩; refine ⟨_, rfl, ?_⟩; replace BK282 := bb BK282 hb; replace HB := bh HB hb; (try clear hb); (try clear hb2); (try clear hk); (try clear hi)))
    go_ret
    exact ⟨by first | rfl | (simp [errW_none, errW_some] <;> rfl) | (simp [*, errW_none, errW_some] <;> rfl), bq HB.out⟩
   ·replace c8 := Bool.eq_false_iff.mpr c8
    subst c8
    have H1 : ((steeplelaw25_Ref.f kj2 a0_0 a0_1 a0_2 a0_3 a0_4 l0_5).bind fun bt284 => ((proof_System.f kj2 a0_0 a0_1 a0_2 a0_3 a0_4 l0_5).bind fun bt293 => ((steepleref25_Check.f kj2 bt284.1 bt284.2.1 bt284.2.2.1 bt284.2.2.2.1 bt284.2.2.2.2.1 bt284.2.2.2.2.2).bind fun t295 => (if bt293.2 = t295 then (if bt293.2 = 0 then ((proof_ReadSystem.f kj2 bt293.1).bind fun bt296 => ((steepleref29_System.f kj2 bt284.1 bt284.2.1 bt284.2.2.1 bt284.2.2.2.1 bt284.2.2.2.2.1 bt284.2.2.2.2.2).bind fun t306 => (if bt293.1.toList = t306.toList then (if bt296.2.2.2.2.2.2 = 0 then ((steeplelaw29_gates.f kj2 bt296.1 bt296.2.1 bt296.2.2.1 bt296.2.2.2.1 bt296.2.2.2.2.1 bt296.2.2.2.2.2.1 a0_0 a0_1 a0_2 a0_3 a0_4 l0_5).bind fun t307 => (if t307 = true then (steeplelaw29_ProofSystems.j1 kj2 a1) else (none))) else (none)) else (none)))) else (if bt293.1.toList = ([] : List UInt8) then (steeplelaw29_ProofSystems.j1 kj2 a1) else (none))) else (none))))) = some r := by rw [if_neg (show ¬ (false = true) by decide)] at H; exact H
    clear H
    have H := H1
    clear H1
    replace H := Option.bind_eq_some_iff.mp H
    obtain ⟨⟨t284, t285, t286, t287, t288, t289⟩, A110, H⟩ := H
    replace H : ((proof_System.f kj2 a0_0 a0_1 a0_2 a0_3 a0_4 l0_5).bind fun bt293 => ((steepleref25_Check.f kj2 t284 t285 t286 t287 t288 t289).bind fun t295 => (if bt293.2 = t295 then (if bt293.2 = 0 then ((proof_ReadSystem.f kj2 bt293.1).bind fun bt296 => ((steepleref29_System.f kj2 t284 t285 t286 t287 t288 t289).bind fun t306 => (if bt293.1.toList = t306.toList then (if bt296.2.2.2.2.2.2 = 0 then ((steeplelaw29_gates.f kj2 bt296.1 bt296.2.1 bt296.2.2.1 bt296.2.2.2.1 bt296.2.2.2.2.1 bt296.2.2.2.2.2.1 a0_0 a0_1 a0_2 a0_3 a0_4 l0_5).bind fun t307 => (if t307 = true then (steeplelaw29_ProofSystems.j1 kj2 a1) else (none))) else (none)) else (none)))) else (if bt293.1.toList = ([] : List UInt8) then (steeplelaw29_ProofSystems.j1 kj2 a1) else (none))) else (none)))) = some r := H
    have A11 := Aside0.mk A110
    clear A110
    replace H := Option.bind_eq_some_iff.mp H
    obtain ⟨⟨t293, t294⟩, A120, H⟩ := H
    replace H : ((steepleref25_Check.f kj2 t284 t285 t286 t287 t288 t289).bind fun t295 => (if t294 = t295 then (if t294 = 0 then ((proof_ReadSystem.f kj2 t293).bind fun bt296 => ((steepleref29_System.f kj2 t284 t285 t286 t287 t288 t289).bind fun t306 => (if t293.toList = t306.toList then (if bt296.2.2.2.2.2.2 = 0 then ((steeplelaw29_gates.f kj2 bt296.1 bt296.2.1 bt296.2.2.1 bt296.2.2.2.1 bt296.2.2.2.2.1 bt296.2.2.2.2.2.1 a0_0 a0_1 a0_2 a0_3 a0_4 l0_5).bind fun t307 => (if t307 = true then (steeplelaw29_ProofSystems.j1 kj2 a1) else (none))) else (none)) else (none)))) else (if t293.toList = ([] : List UInt8) then (steeplelaw29_ProofSystems.j1 kj2 a1) else (none))) else (none))) = some r := H
    have A12 := Aside0.mk A120
    clear A120
    replace H := Option.bind_eq_some_iff.mp H
    obtain ⟨t295, A130, H⟩ := H
    replace H : (if t294 = t295 then (if t294 = 0 then ((proof_ReadSystem.f kj2 t293).bind fun bt296 => ((steepleref29_System.f kj2 t284 t285 t286 t287 t288 t289).bind fun t306 => (if t293.toList = t306.toList then (if bt296.2.2.2.2.2.2 = 0 then ((steeplelaw29_gates.f kj2 bt296.1 bt296.2.1 bt296.2.2.1 bt296.2.2.2.1 bt296.2.2.2.2.1 bt296.2.2.2.2.2.1 a0_0 a0_1 a0_2 a0_3 a0_4 l0_5).bind fun t307 => (if t307 = true then (steeplelaw29_ProofSystems.j1 kj2 a1) else (none))) else (none)) else (none)))) else (if t293.toList = ([] : List UInt8) then (steeplelaw29_ProofSystems.j1 kj2 a1) else (none))) else (none)) = some r := H
    have A13 := Aside0.mk A130
    clear A130
    by_cases c14 : t294 = t295
    ·rw [if_pos c14] at H
     have c14b0 : (t294 == t295) = true := beq_iff_eq.mpr c14
     have c14b1 : (t294 != t295) = false := bne_eq_false_iff_eq.mpr c14
     clear c14
     have HC15 := Aside0.mk H
     clear H
     have hcz16_0 : wc.cell? ⟨gb282, 0, none⟩ = some (.int .i64 a0_0) := (blk_cell BK282.out 0).trans rfl
     have hcz16_1 : wc.cell? ⟨gb282, 1, none⟩ = some (.int .i64 a0_1) := (blk_cell BK282.out 1).trans rfl
     have hcz16_2 : wc.cell? ⟨gb282, 2, none⟩ = some (.int .i64 a0_2) := (blk_cell BK282.out 2).trans rfl
     have hcz16_3 : wc.cell? ⟨gb282, 3, none⟩ = some (.int .i64 a0_3) := (blk_cell BK282.out 3).trans rfl
     have hcz16_4 : wc.cell? ⟨gb282, 4, none⟩ = some (.int .i64 a0_4) := (blk_cell BK282.out 4).trans rfl
     have hcz16_5 : wc.cell? ⟨gb282, 5, none⟩ = some (.slice A0_5 l0_5.length c0_5) := (blk_cell BK282.out 5).trans rfl
     have hfz16_0 := blk_frozen BK282.out 0
     have hfz16_1 := blk_frozen BK282.out 1
     have hfz16_2 := blk_frozen BK282.out 2
     have hfz16_3 := blk_frozen BK282.out 3
     have hfz16_4 := blk_frozen BK282.out 4
     have hfz16_5 := blk_frozen BK282.out 5
     go_upto_if 35 with (first | ((with_reducible refine gate_callee (f := 19) rfl ?_); refine goesL_ (some 24) rfl rfl Try.func19 (by kernel_rfl) rfl #[.agg #[.int .i64 a0_0, .int .i64 a0_1, .int .i64 a0_2, .int .i64 a0_3, .int .i64 a0_4, .slice A0_5 l0_5.length c0_5]] rfl (by (try simp only [List.map_toArray, List.map_cons, List.map_nil]); first | done | rfl | (simp only [List.length_drop, List.length_take]; rfl)) ?_; (with_reducible refine (steeplelaw25_Ref.calls kj2 a0_0 a0_1 a0_2 a0_3 a0_4 _ _ l0_5 t284 t285 t286 t287 t288 t289 _ ?side1 ?side2 A11.out).mono ?_); (case side1 => repeat (first | exact (Kd.C_below HR0_5.out HB.out) | (with_reducible refine Kd.C_alloc ?_ _) | (with_reducible refine Kd.C_drewN ?_ _) | (with_reducible refine Kd.C_drew ?_))); (case side2 => exact HC0_5.out); rintro e w17 ⟨v290, rfl, ho0, hb⟩; refine ⟨_, rfl, ?_⟩; have HO291 := kw ho0 HB; replace BK282 := bb BK282 hb; replace HB := bh HB hb; (try clear hb); (try clear hb2); (try clear hk); (try clear hi); (try clear ho0)) | ((with_reducible refine gate_dst (N := 5) rfl ?_); (try (refine gate_guard (by rfl) ?_; dsimp only)); refine box_event ?hg (N := 5) ?hd (cs := #[.int .i64 0, .int .i64 0, .int .i64 0, .int .i64 0, .int .i64 0, .slice none 0 0]) (t := 48) ?hr ?_; (case hd => rfl); (case hg => rfl); (case hr => first | (go_simp; done) | (go_simp; rfl)); intro gb292 hg w18 hbox hb; have BK292 := Aside0.mk hbox; have GW292 := ge hg HB; have GE292 := ge hg HB; have NB282_292 := nl hg BK282; have NB292_282 := ng hg BK282; replace HO291 := kb HO291 hb; replace BK282 := bb BK282 hb; replace HB := bh HB hb; clear hb hbox hg; have hnb19 := NB292_282.out; have hnc19 := NB282_292.out; have hcz20_0 : w18.cell? ⟨gb292, 0, none⟩ = some (.int .i64 0) := (blk_cell BK292.out 0).trans rfl; have hcz20_1 : w18.cell? ⟨gb292, 1, none⟩ = some (.int .i64 0) := (blk_cell BK292.out 1).trans rfl; have hcz20_2 : w18.cell? ⟨gb292, 2, none⟩ = some (.int .i64 0) := (blk_cell BK292.out 2).trans rfl; have hcz20_3 : w18.cell? ⟨gb292, 3, none⟩ = some (.int .i64 0) := (blk_cell BK292.out 3).trans rfl; have hcz20_4 : w18.cell? ⟨gb292, 4, none⟩ = some (.int .i64 0) := (blk_cell BK292.out 4).trans rfl; have hcz20_5 : w18.cell? ⟨gb292, 5, none⟩ = some (.slice none 0 0) := (blk_cell BK292.out 5).trans rfl; have hfz20_0 := blk_frozen BK292.out 0; have hfz20_1 := blk_frozen BK292.out 1; have hfz20_2 := blk_frozen BK292.out 2; have hfz20_3 := blk_frozen BK292.out 3; have hfz20_4 := blk_frozen BK292.out 4; have hfz20_5 := blk_frozen BK292.out 5; obtain ⟨Ao21, co21, eo21⟩ := Kd.R_slice HO291.out; subst eo21; have hcz22_0 : w18.cell? ⟨gb282, 0, none⟩ = some (.int .i64 a0_0) := (blk_cell BK282.out 0).trans rfl; have hcz22_1 : w18.cell? ⟨gb282, 1, none⟩ = some (.int .i64 a0_1) := (blk_cell BK282.out 1).trans rfl; have hcz22_2 : w18.cell? ⟨gb282, 2, none⟩ = some (.int .i64 a0_2) := (blk_cell BK282.out 2).trans rfl; have hcz22_3 : w18.cell? ⟨gb282, 3, none⟩ = some (.int .i64 a0_3) := (blk_cell BK282.out 3).trans rfl; have hcz22_4 : w18.cell? ⟨gb282, 4, none⟩ = some (.int .i64 a0_4) := (blk_cell BK282.out 4).trans rfl; have hcz22_5 : w18.cell? ⟨gb282, 5, none⟩ = some (.slice A0_5 l0_5.length c0_5) := (blk_cell BK282.out 5).trans rfl; have hfz22_0 := blk_frozen BK282.out 0; have hfz22_1 := blk_frozen BK282.out 1; have hfz22_2 := blk_frozen BK282.out 2; have hfz22_3 := blk_frozen BK282.out 3; have hfz22_4 := blk_frozen BK282.out 4; have hfz22_5 := blk_frozen BK282.out 5) | ((with_reducible refine gate_callee (f := 20) rfl ?_); refine goesL_ (some 27) rfl rfl Try.func20 (by kernel_rfl) rfl #[.agg #[.int .i64 a0_0, .int .i64 a0_1, .int .i64 a0_2, .int .i64 a0_3, .int .i64 a0_4, .slice A0_5 l0_5.length c0_5]] rfl (by (try simp only [List.map_toArray, List.map_cons, List.map_nil]); first | done | rfl | (simp only [List.length_drop, List.length_take]; rfl)) ?_; (with_reducible refine (proof_System.calls kj2 a0_0 a0_1 a0_2 a0_3 a0_4 _ _ l0_5 t293 t294 _ ?side1 ?side2 A12.out).mono ?_); (case side1 => exact Kd.C_below HR0_5.out (bq HB.out)); (case side2 => exact HC0_5.out); rintro e w23 ⟨rfl, hb⟩; refine ⟨_, rfl, ?_⟩; replace HO291 := Aside0.mk (Kd.R_below (by (with_reducible repeat refine kl ?_); exact (Kd.R_mono (Kd.R_far (p := ⟨gb292, 5, none⟩) (Kd.R_far (p := ⟨gb292, 4, none⟩) (Kd.R_far (p := ⟨gb292, 3, none⟩) (Kd.R_far (p := ⟨gb292, 2, none⟩) (Kd.R_far (p := ⟨gb292, 1, none⟩) (Kd.R_far (p := ⟨gb292, 0, none⟩) (Kd.R_types HO291.out BK292.out (by decide)) (fun _ hk => hk.2) (.int .i64 t284)) (fun _ hk => hk.2) (.int .i64 t285)) (fun _ hk => hk.2) (.int .i64 t286)) (fun _ hk => hk.2) (.int .i64 t287)) (fun _ hk => hk.2) (.int .i64 t288)) (fun _ hk => hk.2) (.slice Ao21 t289.length co21)) (fun _ h_ => h_.1))) hb); replace BK282 := Aside0.mk (blk_below (g := gb282) (o := .cells #[.int .i64 a0_0, .int .i64 a0_1, .int .i64 a0_2, .int .i64 a0_3, .int .i64 a0_4, .slice A0_5 l0_5.length c0_5] 45 (0, 0)) (by (with_reducible repeat refine bl ?_); refine blk_far ?_ NB282_292.out _; (with_reducible repeat refine bl ?_); refine blk_far ?_ NB282_292.out _; (with_reducible repeat refine bl ?_); refine blk_far ?_ NB282_292.out _; (with_reducible repeat refine bl ?_); refine blk_far ?_ NB282_292.out _; (with_reducible repeat refine bl ?_); refine blk_far ?_ NB282_292.out _; (with_reducible repeat refine bl ?_); refine blk_far ?_ NB282_292.out _; (with_reducible repeat refine bl ?_); exact BK282.out) hb); replace BK292 := Aside0.mk (blk_below (g := gb292) (o := .cells #[.int .i64 t284, .int .i64 t285, .int .i64 t286, .int .i64 t287, .int .i64 t288, .slice Ao21 t289.length co21] 48 (0, 0)) (by (with_reducible repeat refine bl ?_); refine blk_put (cs := #[.int .i64 t284, .int .i64 t285, .int .i64 t286, .int .i64 t287, .int .i64 t288, .slice none 0 0]) ?_ 5 _ rfl; (with_reducible repeat refine bl ?_); refine blk_put (cs := #[.int .i64 t284, .int .i64 t285, .int .i64 t286, .int .i64 t287, .int .i64 0, .slice none 0 0]) ?_ 4 _ rfl; (with_reducible repeat refine bl ?_); refine blk_put (cs := #[.int .i64 t284, .int .i64 t285, .int .i64 t286, .int .i64 0, .int .i64 0, .slice none 0 0]) ?_ 3 _ rfl; (with_reducible repeat refine bl ?_); refine blk_put (cs := #[.int .i64 t284, .int .i64 t285, .int .i64 0, .int .i64 0, .int .i64 0, .slice none 0 0]) ?_ 2 _ rfl; (with_reducible repeat refine bl ?_); refine blk_put (cs := #[.int .i64 t284, .int .i64 0, .int .i64 0, .int .i64 0, .int .i64 0, .slice none 0 0]) ?_ 1 _ rfl; (with_reducible repeat refine bl ?_); refine blk_put (cs := #[.int .i64 0, .int .i64 0, .int .i64 0, .int .i64 0, .int .i64 0, .slice none 0 0]) ?_ 0 _ rfl; (with_reducible repeat refine bl ?_); exact BK292.out) hb); replace HB := bh HB hb; (try clear hb); (try clear hb2); (try clear hk); (try clear hi); have hcz24_0 : w23.cell? ⟨gb292, 0, none⟩ = some (.int .i64 t284) := (blk_cell BK292.out 0).trans rfl; have hcz24_1 : w23.cell? ⟨gb292, 1, none⟩ = some (.int .i64 t285) := (blk_cell BK292.out 1).trans rfl; have hcz24_2 : w23.cell? ⟨gb292, 2, none⟩ = some (.int .i64 t286) := (blk_cell BK292.out 2).trans rfl; have hcz24_3 : w23.cell? ⟨gb292, 3, none⟩ = some (.int .i64 t287) := (blk_cell BK292.out 3).trans rfl; have hcz24_4 : w23.cell? ⟨gb292, 4, none⟩ = some (.int .i64 t288) := (blk_cell BK292.out 4).trans rfl; have hcz24_5 : w23.cell? ⟨gb292, 5, none⟩ = some (.slice Ao21 t289.length co21) := (blk_cell BK292.out 5).trans rfl; have hfz24_0 := blk_frozen BK292.out 0; have hfz24_1 := blk_frozen BK292.out 1; have hfz24_2 := blk_frozen BK292.out 2; have hfz24_3 := blk_frozen BK292.out 3; have hfz24_4 := blk_frozen BK292.out 4; have hfz24_5 := blk_frozen BK292.out 5) | ((with_reducible refine gate_callee (f := 21) rfl ?_); refine goesL_ (some 32) rfl rfl Try.func21 (by kernel_rfl) rfl #[.agg #[.int .i64 t284, .int .i64 t285, .int .i64 t286, .int .i64 t287, .int .i64 t288, .slice Ao21 t289.length co21]] rfl (by (try simp only [List.map_toArray, List.map_cons, List.map_nil]); first | done | rfl | (simp only [List.length_drop, List.length_take]; rfl)) ?_; (with_reducible refine (steepleref25_Check.calls kj2 t284 t285 t286 t287 t288 _ _ t289 t295 _ ?side1 ?side2 A13.out).mono ?_); (case side1 => repeat (first | exact (Kd.R_reads' HO291.out).2.2 | (with_reducible refine Kd.C_alloc ?_ _) | (with_reducible refine Kd.C_drewN ?_ _) | (with_reducible refine Kd.C_drew ?_))); (case side2 => exact (Kd.R_reads' HO291.out).2.1); rintro e w25 ⟨rfl, hb⟩; refine ⟨_, rfl, ?_⟩; replace HO291 := kb HO291 hb; replace BK282 := bb BK282 hb; replace BK292 := bb BK292 hb; replace HB := bh HB hb; (try clear hb); (try clear hb2); (try clear hk); (try clear hi)))
     (try simp only [Act.put, List.setIfInBounds_toArray, List.set_cons_zero, List.set_cons_succ])
     go_cut [] (fun wc => ∃ (kq : Nat), Aside0 (steeplelaw29_ProofSystems.j1 kq a1 = some r) ∧ Aside0 (kq ≤ kj2) ∧ Aside0 (Kd.R k106 106 wc w.heap.size (fun _ => True) (.slice Ao21 t289.length co21) t289) ∧ Aside0 (wc.heap[gb282]? = some (.cells #[.int .i64 a0_0, .int .i64 a0_1, .int .i64 a0_2, .int .i64 a0_3, .int .i64 a0_4, (.slice A0_5 l0_5.length c0_5)] 45 (0, 0))) ∧ Aside0 (wc.heap[gb292]? = some (.cells #[.int .i64 t284, .int .i64 t285, .int .i64 t286, .int .i64 t287, .int .i64 t288, (.slice Ao21 t289.length co21)] 48 (0, 0))) ∧ Aside0 (Below w.heap.size w wc))
     case first =>
      have H := HC15.out
      clear HC15
      by_cases c26 : t294 = 0
      ·rw [if_pos c26] at H
       have c26b0 : (t294 == 0) = true := beq_iff_eq.mpr c26
       have c26b1 : (t294 != 0) = false := bne_eq_false_iff_eq.mpr c26
       clear c26
       (first | rw [c26b0] | (simp only [i64_w, i32_w]; rw [c26b0]) | skip)
       replace H := Option.bind_eq_some_iff.mp H
       obtain ⟨⟨t296, t297, t298, t299, t300, t301, t304⟩, A270, H⟩ := H
       replace H : ((steepleref29_System.f kj2 t284 t285 t286 t287 t288 t289).bind fun t306 => (if t293.toList = t306.toList then (if t304 = 0 then ((steeplelaw29_gates.f kj2 t296 t297 t298 t299 t300 t301 a0_0 a0_1 a0_2 a0_3 a0_4 l0_5).bind fun t307 => (if t307 = true then (steeplelaw29_ProofSystems.j1 kj2 a1) else (none))) else (none)) else (none))) = some r := H
       have A27 := Aside0.mk A270
       clear A270
       replace H := Option.bind_eq_some_iff.mp H
       obtain ⟨t306, A280, H⟩ := H
       replace H : (if t293.toList = t306.toList then (if t304 = 0 then ((steeplelaw29_gates.f kj2 t296 t297 t298 t299 t300 t301 a0_0 a0_1 a0_2 a0_3 a0_4 l0_5).bind fun t307 => (if t307 = true then (steeplelaw29_ProofSystems.j1 kj2 a1) else (none))) else (none)) else (none)) = some r := H
       have A28 := Aside0.mk A280
       clear A280
       by_cases c29 : t293.toList = t306.toList
       ·rw [if_pos c29] at H
        have c29b0 : (t293.toList == t306.toList) = true := beq_iff_eq.mpr c29
        have c29b1 : (t293.toList != t306.toList) = false := bne_eq_false_iff_eq.mpr c29
        clear c29
        by_cases c30 : t304 = 0
        ·rw [if_pos c30] at H
         have c30b0 : (t304 == 0) = true := beq_iff_eq.mpr c30
         have c30b1 : (t304 != 0) = false := bne_eq_false_iff_eq.mpr c30
         clear c30
         replace H := Option.bind_eq_some_iff.mp H
         obtain ⟨t307, A310, H⟩ := H
         replace H : (if t307 = true then (steeplelaw29_ProofSystems.j1 kj2 a1) else (none)) = some r := H
         have A31 := Aside0.mk A310
         clear A310
         by_cases c32 : t307 = true
         ·subst c32
          have H1 : (steeplelaw29_ProofSystems.j1 kj2 a1) = some r := by rw [if_pos rfl] at H; exact H
          clear H
          have H := H1
          clear H1
          have H' := Aside0.mk H
          clear H
          go_wp2_with (first | ((with_reducible refine gate_callee (f := 22) rfl ?_); refine goesL_ (some 38) rfl rfl Try.func22 (by kernel_rfl) rfl #[.string t293] rfl (by (try simp only [List.map_toArray, List.map_cons, List.map_nil]); first | done | rfl | (simp only [List.length_drop, List.length_take]; rfl)) ?_; (with_reducible refine (proof_ReadSystem.calls kj2 t293 t296 t297 t298 t299 t300 t301 t304 _ A27.out).mono ?_); rintro e w33 ⟨v302, rfl, ho0, hb⟩; refine ⟨_, rfl, ?_⟩; have HO303 := kw ho0 HB; replace HO291 := kb HO291 hb; replace BK282 := bb BK282 hb; replace BK292 := bb BK292 hb; replace HB := bh HB hb; (try clear hb); (try clear hb2); (try clear hk); (try clear hi); (try clear ho0)) | ((with_reducible refine gate_dst (N := 8) rfl ?_); (try (refine gate_guard (by rfl) ?_; dsimp only)); refine box_event ?hg (N := 8) ?hd (cs := #[.int .i64 0, .int .i64 0, .int .i64 0, .int .i64 0, .int .i64 0, .slice none 0 0]) (t := 45) ?hr ?_; (case hd => rfl); (case hg => rfl); (case hr => first | (go_simp; done) | (go_simp; rfl)); intro gb305 hg w34 hbox hb; have BK305 := Aside0.mk hbox; have GW305 := ge hg HB; have GE305 := ge hg HB; have NB282_305 := nl hg BK282; have NB305_282 := ng hg BK282; have NB292_305 := nl hg BK292; have NB305_292 := ng hg BK292; replace HO291 := kb HO291 hb; replace HO303 := kb HO303 hb; replace BK282 := bb BK282 hb; replace BK292 := bb BK292 hb; replace HB := bh HB hb; clear hb hbox hg; have hnb35 := NB305_282.out; have hnc35 := NB282_305.out; have hnb36 := NB305_292.out; have hnc36 := NB292_305.out; have hcz37_0 : w34.cell? ⟨gb305, 0, none⟩ = some (.int .i64 0) := (blk_cell BK305.out 0).trans rfl; have hcz37_1 : w34.cell? ⟨gb305, 1, none⟩ = some (.int .i64 0) := (blk_cell BK305.out 1).trans rfl; have hcz37_2 : w34.cell? ⟨gb305, 2, none⟩ = some (.int .i64 0) := (blk_cell BK305.out 2).trans rfl; have hcz37_3 : w34.cell? ⟨gb305, 3, none⟩ = some (.int .i64 0) := (blk_cell BK305.out 3).trans rfl; have hcz37_4 : w34.cell? ⟨gb305, 4, none⟩ = some (.int .i64 0) := (blk_cell BK305.out 4).trans rfl; have hcz37_5 : w34.cell? ⟨gb305, 5, none⟩ = some (.slice none 0 0) := (blk_cell BK305.out 5).trans rfl; have hfz37_0 := blk_frozen BK305.out 0; have hfz37_1 := blk_frozen BK305.out 1; have hfz37_2 := blk_frozen BK305.out 2; have hfz37_3 := blk_frozen BK305.out 3; have hfz37_4 := blk_frozen BK305.out 4; have hfz37_5 := blk_frozen BK305.out 5; obtain ⟨Ao38, co38, eo38⟩ := Kd.R_slice HO303.out; subst eo38; have hnb39 := NB292_282.out; have hnc39 := NB282_292.out; have hcz40_0 : w34.cell? ⟨gb292, 0, none⟩ = some (.int .i64 t284) := (blk_cell BK292.out 0).trans rfl; have hcz40_1 : w34.cell? ⟨gb292, 1, none⟩ = some (.int .i64 t285) := (blk_cell BK292.out 1).trans rfl; have hcz40_2 : w34.cell? ⟨gb292, 2, none⟩ = some (.int .i64 t286) := (blk_cell BK292.out 2).trans rfl; have hcz40_3 : w34.cell? ⟨gb292, 3, none⟩ = some (.int .i64 t287) := (blk_cell BK292.out 3).trans rfl; have hcz40_4 : w34.cell? ⟨gb292, 4, none⟩ = some (.int .i64 t288) := (blk_cell BK292.out 4).trans rfl; have hcz40_5 : w34.cell? ⟨gb292, 5, none⟩ = some (.slice Ao21 t289.length co21) := (blk_cell BK292.out 5).trans rfl; have hfz40_0 := blk_frozen BK292.out 0; have hfz40_1 := blk_frozen BK292.out 1; have hfz40_2 := blk_frozen BK292.out 2; have hfz40_3 := blk_frozen BK292.out 3; have hfz40_4 := blk_frozen BK292.out 4; have hfz40_5 := blk_frozen BK292.out 5) | ((with_reducible refine gate_callee (f := 23) rfl ?_); refine goesL_ (some 43) rfl rfl Try.func23 (by kernel_rfl) rfl #[.agg #[.int .i64 t284, .int .i64 t285, .int .i64 t286, .int .i64 t287, .int .i64 t288, .slice Ao21 t289.length co21]] rfl (by (try simp only [List.map_toArray, List.map_cons, List.map_nil]); first | done | rfl | (simp only [List.length_drop, List.length_take]; rfl)) ?_; (with_reducible refine (steepleref29_System.calls kj2 t284 t285 t286 t287 t288 _ _ t289 t306 _ ?side1 ?side2 A28.out).mono ?_); (case side1 => refine (Kd.R_reads' (e := 106) (base := w.heap.size) (ok := fun k_ => True) (n := t289.length) (c := co21) ?_).2.2; exact (by (with_reducible repeat refine kl ?_); exact (Kd.R_mono (Kd.R_far (p := ⟨gb305, 5, none⟩) (Kd.R_far (p := ⟨gb305, 4, none⟩) (Kd.R_far (p := ⟨gb305, 3, none⟩) (Kd.R_far (p := ⟨gb305, 2, none⟩) (Kd.R_far (p := ⟨gb305, 1, none⟩) (Kd.R_far (p := ⟨gb305, 0, none⟩) (Kd.R_types HO291.out BK305.out (by decide)) (fun _ hk => hk.2) (.int .i64 t296)) (fun _ hk => hk.2) (.int .i64 t297)) (fun _ hk => hk.2) (.int .i64 t298)) (fun _ hk => hk.2) (.int .i64 t299)) (fun _ hk => hk.2) (.int .i64 t300)) (fun _ hk => hk.2) (.slice Ao38 t301.length co38)) (fun _ h_ => h_.1)))); (case side2 => exact (Kd.R_reads' HO291.out).2.1); rintro e w41 ⟨rfl, hb⟩; refine ⟨_, rfl, ?_⟩; replace HO291 := Aside0.mk (Kd.R_below (by (with_reducible repeat refine kl ?_); exact (Kd.R_mono (Kd.R_far (p := ⟨gb305, 5, none⟩) (Kd.R_far (p := ⟨gb305, 4, none⟩) (Kd.R_far (p := ⟨gb305, 3, none⟩) (Kd.R_far (p := ⟨gb305, 2, none⟩) (Kd.R_far (p := ⟨gb305, 1, none⟩) (Kd.R_far (p := ⟨gb305, 0, none⟩) (Kd.R_types HO291.out BK305.out (by decide)) (fun _ hk => hk.2) (.int .i64 t296)) (fun _ hk => hk.2) (.int .i64 t297)) (fun _ hk => hk.2) (.int .i64 t298)) (fun _ hk => hk.2) (.int .i64 t299)) (fun _ hk => hk.2) (.int .i64 t300)) (fun _ hk => hk.2) (.slice Ao38 t301.length co38)) (fun _ h_ => h_.1))) hb); replace HO303 := Aside0.mk (Kd.R_below (by (with_reducible repeat refine kl ?_); exact (Kd.R_mono (Kd.R_far (p := ⟨gb305, 5, none⟩) (Kd.R_far (p := ⟨gb305, 4, none⟩) (Kd.R_far (p := ⟨gb305, 3, none⟩) (Kd.R_far (p := ⟨gb305, 2, none⟩) (Kd.R_far (p := ⟨gb305, 1, none⟩) (Kd.R_far (p := ⟨gb305, 0, none⟩) (Kd.R_types HO303.out BK305.out (by decide)) (fun _ hk => hk.2) (.int .i64 t296)) (fun _ hk => hk.2) (.int .i64 t297)) (fun _ hk => hk.2) (.int .i64 t298)) (fun _ hk => hk.2) (.int .i64 t299)) (fun _ hk => hk.2) (.int .i64 t300)) (fun _ hk => hk.2) (.slice Ao38 t301.length co38)) (fun _ h_ => h_.1))) hb); replace BK282 := Aside0.mk (blk_below (g := gb282) (o := .cells #[.int .i64 a0_0, .int .i64 a0_1, .int .i64 a0_2, .int .i64 a0_3, .int .i64 a0_4, .slice A0_5 l0_5.length c0_5] 45 (0, 0)) (by (with_reducible repeat refine bl ?_); refine blk_far ?_ NB282_305.out _; (with_reducible repeat refine bl ?_); refine blk_far ?_ NB282_305.out _; (with_reducible repeat refine bl ?_); refine blk_far ?_ NB282_305.out _; (with_reducible repeat refine bl ?_); refine blk_far ?_ NB282_305.out _; (with_reducible repeat refine bl ?_); refine blk_far ?_ NB282_305.out _; (with_reducible repeat refine bl ?_); refine blk_far ?_ NB282_305.out _; (with_reducible repeat refine bl ?_); exact BK282.out) hb); replace BK292 := Aside0.mk (blk_below (g := gb292) (o := .cells #[.int .i64 t284, .int .i64 t285, .int .i64 t286, .int .i64 t287, .int .i64 t288, .slice Ao21 t289.length co21] 48 (0, 0)) (by (with_reducible repeat refine bl ?_); refine blk_far ?_ NB292_305.out _; (with_reducible repeat refine bl ?_); refine blk_far ?_ NB292_305.out _; (with_reducible repeat refine bl ?_); refine blk_far ?_ NB292_305.out _; (with_reducible repeat refine bl ?_); refine blk_far ?_ NB292_305.out _; (with_reducible repeat refine bl ?_); refine blk_far ?_ NB292_305.out _; (with_reducible repeat refine bl ?_); refine blk_far ?_ NB292_305.out _; (with_reducible repeat refine bl ?_); exact BK292.out) hb); replace BK305 := Aside0.mk (blk_below (g := gb305) (o := .cells #[.int .i64 t296, .int .i64 t297, .int .i64 t298, .int .i64 t299, .int .i64 t300, .slice Ao38 t301.length co38] 45 (0, 0)) (by (with_reducible repeat refine bl ?_); refine blk_put (cs := #[.int .i64 t296, .int .i64 t297, .int .i64 t298, .int .i64 t299, .int .i64 t300, .slice none 0 0]) ?_ 5 _ rfl; (with_reducible repeat refine bl ?_); refine blk_put (cs := #[.int .i64 t296, .int .i64 t297, .int .i64 t298, .int .i64 t299, .int .i64 0, .slice none 0 0]) ?_ 4 _ rfl; (with_reducible repeat refine bl ?_); refine blk_put (cs := #[.int .i64 t296, .int .i64 t297, .int .i64 t298, .int .i64 0, .int .i64 0, .slice none 0 0]) ?_ 3 _ rfl; (with_reducible repeat refine bl ?_); refine blk_put (cs := #[.int .i64 t296, .int .i64 t297, .int .i64 0, .int .i64 0, .int .i64 0, .slice none 0 0]) ?_ 2 _ rfl; (with_reducible repeat refine bl ?_); refine blk_put (cs := #[.int .i64 t296, .int .i64 0, .int .i64 0, .int .i64 0, .int .i64 0, .slice none 0 0]) ?_ 1 _ rfl; (with_reducible repeat refine bl ?_); refine blk_put (cs := #[.int .i64 0, .int .i64 0, .int .i64 0, .int .i64 0, .int .i64 0, .slice none 0 0]) ?_ 0 _ rfl; (with_reducible repeat refine bl ?_); exact BK305.out) hb); replace HB := bh HB hb; (try clear hb); (try clear hb2); (try clear hk); (try clear hi); have hcz42_0 : w41.cell? ⟨gb305, 0, none⟩ = some (.int .i64 t296) := (blk_cell BK305.out 0).trans rfl; have hcz42_1 : w41.cell? ⟨gb305, 1, none⟩ = some (.int .i64 t297) := (blk_cell BK305.out 1).trans rfl; have hcz42_2 : w41.cell? ⟨gb305, 2, none⟩ = some (.int .i64 t298) := (blk_cell BK305.out 2).trans rfl; have hcz42_3 : w41.cell? ⟨gb305, 3, none⟩ = some (.int .i64 t299) := (blk_cell BK305.out 3).trans rfl; have hcz42_4 : w41.cell? ⟨gb305, 4, none⟩ = some (.int .i64 t300) := (blk_cell BK305.out 4).trans rfl; have hcz42_5 : w41.cell? ⟨gb305, 5, none⟩ = some (.slice Ao38 t301.length co38) := (blk_cell BK305.out 5).trans rfl; have hfz42_0 := blk_frozen BK305.out 0; have hfz42_1 := blk_frozen BK305.out 1; have hfz42_2 := blk_frozen BK305.out 2; have hfz42_3 := blk_frozen BK305.out 3; have hfz42_4 := blk_frozen BK305.out 4; have hfz42_5 := blk_frozen BK305.out 5; have hcz43_0 : w41.cell? ⟨gb282, 0, none⟩ = some (.int .i64 a0_0) := (blk_cell BK282.out 0).trans rfl; have hcz43_1 : w41.cell? ⟨gb282, 1, none⟩ = some (.int .i64 a0_1) := (blk_cell BK282.out 1).trans rfl; have hcz43_2 : w41.cell? ⟨gb282, 2, none⟩ = some (.int .i64 a0_2) := (blk_cell BK282.out 2).trans rfl; have hcz43_3 : w41.cell? ⟨gb282, 3, none⟩ = some (.int .i64 a0_3) := (blk_cell BK282.out 3).trans rfl; have hcz43_4 : w41.cell? ⟨gb282, 4, none⟩ = some (.int .i64 a0_4) := (blk_cell BK282.out 4).trans rfl; have hcz43_5 : w41.cell? ⟨gb282, 5, none⟩ = some (.slice A0_5 l0_5.length c0_5) := (blk_cell BK282.out 5).trans rfl; have hfz43_0 := blk_frozen BK282.out 0; have hfz43_1 := blk_frozen BK282.out 1; have hfz43_2 := blk_frozen BK282.out 2; have hfz43_3 := blk_frozen BK282.out 3; have hfz43_4 := blk_frozen BK282.out 4; have hfz43_5 := blk_frozen BK282.out 5) | (go_at_call 24; (with_reducible refine (steeplelaw29_gates.calls kj2 t296 t297 t298 t299 t300 _ _ t301 a0_0 a0_1 a0_2 a0_3 a0_4 _ _ l0_5 true _ ?side1 ?side2 ?side3 ?side4 A31.out).mono ?_); (case side1 => repeat (first | exact (Kd.R_reads' HO303.out).2.2 | (with_reducible refine Kd.C_alloc ?_ _) | (with_reducible refine Kd.C_drewN ?_ _) | (with_reducible refine Kd.C_drew ?_))); (case side2 => exact (Kd.R_reads' HO303.out).2.1); (case side3 => repeat (first | exact (Kd.C_below HR0_5.out HB.out) | (with_reducible refine Kd.C_alloc ?_ _) | (with_reducible refine Kd.C_drewN ?_ _) | (with_reducible refine Kd.C_drew ?_))); (case side4 => exact HC0_5.out); rintro e w44 ⟨rfl, hb⟩; replace HO291 := kb HO291 hb; replace HO303 := kb HO303 hb; replace BK282 := bb BK282 hb; replace BK292 := bb BK292 hb; replace BK305 := bb BK305 hb; replace HB := bh HB hb; (try clear hb); (try clear hb2); (try clear hk); (try clear hi)))
          go_meet
          case rel => exact ⟨_, H', ⟨by have := HJ2.out; first | omega | exact Nat.le_refl _⟩, ⟨kr HO291.out⟩, ⟨bk BK282.out⟩, ⟨bk BK292.out⟩, ⟨bq HB.out⟩⟩
         ·replace c32 := Bool.eq_false_iff.mpr c32
          subst c32
          have H1 : (none) = some r := by rw [if_neg (show ¬ (false = true) by decide)] at H; exact H
          clear H
          have H := H1
          clear H1
          exact absurd H (by simp)
        ·rw [if_neg c30] at H
         exact absurd H (by simp)
       ·rw [if_neg c29] at H
        exact absurd H (by simp)
      ·rw [if_neg c26] at H
       have c26b0 : (t294 == 0) = false := beq_eq_false_iff_ne.mpr c26
       have c26b1 : (t294 != 0) = true := bne_iff_ne.mpr c26
       (first | rw [c26b0] | (simp only [i64_w, i32_w]; rw [c26b0]) | skip)
       by_cases c45 : t293.toList = ([] : List UInt8)
       ·rw [if_pos c45] at H
        have c45b0 : (t293.toList == ([] : List UInt8)) = true := beq_iff_eq.mpr c45
        have c45b1 : (t293.toList != ([] : List UInt8)) = false := bne_eq_false_iff_eq.mpr c45
        clear c45
        have H' := Aside0.mk H
        clear H
        go_wp2
        go_meet
        case rel => exact ⟨_, H', ⟨by have := HJ2.out; first | omega | exact Nat.le_refl _⟩, ⟨kr HO291.out⟩, ⟨bk BK282.out⟩, ⟨bk BK292.out⟩, ⟨bq HB.out⟩⟩
       ·rw [if_neg c45] at H
        exact absurd H (by simp)
     case rest =>
      clear HC15
      try clear c1
      try clear c2
      try clear p2
      try clear c3
      try clear c4
      try clear c5
      try clear c5b0
      try clear c5b1
      try clear c8
      try clear c9
      try clear c14
      try clear c14b0
      try clear c14b1
      try clear c19
      try clear c20
      try clear c21
      try clear c22
      try clear c23
      try clear c26
      try clear c26b0
      try clear c26b1
      try clear c29
      try clear c29b0
      try clear c29b1
      try clear c30
      try clear c30b0
      try clear c30b1
      try clear c32
      try clear c35
      try clear c36
      try clear c39
      try clear c45
      try clear c45b0
      try clear c45b1
      try clear hcz16_0
      try clear hcz16_1
      try clear hcz16_2
      try clear hcz16_3
      try clear hcz16_4
      try clear hcz16_5
      try clear hcz20_0
      try clear hcz20_1
      try clear hcz20_2
      try clear hcz20_3
      try clear hcz20_4
      try clear hcz20_5
      try clear hcz22_0
      try clear hcz22_1
      try clear hcz22_2
      try clear hcz22_3
      try clear hcz22_4
      try clear hcz22_5
      try clear hcz24_0
      try clear hcz24_1
      try clear hcz24_2
      try clear hcz24_3
      try clear hcz24_4
      try clear hcz24_5
      try clear hcz37_0
      try clear hcz37_1
      try clear hcz37_2
      try clear hcz37_3
      try clear hcz37_4
      try clear hcz37_5
      try clear hcz40_0
      try clear hcz40_1
      try clear hcz40_2
      try clear hcz40_3
      try clear hcz40_4
      try clear hcz40_5
      try clear hcz42_0
      try clear hcz42_1
      try clear hcz42_2
      try clear hcz42_3
      try clear hcz42_4
      try clear hcz42_5
      try clear hcz43_0
      try clear hcz43_1
      try clear hcz43_2
      try clear hcz43_3
      try clear hcz43_4
      try clear hcz43_5
      try clear hcz6_0
      try clear hcz6_1
      try clear hcz6_2
      try clear hcz6_3
      try clear hcz6_4
      try clear hcz6_5
      try clear hcz7_0
      try clear hcz7_1
      try clear hcz7_2
      try clear hcz7_3
      try clear hcz7_4
      try clear hcz7_5
      try clear hfz16_0
      try clear hfz16_1
      try clear hfz16_2
      try clear hfz16_3
      try clear hfz16_4
      try clear hfz16_5
      try clear hfz20_0
      try clear hfz20_1
      try clear hfz20_2
      try clear hfz20_3
      try clear hfz20_4
      try clear hfz20_5
      try clear hfz22_0
      try clear hfz22_1
      try clear hfz22_2
      try clear hfz22_3
      try clear hfz22_4
      try clear hfz22_5
      try clear hfz24_0
      try clear hfz24_1
      try clear hfz24_2
      try clear hfz24_3
      try clear hfz24_4
      try clear hfz24_5
      try clear hfz37_0
      try clear hfz37_1
      try clear hfz37_2
      try clear hfz37_3
      try clear hfz37_4
      try clear hfz37_5
      try clear hfz40_0
      try clear hfz40_1
      try clear hfz40_2
      try clear hfz40_3
      try clear hfz40_4
      try clear hfz40_5
      try clear hfz42_0
      try clear hfz42_1
      try clear hfz42_2
      try clear hfz42_3
      try clear hfz42_4
      try clear hfz42_5
      try clear hfz43_0
      try clear hfz43_1
      try clear hfz43_2
      try clear hfz43_3
      try clear hfz43_4
      try clear hfz43_5
      try clear hfz6_0
      try clear hfz6_1
      try clear hfz6_2
      try clear hfz6_3
      try clear hfz6_4
      try clear hfz6_5
      try clear hfz7_0
      try clear hfz7_1
      try clear hfz7_2
      try clear hfz7_3
      try clear hfz7_4
      try clear hfz7_5
      try clear p2
      obtain ⟨kq, HA, HJ14, HO_293005, BK282, BK292, HB⟩ := hcut
      cases kq with
      | zero => exact absurd HA.out (by simp [steeplelaw29_ProofSystems.j1])
      | succ kj14 =>
       have H := HA.out
       clear HA
       simp only [steeplelaw29_ProofSystems.j1] at H
       replace H := Option.bind_eq_some_iff.mp H
       obtain ⟨⟨t308, t309, t310, t311, t312, t313, t316⟩, A460, H⟩ := H
       replace H : (if t316 = 0 then ((steeplelaw25_Ref.f kj14 t308 t309 t310 t311 t312 t313).bind fun bt320 => ((steeplelaw29_awake.f kj14).bind fun t329 => (if t329 = true then ((steepleref25_Check.f kj14 bt320.1 bt320.2.1 bt320.2.2.1 bt320.2.2.2.1 bt320.2.2.2.2.1 bt320.2.2.2.2.2).bind fun t330 => (if t330 = 0 then ((steepleref29_System.f kj14 bt320.1 bt320.2.1 bt320.2.2.1 bt320.2.2.2.1 bt320.2.2.2.2.1 bt320.2.2.2.2.2).bind fun t331 => (some (t331.toList == a1.toList))) else (none))) else (none)))) else ((steeplelaw29_awake.f kj14).bind fun t318 => (if t318 = true then (if t316 = 3 then ((steeplelaw29_gates.f kj14 t308 t309 t310 t311 t312 t313 0 0 0 0 0 ([] : List (S107))).bind fun t319 => (some t319)) else (none)) else (none)))) = some r := H
       have A46 := Aside0.mk A460
       clear A460
       by_cases c47 : t316 = 0
       ·rw [if_pos c47] at H
        have c47b0 : (t316 == 0) = true := beq_iff_eq.mpr c47
        have c47b1 : (t316 != 0) = false := bne_eq_false_iff_eq.mpr c47
        clear c47
        replace H := Option.bind_eq_some_iff.mp H
        obtain ⟨⟨t320, t321, t322, t323, t324, t325⟩, A480, H⟩ := H
        replace H : ((steeplelaw29_awake.f kj14).bind fun t329 => (if t329 = true then ((steepleref25_Check.f kj14 t320 t321 t322 t323 t324 t325).bind fun t330 => (if t330 = 0 then ((steepleref29_System.f kj14 t320 t321 t322 t323 t324 t325).bind fun t331 => (some (t331.toList == a1.toList))) else (none))) else (none))) = some r := H
        have A48 := Aside0.mk A480
        clear A480
        replace H := Option.bind_eq_some_iff.mp H
        obtain ⟨t329, A490, H⟩ := H
        replace H : (if t329 = true then ((steepleref25_Check.f kj14 t320 t321 t322 t323 t324 t325).bind fun t330 => (if t330 = 0 then ((steepleref29_System.f kj14 t320 t321 t322 t323 t324 t325).bind fun t331 => (some (t331.toList == a1.toList))) else (none))) else (none)) = some r := H
        have A49 := Aside0.mk A490
        clear A490
        by_cases c50 : t329 = true
        ·subst c50
         have H1 : ((steepleref25_Check.f kj14 t320 t321 t322 t323 t324 t325).bind fun t330 => (if t330 = 0 then ((steepleref29_System.f kj14 t320 t321 t322 t323 t324 t325).bind fun t331 => (some (t331.toList == a1.toList))) else (none))) = some r := by rw [if_pos rfl] at H; exact H
         clear H
         have H := H1
         clear H1
         replace H := Option.bind_eq_some_iff.mp H
         obtain ⟨t330, A510, H⟩ := H
         replace H : (if t330 = 0 then ((steepleref29_System.f kj14 t320 t321 t322 t323 t324 t325).bind fun t331 => (some (t331.toList == a1.toList))) else (none)) = some r := H
         have A51 := Aside0.mk A510
         clear A510
         by_cases c52 : t330 = 0
         ·rw [if_pos c52] at H
          have c52b0 : (t330 == 0) = true := beq_iff_eq.mpr c52
          have c52b1 : (t330 != 0) = false := bne_eq_false_iff_eq.mpr c52
          clear c52
          replace H := Option.bind_eq_some_iff.mp H
          obtain ⟨t331, A530, H⟩ := H
          replace H : (some (t331.toList == a1.toList)) = some r := H
          have A53 := Aside0.mk A530
          clear A530
          obtain rfl := Option.some.inj H
          go_wp2_with (first | ((with_reducible refine gate_callee (f := 22) rfl ?_); refine goesL_ (some 59) rfl rfl Try.func22 (by kernel_rfl) rfl #[.string a1] rfl (by (try simp only [List.map_toArray, List.map_cons, List.map_nil]); first | done | rfl | (simp only [List.length_drop, List.length_take]; rfl)) ?_; (with_reducible refine (proof_ReadSystem.calls kj14 a1 t308 t309 t310 t311 t312 t313 t316 _ A46.out).mono ?_); rintro e w54 ⟨v314, rfl, ho0, hb⟩; refine ⟨_, rfl, ?_⟩; have HO315 := kw ho0 HB; replace HO_293005 := kb HO_293005 hb; replace BK282 := bb BK282 hb; replace BK292 := bb BK292 hb; replace HB := bh HB hb; (try clear hb); (try clear hb2); (try clear hk); (try clear hi); (try clear ho0)) | ((with_reducible refine gate_dst (N := 10) rfl ?_); (try (refine gate_guard (by rfl) ?_; dsimp only)); refine box_event ?hg (N := 10) ?hd (cs := #[.int .i64 0, .int .i64 0, .int .i64 0, .int .i64 0, .int .i64 0, .slice none 0 0]) (t := 45) ?hr ?_; (case hd => rfl); (case hg => rfl); (case hr => first | (go_simp; done) | (go_simp; rfl)); intro gb317 hg w55 hbox hb; have BK317 := Aside0.mk hbox; have GW317 := ge hg HB; have GE317 := ge hg HB; have NB282_317 := nl hg BK282; have NB317_282 := ng hg BK282; have NB292_317 := nl hg BK292; have NB317_292 := ng hg BK292; replace HO_293005 := kb HO_293005 hb; replace HO315 := kb HO315 hb; replace BK282 := bb BK282 hb; replace BK292 := bb BK292 hb; replace HB := bh HB hb; clear hb hbox hg; have hnb56 := NB317_282.out; have hnc56 := NB282_317.out; have hnb57 := NB317_292.out; have hnc57 := NB292_317.out; have hcz58_0 : w55.cell? ⟨gb317, 0, none⟩ = some (.int .i64 0) := (blk_cell BK317.out 0).trans rfl; have hcz58_1 : w55.cell? ⟨gb317, 1, none⟩ = some (.int .i64 0) := (blk_cell BK317.out 1).trans rfl; have hcz58_2 : w55.cell? ⟨gb317, 2, none⟩ = some (.int .i64 0) := (blk_cell BK317.out 2).trans rfl; have hcz58_3 : w55.cell? ⟨gb317, 3, none⟩ = some (.int .i64 0) := (blk_cell BK317.out 3).trans rfl; have hcz58_4 : w55.cell? ⟨gb317, 4, none⟩ = some (.int .i64 0) := (blk_cell BK317.out 4).trans rfl; have hcz58_5 : w55.cell? ⟨gb317, 5, none⟩ = some (.slice none 0 0) := (blk_cell BK317.out 5).trans rfl; have hfz58_0 := blk_frozen BK317.out 0; have hfz58_1 := blk_frozen BK317.out 1; have hfz58_2 := blk_frozen BK317.out 2; have hfz58_3 := blk_frozen BK317.out 3; have hfz58_4 := blk_frozen BK317.out 4; have hfz58_5 := blk_frozen BK317.out 5; obtain ⟨Ao59, co59, eo59⟩ := Kd.R_slice HO315.out; subst eo59) | ((with_reducible refine gate_callee (f := 19) rfl ?_); refine goesL_ (some 75) rfl rfl Try.func19 (by kernel_rfl) rfl #[.agg #[.int .i64 t308, .int .i64 t309, .int .i64 t310, .int .i64 t311, .int .i64 t312, .slice Ao59 t313.length co59]] rfl (by (try simp only [List.map_toArray, List.map_cons, List.map_nil]); first | done | rfl | (simp only [List.length_drop, List.length_take]; rfl)) ?_; (with_reducible refine (steeplelaw25_Ref.calls kj14 t308 t309 t310 t311 t312 _ _ t313 t320 t321 t322 t323 t324 t325 _ ?side1 ?side2 A48.out).mono ?_); (case side1 => refine (Kd.R_reads' (e := 107) (base := w.heap.size) (ok := fun k_ => True) (n := t313.length) (c := co59) ?_).2.2; exact (by (with_reducible repeat refine kl ?_); exact (Kd.R_mono (Kd.R_far (p := ⟨gb317, 5, none⟩) (Kd.R_far (p := ⟨gb317, 4, none⟩) (Kd.R_far (p := ⟨gb317, 3, none⟩) (Kd.R_far (p := ⟨gb317, 2, none⟩) (Kd.R_far (p := ⟨gb317, 1, none⟩) (Kd.R_far (p := ⟨gb317, 0, none⟩) (Kd.R_types HO315.out BK317.out (by decide)) (fun _ hk => hk.2) (.int .i64 t308)) (fun _ hk => hk.2) (.int .i64 t309)) (fun _ hk => hk.2) (.int .i64 t310)) (fun _ hk => hk.2) (.int .i64 t311)) (fun _ hk => hk.2) (.int .i64 t312)) (fun _ hk => hk.2) (.slice Ao59 t313.length co59)) (fun _ h_ => h_.1)))); (case side2 => exact (Kd.R_reads' HO315.out).2.1); rintro e w60 ⟨v326, rfl, ho0, hb⟩; refine ⟨_, rfl, ?_⟩; have HO327 := Aside0.mk (Kd.R_lower (Kd.R_new' ho0 (Kd.R_lt (by (with_reducible repeat refine kl ?_); exact (Kd.R_mono (Kd.R_far (p := ⟨gb317, 5, none⟩) (Kd.R_far (p := ⟨gb317, 4, none⟩) (Kd.R_far (p := ⟨gb317, 3, none⟩) (Kd.R_far (p := ⟨gb317, 2, none⟩) (Kd.R_far (p := ⟨gb317, 1, none⟩) (Kd.R_far (p := ⟨gb317, 0, none⟩) (Kd.R_types HO_293005.out BK317.out (by decide)) (fun _ hk => hk.2) (.int .i64 t308)) (fun _ hk => hk.2) (.int .i64 t309)) (fun _ hk => hk.2) (.int .i64 t310)) (fun _ hk => hk.2) (.int .i64 t311)) (fun _ hk => hk.2) (.int .i64 t312)) (fun _ hk => hk.2) (.slice Ao59 t313.length co59)) (fun _ h_ => h_.1))))) (below_size (bq HB.out))); replace HO_293005 := Aside0.mk (Kd.R_elder' (by (with_reducible repeat refine kl ?_); exact (Kd.R_mono (Kd.R_far (p := ⟨gb317, 5, none⟩) (Kd.R_far (p := ⟨gb317, 4, none⟩) (Kd.R_far (p := ⟨gb317, 3, none⟩) (Kd.R_far (p := ⟨gb317, 2, none⟩) (Kd.R_far (p := ⟨gb317, 1, none⟩) (Kd.R_far (p := ⟨gb317, 0, none⟩) (Kd.R_types HO_293005.out BK317.out (by decide)) (fun _ hk => hk.2) (.int .i64 t308)) (fun _ hk => hk.2) (.int .i64 t309)) (fun _ hk => hk.2) (.int .i64 t310)) (fun _ hk => hk.2) (.int .i64 t311)) (fun _ hk => hk.2) (.int .i64 t312)) (fun _ hk => hk.2) (.slice Ao59 t313.length co59)) (fun _ h_ => h_.1))) (Kd.R_base ho0) hb); replace HO315 := Aside0.mk (Kd.R_below (by (with_reducible repeat refine kl ?_); exact (Kd.R_mono (Kd.R_far (p := ⟨gb317, 5, none⟩) (Kd.R_far (p := ⟨gb317, 4, none⟩) (Kd.R_far (p := ⟨gb317, 3, none⟩) (Kd.R_far (p := ⟨gb317, 2, none⟩) (Kd.R_far (p := ⟨gb317, 1, none⟩) (Kd.R_far (p := ⟨gb317, 0, none⟩) (Kd.R_types HO315.out BK317.out (by decide)) (fun _ hk => hk.2) (.int .i64 t308)) (fun _ hk => hk.2) (.int .i64 t309)) (fun _ hk => hk.2) (.int .i64 t310)) (fun _ hk => hk.2) (.int .i64 t311)) (fun _ hk => hk.2) (.int .i64 t312)) (fun _ hk => hk.2) (.slice Ao59 t313.length co59)) (fun _ h_ => h_.1))) hb); replace BK282 := Aside0.mk (blk_below (g := gb282) (o := .cells #[.int .i64 a0_0, .int .i64 a0_1, .int .i64 a0_2, .int .i64 a0_3, .int .i64 a0_4, .slice A0_5 l0_5.length c0_5] 45 (0, 0)) (by (with_reducible repeat refine bl ?_); refine blk_far ?_ NB282_317.out _; (with_reducible repeat refine bl ?_); refine blk_far ?_ NB282_317.out _; (with_reducible repeat refine bl ?_); refine blk_far ?_ NB282_317.out _; (with_reducible repeat refine bl ?_); refine blk_far ?_ NB282_317.out _; (with_reducible repeat refine bl ?_); refine blk_far ?_ NB282_317.out _; (with_reducible repeat refine bl ?_); refine blk_far ?_ NB282_317.out _; (with_reducible repeat refine bl ?_); exact BK282.out) hb); replace BK292 := Aside0.mk (blk_below (g := gb292) (o := .cells #[.int .i64 t284, .int .i64 t285, .int .i64 t286, .int .i64 t287, .int .i64 t288, .slice Ao21 t289.length co21] 48 (0, 0)) (by (with_reducible repeat refine bl ?_); refine blk_far ?_ NB292_317.out _; (with_reducible repeat refine bl ?_); refine blk_far ?_ NB292_317.out _; (with_reducible repeat refine bl ?_); refine blk_far ?_ NB292_317.out _; (with_reducible repeat refine bl ?_); refine blk_far ?_ NB292_317.out _; (with_reducible repeat refine bl ?_); refine blk_far ?_ NB292_317.out _; (with_reducible repeat refine bl ?_); refine blk_far ?_ NB292_317.out _; (with_reducible repeat refine bl ?_); exact BK292.out) hb); replace BK317 := Aside0.mk (blk_below (g := gb317) (o := .cells #[.int .i64 t308, .int .i64 t309, .int .i64 t310, .int .i64 t311, .int .i64 t312, .slice Ao59 t313.length co59] 45 (0, 0)) (by (with_reducible repeat refine bl ?_); refine blk_put (cs := #[.int .i64 t308, .int .i64 t309, .int .i64 t310, .int .i64 t311, .int .i64 t312, .slice none 0 0]) ?_ 5 _ rfl; (with_reducible repeat refine bl ?_); refine blk_put (cs := #[.int .i64 t308, .int .i64 t309, .int .i64 t310, .int .i64 t311, .int .i64 0, .slice none 0 0]) ?_ 4 _ rfl; (with_reducible repeat refine bl ?_); refine blk_put (cs := #[.int .i64 t308, .int .i64 t309, .int .i64 t310, .int .i64 0, .int .i64 0, .slice none 0 0]) ?_ 3 _ rfl; (with_reducible repeat refine bl ?_); refine blk_put (cs := #[.int .i64 t308, .int .i64 t309, .int .i64 0, .int .i64 0, .int .i64 0, .slice none 0 0]) ?_ 2 _ rfl; (with_reducible repeat refine bl ?_); refine blk_put (cs := #[.int .i64 t308, .int .i64 0, .int .i64 0, .int .i64 0, .int .i64 0, .slice none 0 0]) ?_ 1 _ rfl; (with_reducible repeat refine bl ?_); refine blk_put (cs := #[.int .i64 0, .int .i64 0, .int .i64 0, .int .i64 0, .int .i64 0, .slice none 0 0]) ?_ 0 _ rfl; (with_reducible repeat refine bl ?_); exact BK317.out) hb); replace HB := bh HB hb; (try clear hb); (try clear hb2); (try clear hk); (try clear hi); (try clear ho0)) | ((with_reducible refine gate_dst (N := 12) rfl ?_); (try (refine gate_guard (by rfl) ?_; dsimp only)); refine box_event ?hg (N := 12) ?hd (cs := #[.int .i64 0, .int .i64 0, .int .i64 0, .int .i64 0, .int .i64 0, .slice none 0 0]) (t := 48) ?hr ?_; (case hd => rfl); (case hg => rfl); (case hr => first | (go_simp; done) | (go_simp; rfl)); intro gb328 hg w61 hbox hb; have BK328 := Aside0.mk hbox; have GW328 := ge hg HB; have GE328 := ge hg HB; have NB282_328 := nl hg BK282; have NB328_282 := ng hg BK282; have NB292_328 := nl hg BK292; have NB328_292 := ng hg BK292; have NB317_328 := nl hg BK317; have NB328_317 := ng hg BK317; replace HO_293005 := kb HO_293005 hb; replace HO315 := kb HO315 hb; replace HO327 := kb HO327 hb; replace BK282 := bb BK282 hb; replace BK292 := bb BK292 hb; replace BK317 := bb BK317 hb; replace HB := bh HB hb; clear hb hbox hg; have hnb62 := NB328_282.out; have hnc62 := NB282_328.out; have hnb63 := NB328_292.out; have hnc63 := NB292_328.out; have hnb64 := NB328_317.out; have hnc64 := NB317_328.out; have hcz65_0 : w61.cell? ⟨gb328, 0, none⟩ = some (.int .i64 0) := (blk_cell BK328.out 0).trans rfl; have hcz65_1 : w61.cell? ⟨gb328, 1, none⟩ = some (.int .i64 0) := (blk_cell BK328.out 1).trans rfl; have hcz65_2 : w61.cell? ⟨gb328, 2, none⟩ = some (.int .i64 0) := (blk_cell BK328.out 2).trans rfl; have hcz65_3 : w61.cell? ⟨gb328, 3, none⟩ = some (.int .i64 0) := (blk_cell BK328.out 3).trans rfl; have hcz65_4 : w61.cell? ⟨gb328, 4, none⟩ = some (.int .i64 0) := (blk_cell BK328.out 4).trans rfl; have hcz65_5 : w61.cell? ⟨gb328, 5, none⟩ = some (.slice none 0 0) := (blk_cell BK328.out 5).trans rfl; have hfz65_0 := blk_frozen BK328.out 0; have hfz65_1 := blk_frozen BK328.out 1; have hfz65_2 := blk_frozen BK328.out 2; have hfz65_3 := blk_frozen BK328.out 3; have hfz65_4 := blk_frozen BK328.out 4; have hfz65_5 := blk_frozen BK328.out 5; obtain ⟨Ao66, co66, eo66⟩ := Kd.R_slice HO327.out; subst eo66) | ((with_reducible refine gate_callee (f := 9) rfl ?_); refine goesL_ (some 76) rfl rfl Try.func9 (by kernel_rfl) rfl #[] rfl (by (try simp only [List.map_toArray, List.map_cons, List.map_nil]); first | done | rfl | (simp only [List.length_drop, List.length_take]; rfl)) ?_; (with_reducible refine (steeplelaw29_awake.calls kj14  true _ A49.out).mono ?_); rintro e w67 ⟨rfl, hb⟩; refine ⟨_, rfl, ?_⟩; replace HO_293005 := Aside0.mk (Kd.R_below (by (with_reducible repeat refine kl ?_); exact (Kd.R_mono (Kd.R_far (p := ⟨gb328, 5, none⟩) (Kd.R_far (p := ⟨gb328, 4, none⟩) (Kd.R_far (p := ⟨gb328, 3, none⟩) (Kd.R_far (p := ⟨gb328, 2, none⟩) (Kd.R_far (p := ⟨gb328, 1, none⟩) (Kd.R_far (p := ⟨gb328, 0, none⟩) (Kd.R_types HO_293005.out BK328.out (by decide)) (fun _ hk => hk.2) (.int .i64 t320)) (fun _ hk => hk.2) (.int .i64 t321)) (fun _ hk => hk.2) (.int .i64 t322)) (fun _ hk => hk.2) (.int .i64 t323)) (fun _ hk => hk.2) (.int .i64 t324)) (fun _ hk => hk.2) (.slice Ao66 t325.length co66)) (fun _ h_ => h_.1))) hb); replace HO315 := Aside0.mk (Kd.R_below (by (with_reducible repeat refine kl ?_); exact (Kd.R_mono (Kd.R_far (p := ⟨gb328, 5, none⟩) (Kd.R_far (p := ⟨gb328, 4, none⟩) (Kd.R_far (p := ⟨gb328, 3, none⟩) (Kd.R_far (p := ⟨gb328, 2, none⟩) (Kd.R_far (p := ⟨gb328, 1, none⟩) (Kd.R_far (p := ⟨gb328, 0, none⟩) (Kd.R_types HO315.out BK328.out (by decide)) (fun _ hk => hk.2) (.int .i64 t320)) (fun _ hk => hk.2) (.int .i64 t321)) (fun _ hk => hk.2) (.int .i64 t322)) (fun _ hk => hk.2) (.int .i64 t323)) (fun _ hk => hk.2) (.int .i64 t324)) (fun _ hk => hk.2) (.slice Ao66 t325.length co66)) (fun _ h_ => h_.1))) hb); replace HO327 := Aside0.mk (Kd.R_below (by (with_reducible repeat refine kl ?_); exact (Kd.R_mono (Kd.R_far (p := ⟨gb328, 5, none⟩) (Kd.R_far (p := ⟨gb328, 4, none⟩) (Kd.R_far (p := ⟨gb328, 3, none⟩) (Kd.R_far (p := ⟨gb328, 2, none⟩) (Kd.R_far (p := ⟨gb328, 1, none⟩) (Kd.R_far (p := ⟨gb328, 0, none⟩) (Kd.R_types HO327.out BK328.out (by decide)) (fun _ hk => hk.2) (.int .i64 t320)) (fun _ hk => hk.2) (.int .i64 t321)) (fun _ hk => hk.2) (.int .i64 t322)) (fun _ hk => hk.2) (.int .i64 t323)) (fun _ hk => hk.2) (.int .i64 t324)) (fun _ hk => hk.2) (.slice Ao66 t325.length co66)) (fun _ h_ => h_.1))) hb); replace BK282 := Aside0.mk (blk_below (g := gb282) (o := .cells #[.int .i64 a0_0, .int .i64 a0_1, .int .i64 a0_2, .int .i64 a0_3, .int .i64 a0_4, .slice A0_5 l0_5.length c0_5] 45 (0, 0)) (by (with_reducible repeat refine bl ?_); refine blk_far ?_ NB282_328.out _; (with_reducible repeat refine bl ?_); refine blk_far ?_ NB282_328.out _; (with_reducible repeat refine bl ?_); refine blk_far ?_ NB282_328.out _; (with_reducible repeat refine bl ?_); refine blk_far ?_ NB282_328.out _; (with_reducible repeat refine bl ?_); refine blk_far ?_ NB282_328.out _; (with_reducible repeat refine bl ?_); refine blk_far ?_ NB282_328.out _; (with_reducible repeat refine bl ?_); exact BK282.out) hb); replace BK292 := Aside0.mk (blk_below (g := gb292) (o := .cells #[.int .i64 t284, .int .i64 t285, .int .i64 t286, .int .i64 t287, .int .i64 t288, .slice Ao21 t289.length co21] 48 (0, 0)) (by (with_reducible repeat refine bl ?_); refine blk_far ?_ NB292_328.out _; (with_reducible repeat refine bl ?_); refine blk_far ?_ NB292_328.out _; (with_reducible repeat refine bl ?_); refine blk_far ?_ NB292_328.out _; (with_reducible repeat refine bl ?_); refine blk_far ?_ NB292_328.out _; (with_reducible repeat refine bl ?_); refine blk_far ?_ NB292_328.out _; (with_reducible repeat refine bl ?_); refine blk_far ?_ NB292_328.out _; (with_reducible repeat refine bl ?_); exact BK292.out) hb); replace BK317 := Aside0.mk (blk_below (g := gb317) (o := .cells #[.int .i64 t308, .int .i64 t309, .int .i64 t310, .int .i64 t311, .int .i64 t312, .slice Ao59 t313.length co59] 45 (0, 0)) (by (with_reducible repeat refine bl ?_); refine blk_far ?_ NB317_328.out _; (with_reducible repeat refine bl ?_); refine blk_far ?_ NB317_328.out _; (with_reducible repeat refine bl ?_); refine blk_far ?_ NB317_328.out _; (with_reducible repeat refine bl ?_); refine blk_far ?_ NB317_328.out _; (with_reducible repeat refine bl ?_); refine blk_far ?_ NB317_328.out _; (with_reducible repeat refine bl ?_); refine blk_far ?_ NB317_328.out _; (with_reducible repeat refine bl ?_); exact BK317.out) hb); replace BK328 := Aside0.mk (blk_below (g := gb328) (o := .cells #[.int .i64 t320, .int .i64 t321, .int .i64 t322, .int .i64 t323, .int .i64 t324, .slice Ao66 t325.length co66] 48 (0, 0)) (by (with_reducible repeat refine bl ?_); refine blk_put (cs := #[.int .i64 t320, .int .i64 t321, .int .i64 t322, .int .i64 t323, .int .i64 t324, .slice none 0 0]) ?_ 5 _ rfl; (with_reducible repeat refine bl ?_); refine blk_put (cs := #[.int .i64 t320, .int .i64 t321, .int .i64 t322, .int .i64 t323, .int .i64 0, .slice none 0 0]) ?_ 4 _ rfl; (with_reducible repeat refine bl ?_); refine blk_put (cs := #[.int .i64 t320, .int .i64 t321, .int .i64 t322, .int .i64 0, .int .i64 0, .slice none 0 0]) ?_ 3 _ rfl; (with_reducible repeat refine bl ?_); refine blk_put (cs := #[.int .i64 t320, .int .i64 t321, .int .i64 0, .int .i64 0, .int .i64 0, .slice none 0 0]) ?_ 2 _ rfl; (with_reducible repeat refine bl ?_); refine blk_put (cs := #[.int .i64 t320, .int .i64 0, .int .i64 0, .int .i64 0, .int .i64 0, .slice none 0 0]) ?_ 1 _ rfl; (with_reducible repeat refine bl ?_); refine blk_put (cs := #[.int .i64 0, .int .i64 0, .int .i64 0, .int .i64 0, .int .i64 0, .slice none 0 0]) ?_ 0 _ rfl; (with_reducible repeat refine bl ?_); exact BK328.out) hb); replace HB := bh HB hb; (try clear hb); (try clear hb2); (try clear hk); (try clear hi); have hcz68_0 : w67.cell? ⟨gb328, 0, none⟩ = some (.int .i64 t320) := (blk_cell BK328.out 0).trans rfl; have hcz68_1 : w67.cell? ⟨gb328, 1, none⟩ = some (.int .i64 t321) := (blk_cell BK328.out 1).trans rfl; have hcz68_2 : w67.cell? ⟨gb328, 2, none⟩ = some (.int .i64 t322) := (blk_cell BK328.out 2).trans rfl; have hcz68_3 : w67.cell? ⟨gb328, 3, none⟩ = some (.int .i64 t323) := (blk_cell BK328.out 3).trans rfl; have hcz68_4 : w67.cell? ⟨gb328, 4, none⟩ = some (.int .i64 t324) := (blk_cell BK328.out 4).trans rfl; have hcz68_5 : w67.cell? ⟨gb328, 5, none⟩ = some (.slice Ao66 t325.length co66) := (blk_cell BK328.out 5).trans rfl; have hfz68_0 := blk_frozen BK328.out 0; have hfz68_1 := blk_frozen BK328.out 1; have hfz68_2 := blk_frozen BK328.out 2; have hfz68_3 := blk_frozen BK328.out 3; have hfz68_4 := blk_frozen BK328.out 4; have hfz68_5 := blk_frozen BK328.out 5) | (go_at_call 21; (with_reducible refine (steepleref25_Check.calls kj14 t320 t321 t322 t323 t324 _ _ t325 t330 _ ?side1 ?side2 A51.out).mono ?_); (case side1 => repeat (first | exact (Kd.R_reads' HO327.out).2.2 | (with_reducible refine Kd.C_alloc ?_ _) | (with_reducible refine Kd.C_drewN ?_ _) | (with_reducible refine Kd.C_drew ?_))); (case side2 => exact (Kd.R_reads' HO327.out).2.1); rintro e w69 ⟨rfl, hb⟩; replace HO_293005 := kb HO_293005 hb; replace HO315 := kb HO315 hb; replace HO327 := kb HO327 hb; replace BK282 := bb BK282 hb; replace BK292 := bb BK292 hb; replace BK317 := bb BK317 hb; replace BK328 := bb BK328 hb; replace HB := bh HB hb; (try clear hb); (try clear hb2); (try clear hk); (try clear hi); have hcz70_0 : w69.cell? ⟨gb328, 0, none⟩ = some (.int .i64 t320) := (blk_cell BK328.out 0).trans rfl; have hcz70_1 : w69.cell? ⟨gb328, 1, none⟩ = some (.int .i64 t321) := (blk_cell BK328.out 1).trans rfl; have hcz70_2 : w69.cell? ⟨gb328, 2, none⟩ = some (.int .i64 t322) := (blk_cell BK328.out 2).trans rfl; have hcz70_3 : w69.cell? ⟨gb328, 3, none⟩ = some (.int .i64 t323) := (blk_cell BK328.out 3).trans rfl; have hcz70_4 : w69.cell? ⟨gb328, 4, none⟩ = some (.int .i64 t324) := (blk_cell BK328.out 4).trans rfl; have hcz70_5 : w69.cell? ⟨gb328, 5, none⟩ = some (.slice Ao66 t325.length co66) := (blk_cell BK328.out 5).trans rfl; have hfz70_0 := blk_frozen BK328.out 0; have hfz70_1 := blk_frozen BK328.out 1; have hfz70_2 := blk_frozen BK328.out 2; have hfz70_3 := blk_frozen BK328.out 3; have hfz70_4 := blk_frozen BK328.out 4; have hfz70_5 := blk_frozen BK328.out 5) | (go_at_call 23; (with_reducible refine (steepleref29_System.calls kj14 t320 t321 t322 t323 t324 _ _ t325 t331 _ ?side1 ?side2 A53.out).mono ?_); (case side1 => repeat (first | exact (Kd.R_reads' HO327.out).2.2 | (with_reducible refine Kd.C_alloc ?_ _) | (with_reducible refine Kd.C_drewN ?_ _) | (with_reducible refine Kd.C_drew ?_))); (case side2 => exact (Kd.R_reads' HO327.out).2.1); rintro e w71 ⟨rfl, hb⟩; replace HO_293005 := kb HO_293005 hb; replace HO315 := kb HO315 hb; replace HO327 := kb HO327 hb; replace BK282 := bb BK282 hb; replace BK292 := bb BK292 hb; replace BK317 := bb BK317 hb; replace BK328 := bb BK328 hb; replace HB := bh HB hb; (try clear hb); (try clear hb2); (try clear hk); (try clear hi)))
          go_ret
          exact ⟨by first | rfl | (simp [errW_none, errW_some] <;> rfl) | (simp [*, errW_none, errW_some] <;> rfl), bq HB.out⟩
         ·rw [if_neg c52] at H
          exact absurd H (by simp)
        ·replace c50 := Bool.eq_false_iff.mpr c50
         subst c50
         have H1 : (none) = some r := by rw [if_neg (show ¬ (false = true) by decide)] at H; exact H
         clear H
         have H := H1
         clear H1
         exact absurd H (by simp)
       ·rw [if_neg c47] at H
        have c47b0 : (t316 == 0) = false := beq_eq_false_iff_ne.mpr c47
        have c47b1 : (t316 != 0) = true := bne_iff_ne.mpr c47
        replace H := Option.bind_eq_some_iff.mp H
        obtain ⟨t318, A720, H⟩ := H
        replace H : (if t318 = true then (if t316 = 3 then ((steeplelaw29_gates.f kj14 t308 t309 t310 t311 t312 t313 0 0 0 0 0 ([] : List (S107))).bind fun t319 => (some t319)) else (none)) else (none)) = some r := H
        have A72 := Aside0.mk A720
        clear A720
        by_cases c73 : t318 = true
        ·subst c73
         have H1 : (if t316 = 3 then ((steeplelaw29_gates.f kj14 t308 t309 t310 t311 t312 t313 0 0 0 0 0 ([] : List (S107))).bind fun t319 => (some t319)) else (none)) = some r := by rw [if_pos rfl] at H; exact H
         clear H
         have H := H1
         clear H1
         by_cases c74 : t316 = 3
         ·rw [if_pos c74] at H
          have c74b0 : (t316 == 3) = true := beq_iff_eq.mpr c74
          have c74b1 : (t316 != 3) = false := bne_eq_false_iff_eq.mpr c74
          clear c74
          replace H := Option.bind_eq_some_iff.mp H
          obtain ⟨t319, A750, H⟩ := H
          replace H : (some t319) = some r := H
          have A75 := Aside0.mk A750
          clear A750
          obtain rfl := Option.some.inj H
          go_wp2_with (first | ((with_reducible refine gate_callee (f := 22) rfl ?_); refine goesL_ (some 59) rfl rfl Try.func22 (by kernel_rfl) rfl #[.string a1] rfl (by (try simp only [List.map_toArray, List.map_cons, List.map_nil]); first | done | rfl | (simp only [List.length_drop, List.length_take]; rfl)) ?_; (with_reducible refine (proof_ReadSystem.calls kj14 a1 t308 t309 t310 t311 t312 t313 t316 _ A46.out).mono ?_); rintro e w76 ⟨v314, rfl, ho0, hb⟩; refine ⟨_, rfl, ?_⟩; have HO315 := kw ho0 HB; replace HO_293005 := kb HO_293005 hb; replace BK282 := bb BK282 hb; replace BK292 := bb BK292 hb; replace HB := bh HB hb; (try clear hb); (try clear hb2); (try clear hk); (try clear hi); (try clear ho0)) | ((with_reducible refine gate_dst (N := 10) rfl ?_); (try (refine gate_guard (by rfl) ?_; dsimp only)); refine box_event ?hg (N := 10) ?hd (cs := #[.int .i64 0, .int .i64 0, .int .i64 0, .int .i64 0, .int .i64 0, .slice none 0 0]) (t := 45) ?hr ?_; (case hd => rfl); (case hg => rfl); (case hr => first | (go_simp; done) | (go_simp; rfl)); intro gb317 hg w77 hbox hb; have BK317 := Aside0.mk hbox; have GW317 := ge hg HB; have GE317 := ge hg HB; have NB282_317 := nl hg BK282; have NB317_282 := ng hg BK282; have NB292_317 := nl hg BK292; have NB317_292 := ng hg BK292; replace HO_293005 := kb HO_293005 hb; replace HO315 := kb HO315 hb; replace BK282 := bb BK282 hb; replace BK292 := bb BK292 hb; replace HB := bh HB hb; clear hb hbox hg; have hnb78 := NB317_282.out; have hnc78 := NB282_317.out; have hnb79 := NB317_292.out; have hnc79 := NB292_317.out; have hcz80_0 : w77.cell? ⟨gb317, 0, none⟩ = some (.int .i64 0) := (blk_cell BK317.out 0).trans rfl; have hcz80_1 : w77.cell? ⟨gb317, 1, none⟩ = some (.int .i64 0) := (blk_cell BK317.out 1).trans rfl; have hcz80_2 : w77.cell? ⟨gb317, 2, none⟩ = some (.int .i64 0) := (blk_cell BK317.out 2).trans rfl; have hcz80_3 : w77.cell? ⟨gb317, 3, none⟩ = some (.int .i64 0) := (blk_cell BK317.out 3).trans rfl; have hcz80_4 : w77.cell? ⟨gb317, 4, none⟩ = some (.int .i64 0) := (blk_cell BK317.out 4).trans rfl; have hcz80_5 : w77.cell? ⟨gb317, 5, none⟩ = some (.slice none 0 0) := (blk_cell BK317.out 5).trans rfl; have hfz80_0 := blk_frozen BK317.out 0; have hfz80_1 := blk_frozen BK317.out 1; have hfz80_2 := blk_frozen BK317.out 2; have hfz80_3 := blk_frozen BK317.out 3; have hfz80_4 := blk_frozen BK317.out 4; have hfz80_5 := blk_frozen BK317.out 5; obtain ⟨Ao81, co81, eo81⟩ := Kd.R_slice HO315.out; subst eo81) | ((with_reducible refine gate_callee (f := 9) rfl ?_); refine goesL_ (some 64) rfl rfl Try.func9 (by kernel_rfl) rfl #[] rfl (by (try simp only [List.map_toArray, List.map_cons, List.map_nil]); first | done | rfl | (simp only [List.length_drop, List.length_take]; rfl)) ?_; (with_reducible refine (steeplelaw29_awake.calls kj14  true _ A72.out).mono ?_); rintro e w82 ⟨rfl, hb⟩; refine ⟨_, rfl, ?_⟩; replace HO_293005 := Aside0.mk (Kd.R_below (by (with_reducible repeat refine kl ?_); exact (Kd.R_mono (Kd.R_far (p := ⟨gb317, 5, none⟩) (Kd.R_far (p := ⟨gb317, 4, none⟩) (Kd.R_far (p := ⟨gb317, 3, none⟩) (Kd.R_far (p := ⟨gb317, 2, none⟩) (Kd.R_far (p := ⟨gb317, 1, none⟩) (Kd.R_far (p := ⟨gb317, 0, none⟩) (Kd.R_types HO_293005.out BK317.out (by decide)) (fun _ hk => hk.2) (.int .i64 t308)) (fun _ hk => hk.2) (.int .i64 t309)) (fun _ hk => hk.2) (.int .i64 t310)) (fun _ hk => hk.2) (.int .i64 t311)) (fun _ hk => hk.2) (.int .i64 t312)) (fun _ hk => hk.2) (.slice Ao81 t313.length co81)) (fun _ h_ => h_.1))) hb); replace HO315 := Aside0.mk (Kd.R_below (by (with_reducible repeat refine kl ?_); exact (Kd.R_mono (Kd.R_far (p := ⟨gb317, 5, none⟩) (Kd.R_far (p := ⟨gb317, 4, none⟩) (Kd.R_far (p := ⟨gb317, 3, none⟩) (Kd.R_far (p := ⟨gb317, 2, none⟩) (Kd.R_far (p := ⟨gb317, 1, none⟩) (Kd.R_far (p := ⟨gb317, 0, none⟩) (Kd.R_types HO315.out BK317.out (by decide)) (fun _ hk => hk.2) (.int .i64 t308)) (fun _ hk => hk.2) (.int .i64 t309)) (fun _ hk => hk.2) (.int .i64 t310)) (fun _ hk => hk.2) (.int .i64 t311)) (fun _ hk => hk.2) (.int .i64 t312)) (fun _ hk => hk.2) (.slice Ao81 t313.length co81)) (fun _ h_ => h_.1))) hb); replace BK282 := Aside0.mk (blk_below (g := gb282) (o := .cells #[.int .i64 a0_0, .int .i64 a0_1, .int .i64 a0_2, .int .i64 a0_3, .int .i64 a0_4, .slice A0_5 l0_5.length c0_5] 45 (0, 0)) (by (with_reducible repeat refine bl ?_); refine blk_far ?_ NB282_317.out _; (with_reducible repeat refine bl ?_); refine blk_far ?_ NB282_317.out _; (with_reducible repeat refine bl ?_); refine blk_far ?_ NB282_317.out _; (with_reducible repeat refine bl ?_); refine blk_far ?_ NB282_317.out _; (with_reducible repeat refine bl ?_); refine blk_far ?_ NB282_317.out _; (with_reducible repeat refine bl ?_); refine blk_far ?_ NB282_317.out _; (with_reducible repeat refine bl ?_); exact BK282.out) hb); replace BK292 := Aside0.mk (blk_below (g := gb292) (o := .cells #[.int .i64 t284, .int .i64 t285, .int .i64 t286, .int .i64 t287, .int .i64 t288, .slice Ao21 t289.length co21] 48 (0, 0)) (by (with_reducible repeat refine bl ?_); refine blk_far ?_ NB292_317.out _; (with_reducible repeat refine bl ?_); refine blk_far ?_ NB292_317.out _; (with_reducible repeat refine bl ?_); refine blk_far ?_ NB292_317.out _; (with_reducible repeat refine bl ?_); refine blk_far ?_ NB292_317.out _; (with_reducible repeat refine bl ?_); refine blk_far ?_ NB292_317.out _; (with_reducible repeat refine bl ?_); refine blk_far ?_ NB292_317.out _; (with_reducible repeat refine bl ?_); exact BK292.out) hb); replace BK317 := Aside0.mk (blk_below (g := gb317) (o := .cells #[.int .i64 t308, .int .i64 t309, .int .i64 t310, .int .i64 t311, .int .i64 t312, .slice Ao81 t313.length co81] 45 (0, 0)) (by (with_reducible repeat refine bl ?_); refine blk_put (cs := #[.int .i64 t308, .int .i64 t309, .int .i64 t310, .int .i64 t311, .int .i64 t312, .slice none 0 0]) ?_ 5 _ rfl; (with_reducible repeat refine bl ?_); refine blk_put (cs := #[.int .i64 t308, .int .i64 t309, .int .i64 t310, .int .i64 t311, .int .i64 0, .slice none 0 0]) ?_ 4 _ rfl; (with_reducible repeat refine bl ?_); refine blk_put (cs := #[.int .i64 t308, .int .i64 t309, .int .i64 t310, .int .i64 0, .int .i64 0, .slice none 0 0]) ?_ 3 _ rfl; (with_reducible repeat refine bl ?_); refine blk_put (cs := #[.int .i64 t308, .int .i64 t309, .int .i64 0, .int .i64 0, .int .i64 0, .slice none 0 0]) ?_ 2 _ rfl; (with_reducible repeat refine bl ?_); refine blk_put (cs := #[.int .i64 t308, .int .i64 0, .int .i64 0, .int .i64 0, .int .i64 0, .slice none 0 0]) ?_ 1 _ rfl; (with_reducible repeat refine bl ?_); refine blk_put (cs := #[.int .i64 0, .int .i64 0, .int .i64 0, .int .i64 0, .int .i64 0, .slice none 0 0]) ?_ 0 _ rfl; (with_reducible repeat refine bl ?_); exact BK317.out) hb); replace HB := bh HB hb; (try clear hb); (try clear hb2); (try clear hk); (try clear hi); have hcz83_0 : w82.cell? ⟨gb317, 0, none⟩ = some (.int .i64 t308) := (blk_cell BK317.out 0).trans rfl; have hcz83_1 : w82.cell? ⟨gb317, 1, none⟩ = some (.int .i64 t309) := (blk_cell BK317.out 1).trans rfl; have hcz83_2 : w82.cell? ⟨gb317, 2, none⟩ = some (.int .i64 t310) := (blk_cell BK317.out 2).trans rfl; have hcz83_3 : w82.cell? ⟨gb317, 3, none⟩ = some (.int .i64 t311) := (blk_cell BK317.out 3).trans rfl; have hcz83_4 : w82.cell? ⟨gb317, 4, none⟩ = some (.int .i64 t312) := (blk_cell BK317.out 4).trans rfl; have hcz83_5 : w82.cell? ⟨gb317, 5, none⟩ = some (.slice Ao81 t313.length co81) := (blk_cell BK317.out 5).trans rfl; have hfz83_0 := blk_frozen BK317.out 0; have hfz83_1 := blk_frozen BK317.out 1; have hfz83_2 := blk_frozen BK317.out 2; have hfz83_3 := blk_frozen BK317.out 3; have hfz83_4 := blk_frozen BK317.out 4; have hfz83_5 := blk_frozen BK317.out 5) | (go_at_call 24; (refine (steeplelaw29_gates.calls kj14 t308 t309 t310 t311 t312 _ _ t313 0 0 0 0 0 _ _ ([] : List (S107)) t319 _ ?side1 ?side2 ?side3 ?side4 A75.out).mono ?_); (case side1 => repeat (first | exact (Kd.R_reads' HO315.out).2.2 | (with_reducible refine Kd.C_alloc ?_ _) | (with_reducible refine Kd.C_drewN ?_ _) | (with_reducible refine Kd.C_drew ?_))); (case side2 => exact (Kd.R_reads' HO315.out).2.1); (case side3 => exact Kd.C_nil _ _); (case side4 => exact Nat.le_refl _); rintro e w84 ⟨rfl, hb⟩; replace HO_293005 := kb HO_293005 hb; replace HO315 := kb HO315 hb; replace BK282 := bb BK282 hb; replace BK292 := bb BK292 hb; replace BK317 := bb BK317 hb; replace HB := bh HB hb; (try clear hb); (try clear hb2); (try clear hk); (try clear hi)))
          go_ret
          exact ⟨by first | rfl | (simp [errW_none, errW_some] <;> rfl) | (simp [*, errW_none, errW_some] <;> rfl), bq HB.out⟩
         ·rw [if_neg c74] at H
          exact absurd H (by simp)
        ·replace c73 := Bool.eq_false_iff.mpr c73
         subst c73
         have H1 : (none) = some r := by rw [if_neg (show ¬ (false = true) by decide)] at H; exact H
         clear H
         have H := H1
         clear H1
         exact absurd H (by simp)
    ·rw [if_neg c14] at H
     exact absurd H (by simp)

/-- THE ONE PURE STATEMENT of steeplelaw29_ProofSystems. -/
def steeplelaw29_ProofSystems.Pure : Prop := ∀ (x0 : S45) (x1 : ByteArray), ((Lit.int .i64 x0.f0).wf = true ∧ (Lit.int .i64 x0.f1).wf = true ∧ (Lit.int .i64 x0.f2).wf = true ∧ (Lit.int .i64 x0.f3).wf = true ∧ (Lit.int .i64 x0.f4).wf = true ∧ (x0.f5.length ≤ maxLen ∧ x0.f5.length * 40 ≤ 140737488351232 ∧ ∀ y0 ∈ x0.f5, ((Lit.int .i64 y0.f0).wf = true ∧ (Lit.int .i64 y0.f1).wf = true ∧ (Lit.int .i64 y0.f2).wf = true ∧ (Lit.int .i64 y0.f3).wf = true ∧ (Lit.int .i64 y0.f4).wf = true))) → x1.size ≤ 140737488351232 → ∃ k, steeplelaw29_ProofSystems.f k x0.f0 x0.f1 x0.f2 x0.f3 x0.f4 x0.f5 x1 = some true

end Go.Proofs.Ythgiifakcgjlaaa.P
