/- Written by a program of this session: functions that the law reaches, as Lean functions, and that the code comes to their answers. Conditions: those that each theorem names. -/
import Derived.Test.YthgiifakcgjlaaaPx0
import Derived.Test.YthgiifakcgjlaaaPx6
namespace Go.Proofs.Ythgiifakcgjlaaa.P
open Go.RowKit Go.Proofs.YthgiifakcgjlaaaX Go.Proofs.YthgiifakcgjlaaaW.PrintWords Go.Proofs.YthgiifakcgjlaaaW.PrintLast Go.Proofs.YthgiifakcgjlaaaW.PrintMore
attribute [local go_sem] max2_int min2_int max_two min_two max_three min_three max_four min_four   -- for this text's walks alone
set_option linter.unusedVariables false
set_option linter.unusedSimpArgs false

/-! ### circuit_look: function 95 -/
mutual
def circuit_look.j0 : Nat → Bool → Int → Int → Int → Int → Int → List (S107) → Option (Int × Int)
 | 0, _, _, _, _, _, _, _ => none
 | k + 1, x9, x173000, x173001, x173002, x173003, x173004, x173005 => if x9 = true then (some (0, 1)) else (if x173003 < 0 then (circuit_look.j1 k true x173000 x173001 x173002 x173003 x173004 x173005) else (if x173004 < 0 then (circuit_look.j1 k true x173000 x173001 x173002 x173003 x173004 x173005) else (if 0 ≤ x173002 then (if x173003 > (shl .i64 1 x173002) then (circuit_look.j1 k true x173000 x173001 x173002 x173003 x173004 x173005) else (circuit_look.j1 k (decide (x173004 > (wrap64 ((shl .i64 1 x173002) - x173003)))) x173000 x173001 x173002 x173003 x173004 x173005)) else (none))))
def circuit_look.j1 : Nat → Bool → Int → Int → Int → Int → Int → List (S107) → Option (Int × Int)
 | 0, _, _, _, _, _, _, _ => none
 | k + 1, x38, x173000, x173001, x173002, x173003, x173004, x173005 => if x38 = true then (some (0, 1)) else (if (x173005.length : Int) > 30 then (some (0, 2)) else (circuit_look.l0 k (wrap64 (x173003 + x173004)) x173005 (x173005.length : Int) 0 x173000 x173001 x173002 x173003 x173004 x173005))
def circuit_look.l0 : Nat → Int → List (S107) → Int → Int → Int → Int → Int → Int → Int → List (S107) → Option (Int × Int)
 | 0, _, _, _, _, _, _, _, _, _, _ => none
 | k + 1, x4, x77, x78, x79, x173000, x173001, x173002, x173003, x173004, x173005 => if x79 < x78 then (if 0 ≤ x79 then (if x79 < (x77.length : Int) then ((circuit_gate.f k x173000 x173001 x173002 x173003 x173004 x173005 ((rd_T107 x77 x79).f0) ((rd_T107 x77 x79).f1) ((rd_T107 x77 x79).f2) ((rd_T107 x77 x79).f3) ((rd_T107 x77 x79).f4) x4).bind fun bt175 => (if bt175.2 = 0 then (circuit_look.l0 k bt175.1 x77 x78 (wrap64 (x79 + 1)) x173000 x173001 x173002 x173003 x173004 x173005) else (some (0, bt175.2)))) else (none)) else (none)) else (some (x4, 0))
end
def circuit_look.f (k : Nat) (a0_0 : Int) (a0_1 : Int) (a0_2 : Int) (a0_3 : Int) (a0_4 : Int) (l0_5 : List (S107)) : Option (Int × Int) := if a0_0 < 0 then (circuit_look.j0 k true a0_0 a0_1 a0_2 a0_3 a0_4 l0_5) else (if a0_0 > 5 then (circuit_look.j0 k true a0_0 a0_1 a0_2 a0_3 a0_4 l0_5) else (if a0_1 < 0 then (circuit_look.j0 k true a0_0 a0_1 a0_2 a0_3 a0_4 l0_5) else (if a0_1 > 4 then (circuit_look.j0 k true a0_0 a0_1 a0_2 a0_3 a0_4 l0_5) else (if a0_2 < 0 then (circuit_look.j0 k true a0_0 a0_1 a0_2 a0_3 a0_4 l0_5) else (circuit_look.j0 k (decide (a0_2 > 6)) a0_0 a0_1 a0_2 a0_3 a0_4 l0_5)))))
theorem circuit_look.mono_l : ∀ k, (∀ y0 y1 y2 y3 y4 y5 y6, LeO (circuit_look.j0 k y0 y1 y2 y3 y4 y5 y6) (circuit_look.j0 (k + 1) y0 y1 y2 y3 y4 y5 y6)) ∧ (∀ y0 y1 y2 y3 y4 y5 y6, LeO (circuit_look.j1 k y0 y1 y2 y3 y4 y5 y6) (circuit_look.j1 (k + 1) y0 y1 y2 y3 y4 y5 y6)) ∧ (∀ y0 y1 y2 y3 y4 y5 y6 y7 y8 y9, LeO (circuit_look.l0 k y0 y1 y2 y3 y4 y5 y6 y7 y8 y9) (circuit_look.l0 (k + 1) y0 y1 y2 y3 y4 y5 y6 y7 y8 y9))
 | 0 => ⟨fun _ _ _ _ _ _ _ r h => by simp [circuit_look.j0] at h, fun _ _ _ _ _ _ _ r h => by simp [circuit_look.j1] at h, fun _ _ _ _ _ _ _ _ _ _ r h => by simp [circuit_look.l0] at h⟩
 | k + 1 => by
  obtain ⟨ih0, ih1, ih2⟩ := circuit_look.mono_l k
  refine ⟨?_, ?_, ?_⟩
  ·intro y0 y1 y2 y3 y4 y5 y6
   unfold circuit_look.j0
   repeat' first
   | (with_reducible exact ih0 _ _ _ _ _ _ _)
   | (with_reducible exact ih1 _ _ _ _ _ _ _)
   | (with_reducible exact ih2 _ _ _ _ _ _ _ _ _ _)
   | (with_reducible exact circuit_gate.mono _ _ _ _ _ _ _ _ _ _ _ _ _)
   | (with_reducible exact LeO.refl _)
   | (with_reducible exact LeO.none _)
   | (with_reducible refine LeO.ite ?_ ?_)
   | (with_reducible refine LeO.bind ?_ (fun _ => ?_))
   | exact ih0 _ _ _ _ _ _ _
   | exact ih1 _ _ _ _ _ _ _
   | exact ih2 _ _ _ _ _ _ _ _ _ _
   | exact circuit_gate.mono _ _ _ _ _ _ _ _ _ _ _ _ _
   | exact LeO.none _
   | refine LeO.ite ?_ ?_
   | refine LeO.bind ?_ (fun _ => ?_)
  ·intro y0 y1 y2 y3 y4 y5 y6
   unfold circuit_look.j1
   repeat' first
   | (with_reducible exact ih0 _ _ _ _ _ _ _)
   | (with_reducible exact ih1 _ _ _ _ _ _ _)
   | (with_reducible exact ih2 _ _ _ _ _ _ _ _ _ _)
   | (with_reducible exact circuit_gate.mono _ _ _ _ _ _ _ _ _ _ _ _ _)
   | (with_reducible exact LeO.refl _)
   | (with_reducible exact LeO.none _)
   | (with_reducible refine LeO.ite ?_ ?_)
   | (with_reducible refine LeO.bind ?_ (fun _ => ?_))
   | exact ih0 _ _ _ _ _ _ _
   | exact ih1 _ _ _ _ _ _ _
   | exact ih2 _ _ _ _ _ _ _ _ _ _
   | exact circuit_gate.mono _ _ _ _ _ _ _ _ _ _ _ _ _
   | exact LeO.none _
   | refine LeO.ite ?_ ?_
   | refine LeO.bind ?_ (fun _ => ?_)
  ·intro y0 y1 y2 y3 y4 y5 y6 y7 y8 y9
   unfold circuit_look.l0
   repeat' first
   | (with_reducible exact ih0 _ _ _ _ _ _ _)
   | (with_reducible exact ih1 _ _ _ _ _ _ _)
   | (with_reducible exact ih2 _ _ _ _ _ _ _ _ _ _)
   | (with_reducible exact circuit_gate.mono _ _ _ _ _ _ _ _ _ _ _ _ _)
   | (with_reducible exact LeO.refl _)
   | (with_reducible exact LeO.none _)
   | (with_reducible refine LeO.ite ?_ ?_)
   | (with_reducible refine LeO.bind ?_ (fun _ => ?_))
   | exact ih0 _ _ _ _ _ _ _
   | exact ih1 _ _ _ _ _ _ _
   | exact ih2 _ _ _ _ _ _ _ _ _ _
   | exact circuit_gate.mono _ _ _ _ _ _ _ _ _ _ _ _ _
   | exact LeO.none _
   | refine LeO.ite ?_ ?_
   | refine LeO.bind ?_ (fun _ => ?_)
theorem circuit_look.mono : ∀ a0 a1 a2 a3 a4 a5 k, LeO (circuit_look.f k a0 a1 a2 a3 a4 a5) (circuit_look.f (k + 1) a0 a1 a2 a3 a4 a5) := by
 intro a0 a1 a2 a3 a4 a5 k
 obtain ⟨ih0, ih1, ih2⟩ := circuit_look.mono_l k
 unfold circuit_look.f
 repeat' first
   | (with_reducible exact ih0 _ _ _ _ _ _ _)
   | (with_reducible exact ih1 _ _ _ _ _ _ _)
   | (with_reducible exact ih2 _ _ _ _ _ _ _ _ _ _)
   | (with_reducible exact circuit_gate.mono _ _ _ _ _ _ _ _ _ _ _ _ _)
   | (with_reducible exact LeO.refl _)
   | (with_reducible exact LeO.none _)
   | (with_reducible refine LeO.ite ?_ ?_)
   | (with_reducible refine LeO.bind ?_ (fun _ => ?_))
   | exact ih0 _ _ _ _ _ _ _
   | exact ih1 _ _ _ _ _ _ _
   | exact ih2 _ _ _ _ _ _ _ _ _ _
   | exact circuit_gate.mono _ _ _ _ _ _ _ _ _ _ _ _ _
   | exact LeO.none _
   | refine LeO.ite ?_ ?_
   | refine LeO.bind ?_ (fun _ => ?_)
set_option maxHeartbeats 8000000 in
set_option maxRecDepth 100000 in
theorem circuit_look.calls (k : Nat) (a0_0 : Int) (a0_1 : Int) (a0_2 : Int) (a0_3 : Int) (a0_4 : Int) (A0_5 : Option Addr) (c0_5 : Nat) (l0_5 : List (S107)) (r1 : Int) (r2 : Int) (w : World) (hr0_5 : Kd.C k107 w A0_5 l0_5.length l0_5) (hc0_5 : l0_5.length ≤ c0_5) (h : circuit_look.f k a0_0 a0_1 a0_2 a0_3 a0_4 l0_5 = some (r1, r2)) :
  Calls Try.prog 95 #[.agg #[.int .i64 a0_0, .int .i64 a0_1, .int .i64 a0_2, .int .i64 a0_3, .int .i64 a0_4, .slice A0_5 l0_5.length c0_5]] w fun e w' => e = .returned (.tuple #[.int .i64 r1, .int .i64 r2]) ∧ Below w.heap.size w w' := by
 have hu45 := Try.underlying45
 have hu107 := Try.underlying107
 have HR0_5 := Aside0.mk hr0_5
 have HC0_5 := Aside0.mk hc0_5
 clear hr0_5 hc0_5
 have HB := Aside0.mk (Below.refl w.heap.size w)
 have H : (if a0_0 < 0 then (circuit_look.j0 k true a0_0 a0_1 a0_2 a0_3 a0_4 l0_5) else (if a0_0 > 5 then (circuit_look.j0 k true a0_0 a0_1 a0_2 a0_3 a0_4 l0_5) else (if a0_1 < 0 then (circuit_look.j0 k true a0_0 a0_1 a0_2 a0_3 a0_4 l0_5) else (if a0_1 > 4 then (circuit_look.j0 k true a0_0 a0_1 a0_2 a0_3 a0_4 l0_5) else (if a0_2 < 0 then (circuit_look.j0 k true a0_0 a0_1 a0_2 a0_3 a0_4 l0_5) else (circuit_look.j0 k (decide (a0_2 > 6)) a0_0 a0_1 a0_2 a0_3 a0_4 l0_5)))))) = some (r1, r2) := h
 clear h
 have HC2 := Aside0.mk H
 clear H
 go_enter Try.func95, Try.ntmps95
 go_upto_region 1 with (first | ((with_reducible refine gate_dst (N := 1) rfl ?_); refine box_event ?hg (N := 1) ?hd (cs := #[.int .i64 a0_0, .int .i64 a0_1, .int .i64 a0_2, .int .i64 a0_3, .int .i64 a0_4, .slice A0_5 l0_5.length c0_5]) (t := 45) ?hr ?_; (case hd => rfl); (case hg => rfl); (case hr => first | (go_simp; done) | (go_simp; rfl)); intro gb172 hg w3 hbox hb; have BK172 := Aside0.mk hbox; have GW172 := ge hg HB; have GE172 := ge hg HB; replace HB := bh HB hb; clear hb hbox hg))
 repeat (go_quiet (first | ((with_reducible refine gate_dst (N := 1) rfl ?_); refine box_event ?hg (N := 1) ?hd (cs := #[.int .i64 a0_0, .int .i64 a0_1, .int .i64 a0_2, .int .i64 a0_3, .int .i64 a0_4, .slice A0_5 l0_5.length c0_5]) (t := 45) ?hr ?_; (case hd => rfl); (case hg => rfl); (case hr => first | (go_simp; done) | (go_simp; rfl)); intro gb172 hg w3 hbox hb; have BK172 := Aside0.mk hbox; have GW172 := ge hg HB; have GE172 := ge hg HB; replace HB := bh HB hb; clear hb hbox hg)); go_upto_region 1 with (first | ((with_reducible refine gate_dst (N := 1) rfl ?_); refine box_event ?hg (N := 1) ?hd (cs := #[.int .i64 a0_0, .int .i64 a0_1, .int .i64 a0_2, .int .i64 a0_3, .int .i64 a0_4, .slice A0_5 l0_5.length c0_5]) (t := 45) ?hr ?_; (case hd => rfl); (case hg => rfl); (case hr => first | (go_simp; done) | (go_simp; rfl)); intro gb172 hg w3 hbox hb; have BK172 := Aside0.mk hbox; have GW172 := ge hg HB; have GE172 := ge hg HB; replace HB := bh HB hb; clear hb hbox hg)))
 (try simp only [Act.put, List.setIfInBounds_toArray, List.set_cons_zero, List.set_cons_succ])
 go_cut [9] (fun v9 wc => ∃ (kq : Nat) (x9_1 : Bool), v9 = .bool x9_1 ∧ Aside0 (circuit_look.j0 kq x9_1 a0_0 a0_1 a0_2 a0_3 a0_4 l0_5 = some (r1, r2)) ∧ Aside0 (kq ≤ k) ∧ Aside0 (wc.heap[gb172]? = some (.cells #[.int .i64 a0_0, .int .i64 a0_1, .int .i64 a0_2, .int .i64 a0_3, .int .i64 a0_4, (.slice A0_5 l0_5.length c0_5)] 45 (0, 0))) ∧ Aside0 (Below w.heap.size w wc))
 case first =>
  have H := HC2.out
  clear HC2
  by_cases c4 : a0_0 < 0
  ·rw [if_pos c4] at H
   have c4b0 : decide (a0_0 < 0) = true := decide_eq_true c4
   clear c4
   (first | rw [c4b0] | (simp only [i64_w, i32_w]; rw [c4b0]) | skip)
   have H' := Aside0.mk H
   clear H
   have hcz5_0 : w3.cell? ⟨gb172, 0, none⟩ = some (.int .i64 a0_0) := (blk_cell BK172.out 0).trans rfl
   have hcz5_1 : w3.cell? ⟨gb172, 1, none⟩ = some (.int .i64 a0_1) := (blk_cell BK172.out 1).trans rfl
   have hcz5_2 : w3.cell? ⟨gb172, 2, none⟩ = some (.int .i64 a0_2) := (blk_cell BK172.out 2).trans rfl
   have hcz5_3 : w3.cell? ⟨gb172, 3, none⟩ = some (.int .i64 a0_3) := (blk_cell BK172.out 3).trans rfl
   have hcz5_4 : w3.cell? ⟨gb172, 4, none⟩ = some (.int .i64 a0_4) := (blk_cell BK172.out 4).trans rfl
   have hcz5_5 : w3.cell? ⟨gb172, 5, none⟩ = some (.slice A0_5 l0_5.length c0_5) := (blk_cell BK172.out 5).trans rfl
   have hfz5_0 := blk_frozen BK172.out 0
   have hfz5_1 := blk_frozen BK172.out 1
   have hfz5_2 := blk_frozen BK172.out 2
   have hfz5_3 := blk_frozen BK172.out 3
   have hfz5_4 := blk_frozen BK172.out 4
   have hfz5_5 := blk_frozen BK172.out 5
   go_wp2
   repeat (go_quiet (fail); try go_wp2)
   go_meet
   case rel => exact ⟨_, (true), (by first | rfl | (simp; done) | (simp [*]; done)), H', ⟨by first | omega | exact Nat.le_refl _⟩, ⟨bk BK172.out⟩, ⟨bq HB.out⟩⟩
  ·rw [if_neg c4] at H
   have c4b0 : decide (a0_0 < 0) = false := decide_eq_false c4
   clear c4
   (first | rw [c4b0] | (simp only [i64_w, i32_w]; rw [c4b0]) | skip)
   by_cases c6 : a0_0 > 5
   ·rw [if_pos c6] at H
    have c6b0 : decide (5 < a0_0) = true := decide_eq_true c6
    clear c6
    have H' := Aside0.mk H
    clear H
    have hcz7_0 : w3.cell? ⟨gb172, 0, none⟩ = some (.int .i64 a0_0) := (blk_cell BK172.out 0).trans rfl
    have hcz7_1 : w3.cell? ⟨gb172, 1, none⟩ = some (.int .i64 a0_1) := (blk_cell BK172.out 1).trans rfl
    have hcz7_2 : w3.cell? ⟨gb172, 2, none⟩ = some (.int .i64 a0_2) := (blk_cell BK172.out 2).trans rfl
    have hcz7_3 : w3.cell? ⟨gb172, 3, none⟩ = some (.int .i64 a0_3) := (blk_cell BK172.out 3).trans rfl
    have hcz7_4 : w3.cell? ⟨gb172, 4, none⟩ = some (.int .i64 a0_4) := (blk_cell BK172.out 4).trans rfl
    have hcz7_5 : w3.cell? ⟨gb172, 5, none⟩ = some (.slice A0_5 l0_5.length c0_5) := (blk_cell BK172.out 5).trans rfl
    have hfz7_0 := blk_frozen BK172.out 0
    have hfz7_1 := blk_frozen BK172.out 1
    have hfz7_2 := blk_frozen BK172.out 2
    have hfz7_3 := blk_frozen BK172.out 3
    have hfz7_4 := blk_frozen BK172.out 4
    have hfz7_5 := blk_frozen BK172.out 5
    go_wp2
    repeat (go_quiet (fail); try go_wp2)
    go_meet
    case rel => exact ⟨_, (true), (by first | rfl | (simp; done) | (simp [*]; done)), H', ⟨by first | omega | exact Nat.le_refl _⟩, ⟨bk BK172.out⟩, ⟨bq HB.out⟩⟩
   ·rw [if_neg c6] at H
    have c6b0 : decide (5 < a0_0) = false := decide_eq_false c6
    clear c6
    by_cases c8 : a0_1 < 0
    ·rw [if_pos c8] at H
     have c8b0 : decide (a0_1 < 0) = true := decide_eq_true c8
     clear c8
     have H' := Aside0.mk H
     clear H
     have hcz9_0 : w3.cell? ⟨gb172, 0, none⟩ = some (.int .i64 a0_0) := (blk_cell BK172.out 0).trans rfl
     have hcz9_1 : w3.cell? ⟨gb172, 1, none⟩ = some (.int .i64 a0_1) := (blk_cell BK172.out 1).trans rfl
     have hcz9_2 : w3.cell? ⟨gb172, 2, none⟩ = some (.int .i64 a0_2) := (blk_cell BK172.out 2).trans rfl
     have hcz9_3 : w3.cell? ⟨gb172, 3, none⟩ = some (.int .i64 a0_3) := (blk_cell BK172.out 3).trans rfl
     have hcz9_4 : w3.cell? ⟨gb172, 4, none⟩ = some (.int .i64 a0_4) := (blk_cell BK172.out 4).trans rfl
     have hcz9_5 : w3.cell? ⟨gb172, 5, none⟩ = some (.slice A0_5 l0_5.length c0_5) := (blk_cell BK172.out 5).trans rfl
     have hfz9_0 := blk_frozen BK172.out 0
     have hfz9_1 := blk_frozen BK172.out 1
     have hfz9_2 := blk_frozen BK172.out 2
     have hfz9_3 := blk_frozen BK172.out 3
     have hfz9_4 := blk_frozen BK172.out 4
     have hfz9_5 := blk_frozen BK172.out 5
     go_wp2
     repeat (go_quiet (fail); try go_wp2)
     go_meet
     case rel => exact ⟨_, (true), (by first | rfl | (simp; done) | (simp [*]; done)), H', ⟨by first | omega | exact Nat.le_refl _⟩, ⟨bk BK172.out⟩, ⟨bq HB.out⟩⟩
    ·rw [if_neg c8] at H
     have c8b0 : decide (a0_1 < 0) = false := decide_eq_false c8
     clear c8
     by_cases c10 : a0_1 > 4
     ·rw [if_pos c10] at H
      have c10b0 : decide (4 < a0_1) = true := decide_eq_true c10
      clear c10
      have H' := Aside0.mk H
      clear H
      have hcz11_0 : w3.cell? ⟨gb172, 0, none⟩ = some (.int .i64 a0_0) := (blk_cell BK172.out 0).trans rfl
      have hcz11_1 : w3.cell? ⟨gb172, 1, none⟩ = some (.int .i64 a0_1) := (blk_cell BK172.out 1).trans rfl
      have hcz11_2 : w3.cell? ⟨gb172, 2, none⟩ = some (.int .i64 a0_2) := (blk_cell BK172.out 2).trans rfl
      have hcz11_3 : w3.cell? ⟨gb172, 3, none⟩ = some (.int .i64 a0_3) := (blk_cell BK172.out 3).trans rfl
      have hcz11_4 : w3.cell? ⟨gb172, 4, none⟩ = some (.int .i64 a0_4) := (blk_cell BK172.out 4).trans rfl
      have hcz11_5 : w3.cell? ⟨gb172, 5, none⟩ = some (.slice A0_5 l0_5.length c0_5) := (blk_cell BK172.out 5).trans rfl
      have hfz11_0 := blk_frozen BK172.out 0
      have hfz11_1 := blk_frozen BK172.out 1
      have hfz11_2 := blk_frozen BK172.out 2
      have hfz11_3 := blk_frozen BK172.out 3
      have hfz11_4 := blk_frozen BK172.out 4
      have hfz11_5 := blk_frozen BK172.out 5
      go_wp2
      repeat (go_quiet (fail); try go_wp2)
      go_meet
      case rel => exact ⟨_, (true), (by first | rfl | (simp; done) | (simp [*]; done)), H', ⟨by first | omega | exact Nat.le_refl _⟩, ⟨bk BK172.out⟩, ⟨bq HB.out⟩⟩
     ·rw [if_neg c10] at H
      have c10b0 : decide (4 < a0_1) = false := decide_eq_false c10
      clear c10
      by_cases c12 : a0_2 < 0
      ·rw [if_pos c12] at H
       have c12b0 : decide (a0_2 < 0) = true := decide_eq_true c12
       clear c12
       have H' := Aside0.mk H
       clear H
       have hcz13_0 : w3.cell? ⟨gb172, 0, none⟩ = some (.int .i64 a0_0) := (blk_cell BK172.out 0).trans rfl
       have hcz13_1 : w3.cell? ⟨gb172, 1, none⟩ = some (.int .i64 a0_1) := (blk_cell BK172.out 1).trans rfl
       have hcz13_2 : w3.cell? ⟨gb172, 2, none⟩ = some (.int .i64 a0_2) := (blk_cell BK172.out 2).trans rfl
       have hcz13_3 : w3.cell? ⟨gb172, 3, none⟩ = some (.int .i64 a0_3) := (blk_cell BK172.out 3).trans rfl
       have hcz13_4 : w3.cell? ⟨gb172, 4, none⟩ = some (.int .i64 a0_4) := (blk_cell BK172.out 4).trans rfl
       have hcz13_5 : w3.cell? ⟨gb172, 5, none⟩ = some (.slice A0_5 l0_5.length c0_5) := (blk_cell BK172.out 5).trans rfl
       have hfz13_0 := blk_frozen BK172.out 0
       have hfz13_1 := blk_frozen BK172.out 1
       have hfz13_2 := blk_frozen BK172.out 2
       have hfz13_3 := blk_frozen BK172.out 3
       have hfz13_4 := blk_frozen BK172.out 4
       have hfz13_5 := blk_frozen BK172.out 5
       go_wp2
       repeat (go_quiet (fail); try go_wp2)
       go_meet
       case rel => exact ⟨_, (true), (by first | rfl | (simp; done) | (simp [*]; done)), H', ⟨by first | omega | exact Nat.le_refl _⟩, ⟨bk BK172.out⟩, ⟨bq HB.out⟩⟩
      ·rw [if_neg c12] at H
       have c12b0 : decide (a0_2 < 0) = false := decide_eq_false c12
       clear c12
       have H' := Aside0.mk H
       clear H
       have hcz14_0 : w3.cell? ⟨gb172, 0, none⟩ = some (.int .i64 a0_0) := (blk_cell BK172.out 0).trans rfl
       have hcz14_1 : w3.cell? ⟨gb172, 1, none⟩ = some (.int .i64 a0_1) := (blk_cell BK172.out 1).trans rfl
       have hcz14_2 : w3.cell? ⟨gb172, 2, none⟩ = some (.int .i64 a0_2) := (blk_cell BK172.out 2).trans rfl
       have hcz14_3 : w3.cell? ⟨gb172, 3, none⟩ = some (.int .i64 a0_3) := (blk_cell BK172.out 3).trans rfl
       have hcz14_4 : w3.cell? ⟨gb172, 4, none⟩ = some (.int .i64 a0_4) := (blk_cell BK172.out 4).trans rfl
       have hcz14_5 : w3.cell? ⟨gb172, 5, none⟩ = some (.slice A0_5 l0_5.length c0_5) := (blk_cell BK172.out 5).trans rfl
       have hfz14_0 := blk_frozen BK172.out 0
       have hfz14_1 := blk_frozen BK172.out 1
       have hfz14_2 := blk_frozen BK172.out 2
       have hfz14_3 := blk_frozen BK172.out 3
       have hfz14_4 := blk_frozen BK172.out 4
       have hfz14_5 := blk_frozen BK172.out 5
       go_wp2
       repeat (go_quiet (fail); try go_wp2)
       go_meet
       case rel => exact ⟨_, (decide (a0_2 > 6)), (by first | rfl | (simp; done) | (simp [*]; done)), H', ⟨by first | omega | exact Nat.le_refl _⟩, ⟨bk BK172.out⟩, ⟨bq HB.out⟩⟩
 case rest =>
  clear HC2
  try clear c1
  try clear p2
  try clear c4
  try clear c4b0
  try clear c6
  try clear c6b0
  try clear c8
  try clear c8b0
  try clear c9
  try clear c10
  try clear c10b0
  try clear c12
  try clear c12b0
  try clear hcz11_0
  try clear hcz11_1
  try clear hcz11_2
  try clear hcz11_3
  try clear hcz11_4
  try clear hcz11_5
  try clear hcz13_0
  try clear hcz13_1
  try clear hcz13_2
  try clear hcz13_3
  try clear hcz13_4
  try clear hcz13_5
  try clear hcz14_0
  try clear hcz14_1
  try clear hcz14_2
  try clear hcz14_3
  try clear hcz14_4
  try clear hcz14_5
  try clear hcz5_0
  try clear hcz5_1
  try clear hcz5_2
  try clear hcz5_3
  try clear hcz5_4
  try clear hcz5_5
  try clear hcz7_0
  try clear hcz7_1
  try clear hcz7_2
  try clear hcz7_3
  try clear hcz7_4
  try clear hcz7_5
  try clear hcz9_0
  try clear hcz9_1
  try clear hcz9_2
  try clear hcz9_3
  try clear hcz9_4
  try clear hcz9_5
  try clear hfz11_0
  try clear hfz11_1
  try clear hfz11_2
  try clear hfz11_3
  try clear hfz11_4
  try clear hfz11_5
  try clear hfz13_0
  try clear hfz13_1
  try clear hfz13_2
  try clear hfz13_3
  try clear hfz13_4
  try clear hfz13_5
  try clear hfz14_0
  try clear hfz14_1
  try clear hfz14_2
  try clear hfz14_3
  try clear hfz14_4
  try clear hfz14_5
  try clear hfz5_0
  try clear hfz5_1
  try clear hfz5_2
  try clear hfz5_3
  try clear hfz5_4
  try clear hfz5_5
  try clear hfz7_0
  try clear hfz7_1
  try clear hfz7_2
  try clear hfz7_3
  try clear hfz7_4
  try clear hfz7_5
  try clear hfz9_0
  try clear hfz9_1
  try clear hfz9_2
  try clear hfz9_3
  try clear hfz9_4
  try clear hfz9_5
  obtain ⟨kq, x9_1, rfl, HA, HJ1, BK172, HB⟩ := hcut
  cases kq with
  | zero => exact absurd HA.out (by simp [circuit_look.j0])
  | succ kj1 =>
   have H := HA.out
   clear HA
   simp only [circuit_look.j0] at H
   by_cases c15 : x9_1 = true
   ·subst c15
    have H1 : (some (0, 1)) = some (r1, r2) := by rw [if_pos rfl] at H; exact H
    clear H
    have H := H1
    clear H1
    simp only [Option.some.injEq, Prod.mk.injEq] at H
    obtain ⟨rfl, rfl⟩ := H
    go_wp2
    repeat (go_quiet (fail); try go_wp2)
    go_ret2
    exact ⟨by first | rfl | (simp [errW_none, errW_some] <;> rfl) | (simp [*, errW_none, errW_some] <;> rfl), bq HB.out⟩
   ·replace c15 := Bool.eq_false_iff.mpr c15
    subst c15
    have H1 : (if a0_3 < 0 then (circuit_look.j1 kj1 true a0_0 a0_1 a0_2 a0_3 a0_4 l0_5) else (if a0_4 < 0 then (circuit_look.j1 kj1 true a0_0 a0_1 a0_2 a0_3 a0_4 l0_5) else (if 0 ≤ a0_2 then (if a0_3 > (shl .i64 1 a0_2) then (circuit_look.j1 kj1 true a0_0 a0_1 a0_2 a0_3 a0_4 l0_5) else (circuit_look.j1 kj1 (decide (a0_4 > (wrap64 ((shl .i64 1 a0_2) - a0_3)))) a0_0 a0_1 a0_2 a0_3 a0_4 l0_5)) else (none)))) = some (r1, r2) := by rw [if_neg (show ¬ (false = true) by decide)] at H; exact H
    clear H
    have H := H1
    clear H1
    have HC16 := Aside0.mk H
    clear H
    go_upto_region 3 with (fail)
    repeat (go_quiet (fail); go_upto_region 3 with (fail))
    go_cut [38] (fun v38 wc => ∃ (kq : Nat) (x38_15 : Bool), v38 = .bool x38_15 ∧ Aside0 (circuit_look.j1 kq x38_15 a0_0 a0_1 a0_2 a0_3 a0_4 l0_5 = some (r1, r2)) ∧ Aside0 (kq ≤ kj1) ∧ Aside0 (wc.heap[gb172]? = some (.cells #[.int .i64 a0_0, .int .i64 a0_1, .int .i64 a0_2, .int .i64 a0_3, .int .i64 a0_4, (.slice A0_5 l0_5.length c0_5)] 45 (0, 0))) ∧ Aside0 (Below w.heap.size w wc))
    case first =>
     have H := HC16.out
     clear HC16
     by_cases c17 : a0_3 < 0
     ·rw [if_pos c17] at H
      have c17b0 : decide (a0_3 < 0) = true := decide_eq_true c17
      clear c17
      (first | rw [c17b0] | (simp only [i64_w, i32_w]; rw [c17b0]) | skip)
      have H' := Aside0.mk H
      clear H
      have hcz18_0 : wc.cell? ⟨gb172, 0, none⟩ = some (.int .i64 a0_0) := (blk_cell BK172.out 0).trans rfl
      have hcz18_1 : wc.cell? ⟨gb172, 1, none⟩ = some (.int .i64 a0_1) := (blk_cell BK172.out 1).trans rfl
      have hcz18_2 : wc.cell? ⟨gb172, 2, none⟩ = some (.int .i64 a0_2) := (blk_cell BK172.out 2).trans rfl
      have hcz18_3 : wc.cell? ⟨gb172, 3, none⟩ = some (.int .i64 a0_3) := (blk_cell BK172.out 3).trans rfl
      have hcz18_4 : wc.cell? ⟨gb172, 4, none⟩ = some (.int .i64 a0_4) := (blk_cell BK172.out 4).trans rfl
      have hcz18_5 : wc.cell? ⟨gb172, 5, none⟩ = some (.slice A0_5 l0_5.length c0_5) := (blk_cell BK172.out 5).trans rfl
      have hfz18_0 := blk_frozen BK172.out 0
      have hfz18_1 := blk_frozen BK172.out 1
      have hfz18_2 := blk_frozen BK172.out 2
      have hfz18_3 := blk_frozen BK172.out 3
      have hfz18_4 := blk_frozen BK172.out 4
      have hfz18_5 := blk_frozen BK172.out 5
      go_wp2
      repeat (go_quiet (fail); try go_wp2)
      go_meet
      case rel => exact ⟨_, (true), (by first | rfl | (simp; done) | (simp [*]; done)), H', ⟨by have := HJ1.out; first | omega | exact Nat.le_refl _⟩, ⟨bk BK172.out⟩, ⟨bq HB.out⟩⟩
     ·rw [if_neg c17] at H
      have c17b0 : decide (a0_3 < 0) = false := decide_eq_false c17
      clear c17
      (first | rw [c17b0] | (simp only [i64_w, i32_w]; rw [c17b0]) | skip)
      by_cases c19 : a0_4 < 0
      ·rw [if_pos c19] at H
       have c19b0 : decide (a0_4 < 0) = true := decide_eq_true c19
       clear c19
       have H' := Aside0.mk H
       clear H
       have hcz20_0 : wc.cell? ⟨gb172, 0, none⟩ = some (.int .i64 a0_0) := (blk_cell BK172.out 0).trans rfl
       have hcz20_1 : wc.cell? ⟨gb172, 1, none⟩ = some (.int .i64 a0_1) := (blk_cell BK172.out 1).trans rfl
       have hcz20_2 : wc.cell? ⟨gb172, 2, none⟩ = some (.int .i64 a0_2) := (blk_cell BK172.out 2).trans rfl
       have hcz20_3 : wc.cell? ⟨gb172, 3, none⟩ = some (.int .i64 a0_3) := (blk_cell BK172.out 3).trans rfl
       have hcz20_4 : wc.cell? ⟨gb172, 4, none⟩ = some (.int .i64 a0_4) := (blk_cell BK172.out 4).trans rfl
       have hcz20_5 : wc.cell? ⟨gb172, 5, none⟩ = some (.slice A0_5 l0_5.length c0_5) := (blk_cell BK172.out 5).trans rfl
       have hfz20_0 := blk_frozen BK172.out 0
       have hfz20_1 := blk_frozen BK172.out 1
       have hfz20_2 := blk_frozen BK172.out 2
       have hfz20_3 := blk_frozen BK172.out 3
       have hfz20_4 := blk_frozen BK172.out 4
       have hfz20_5 := blk_frozen BK172.out 5
       go_wp2
       repeat (go_quiet (fail); try go_wp2)
       go_meet
       case rel => exact ⟨_, (true), (by first | rfl | (simp; done) | (simp [*]; done)), H', ⟨by have := HJ1.out; first | omega | exact Nat.le_refl _⟩, ⟨bk BK172.out⟩, ⟨bq HB.out⟩⟩
      ·rw [if_neg c19] at H
       have c19b0 : decide (a0_4 < 0) = false := decide_eq_false c19
       clear c19
       by_cases c21 : 0 ≤ a0_2
       ·rw [if_pos c21] at H
        have c21b0 := eq_true c21
        have c21b1 : decide (0 ≤ a0_2) = true := decide_eq_true c21
        clear c21
        obtain ⟨ji22, hji22⟩ : ∃ j_ : Int, (shl .i64 1 a0_2) = j_ := ⟨_, rfl⟩
        replace H : (if a0_3 > (ji22) then (circuit_look.j1 kj1 true a0_0 a0_1 a0_2 a0_3 a0_4 l0_5) else (circuit_look.j1 kj1 (decide (a0_4 > (wrap64 ((ji22) - a0_3)))) a0_0 a0_1 a0_2 a0_3 a0_4 l0_5)) = some (r1, r2) := by first | (rw [hji22] at H; exact H) | (simp only [hji22] at H ⊢; exact H)
        have hji22_ : (IntKind.i64.wrap (1 * 2 ^ min a0_2.toNat 64)) = ji22 := hji22
        have hji22z : a0_2 ≤ 64 → (IntKind.i64.wrap (1 * 2 ^ a0_2.toNat)) = ji22 := shl_small hji22
        have hji22u : (IntKind.i64.wrap (2 ^ min a0_2.toNat 64)) = ji22 := by have h_ := hji22_; rw [Int.one_mul] at h_; exact h_
        have hji22v : a0_2 ≤ 64 → (IntKind.i64.wrap (2 ^ a0_2.toNat)) = ji22 := fun hle_ => by have h_ := hji22z hle_; rw [Int.one_mul] at h_; exact h_
        have hji22y : (wrap64 (1 * 2 ^ min a0_2.toNat 64)) = ji22 := (i64_w _).symm.trans hji22_
        have hji22x : a0_2 ≤ 64 → (wrap64 (1 * 2 ^ a0_2.toNat)) = ji22 := fun h_ => (i64_w _).symm.trans (hji22z h_)
        by_cases c23 : a0_3 > (ji22)
        ·rw [if_pos c23] at H
         have c23b0 : decide ((ji22) < a0_3) = true := decide_eq_true c23
         clear c23
         have H' := Aside0.mk H
         clear H
         have hcz24_0 : wc.cell? ⟨gb172, 0, none⟩ = some (.int .i64 a0_0) := (blk_cell BK172.out 0).trans rfl
         have hcz24_1 : wc.cell? ⟨gb172, 1, none⟩ = some (.int .i64 a0_1) := (blk_cell BK172.out 1).trans rfl
         have hcz24_2 : wc.cell? ⟨gb172, 2, none⟩ = some (.int .i64 a0_2) := (blk_cell BK172.out 2).trans rfl
         have hcz24_3 : wc.cell? ⟨gb172, 3, none⟩ = some (.int .i64 a0_3) := (blk_cell BK172.out 3).trans rfl
         have hcz24_4 : wc.cell? ⟨gb172, 4, none⟩ = some (.int .i64 a0_4) := (blk_cell BK172.out 4).trans rfl
         have hcz24_5 : wc.cell? ⟨gb172, 5, none⟩ = some (.slice A0_5 l0_5.length c0_5) := (blk_cell BK172.out 5).trans rfl
         have hfz24_0 := blk_frozen BK172.out 0
         have hfz24_1 := blk_frozen BK172.out 1
         have hfz24_2 := blk_frozen BK172.out 2
         have hfz24_3 := blk_frozen BK172.out 3
         have hfz24_4 := blk_frozen BK172.out 4
         have hfz24_5 := blk_frozen BK172.out 5
         go_wp2
         repeat (go_quiet (fail); try go_wp2)
         go_meet
         case rel => exact ⟨_, (true), (by first | rfl | (simp; done) | (simp [*]; done)), H', ⟨by have := HJ1.out; first | omega | exact Nat.le_refl _⟩, ⟨bk BK172.out⟩, ⟨bq HB.out⟩⟩
        ·rw [if_neg c23] at H
         have c23b0 : decide ((ji22) < a0_3) = false := decide_eq_false c23
         clear c23
         have c25b0 := eq_true (of_decide_eq_true (by first | (with_reducible assumption) | assumption) : 0 ≤ a0_2)
         have H' := Aside0.mk H
         clear H
         have hcz27_0 : wc.cell? ⟨gb172, 0, none⟩ = some (.int .i64 a0_0) := (blk_cell BK172.out 0).trans rfl
         have hcz27_1 : wc.cell? ⟨gb172, 1, none⟩ = some (.int .i64 a0_1) := (blk_cell BK172.out 1).trans rfl
         have hcz27_2 : wc.cell? ⟨gb172, 2, none⟩ = some (.int .i64 a0_2) := (blk_cell BK172.out 2).trans rfl
         have hcz27_3 : wc.cell? ⟨gb172, 3, none⟩ = some (.int .i64 a0_3) := (blk_cell BK172.out 3).trans rfl
         have hcz27_4 : wc.cell? ⟨gb172, 4, none⟩ = some (.int .i64 a0_4) := (blk_cell BK172.out 4).trans rfl
         have hcz27_5 : wc.cell? ⟨gb172, 5, none⟩ = some (.slice A0_5 l0_5.length c0_5) := (blk_cell BK172.out 5).trans rfl
         have hfz27_0 := blk_frozen BK172.out 0
         have hfz27_1 := blk_frozen BK172.out 1
         have hfz27_2 := blk_frozen BK172.out 2
         have hfz27_3 := blk_frozen BK172.out 3
         have hfz27_4 := blk_frozen BK172.out 4
         have hfz27_5 := blk_frozen BK172.out 5
         go_wp2
         repeat (go_quiet (fail); try go_wp2)
         go_meet
         case rel => exact ⟨_, (decide (a0_4 > (wrap64 ((ji22) - a0_3)))), (by first | rfl | (simp; done) | (simp only [← hji22] <;> (first | rfl | simp)) | (simp [*]; done)), H', ⟨by have := HJ1.out; first | omega | exact Nat.le_refl _⟩, ⟨bk BK172.out⟩, ⟨bq HB.out⟩⟩
       ·rw [if_neg c21] at H
        exact absurd H (by simp)
    case rest =>
     clear HC16
     try clear c1
     try clear c2
     try clear p2
     try clear c4
     try clear c4b0
     try clear c6
     try clear c6b0
     try clear p6
     try clear c8
     try clear c8b0
     try clear c9
     try clear c10
     try clear c10b0
     try clear c12
     try clear c12b0
     try clear c15
     try clear c17
     try clear c17b0
     try clear c19
     try clear c19b0
     try clear c21
     try clear c21b0
     try clear c21b1
     try clear c23
     try clear c23b0
     try clear c25
     try clear c25b0
     try clear c26
     try clear c26b0
     try clear hcz11_0
     try clear hcz11_1
     try clear hcz11_2
     try clear hcz11_3
     try clear hcz11_4
     try clear hcz11_5
     try clear hcz13_0
     try clear hcz13_1
     try clear hcz13_2
     try clear hcz13_3
     try clear hcz13_4
     try clear hcz13_5
     try clear hcz14_0
     try clear hcz14_1
     try clear hcz14_2
     try clear hcz14_3
     try clear hcz14_4
     try clear hcz14_5
     try clear hcz18_0
     try clear hcz18_1
     try clear hcz18_2
     try clear hcz18_3
     try clear hcz18_4
     try clear hcz18_5
     try clear hcz20_0
     try clear hcz20_1
     try clear hcz20_2
     try clear hcz20_3
     try clear hcz20_4
     try clear hcz20_5
     try clear hcz24_0
     try clear hcz24_1
     try clear hcz24_2
     try clear hcz24_3
     try clear hcz24_4
     try clear hcz24_5
     try clear hcz27_0
     try clear hcz27_1
     try clear hcz27_2
     try clear hcz27_3
     try clear hcz27_4
     try clear hcz27_5
     try clear hcz5_0
     try clear hcz5_1
     try clear hcz5_2
     try clear hcz5_3
     try clear hcz5_4
     try clear hcz5_5
     try clear hcz7_0
     try clear hcz7_1
     try clear hcz7_2
     try clear hcz7_3
     try clear hcz7_4
     try clear hcz7_5
     try clear hcz9_0
     try clear hcz9_1
     try clear hcz9_2
     try clear hcz9_3
     try clear hcz9_4
     try clear hcz9_5
     try clear hfz11_0
     try clear hfz11_1
     try clear hfz11_2
     try clear hfz11_3
     try clear hfz11_4
     try clear hfz11_5
     try clear hfz13_0
     try clear hfz13_1
     try clear hfz13_2
     try clear hfz13_3
     try clear hfz13_4
     try clear hfz13_5
     try clear hfz14_0
     try clear hfz14_1
     try clear hfz14_2
     try clear hfz14_3
     try clear hfz14_4
     try clear hfz14_5
     try clear hfz18_0
     try clear hfz18_1
     try clear hfz18_2
     try clear hfz18_3
     try clear hfz18_4
     try clear hfz18_5
     try clear hfz20_0
     try clear hfz20_1
     try clear hfz20_2
     try clear hfz20_3
     try clear hfz20_4
     try clear hfz20_5
     try clear hfz24_0
     try clear hfz24_1
     try clear hfz24_2
     try clear hfz24_3
     try clear hfz24_4
     try clear hfz24_5
     try clear hfz27_0
     try clear hfz27_1
     try clear hfz27_2
     try clear hfz27_3
     try clear hfz27_4
     try clear hfz27_5
     try clear hfz5_0
     try clear hfz5_1
     try clear hfz5_2
     try clear hfz5_3
     try clear hfz5_4
     try clear hfz5_5
     try clear hfz7_0
     try clear hfz7_1
     try clear hfz7_2
     try clear hfz7_3
     try clear hfz7_4
     try clear hfz7_5
     try clear hfz9_0
     try clear hfz9_1
     try clear hfz9_2
     try clear hfz9_3
     try clear hfz9_4
     try clear hfz9_5
     try clear p2
     obtain ⟨kq, x38_15, rfl, HA, HJ15, BK172, HB⟩ := hcut
     cases kq with
     | zero => exact absurd HA.out (by simp [circuit_look.j1])
     | succ kj15 =>
      have H := HA.out
      clear HA
      simp only [circuit_look.j1] at H
      by_cases c28 : x38_15 = true
      ·subst c28
       have H1 : (some (0, 1)) = some (r1, r2) := by rw [if_pos rfl] at H; exact H
       clear H
       have H := H1
       clear H1
       simp only [Option.some.injEq, Prod.mk.injEq] at H
       obtain ⟨rfl, rfl⟩ := H
       go_wp2
       repeat (go_quiet (fail); try go_wp2)
       go_ret2
       exact ⟨by first | rfl | (simp [errW_none, errW_some] <;> rfl) | (simp [*, errW_none, errW_some] <;> rfl), bq HB.out⟩
      ·replace c28 := Bool.eq_false_iff.mpr c28
       subst c28
       have H1 : (if (l0_5.length : Int) > 30 then (some (0, 2)) else (circuit_look.l0 kj15 (wrap64 (a0_3 + a0_4)) l0_5 (l0_5.length : Int) 0 a0_0 a0_1 a0_2 a0_3 a0_4 l0_5)) = some (r1, r2) := by rw [if_neg (show ¬ (false = true) by decide)] at H; exact H
       clear H
       have H := H1
       clear H1
       by_cases c29 : (l0_5.length : Int) > 30
       ·rw [if_pos c29] at H
        have c29b0 : decide (30 < (l0_5.length : Int)) = true := decide_eq_true c29
        have c29b1 : decide (30 < l0_5.length) = true := decide_eq_true (by omega)
        clear c29
        simp only [Option.some.injEq, Prod.mk.injEq] at H
        obtain ⟨rfl, rfl⟩ := H
        have hcz30_0 : wc.cell? ⟨gb172, 0, none⟩ = some (.int .i64 a0_0) := (blk_cell BK172.out 0).trans rfl
        have hcz30_1 : wc.cell? ⟨gb172, 1, none⟩ = some (.int .i64 a0_1) := (blk_cell BK172.out 1).trans rfl
        have hcz30_2 : wc.cell? ⟨gb172, 2, none⟩ = some (.int .i64 a0_2) := (blk_cell BK172.out 2).trans rfl
        have hcz30_3 : wc.cell? ⟨gb172, 3, none⟩ = some (.int .i64 a0_3) := (blk_cell BK172.out 3).trans rfl
        have hcz30_4 : wc.cell? ⟨gb172, 4, none⟩ = some (.int .i64 a0_4) := (blk_cell BK172.out 4).trans rfl
        have hcz30_5 : wc.cell? ⟨gb172, 5, none⟩ = some (.slice A0_5 l0_5.length c0_5) := (blk_cell BK172.out 5).trans rfl
        have hfz30_0 := blk_frozen BK172.out 0
        have hfz30_1 := blk_frozen BK172.out 1
        have hfz30_2 := blk_frozen BK172.out 2
        have hfz30_3 := blk_frozen BK172.out 3
        have hfz30_4 := blk_frozen BK172.out 4
        have hfz30_5 := blk_frozen BK172.out 5
        go_wp2
        repeat (go_quiet (fail); try go_wp2)
        go_ret2
        exact ⟨by first | rfl | (simp [errW_none, errW_some] <;> rfl) | (simp [*, errW_none, errW_some] <;> rfl), bq HB.out⟩
       ·rw [if_neg c29] at H
        have c29b0 : decide (30 < (l0_5.length : Int)) = false := decide_eq_false c29
        have c29b1 : decide (30 < l0_5.length) = false := decide_eq_false (by omega)
        clear c29
        have H' := Aside0.mk H
        clear H
        have hcz31_0 : wc.cell? ⟨gb172, 0, none⟩ = some (.int .i64 a0_0) := (blk_cell BK172.out 0).trans rfl
        have hcz31_1 : wc.cell? ⟨gb172, 1, none⟩ = some (.int .i64 a0_1) := (blk_cell BK172.out 1).trans rfl
        have hcz31_2 : wc.cell? ⟨gb172, 2, none⟩ = some (.int .i64 a0_2) := (blk_cell BK172.out 2).trans rfl
        have hcz31_3 : wc.cell? ⟨gb172, 3, none⟩ = some (.int .i64 a0_3) := (blk_cell BK172.out 3).trans rfl
        have hcz31_4 : wc.cell? ⟨gb172, 4, none⟩ = some (.int .i64 a0_4) := (blk_cell BK172.out 4).trans rfl
        have hcz31_5 : wc.cell? ⟨gb172, 5, none⟩ = some (.slice A0_5 l0_5.length c0_5) := (blk_cell BK172.out 5).trans rfl
        have hfz31_0 := blk_frozen BK172.out 0
        have hfz31_1 := blk_frozen BK172.out 1
        have hfz31_2 := blk_frozen BK172.out 2
        have hfz31_3 := blk_frozen BK172.out 3
        have hfz31_4 := blk_frozen BK172.out 4
        have hfz31_5 := blk_frozen BK172.out 5
        go_wp2
        repeat (go_quiet (fail); try go_wp2)
        go_loopg [4, 79] kj15 (fun kq v4 v79 w' => ∃ (x4_3 : Int) (x79_3 : Int), v4 = .int .i64 x4_3 ∧ v79 = .int .i64 x79_3 ∧ Aside0 (circuit_look.l0 kq x4_3 l0_5 (l0_5.length : Int) x79_3 a0_0 a0_1 a0_2 a0_3 a0_4 l0_5 = some (r1, r2)) ∧ Aside0 (kq ≤ kj15) ∧ Aside0 (w'.heap[gb172]? = some (.cells #[.int .i64 a0_0, .int .i64 a0_1, .int .i64 a0_2, .int .i64 a0_3, .int .i64 a0_4, (.slice A0_5 l0_5.length c0_5)] 45 (0, 0))) ∧ Aside0 (Below w.heap.size w w'))
        case atStart => exact ⟨(wrap64 (a0_3 + a0_4)), (0), (by first | rfl | (simp; done) | (simp [*]; done)), (by first | rfl | (simp; done) | (simp [*]; done)), H', ⟨Nat.le_refl _⟩, ⟨bk BK172.out⟩, ⟨bq HB.out⟩⟩
        case round =>
         clear H'
         try clear c1
         try clear c2
         try clear p2
         try clear c4
         try clear c4b0
         try clear c6
         try clear c6b0
         try clear p6
         try clear c8
         try clear c8b0
         try clear c9
         try clear c10
         try clear c10b0
         try clear c12
         try clear c12b0
         try clear c15
         try clear c17
         try clear c17b0
         try clear c19
         try clear c19b0
         try clear c21
         try clear c21b0
         try clear c21b1
         try clear c23
         try clear c23b0
         try clear c25
         try clear c25b0
         try clear c26
         try clear c26b0
         try clear c28
         try clear c29
         try clear c29b0
         try clear c29b1
         try clear hcz11_0
         try clear hcz11_1
         try clear hcz11_2
         try clear hcz11_3
         try clear hcz11_4
         try clear hcz11_5
         try clear hcz13_0
         try clear hcz13_1
         try clear hcz13_2
         try clear hcz13_3
         try clear hcz13_4
         try clear hcz13_5
         try clear hcz14_0
         try clear hcz14_1
         try clear hcz14_2
         try clear hcz14_3
         try clear hcz14_4
         try clear hcz14_5
         try clear hcz18_0
         try clear hcz18_1
         try clear hcz18_2
         try clear hcz18_3
         try clear hcz18_4
         try clear hcz18_5
         try clear hcz20_0
         try clear hcz20_1
         try clear hcz20_2
         try clear hcz20_3
         try clear hcz20_4
         try clear hcz20_5
         try clear hcz24_0
         try clear hcz24_1
         try clear hcz24_2
         try clear hcz24_3
         try clear hcz24_4
         try clear hcz24_5
         try clear hcz27_0
         try clear hcz27_1
         try clear hcz27_2
         try clear hcz27_3
         try clear hcz27_4
         try clear hcz27_5
         try clear hcz30_0
         try clear hcz30_1
         try clear hcz30_2
         try clear hcz30_3
         try clear hcz30_4
         try clear hcz30_5
         try clear hcz31_0
         try clear hcz31_1
         try clear hcz31_2
         try clear hcz31_3
         try clear hcz31_4
         try clear hcz31_5
         try clear hcz5_0
         try clear hcz5_1
         try clear hcz5_2
         try clear hcz5_3
         try clear hcz5_4
         try clear hcz5_5
         try clear hcz7_0
         try clear hcz7_1
         try clear hcz7_2
         try clear hcz7_3
         try clear hcz7_4
         try clear hcz7_5
         try clear hcz9_0
         try clear hcz9_1
         try clear hcz9_2
         try clear hcz9_3
         try clear hcz9_4
         try clear hcz9_5
         try clear hfz11_0
         try clear hfz11_1
         try clear hfz11_2
         try clear hfz11_3
         try clear hfz11_4
         try clear hfz11_5
         try clear hfz13_0
         try clear hfz13_1
         try clear hfz13_2
         try clear hfz13_3
         try clear hfz13_4
         try clear hfz13_5
         try clear hfz14_0
         try clear hfz14_1
         try clear hfz14_2
         try clear hfz14_3
         try clear hfz14_4
         try clear hfz14_5
         try clear hfz18_0
         try clear hfz18_1
         try clear hfz18_2
         try clear hfz18_3
         try clear hfz18_4
         try clear hfz18_5
         try clear hfz20_0
         try clear hfz20_1
         try clear hfz20_2
         try clear hfz20_3
         try clear hfz20_4
         try clear hfz20_5
         try clear hfz24_0
         try clear hfz24_1
         try clear hfz24_2
         try clear hfz24_3
         try clear hfz24_4
         try clear hfz24_5
         try clear hfz27_0
         try clear hfz27_1
         try clear hfz27_2
         try clear hfz27_3
         try clear hfz27_4
         try clear hfz27_5
         try clear hfz30_0
         try clear hfz30_1
         try clear hfz30_2
         try clear hfz30_3
         try clear hfz30_4
         try clear hfz30_5
         try clear hfz31_0
         try clear hfz31_1
         try clear hfz31_2
         try clear hfz31_3
         try clear hfz31_4
         try clear hfz31_5
         try clear hfz5_0
         try clear hfz5_1
         try clear hfz5_2
         try clear hfz5_3
         try clear hfz5_4
         try clear hfz5_5
         try clear hfz7_0
         try clear hfz7_1
         try clear hfz7_2
         try clear hfz7_3
         try clear hfz7_4
         try clear hfz7_5
         try clear hfz9_0
         try clear hfz9_1
         try clear hfz9_2
         try clear hfz9_3
         try clear hfz9_4
         try clear hfz9_5
         try clear p2
         try clear p6
         obtain ⟨x4_3, x79_3, rfl, rfl, HA, HK3, BK172, HB⟩ := hrel
         cases gk with
         | zero => exact absurd HA.out (by simp [circuit_look.l0])
         | succ k3 =>
          have H := HA.out
          clear HA
          simp only [circuit_look.l0] at H
          by_cases c32 : x79_3 < (l0_5.length : Int)
          ·rw [if_pos c32] at H
           have c32b0 : decide (x79_3 < (l0_5.length : Int)) = true := decide_eq_true c32
           clear c32
           by_cases c33 : 0 ≤ x79_3
           ·rw [if_pos c33] at H
            have c33b0 : decide (0 ≤ x79_3) = true := decide_eq_true c33
            clear c33
            by_cases c34 : x79_3 < (l0_5.length : Int)
            ·rw [if_pos c34] at H
             have c34b0 : decide (x79_3 < (l0_5.length : Int)) = true := decide_eq_true c34
             clear c34
             replace H := Option.bind_eq_some_iff.mp H
             obtain ⟨⟨t175, t176⟩, A350, H⟩ := H
             replace H : (if t176 = 0 then (circuit_look.l0 k3 t175 l0_5 (l0_5.length : Int) (wrap64 (x79_3 + 1)) a0_0 a0_1 a0_2 a0_3 a0_4 l0_5) else (some (0, t176))) = some (r1, r2) := H
             have A35 := Aside0.mk A350
             clear A350
             by_cases c36 : t176 = 0
             ·rw [if_pos c36] at H
              have c36b0 : (t176 == 0) = true := beq_iff_eq.mpr c36
              have c36b1 : (t176 != 0) = false := bne_eq_false_iff_eq.mpr c36
              clear c36
              have H' := Aside0.mk H
              clear H
              have p173 : 0 ≤ (x79_3 : Int) := of_decide_eq_true (by first | (with_reducible assumption) | assumption)
              have q173 : x79_3 < (l0_5.length : Int) := of_decide_eq_true (by first | (with_reducible assumption) | assumption)
              obtain ⟨ad173, e173, hx173_0, hx173_1, hx173_2, hx173_3, hx173_4⟩ := at_T107 HR0_5.out x79_3 p173 q173
              cases e173
              replace hx173_0 := (HB.out.cell (World.block_lt_of_cell? w _ hx173_0)).trans hx173_0
              replace hx173_1 := (HB.out.cell (World.block_lt_of_cell? w _ hx173_1)).trans hx173_1
              replace hx173_2 := (HB.out.cell (World.block_lt_of_cell? w _ hx173_2)).trans hx173_2
              replace hx173_3 := (HB.out.cell (World.block_lt_of_cell? w _ hx173_3)).trans hx173_3
              replace hx173_4 := (HB.out.cell (World.block_lt_of_cell? w _ hx173_4)).trans hx173_4
              replace p173 := eq_true p173
              replace q173 := eq_true q173
              go_wp2_with (first | ((with_reducible refine gate_dst (N := 6) rfl ?_); refine box_event ?hg (N := 6) ?hd (cs := #[.int .i64 0, .int .i64 0, .int .i64 0, .int .i64 0, .int .i64 0]) (t := 107) ?hr ?_; (case hd => rfl); (case hg => rfl); (case hr => first | (go_simp; done) | (go_simp; rfl)); intro gb174 hg w37 hbox hb; have BK174 := Aside0.mk hbox; have GW174 := ge hg HB; have GE174 := ge hg HB; have NB172_174 := nl hg BK172; have NB174_172 := ng hg BK172; replace BK172 := bb BK172 hb; replace HB := bh HB hb; clear hb hbox hg; have hnb38 := NB174_172.out; have hnc38 := NB172_174.out; have hcz39_0 : w37.cell? ⟨gb174, 0, none⟩ = some (.int .i64 0) := (blk_cell BK174.out 0).trans rfl; have hcz39_1 : w37.cell? ⟨gb174, 1, none⟩ = some (.int .i64 0) := (blk_cell BK174.out 1).trans rfl; have hcz39_2 : w37.cell? ⟨gb174, 2, none⟩ = some (.int .i64 0) := (blk_cell BK174.out 2).trans rfl; have hcz39_3 : w37.cell? ⟨gb174, 3, none⟩ = some (.int .i64 0) := (blk_cell BK174.out 3).trans rfl; have hcz39_4 : w37.cell? ⟨gb174, 4, none⟩ = some (.int .i64 0) := (blk_cell BK174.out 4).trans rfl; have hfz39_0 := blk_frozen BK174.out 0; have hfz39_1 := blk_frozen BK174.out 1; have hfz39_2 := blk_frozen BK174.out 2; have hfz39_3 := blk_frozen BK174.out 3; have hfz39_4 := blk_frozen BK174.out 4; have hcz40_0 : w37.cell? ⟨gb172, 0, none⟩ = some (.int .i64 a0_0) := (blk_cell BK172.out 0).trans rfl; have hcz40_1 : w37.cell? ⟨gb172, 1, none⟩ = some (.int .i64 a0_1) := (blk_cell BK172.out 1).trans rfl; have hcz40_2 : w37.cell? ⟨gb172, 2, none⟩ = some (.int .i64 a0_2) := (blk_cell BK172.out 2).trans rfl; have hcz40_3 : w37.cell? ⟨gb172, 3, none⟩ = some (.int .i64 a0_3) := (blk_cell BK172.out 3).trans rfl; have hcz40_4 : w37.cell? ⟨gb172, 4, none⟩ = some (.int .i64 a0_4) := (blk_cell BK172.out 4).trans rfl; have hcz40_5 : w37.cell? ⟨gb172, 5, none⟩ = some (.slice (some ad173) l0_5.length c0_5) := (blk_cell BK172.out 5).trans rfl; have hfz40_0 := blk_frozen BK172.out 0; have hfz40_1 := blk_frozen BK172.out 1; have hfz40_2 := blk_frozen BK172.out 2; have hfz40_3 := blk_frozen BK172.out 3; have hfz40_4 := blk_frozen BK172.out 4; have hfz40_5 := blk_frozen BK172.out 5) | (go_at_call 109; (with_reducible refine (circuit_gate.calls k3 a0_0 a0_1 a0_2 a0_3 a0_4 _ _ l0_5 ((rd_T107 l0_5 x79_3).f0) ((rd_T107 l0_5 x79_3).f1) ((rd_T107 l0_5 x79_3).f2) ((rd_T107 l0_5 x79_3).f3) ((rd_T107 l0_5 x79_3).f4) x4_3 t175 t176 _ ?side1 ?side2 A35.out).mono ?_); (case side1 => exact Kd.C_below HR0_5.out (bq HB.out)); (case side2 => exact HC0_5.out); rintro e w41 ⟨rfl, hb⟩; replace BK172 := Aside0.mk (blk_below (g := gb172) (o := .cells #[.int .i64 a0_0, .int .i64 a0_1, .int .i64 a0_2, .int .i64 a0_3, .int .i64 a0_4, .slice (some ad173) l0_5.length c0_5] 45 (0, 0)) (by (with_reducible repeat refine bl ?_); refine blk_far ?_ NB172_174.out _; (with_reducible repeat refine bl ?_); refine blk_far ?_ NB172_174.out _; (with_reducible repeat refine bl ?_); refine blk_far ?_ NB172_174.out _; (with_reducible repeat refine bl ?_); refine blk_far ?_ NB172_174.out _; (with_reducible repeat refine bl ?_); refine blk_far ?_ NB172_174.out _; (with_reducible repeat refine bl ?_); exact BK172.out) hb); replace BK174 := Aside0.mk (blk_below (g := gb174) (o := .cells #[.int .i64 ((rd_T107 l0_5 x79_3).f0), .int .i64 ((rd_T107 l0_5 x79_3).f1), .int .i64 ((rd_T107 l0_5 x79_3).f2), .int .i64 ((rd_T107 l0_5 x79_3).f3), .int .i64 ((rd_T107 l0_5 x79_3).f4)] 107 (0, 0)) (by (with_reducible repeat refine bl ?_); refine blk_put (cs := #[.int .i64 ((rd_T107 l0_5 x79_3).f0), .int .i64 ((rd_T107 l0_5 x79_3).f1), .int .i64 ((rd_T107 l0_5 x79_3).f2), .int .i64 ((rd_T107 l0_5 x79_3).f3), .int .i64 0]) ?_ 4 _ rfl; (with_reducible repeat refine bl ?_); refine blk_put (cs := #[.int .i64 ((rd_T107 l0_5 x79_3).f0), .int .i64 ((rd_T107 l0_5 x79_3).f1), .int .i64 ((rd_T107 l0_5 x79_3).f2), .int .i64 0, .int .i64 0]) ?_ 3 _ rfl; (with_reducible repeat refine bl ?_); refine blk_put (cs := #[.int .i64 ((rd_T107 l0_5 x79_3).f0), .int .i64 ((rd_T107 l0_5 x79_3).f1), .int .i64 0, .int .i64 0, .int .i64 0]) ?_ 2 _ rfl; (with_reducible repeat refine bl ?_); refine blk_put (cs := #[.int .i64 ((rd_T107 l0_5 x79_3).f0), .int .i64 0, .int .i64 0, .int .i64 0, .int .i64 0]) ?_ 1 _ rfl; (with_reducible repeat refine bl ?_); refine blk_put (cs := #[.int .i64 0, .int .i64 0, .int .i64 0, .int .i64 0, .int .i64 0]) ?_ 0 _ rfl; (with_reducible repeat refine bl ?_); exact BK174.out) hb); replace HB := bh HB hb; (try clear hb); (try clear hb2); (try clear hk); (try clear hi)))
              repeat (go_quiet (first | ((with_reducible refine gate_dst (N := 6) rfl ?_); refine box_event ?hg (N := 6) ?hd (cs := #[.int .i64 0, .int .i64 0, .int .i64 0, .int .i64 0, .int .i64 0]) (t := 107) ?hr ?_; (case hd => rfl); (case hg => rfl); (case hr => first | (go_simp; done) | (go_simp; rfl)); intro gb174 hg w37 hbox hb; have BK174 := Aside0.mk hbox; have GW174 := ge hg HB; have GE174 := ge hg HB; have NB172_174 := nl hg BK172; have NB174_172 := ng hg BK172; replace BK172 := bb BK172 hb; replace HB := bh HB hb; clear hb hbox hg; have hnb38 := NB174_172.out; have hnc38 := NB172_174.out; have hcz39_0 : w37.cell? ⟨gb174, 0, none⟩ = some (.int .i64 0) := (blk_cell BK174.out 0).trans rfl; have hcz39_1 : w37.cell? ⟨gb174, 1, none⟩ = some (.int .i64 0) := (blk_cell BK174.out 1).trans rfl; have hcz39_2 : w37.cell? ⟨gb174, 2, none⟩ = some (.int .i64 0) := (blk_cell BK174.out 2).trans rfl; have hcz39_3 : w37.cell? ⟨gb174, 3, none⟩ = some (.int .i64 0) := (blk_cell BK174.out 3).trans rfl; have hcz39_4 : w37.cell? ⟨gb174, 4, none⟩ = some (.int .i64 0) := (blk_cell BK174.out 4).trans rfl; have hfz39_0 := blk_frozen BK174.out 0; have hfz39_1 := blk_frozen BK174.out 1; have hfz39_2 := blk_frozen BK174.out 2; have hfz39_3 := blk_frozen BK174.out 3; have hfz39_4 := blk_frozen BK174.out 4; have hcz40_0 : w37.cell? ⟨gb172, 0, none⟩ = some (.int .i64 a0_0) := (blk_cell BK172.out 0).trans rfl; have hcz40_1 : w37.cell? ⟨gb172, 1, none⟩ = some (.int .i64 a0_1) := (blk_cell BK172.out 1).trans rfl; have hcz40_2 : w37.cell? ⟨gb172, 2, none⟩ = some (.int .i64 a0_2) := (blk_cell BK172.out 2).trans rfl; have hcz40_3 : w37.cell? ⟨gb172, 3, none⟩ = some (.int .i64 a0_3) := (blk_cell BK172.out 3).trans rfl; have hcz40_4 : w37.cell? ⟨gb172, 4, none⟩ = some (.int .i64 a0_4) := (blk_cell BK172.out 4).trans rfl; have hcz40_5 : w37.cell? ⟨gb172, 5, none⟩ = some (.slice (some ad173) l0_5.length c0_5) := (blk_cell BK172.out 5).trans rfl; have hfz40_0 := blk_frozen BK172.out 0; have hfz40_1 := blk_frozen BK172.out 1; have hfz40_2 := blk_frozen BK172.out 2; have hfz40_3 := blk_frozen BK172.out 3; have hfz40_4 := blk_frozen BK172.out 4; have hfz40_5 := blk_frozen BK172.out 5) | (go_at_call 109; (with_reducible refine (circuit_gate.calls k3 a0_0 a0_1 a0_2 a0_3 a0_4 _ _ l0_5 ((rd_T107 l0_5 x79_3).f0) ((rd_T107 l0_5 x79_3).f1) ((rd_T107 l0_5 x79_3).f2) ((rd_T107 l0_5 x79_3).f3) ((rd_T107 l0_5 x79_3).f4) x4_3 t175 t176 _ ?side1 ?side2 A35.out).mono ?_); (case side1 => exact Kd.C_below HR0_5.out (bq HB.out)); (case side2 => exact HC0_5.out); rintro e w41 ⟨rfl, hb⟩; replace BK172 := Aside0.mk (blk_below (g := gb172) (o := .cells #[.int .i64 a0_0, .int .i64 a0_1, .int .i64 a0_2, .int .i64 a0_3, .int .i64 a0_4, .slice (some ad173) l0_5.length c0_5] 45 (0, 0)) (by (with_reducible repeat refine bl ?_); refine blk_far ?_ NB172_174.out _; (with_reducible repeat refine bl ?_); refine blk_far ?_ NB172_174.out _; (with_reducible repeat refine bl ?_); refine blk_far ?_ NB172_174.out _; (with_reducible repeat refine bl ?_); refine blk_far ?_ NB172_174.out _; (with_reducible repeat refine bl ?_); refine blk_far ?_ NB172_174.out _; (with_reducible repeat refine bl ?_); exact BK172.out) hb); replace BK174 := Aside0.mk (blk_below (g := gb174) (o := .cells #[.int .i64 ((rd_T107 l0_5 x79_3).f0), .int .i64 ((rd_T107 l0_5 x79_3).f1), .int .i64 ((rd_T107 l0_5 x79_3).f2), .int .i64 ((rd_T107 l0_5 x79_3).f3), .int .i64 ((rd_T107 l0_5 x79_3).f4)] 107 (0, 0)) (by (with_reducible repeat refine bl ?_); refine blk_put (cs := #[.int .i64 ((rd_T107 l0_5 x79_3).f0), .int .i64 ((rd_T107 l0_5 x79_3).f1), .int .i64 ((rd_T107 l0_5 x79_3).f2), .int .i64 ((rd_T107 l0_5 x79_3).f3), .int .i64 0]) ?_ 4 _ rfl; (with_reducible repeat refine bl ?_); refine blk_put (cs := #[.int .i64 ((rd_T107 l0_5 x79_3).f0), .int .i64 ((rd_T107 l0_5 x79_3).f1), .int .i64 ((rd_T107 l0_5 x79_3).f2), .int .i64 0, .int .i64 0]) ?_ 3 _ rfl; (with_reducible repeat refine bl ?_); refine blk_put (cs := #[.int .i64 ((rd_T107 l0_5 x79_3).f0), .int .i64 ((rd_T107 l0_5 x79_3).f1), .int .i64 0, .int .i64 0, .int .i64 0]) ?_ 2 _ rfl; (with_reducible repeat refine bl ?_); refine blk_put (cs := #[.int .i64 ((rd_T107 l0_5 x79_3).f0), .int .i64 0, .int .i64 0, .int .i64 0, .int .i64 0]) ?_ 1 _ rfl; (with_reducible repeat refine bl ?_); refine blk_put (cs := #[.int .i64 0, .int .i64 0, .int .i64 0, .int .i64 0, .int .i64 0]) ?_ 0 _ rfl; (with_reducible repeat refine bl ?_); exact BK174.out) hb); replace HB := bh HB hb; (try clear hb); (try clear hb2); (try clear hk); (try clear hi))); try go_wp2_with (first | ((with_reducible refine gate_dst (N := 6) rfl ?_); refine box_event ?hg (N := 6) ?hd (cs := #[.int .i64 0, .int .i64 0, .int .i64 0, .int .i64 0, .int .i64 0]) (t := 107) ?hr ?_; (case hd => rfl); (case hg => rfl); (case hr => first | (go_simp; done) | (go_simp; rfl)); intro gb174 hg w37 hbox hb; have BK174 := Aside0.mk hbox; have GW174 := ge hg HB; have GE174 := ge hg HB; have NB172_174 := nl hg BK172; have NB174_172 := ng hg BK172; replace BK172 := bb BK172 hb; replace HB := bh HB hb; clear hb hbox hg; have hnb38 := NB174_172.out; have hnc38 := NB172_174.out; have hcz39_0 : w37.cell? ⟨gb174, 0, none⟩ = some (.int .i64 0) := (blk_cell BK174.out 0).trans rfl; have hcz39_1 : w37.cell? ⟨gb174, 1, none⟩ = some (.int .i64 0) := (blk_cell BK174.out 1).trans rfl; have hcz39_2 : w37.cell? ⟨gb174, 2, none⟩ = some (.int .i64 0) := (blk_cell BK174.out 2).trans rfl; have hcz39_3 : w37.cell? ⟨gb174, 3, none⟩ = some (.int .i64 0) := (blk_cell BK174.out 3).trans rfl; have hcz39_4 : w37.cell? ⟨gb174, 4, none⟩ = some (.int .i64 0) := (blk_cell BK174.out 4).trans rfl; have hfz39_0 := blk_frozen BK174.out 0; have hfz39_1 := blk_frozen BK174.out 1; have hfz39_2 := blk_frozen BK174.out 2; have hfz39_3 := blk_frozen BK174.out 3; have hfz39_4 := blk_frozen BK174.out 4; have hcz40_0 : w37.cell? ⟨gb172, 0, none⟩ = some (.int .i64 a0_0) := (blk_cell BK172.out 0).trans rfl; have hcz40_1 : w37.cell? ⟨gb172, 1, none⟩ = some (.int .i64 a0_1) := (blk_cell BK172.out 1).trans rfl; have hcz40_2 : w37.cell? ⟨gb172, 2, none⟩ = some (.int .i64 a0_2) := (blk_cell BK172.out 2).trans rfl; have hcz40_3 : w37.cell? ⟨gb172, 3, none⟩ = some (.int .i64 a0_3) := (blk_cell BK172.out 3).trans rfl; have hcz40_4 : w37.cell? ⟨gb172, 4, none⟩ = some (.int .i64 a0_4) := (blk_cell BK172.out 4).trans rfl; have hcz40_5 : w37.cell? ⟨gb172, 5, none⟩ = some (.slice (some ad173) l0_5.length c0_5) := (blk_cell BK172.out 5).trans rfl; have hfz40_0 := blk_frozen BK172.out 0; have hfz40_1 := blk_frozen BK172.out 1; have hfz40_2 := blk_frozen BK172.out 2; have hfz40_3 := blk_frozen BK172.out 3; have hfz40_4 := blk_frozen BK172.out 4; have hfz40_5 := blk_frozen BK172.out 5) | (go_at_call 109; (with_reducible refine (circuit_gate.calls k3 a0_0 a0_1 a0_2 a0_3 a0_4 _ _ l0_5 ((rd_T107 l0_5 x79_3).f0) ((rd_T107 l0_5 x79_3).f1) ((rd_T107 l0_5 x79_3).f2) ((rd_T107 l0_5 x79_3).f3) ((rd_T107 l0_5 x79_3).f4) x4_3 t175 t176 _ ?side1 ?side2 A35.out).mono ?_); (case side1 => exact Kd.C_below HR0_5.out (bq HB.out)); (case side2 => exact HC0_5.out); rintro e w41 ⟨rfl, hb⟩; replace BK172 := Aside0.mk (blk_below (g := gb172) (o := .cells #[.int .i64 a0_0, .int .i64 a0_1, .int .i64 a0_2, .int .i64 a0_3, .int .i64 a0_4, .slice (some ad173) l0_5.length c0_5] 45 (0, 0)) (by (with_reducible repeat refine bl ?_); refine blk_far ?_ NB172_174.out _; (with_reducible repeat refine bl ?_); refine blk_far ?_ NB172_174.out _; (with_reducible repeat refine bl ?_); refine blk_far ?_ NB172_174.out _; (with_reducible repeat refine bl ?_); refine blk_far ?_ NB172_174.out _; (with_reducible repeat refine bl ?_); refine blk_far ?_ NB172_174.out _; (with_reducible repeat refine bl ?_); exact BK172.out) hb); replace BK174 := Aside0.mk (blk_below (g := gb174) (o := .cells #[.int .i64 ((rd_T107 l0_5 x79_3).f0), .int .i64 ((rd_T107 l0_5 x79_3).f1), .int .i64 ((rd_T107 l0_5 x79_3).f2), .int .i64 ((rd_T107 l0_5 x79_3).f3), .int .i64 ((rd_T107 l0_5 x79_3).f4)] 107 (0, 0)) (by (with_reducible repeat refine bl ?_); refine blk_put (cs := #[.int .i64 ((rd_T107 l0_5 x79_3).f0), .int .i64 ((rd_T107 l0_5 x79_3).f1), .int .i64 ((rd_T107 l0_5 x79_3).f2), .int .i64 ((rd_T107 l0_5 x79_3).f3), .int .i64 0]) ?_ 4 _ rfl; (with_reducible repeat refine bl ?_); refine blk_put (cs := #[.int .i64 ((rd_T107 l0_5 x79_3).f0), .int .i64 ((rd_T107 l0_5 x79_3).f1), .int .i64 ((rd_T107 l0_5 x79_3).f2), .int .i64 0, .int .i64 0]) ?_ 3 _ rfl; (with_reducible repeat refine bl ?_); refine blk_put (cs := #[.int .i64 ((rd_T107 l0_5 x79_3).f0), .int .i64 ((rd_T107 l0_5 x79_3).f1), .int .i64 0, .int .i64 0, .int .i64 0]) ?_ 2 _ rfl; (with_reducible repeat refine bl ?_); refine blk_put (cs := #[.int .i64 ((rd_T107 l0_5 x79_3).f0), .int .i64 0, .int .i64 0, .int .i64 0, .int .i64 0]) ?_ 1 _ rfl; (with_reducible repeat refine bl ?_); refine blk_put (cs := #[.int .i64 0, .int .i64 0, .int .i64 0, .int .i64 0, .int .i64 0]) ?_ 0 _ rfl; (with_reducible repeat refine bl ?_); exact BK174.out) hb); replace HB := bh HB hb; (try clear hb); (try clear hb2); (try clear hk); (try clear hi))))
              go_roundg k3
              case measure => have := HJ1.out; have := HJ15.out; have := HK3.out; omega
              case rel => exact ⟨(t175), (wrap64 (x79_3 + 1)), (by first | rfl | (simp; done) | (simp [*]; done)), (by first | rfl | (simp; done) | (simp [*]; done)), H', ⟨by have := HJ1.out; have := HJ15.out; have := HK3.out; omega⟩, ⟨bk BK172.out⟩, ⟨bq HB.out⟩⟩
             ·rw [if_neg c36] at H
              have c36b0 : (t176 == 0) = false := beq_eq_false_iff_ne.mpr c36
              have c36b1 : (t176 != 0) = true := bne_iff_ne.mpr c36
              simp only [Option.some.injEq, Prod.mk.injEq] at H
              obtain ⟨rfl, rfl⟩ := H
              have p173 : 0 ≤ (x79_3 : Int) := of_decide_eq_true (by first | (with_reducible assumption) | assumption)
              have q173 : x79_3 < (l0_5.length : Int) := of_decide_eq_true (by first | (with_reducible assumption) | assumption)
              obtain ⟨ad173, e173, hx173_0, hx173_1, hx173_2, hx173_3, hx173_4⟩ := at_T107 HR0_5.out x79_3 p173 q173
              cases e173
              replace hx173_0 := (HB.out.cell (World.block_lt_of_cell? w _ hx173_0)).trans hx173_0
              replace hx173_1 := (HB.out.cell (World.block_lt_of_cell? w _ hx173_1)).trans hx173_1
              replace hx173_2 := (HB.out.cell (World.block_lt_of_cell? w _ hx173_2)).trans hx173_2
              replace hx173_3 := (HB.out.cell (World.block_lt_of_cell? w _ hx173_3)).trans hx173_3
              replace hx173_4 := (HB.out.cell (World.block_lt_of_cell? w _ hx173_4)).trans hx173_4
              replace p173 := eq_true p173
              replace q173 := eq_true q173
              go_wp2_with (first | ((with_reducible refine gate_dst (N := 6) rfl ?_); refine box_event ?hg (N := 6) ?hd (cs := #[.int .i64 0, .int .i64 0, .int .i64 0, .int .i64 0, .int .i64 0]) (t := 107) ?hr ?_; (case hd => rfl); (case hg => rfl); (case hr => first | (go_simp; done) | (go_simp; rfl)); intro gb174 hg w42 hbox hb; have BK174 := Aside0.mk hbox; have GW174 := ge hg HB; have GE174 := ge hg HB; have NB172_174 := nl hg BK172; have NB174_172 := ng hg BK172; replace BK172 := bb BK172 hb; replace HB := bh HB hb; clear hb hbox hg; have hnb43 := NB174_172.out; have hnc43 := NB172_174.out; have hcz44_0 : w42.cell? ⟨gb174, 0, none⟩ = some (.int .i64 0) := (blk_cell BK174.out 0).trans rfl; have hcz44_1 : w42.cell? ⟨gb174, 1, none⟩ = some (.int .i64 0) := (blk_cell BK174.out 1).trans rfl; have hcz44_2 : w42.cell? ⟨gb174, 2, none⟩ = some (.int .i64 0) := (blk_cell BK174.out 2).trans rfl; have hcz44_3 : w42.cell? ⟨gb174, 3, none⟩ = some (.int .i64 0) := (blk_cell BK174.out 3).trans rfl; have hcz44_4 : w42.cell? ⟨gb174, 4, none⟩ = some (.int .i64 0) := (blk_cell BK174.out 4).trans rfl; have hfz44_0 := blk_frozen BK174.out 0; have hfz44_1 := blk_frozen BK174.out 1; have hfz44_2 := blk_frozen BK174.out 2; have hfz44_3 := blk_frozen BK174.out 3; have hfz44_4 := blk_frozen BK174.out 4; have hcz45_0 : w42.cell? ⟨gb172, 0, none⟩ = some (.int .i64 a0_0) := (blk_cell BK172.out 0).trans rfl; have hcz45_1 : w42.cell? ⟨gb172, 1, none⟩ = some (.int .i64 a0_1) := (blk_cell BK172.out 1).trans rfl; have hcz45_2 : w42.cell? ⟨gb172, 2, none⟩ = some (.int .i64 a0_2) := (blk_cell BK172.out 2).trans rfl; have hcz45_3 : w42.cell? ⟨gb172, 3, none⟩ = some (.int .i64 a0_3) := (blk_cell BK172.out 3).trans rfl; have hcz45_4 : w42.cell? ⟨gb172, 4, none⟩ = some (.int .i64 a0_4) := (blk_cell BK172.out 4).trans rfl; have hcz45_5 : w42.cell? ⟨gb172, 5, none⟩ = some (.slice (some ad173) l0_5.length c0_5) := (blk_cell BK172.out 5).trans rfl; have hfz45_0 := blk_frozen BK172.out 0; have hfz45_1 := blk_frozen BK172.out 1; have hfz45_2 := blk_frozen BK172.out 2; have hfz45_3 := blk_frozen BK172.out 3; have hfz45_4 := blk_frozen BK172.out 4; have hfz45_5 := blk_frozen BK172.out 5) | (go_at_call 109; (with_reducible refine (circuit_gate.calls k3 a0_0 a0_1 a0_2 a0_3 a0_4 _ _ l0_5 ((rd_T107 l0_5 x79_3).f0) ((rd_T107 l0_5 x79_3).f1) ((rd_T107 l0_5 x79_3).f2) ((rd_T107 l0_5 x79_3).f3) ((rd_T107 l0_5 x79_3).f4) x4_3 t175 t176 _ ?side1 ?side2 A35.out).mono ?_); (case side1 => exact Kd.C_below HR0_5.out (bq HB.out)); (case side2 => exact HC0_5.out); rintro e w46 ⟨rfl, hb⟩; replace BK172 := Aside0.mk (blk_below (g := gb172) (o := .cells #[.int .i64 a0_0, .int .i64 a0_1, .int .i64 a0_2, .int .i64 a0_3, .int .i64 a0_4, .slice (some ad173) l0_5.length c0_5] 45 (0, 0)) (by (with_reducible repeat refine bl ?_); refine blk_far ?_ NB172_174.out _; (with_reducible repeat refine bl ?_); refine blk_far ?_ NB172_174.out _; (with_reducible repeat refine bl ?_); refine blk_far ?_ NB172_174.out _; (with_reducible repeat refine bl ?_); refine blk_far ?_ NB172_174.out _; (with_reducible repeat refine bl ?_); refine blk_far ?_ NB172_174.out _; (with_reducible repeat refine bl ?_); exact BK172.out) hb); replace BK174 := Aside0.mk (blk_below (g := gb174) (o := .cells #[.int .i64 ((rd_T107 l0_5 x79_3).f0), .int .i64 ((rd_T107 l0_5 x79_3).f1), .int .i64 ((rd_T107 l0_5 x79_3).f2), .int .i64 ((rd_T107 l0_5 x79_3).f3), .int .i64 ((rd_T107 l0_5 x79_3).f4)] 107 (0, 0)) (by (with_reducible repeat refine bl ?_); refine blk_put (cs := #[.int .i64 ((rd_T107 l0_5 x79_3).f0), .int .i64 ((rd_T107 l0_5 x79_3).f1), .int .i64 ((rd_T107 l0_5 x79_3).f2), .int .i64 ((rd_T107 l0_5 x79_3).f3), .int .i64 0]) ?_ 4 _ rfl; (with_reducible repeat refine bl ?_); refine blk_put (cs := #[.int .i64 ((rd_T107 l0_5 x79_3).f0), .int .i64 ((rd_T107 l0_5 x79_3).f1), .int .i64 ((rd_T107 l0_5 x79_3).f2), .int .i64 0, .int .i64 0]) ?_ 3 _ rfl; (with_reducible repeat refine bl ?_); refine blk_put (cs := #[.int .i64 ((rd_T107 l0_5 x79_3).f0), .int .i64 ((rd_T107 l0_5 x79_3).f1), .int .i64 0, .int .i64 0, .int .i64 0]) ?_ 2 _ rfl; (with_reducible repeat refine bl ?_); refine blk_put (cs := #[.int .i64 ((rd_T107 l0_5 x79_3).f0), .int .i64 0, .int .i64 0, .int .i64 0, .int .i64 0]) ?_ 1 _ rfl; (with_reducible repeat refine bl ?_); refine blk_put (cs := #[.int .i64 0, .int .i64 0, .int .i64 0, .int .i64 0, .int .i64 0]) ?_ 0 _ rfl; (with_reducible repeat refine bl ?_); exact BK174.out) hb); replace HB := bh HB hb; (try clear hb); (try clear hb2); (try clear hk); (try clear hi)))
              repeat (go_quiet (first | ((with_reducible refine gate_dst (N := 6) rfl ?_); refine box_event ?hg (N := 6) ?hd (cs := #[.int .i64 0, .int .i64 0, .int .i64 0, .int .i64 0, .int .i64 0]) (t := 107) ?hr ?_; (case hd => rfl); (case hg => rfl); (case hr => first | (go_simp; done) | (go_simp; rfl)); intro gb174 hg w42 hbox hb; have BK174 := Aside0.mk hbox; have GW174 := ge hg HB; have GE174 := ge hg HB; have NB172_174 := nl hg BK172; have NB174_172 := ng hg BK172; replace BK172 := bb BK172 hb; replace HB := bh HB hb; clear hb hbox hg; have hnb43 := NB174_172.out; have hnc43 := NB172_174.out; have hcz44_0 : w42.cell? ⟨gb174, 0, none⟩ = some (.int .i64 0) := (blk_cell BK174.out 0).trans rfl; have hcz44_1 : w42.cell? ⟨gb174, 1, none⟩ = some (.int .i64 0) := (blk_cell BK174.out 1).trans rfl; have hcz44_2 : w42.cell? ⟨gb174, 2, none⟩ = some (.int .i64 0) := (blk_cell BK174.out 2).trans rfl; have hcz44_3 : w42.cell? ⟨gb174, 3, none⟩ = some (.int .i64 0) := (blk_cell BK174.out 3).trans rfl; have hcz44_4 : w42.cell? ⟨gb174, 4, none⟩ = some (.int .i64 0) := (blk_cell BK174.out 4).trans rfl; have hfz44_0 := blk_frozen BK174.out 0; have hfz44_1 := blk_frozen BK174.out 1; have hfz44_2 := blk_frozen BK174.out 2; have hfz44_3 := blk_frozen BK174.out 3; have hfz44_4 := blk_frozen BK174.out 4; have hcz45_0 : w42.cell? ⟨gb172, 0, none⟩ = some (.int .i64 a0_0) := (blk_cell BK172.out 0).trans rfl; have hcz45_1 : w42.cell? ⟨gb172, 1, none⟩ = some (.int .i64 a0_1) := (blk_cell BK172.out 1).trans rfl; have hcz45_2 : w42.cell? ⟨gb172, 2, none⟩ = some (.int .i64 a0_2) := (blk_cell BK172.out 2).trans rfl; have hcz45_3 : w42.cell? ⟨gb172, 3, none⟩ = some (.int .i64 a0_3) := (blk_cell BK172.out 3).trans rfl; have hcz45_4 : w42.cell? ⟨gb172, 4, none⟩ = some (.int .i64 a0_4) := (blk_cell BK172.out 4).trans rfl; have hcz45_5 : w42.cell? ⟨gb172, 5, none⟩ = some (.slice (some ad173) l0_5.length c0_5) := (blk_cell BK172.out 5).trans rfl; have hfz45_0 := blk_frozen BK172.out 0; have hfz45_1 := blk_frozen BK172.out 1; have hfz45_2 := blk_frozen BK172.out 2; have hfz45_3 := blk_frozen BK172.out 3; have hfz45_4 := blk_frozen BK172.out 4; have hfz45_5 := blk_frozen BK172.out 5) | (go_at_call 109; (with_reducible refine (circuit_gate.calls k3 a0_0 a0_1 a0_2 a0_3 a0_4 _ _ l0_5 ((rd_T107 l0_5 x79_3).f0) ((rd_T107 l0_5 x79_3).f1) ((rd_T107 l0_5 x79_3).f2) ((rd_T107 l0_5 x79_3).f3) ((rd_T107 l0_5 x79_3).f4) x4_3 t175 t176 _ ?side1 ?side2 A35.out).mono ?_); (case side1 => exact Kd.C_below HR0_5.out (bq HB.out)); (case side2 => exact HC0_5.out); rintro e w46 ⟨rfl, hb⟩; replace BK172 := Aside0.mk (blk_below (g := gb172) (o := .cells #[.int .i64 a0_0, .int .i64 a0_1, .int .i64 a0_2, .int .i64 a0_3, .int .i64 a0_4, .slice (some ad173) l0_5.length c0_5] 45 (0, 0)) (by (with_reducible repeat refine bl ?_); refine blk_far ?_ NB172_174.out _; (with_reducible repeat refine bl ?_); refine blk_far ?_ NB172_174.out _; (with_reducible repeat refine bl ?_); refine blk_far ?_ NB172_174.out _; (with_reducible repeat refine bl ?_); refine blk_far ?_ NB172_174.out _; (with_reducible repeat refine bl ?_); refine blk_far ?_ NB172_174.out _; (with_reducible repeat refine bl ?_); exact BK172.out) hb); replace BK174 := Aside0.mk (blk_below (g := gb174) (o := .cells #[.int .i64 ((rd_T107 l0_5 x79_3).f0), .int .i64 ((rd_T107 l0_5 x79_3).f1), .int .i64 ((rd_T107 l0_5 x79_3).f2), .int .i64 ((rd_T107 l0_5 x79_3).f3), .int .i64 ((rd_T107 l0_5 x79_3).f4)] 107 (0, 0)) (by (with_reducible repeat refine bl ?_); refine blk_put (cs := #[.int .i64 ((rd_T107 l0_5 x79_3).f0), .int .i64 ((rd_T107 l0_5 x79_3).f1), .int .i64 ((rd_T107 l0_5 x79_3).f2), .int .i64 ((rd_T107 l0_5 x79_3).f3), .int .i64 0]) ?_ 4 _ rfl; (with_reducible repeat refine bl ?_); refine blk_put (cs := #[.int .i64 ((rd_T107 l0_5 x79_3).f0), .int .i64 ((rd_T107 l0_5 x79_3).f1), .int .i64 ((rd_T107 l0_5 x79_3).f2), .int .i64 0, .int .i64 0]) ?_ 3 _ rfl; (with_reducible repeat refine bl ?_); refine blk_put (cs := #[.int .i64 ((rd_T107 l0_5 x79_3).f0), .int .i64 ((rd_T107 l0_5 x79_3).f1), .int .i64 0, .int .i64 0, .int .i64 0]) ?_ 2 _ rfl; (with_reducible repeat refine bl ?_); refine blk_put (cs := #[.int .i64 ((rd_T107 l0_5 x79_3).f0), .int .i64 0, .int .i64 0, .int .i64 0, .int .i64 0]) ?_ 1 _ rfl; (with_reducible repeat refine bl ?_); refine blk_put (cs := #[.int .i64 0, .int .i64 0, .int .i64 0, .int .i64 0, .int .i64 0]) ?_ 0 _ rfl; (with_reducible repeat refine bl ?_); exact BK174.out) hb); replace HB := bh HB hb; (try clear hb); (try clear hb2); (try clear hk); (try clear hi))); try go_wp2_with (first | ((with_reducible refine gate_dst (N := 6) rfl ?_); refine box_event ?hg (N := 6) ?hd (cs := #[.int .i64 0, .int .i64 0, .int .i64 0, .int .i64 0, .int .i64 0]) (t := 107) ?hr ?_; (case hd => rfl); (case hg => rfl); (case hr => first | (go_simp; done) | (go_simp; rfl)); intro gb174 hg w42 hbox hb; have BK174 := Aside0.mk hbox; have GW174 := ge hg HB; have GE174 := ge hg HB; have NB172_174 := nl hg BK172; have NB174_172 := ng hg BK172; replace BK172 := bb BK172 hb; replace HB := bh HB hb; clear hb hbox hg; have hnb43 := NB174_172.out; have hnc43 := NB172_174.out; have hcz44_0 : w42.cell? ⟨gb174, 0, none⟩ = some (.int .i64 0) := (blk_cell BK174.out 0).trans rfl; have hcz44_1 : w42.cell? ⟨gb174, 1, none⟩ = some (.int .i64 0) := (blk_cell BK174.out 1).trans rfl; have hcz44_2 : w42.cell? ⟨gb174, 2, none⟩ = some (.int .i64 0) := (blk_cell BK174.out 2).trans rfl; have hcz44_3 : w42.cell? ⟨gb174, 3, none⟩ = some (.int .i64 0) := (blk_cell BK174.out 3).trans rfl; have hcz44_4 : w42.cell? ⟨gb174, 4, none⟩ = some (.int .i64 0) := (blk_cell BK174.out 4).trans rfl; have hfz44_0 := blk_frozen BK174.out 0; have hfz44_1 := blk_frozen BK174.out 1; have hfz44_2 := blk_frozen BK174.out 2; have hfz44_3 := blk_frozen BK174.out 3; have hfz44_4 := blk_frozen BK174.out 4; have hcz45_0 : w42.cell? ⟨gb172, 0, none⟩ = some (.int .i64 a0_0) := (blk_cell BK172.out 0).trans rfl; have hcz45_1 : w42.cell? ⟨gb172, 1, none⟩ = some (.int .i64 a0_1) := (blk_cell BK172.out 1).trans rfl; have hcz45_2 : w42.cell? ⟨gb172, 2, none⟩ = some (.int .i64 a0_2) := (blk_cell BK172.out 2).trans rfl; have hcz45_3 : w42.cell? ⟨gb172, 3, none⟩ = some (.int .i64 a0_3) := (blk_cell BK172.out 3).trans rfl; have hcz45_4 : w42.cell? ⟨gb172, 4, none⟩ = some (.int .i64 a0_4) := (blk_cell BK172.out 4).trans rfl; have hcz45_5 : w42.cell? ⟨gb172, 5, none⟩ = some (.slice (some ad173) l0_5.length c0_5) := (blk_cell BK172.out 5).trans rfl; have hfz45_0 := blk_frozen BK172.out 0; have hfz45_1 := blk_frozen BK172.out 1; have hfz45_2 := blk_frozen BK172.out 2; have hfz45_3 := blk_frozen BK172.out 3; have hfz45_4 := blk_frozen BK172.out 4; have hfz45_5 := blk_frozen BK172.out 5) | (go_at_call 109; (with_reducible refine (circuit_gate.calls k3 a0_0 a0_1 a0_2 a0_3 a0_4 _ _ l0_5 ((rd_T107 l0_5 x79_3).f0) ((rd_T107 l0_5 x79_3).f1) ((rd_T107 l0_5 x79_3).f2) ((rd_T107 l0_5 x79_3).f3) ((rd_T107 l0_5 x79_3).f4) x4_3 t175 t176 _ ?side1 ?side2 A35.out).mono ?_); (case side1 => exact Kd.C_below HR0_5.out (bq HB.out)); (case side2 => exact HC0_5.out); rintro e w46 ⟨rfl, hb⟩; replace BK172 := Aside0.mk (blk_below (g := gb172) (o := .cells #[.int .i64 a0_0, .int .i64 a0_1, .int .i64 a0_2, .int .i64 a0_3, .int .i64 a0_4, .slice (some ad173) l0_5.length c0_5] 45 (0, 0)) (by (with_reducible repeat refine bl ?_); refine blk_far ?_ NB172_174.out _; (with_reducible repeat refine bl ?_); refine blk_far ?_ NB172_174.out _; (with_reducible repeat refine bl ?_); refine blk_far ?_ NB172_174.out _; (with_reducible repeat refine bl ?_); refine blk_far ?_ NB172_174.out _; (with_reducible repeat refine bl ?_); refine blk_far ?_ NB172_174.out _; (with_reducible repeat refine bl ?_); exact BK172.out) hb); replace BK174 := Aside0.mk (blk_below (g := gb174) (o := .cells #[.int .i64 ((rd_T107 l0_5 x79_3).f0), .int .i64 ((rd_T107 l0_5 x79_3).f1), .int .i64 ((rd_T107 l0_5 x79_3).f2), .int .i64 ((rd_T107 l0_5 x79_3).f3), .int .i64 ((rd_T107 l0_5 x79_3).f4)] 107 (0, 0)) (by (with_reducible repeat refine bl ?_); refine blk_put (cs := #[.int .i64 ((rd_T107 l0_5 x79_3).f0), .int .i64 ((rd_T107 l0_5 x79_3).f1), .int .i64 ((rd_T107 l0_5 x79_3).f2), .int .i64 ((rd_T107 l0_5 x79_3).f3), .int .i64 0]) ?_ 4 _ rfl; (with_reducible repeat refine bl ?_); refine blk_put (cs := #[.int .i64 ((rd_T107 l0_5 x79_3).f0), .int .i64 ((rd_T107 l0_5 x79_3).f1), .int .i64 ((rd_T107 l0_5 x79_3).f2), .int .i64 0, .int .i64 0]) ?_ 3 _ rfl; (with_reducible repeat refine bl ?_); refine blk_put (cs := #[.int .i64 ((rd_T107 l0_5 x79_3).f0), .int .i64 ((rd_T107 l0_5 x79_3).f1), .int .i64 0, .int .i64 0, .int .i64 0]) ?_ 2 _ rfl; (with_reducible repeat refine bl ?_); refine blk_put (cs := #[.int .i64 ((rd_T107 l0_5 x79_3).f0), .int .i64 0, .int .i64 0, .int .i64 0, .int .i64 0]) ?_ 1 _ rfl; (with_reducible repeat refine bl ?_); refine blk_put (cs := #[.int .i64 0, .int .i64 0, .int .i64 0, .int .i64 0, .int .i64 0]) ?_ 0 _ rfl; (with_reducible repeat refine bl ?_); exact BK174.out) hb); replace HB := bh HB hb; (try clear hb); (try clear hb2); (try clear hk); (try clear hi))))
              go_ret2
              exact ⟨by first | rfl | (simp [errW_none, errW_some] <;> rfl) | (simp [*, errW_none, errW_some] <;> rfl), bq HB.out⟩
            ·rw [if_neg c34] at H
             exact absurd H (by simp)
           ·rw [if_neg c33] at H
            exact absurd H (by simp)
          ·rw [if_neg c32] at H
           have c32b0 : decide (x79_3 < (l0_5.length : Int)) = false := decide_eq_false c32
           clear c32
           simp only [Option.some.injEq, Prod.mk.injEq] at H
           obtain ⟨rfl, rfl⟩ := H
           go_wp2
           repeat (go_quiet (fail); try go_wp2)
           go_ret2
           exact ⟨by first | rfl | (simp [errW_none, errW_some] <;> rfl) | (simp [*, errW_none, errW_some] <;> rfl), bq HB.out⟩

end Go.Proofs.Ythgiifakcgjlaaa.P
