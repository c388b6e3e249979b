/- Written by a program of this session: functions that the law reaches, as Lean functions, and that the code comes to their answers. Conditions: those that each theorem names. -/
import Derived.Test.YtceneggampgboaaPx0
import Derived.Test.YtceneggampgboaaPx12
import Derived.Test.YtceneggampgboaaPx13
namespace Go.Proofs.Ytceneggampgboaa.P
open Go.RowKit Go.Proofs.YtceneggampgboaaX Go.Proofs.YtceneggampgboaaW.PrintWords Go.Proofs.YtceneggampgboaaW.PrintLast Go.Proofs.YtceneggampgboaaW.PrintMore
attribute [local go_sem] max2_int min2_int max_two min_two max_three min_three max_four min_four   -- for this text's walks alone
set_option linter.unusedVariables false
set_option linter.unusedSimpArgs false

/-! ### steepleref03_Both: function 30 -/
mutual
def steepleref03_Both.j0 : Nat → Int → Bool → Int → List (S44) → Int → List (S44) → Option (Int × (List (S44)) × Int)
 | 0, _, _, _, _, _, _ => none
 | k + 1, x2, x23, x621000, x621001, x622000, x622001 => if x23 = true then (some (0, ([] : List (S44)), 6)) else (steepleref03_Both.l0 k x2 ([] : List (S44)) 0 x621000 x621001 x622000 x622001)
def steepleref03_Both.l0 : Nat → Int → List (S44) → Int → Int → List (S44) → Int → List (S44) → Option (Int × (List (S44)) × Int)
 | 0, _, _, _, _, _, _, _ => none
 | k + 1, x2, x8, x9, x621000, x621001, x622000, x622001 => if x9 < (x621001.length : Int) then (if x2 = 0 then (if 0 ≤ x9 then (if x9 < (x622001.length : Int) then ((steepleref02_Add.f ((rd_T44 x621001 x9).f0) ((rd_T44 x621001 x9).f1) ((rd_T44 x622001 x9).f0) ((rd_T44 x622001 x9).f1)).bind fun bt625 => (if x8.length < 8796093022208 then (steepleref03_Both.l0 k x2 (x8 ++ [(⟨bt625.1, bt625.2⟩ : S44)]) (wrap64 (x9 + 1)) x621000 x621001 x622000 x622001) else (none))) else (none)) else (none)) else (if 0 ≤ x9 then (if x9 < (x622001.length : Int) then ((steepleref02_Product.f k ((rd_T44 x621001 x9).f0) ((rd_T44 x621001 x9).f1) ((rd_T44 x622001 x9).f0) ((rd_T44 x622001 x9).f1)).bind fun bt632 => (if x8.length < 8796093022208 then (steepleref03_Both.l0 k x2 (x8 ++ [(⟨bt632.1, bt632.2⟩ : S44)]) (wrap64 (x9 + 1)) x621000 x621001 x622000 x622001) else (none))) else (none)) else (none))) else (some (x621000, x8, 0))
end
def steepleref03_Both.f (k : Nat) (a0_0 : Int) (l0_1 : List (S44)) (a1_0 : Int) (l1_1 : List (S44)) (a2 : Int) : Option (Int × (List (S44)) × Int) := if a0_0 = a1_0 then (steepleref03_Both.j0 k a2 ((l0_1.length : Int) != (l1_1.length : Int)) a0_0 l0_1 a1_0 l1_1) else (steepleref03_Both.j0 k a2 true a0_0 l0_1 a1_0 l1_1)
theorem steepleref03_Both.mono_l : ∀ k, (∀ y0 y1 y2 y3 y4 y5, LeO (steepleref03_Both.j0 k y0 y1 y2 y3 y4 y5) (steepleref03_Both.j0 (k + 1) y0 y1 y2 y3 y4 y5)) ∧ (∀ y0 y1 y2 y3 y4 y5 y6, LeO (steepleref03_Both.l0 k y0 y1 y2 y3 y4 y5 y6) (steepleref03_Both.l0 (k + 1) y0 y1 y2 y3 y4 y5 y6))
 | 0 => ⟨fun _ _ _ _ _ _ r h => by simp [steepleref03_Both.j0] at h, fun _ _ _ _ _ _ _ r h => by simp [steepleref03_Both.l0] at h⟩
 | k + 1 => by
  obtain ⟨ih0, ih1⟩ := steepleref03_Both.mono_l k
  refine ⟨?_, ?_⟩
  ·intro y0 y1 y2 y3 y4 y5
   unfold steepleref03_Both.j0
   repeat' first
   | (with_reducible exact ih0 _ _ _ _ _ _)
   | (with_reducible exact ih1 _ _ _ _ _ _ _)
   | (with_reducible exact steepleref02_Product.mono _ _ _ _ _)
   | (with_reducible exact LeO.refl _)
   | (with_reducible exact LeO.none _)
   | (with_reducible refine LeO.ite ?_ ?_)
   | (with_reducible refine LeO.bind ?_ (fun _ => ?_))
   | exact ih0 _ _ _ _ _ _
   | exact ih1 _ _ _ _ _ _ _
   | exact steepleref02_Product.mono _ _ _ _ _
   | exact LeO.none _
   | refine LeO.ite ?_ ?_
   | refine LeO.bind ?_ (fun _ => ?_)
  ·intro y0 y1 y2 y3 y4 y5 y6
   unfold steepleref03_Both.l0
   repeat' first
   | (with_reducible exact ih0 _ _ _ _ _ _)
   | (with_reducible exact ih1 _ _ _ _ _ _ _)
   | (with_reducible exact steepleref02_Product.mono _ _ _ _ _)
   | (with_reducible exact LeO.refl _)
   | (with_reducible exact LeO.none _)
   | (with_reducible refine LeO.ite ?_ ?_)
   | (with_reducible refine LeO.bind ?_ (fun _ => ?_))
   | exact ih0 _ _ _ _ _ _
   | exact ih1 _ _ _ _ _ _ _
   | exact steepleref02_Product.mono _ _ _ _ _
   | exact LeO.none _
   | refine LeO.ite ?_ ?_
   | refine LeO.bind ?_ (fun _ => ?_)
theorem steepleref03_Both.mono : ∀ a0 a1 a2 a3 a4 k, LeO (steepleref03_Both.f k a0 a1 a2 a3 a4) (steepleref03_Both.f (k + 1) a0 a1 a2 a3 a4) := by
 intro a0 a1 a2 a3 a4 k
 obtain ⟨ih0, ih1⟩ := steepleref03_Both.mono_l k
 unfold steepleref03_Both.f
 repeat' first
   | (with_reducible exact ih0 _ _ _ _ _ _)
   | (with_reducible exact ih1 _ _ _ _ _ _ _)
   | (with_reducible exact steepleref02_Product.mono _ _ _ _ _)
   | (with_reducible exact LeO.refl _)
   | (with_reducible exact LeO.none _)
   | (with_reducible refine LeO.ite ?_ ?_)
   | (with_reducible refine LeO.bind ?_ (fun _ => ?_))
   | exact ih0 _ _ _ _ _ _
   | exact ih1 _ _ _ _ _ _ _
   | exact steepleref02_Product.mono _ _ _ _ _
   | exact LeO.none _
   | refine LeO.ite ?_ ?_
   | refine LeO.bind ?_ (fun _ => ?_)
def steepleref03_Both.T8 : Bool × List (List Nat × List Nat) := (true, [([], []), ([], []), ([1], [1]), ([], []), ([2, 3], [2, 3]), ([4], [4]), ([], []), ([6], [6]), ([], []), ([7, 8], [7, 8]), ([9], [9]), ([5, 10], [5, 10]), ([11], [11]), ([0, 12, 11], [0, 12]), ([13, 13, 0, 1, 2, 3, 4, 5, 6, 7, 8, 9, 10, 11, 12, 13], [0, 13])])
def steepleref03_Both.B8 : List Nat := [0, 0, 2, 0, 14, 30, 0, 64, 0, 448, 960, 2046, 4094, 8191, 16383]
theorem steepleref03_Both.tab8 : rtab .any (opsOf Try.f30 8) = steepleref03_Both.T8 := by kernel_rfl
theorem steepleref03_Both.bits8 : waitsOk steepleref03_Both.T8.2 steepleref03_Both.B8 = true := by kernel_rfl
def steepleref03_Both.T9 : Bool × List (List Nat × List Nat) := (true, [([], []), ([], []), ([1], [1]), ([], []), ([2, 3], [2, 3]), ([4], [4]), ([], []), ([6], [6]), ([], []), ([7, 8], [7, 8]), ([9], [9]), ([5, 10], [5, 10]), ([11], [11]), ([0, 12, 11], [0, 12]), ([13, 13, 0, 1, 2, 3, 4, 5, 6, 7, 8, 9, 10, 11, 12, 13], [0, 13])])
def steepleref03_Both.B9 : List Nat := [0, 0, 2, 0, 14, 30, 0, 64, 0, 448, 960, 2046, 4094, 8191, 16383]
theorem steepleref03_Both.tab9 : rtab .any (opsOf Try.f30 9) = steepleref03_Both.T9 := by kernel_rfl
theorem steepleref03_Both.bits9 : waitsOk steepleref03_Both.T9.2 steepleref03_Both.B9 = true := by kernel_rfl
set_option maxHeartbeats 8000000 in
set_option maxRecDepth 100000 in
theorem steepleref03_Both.calls (k : Nat) (a0_0 : Int) (A0_1 : Option Addr) (c0_1 : Nat) (l0_1 : List (S44)) (a1_0 : Int) (A1_1 : Option Addr) (c1_1 : Nat) (l1_1 : List (S44)) (a2 : Int) (r1 : Int) (r2 : List (S44)) (r3 : Int) (w : World) (hr0_1 : Kd.C k44 w A0_1 l0_1.length l0_1) (hc0_1 : l0_1.length ≤ c0_1) (hr1_1 : Kd.C k44 w A1_1 l1_1.length l1_1) (hc1_1 : l1_1.length ≤ c1_1) (h : steepleref03_Both.f k a0_0 l0_1 a1_0 l1_1 a2 = some (r1, r2, r3)) :
  Calls Try.prog 30 #[.agg #[.int .i64 a0_0, .slice A0_1 l0_1.length c0_1], .agg #[.int .i64 a1_0, .slice A1_1 l1_1.length c1_1], .int .i64 a2] w fun e w' => ∃ v1_ : Value, e = .returned (.tuple #[.agg #[.int .i64 r1, v1_], .int .i64 r3]) ∧ Kd.R k44 44 w' w.heap.size (fun _ => True) v1_ r2 ∧ Below w.heap.size w w' := by
 have hu37 := Try.underlying37
 have hu44 := Try.underlying44
 have HR0_1 := Aside0.mk hr0_1
 have HC0_1 := Aside0.mk hc0_1
 clear hr0_1 hc0_1
 have HR1_1 := Aside0.mk hr1_1
 have HC1_1 := Aside0.mk hc1_1
 clear hr1_1 hc1_1
 have HB := Aside0.mk (Below.refl w.heap.size w)
 have H : (if a0_0 = a1_0 then (steepleref03_Both.j0 k a2 ((l0_1.length : Int) != (l1_1.length : Int)) a0_0 l0_1 a1_0 l1_1) else (steepleref03_Both.j0 k a2 true a0_0 l0_1 a1_0 l1_1)) = some (r1, r2, r3) := h
 clear h
 have HC4 := Aside0.mk H
 clear H
 go_enter Try.func30, Try.ntmps30
 go_upto_region 1 with (first | ((with_reducible refine gate_dst (N := 3) rfl ?_); (try (refine gate_guard (by rfl) ?_; dsimp only)); refine box_event ?hg (N := 3) ?hd (cs := #[.int .i64 a0_0, .slice A0_1 l0_1.length c0_1]) (t := 37) ?hr ?_; (case hd => rfl); (case hg => rfl); (case hr => first | (go_simp; done) | (go_simp; rfl)); intro gb620 hg w5 hbox hb; have BK620 := Aside0.mk hbox; have GW620 := ge hg HB; have GE620 := ge hg HB; replace HB := bh HB hb; clear hb hbox hg) | ((with_reducible refine gate_dst (N := 4) rfl ?_); (try (refine gate_guard (by rfl) ?_; dsimp only)); refine box_event ?hg (N := 4) ?hd (cs := #[.int .i64 a1_0, .slice A1_1 l1_1.length c1_1]) (t := 37) ?hr ?_; (case hd => rfl); (case hg => rfl); (case hr => first | (go_simp; done) | (go_simp; rfl)); intro gb621 hg w6 hbox hb; have BK621 := Aside0.mk hbox; have GW621 := ge hg HB; have GE621 := ge hg HB; have NB620_621 := nl hg BK620; have NB621_620 := ng hg BK620; replace BK620 := bb BK620 hb; replace HB := bh HB hb; clear hb hbox hg) | ((with_reducible refine gate_dst (N := 6) rfl ?_); (try (refine gate_guard (by rfl) ?_; dsimp only)); refine box_event ?hg (N := 6) ?hd (cs := #[.int .i64 0, .slice none 0 0]) (t := 37) ?hr ?_; (case hd => rfl); (case hg => rfl); (case hr => first | (go_simp; done) | (go_simp; rfl)); intro gb622 hg w7 hbox hb; have BK622 := Aside0.mk hbox; have GW622 := ge hg HB; have GE622 := ge hg HB; have NB620_622 := nl hg BK620; have NB622_620 := ng hg BK620; have NB621_622 := nl hg BK621; have NB622_621 := ng hg BK621; replace BK620 := bb BK620 hb; replace BK621 := bb BK621 hb; replace HB := bh HB hb; clear hb hbox hg))
 (try simp only [Act.put, List.setIfInBounds_toArray, List.set_cons_zero, List.set_cons_succ])
 go_cut [23] (fun v23 wc => ∃ (kq : Nat) (x23_3 : Bool), v23 = .bool x23_3 ∧ Aside0 (steepleref03_Both.j0 kq a2 x23_3 a0_0 l0_1 a1_0 l1_1 = some (r1, r2, r3)) ∧ Aside0 (kq ≤ k) ∧ Aside0 (wc.heap[gb620]? = some (.cells #[.int .i64 a0_0, (.slice A0_1 l0_1.length c0_1)] 37 (0, 0))) ∧ Aside0 (wc.heap[gb621]? = some (.cells #[.int .i64 a1_0, (.slice A1_1 l1_1.length c1_1)] 37 (0, 0))) ∧ Aside0 (wc.heap[gb622]? = some (.cells #[.int .i64 0, (.slice none 0 0)] 37 (0, 0))) ∧ Aside0 (Below w.heap.size w wc))
 case first =>
  have H := HC4.out
  clear HC4
  by_cases c8 : a0_0 = a1_0
  ·rw [if_pos c8] at H
   have c8b0 : (a0_0 == a1_0) = true := beq_iff_eq.mpr c8
   have c8b1 : (a0_0 != a1_0) = false := bne_eq_false_iff_eq.mpr c8
   clear c8
   (first | rw [c8b0] | (simp only [i64_w, i32_w]; rw [c8b0]) | skip)
   have H' := Aside0.mk H
   clear H
   have hnb9 := NB620_621.out
   have hnc9 := NB621_620.out
   have hnb10 := NB620_622.out
   have hnc10 := NB622_620.out
   obtain ⟨hcz11_0, hcz11_1⟩ := zc2 BK620
   obtain ⟨hfz11_0, hfz11_1⟩ := zf2 BK620
   have hnb12 := NB621_622.out
   have hnc12 := NB622_621.out
   obtain ⟨hcz13_0, hcz13_1⟩ := zc2 BK621
   obtain ⟨hfz13_0, hfz13_1⟩ := zf2 BK621
   go_wp2
   go_meet
   case rel => exact ⟨_, (((l0_1.length : Int) != (l1_1.length : Int))), (by first | rfl | (simp; done) | (simp [*]; done)), H', ⟨by first | omega | exact Nat.le_refl _⟩, ⟨bk BK620.out⟩, ⟨bk BK621.out⟩, ⟨bk BK622.out⟩, ⟨bq HB.out⟩⟩
  ·rw [if_neg c8] at H
   have c8b0 : (a0_0 == a1_0) = false := beq_eq_false_iff_ne.mpr c8
   have c8b1 : (a0_0 != a1_0) = true := bne_iff_ne.mpr c8
   (first | rw [c8b0] | (simp only [i64_w, i32_w]; rw [c8b0]) | skip)
   have H' := Aside0.mk H
   clear H
   have hnb14 := NB620_621.out
   have hnc14 := NB621_620.out
   have hnb15 := NB620_622.out
   have hnc15 := NB622_620.out
   obtain ⟨hcz16_0, hcz16_1⟩ := zc2 BK620
   obtain ⟨hfz16_0, hfz16_1⟩ := zf2 BK620
   have hnb17 := NB621_622.out
   have hnc17 := NB622_621.out
   obtain ⟨hcz18_0, hcz18_1⟩ := zc2 BK621
   obtain ⟨hfz18_0, hfz18_1⟩ := zf2 BK621
   go_wp2
   go_meet
   case rel => exact ⟨_, (true), (by first | rfl | (simp; done) | (simp [*]; done)), H', ⟨by first | omega | exact Nat.le_refl _⟩, ⟨bk BK620.out⟩, ⟨bk BK621.out⟩, ⟨bk BK622.out⟩, ⟨bq HB.out⟩⟩
 case rest =>
  clear HC4
  try clear c1
  try clear p2
  try clear c3
  try clear c8
  try clear c8b0
  try clear c8b1
  try clear c9
  try clear c10
  try clear c12
  try clear c14
  try clear c15
  try clear c17
  try clear hcz11_0
  try clear hcz11_1
  try clear hcz13_0
  try clear hcz13_1
  try clear hcz16_0
  try clear hcz16_1
  try clear hcz18_0
  try clear hcz18_1
  try clear hfz11_0
  try clear hfz11_1
  try clear hfz13_0
  try clear hfz13_1
  try clear hfz16_0
  try clear hfz16_1
  try clear hfz18_0
  try clear hfz18_1
  obtain ⟨kq, x23_3, rfl, HA, HJ3, BK620, BK621, BK622, HB⟩ := hcut
  cases kq with
  | zero => exact absurd HA.out (by simp [steepleref03_Both.j0])
  | succ kj3 =>
   have H := HA.out
   clear HA
   simp only [steepleref03_Both.j0] at H
   by_cases c19 : x23_3 = true
   ·subst c19
    have H1 : (some (0, ([] : List (S44)), 6)) = some (r1, r2, r3) := by rw [if_pos rfl] at H; exact H
    clear H
    have H := H1
    clear H1
    simp only [Option.some.injEq, Prod.mk.injEq] at H
    obtain ⟨rfl, rfl, rfl⟩ := H
    have hnb20 := NB622_620.out
    have hnc20 := NB620_622.out
    have hnb21 := NB622_621.out
    have hnc21 := NB621_622.out
    obtain ⟨hcz22_0, hcz22_1⟩ := zc2 BK622
    obtain ⟨hfz22_0, hfz22_1⟩ := zf2 BK622
    go_wp2
    refine bodyPost_ret (results_ct rfl _ _ gb622 37 #[.int .i64 0, .slice none 0 0] (0, 0) _ rfl (by (with_reducible repeat refine bl ?_); refine blk_put (cs := #[.int .i64 0, .slice none 0 0]) ?_ 1 _ rfl; (with_reducible repeat refine bl ?_); refine blk_put (cs := #[.int .i64 0, .slice none 0 0]) ?_ 0 _ rfl; (with_reducible repeat refine bl ?_); exact BK622.out) Try.underlying37 rfl (by kernel_rfl)) rfl ?_
    exact ⟨_, by first | rfl | (simp [errW_none, errW_some] <;> rfl) | (simp [*, errW_none, errW_some] <;> rfl), by first | exact Kd.R_nil _ _ _ _ _ | exact Kd.N_nil _ _ _ _ _ | exact Kd.V_nil _ _ _ _ _ | exact Kd.Q_nil _ _ _ _ _ | exact Kd.S_nil _ _ _ _ _, bq HB.out⟩
   ·replace c19 := Bool.eq_false_iff.mpr c19
    subst c19
    have H1 : (steepleref03_Both.l0 kj3 a2 ([] : List (S44)) 0 a0_0 l0_1 a1_0 l1_1) = some (r1, r2, r3) := by rw [if_neg (show ¬ (false = true) by decide)] at H; exact H
    clear H
    have H := H1
    clear H1
    have H' := Aside0.mk H
    clear H
    go_wp2
    go_loopg [8, 9] kj3 (fun kq v8 v9 w' => ∃ (x8_2 : List (S44)) (x9_2 : Int), v9 = .int .i64 x9_2 ∧ Aside0 (steepleref03_Both.l0 kq a2 x8_2 x9_2 a0_0 l0_1 a1_0 l1_1 = some (r1, r2, r3)) ∧ Aside0 (kq ≤ kj3) ∧ Aside0 (Kd.R k44 44 w' w.heap.size (fun _ => True) v8 x8_2) ∧ Aside0 (w'.heap[gb620]? = some (.cells #[.int .i64 a0_0, (.slice A0_1 l0_1.length c0_1)] 37 (0, 0))) ∧ Aside0 (w'.heap[gb621]? = some (.cells #[.int .i64 a1_0, (.slice A1_1 l1_1.length c1_1)] 37 (0, 0))) ∧ Aside0 (w'.heap[gb622]? = some (.cells #[.int .i64 0, (.slice none 0 0)] 37 (0, 0))) ∧ Aside0 (Below w.heap.size w w'))
    case atStart => exact ⟨(([] : List (S44))), (0), (by first | rfl | (simp; done) | (simp [*]; done)), H', ⟨Nat.le_refl _⟩, ⟨by first | exact Kd.R_nil _ _ _ _ _ | exact Kd.N_nil _ _ _ _ _ | exact Kd.V_nil _ _ _ _ _ | exact Kd.Q_nil _ _ _ _ _ | exact Kd.S_nil _ _ _ _ _⟩, ⟨bk BK620.out⟩, ⟨bk BK621.out⟩, ⟨bk BK622.out⟩, ⟨bq HB.out⟩⟩
    case round =>
     clear H'
     try clear c1
     try clear c2
     try clear p2
     try clear c3
     try clear c8
     try clear c8b0
     try clear c8b1
     try clear c9
     try clear c10
     try clear c12
     try clear c14
     try clear c15
     try clear c17
     try clear c19
     try clear c20
     try clear c21
     try clear hcz11_0
     try clear hcz11_1
     try clear hcz13_0
     try clear hcz13_1
     try clear hcz16_0
     try clear hcz16_1
     try clear hcz18_0
     try clear hcz18_1
     try clear hcz22_0
     try clear hcz22_1
     try clear hfz11_0
     try clear hfz11_1
     try clear hfz13_0
     try clear hfz13_1
     try clear hfz16_0
     try clear hfz16_1
     try clear hfz18_0
     try clear hfz18_1
     try clear hfz22_0
     try clear hfz22_1
     try clear p2
     obtain ⟨x8_2, x9_2, rfl, HA, HK2, HO_8, BK620, BK621, BK622, HB⟩ := hrel
     cases gk with
     | zero => exact absurd HA.out (by simp [steepleref03_Both.l0])
     | succ k2 =>
      have H := HA.out
      clear HA
      simp only [steepleref03_Both.l0] at H
      by_cases c23 : x9_2 < (l0_1.length : Int)
      ·rw [if_pos c23] at H
       have c23b0 : decide (x9_2 < (l0_1.length : Int)) = true := decide_eq_true c23
       clear c23
       by_cases c24 : a2 = 0
       ·rw [if_pos c24] at H
        have c24b0 : (a2 == 0) = true := beq_iff_eq.mpr c24
        have c24b1 : (a2 != 0) = false := bne_eq_false_iff_eq.mpr c24
        clear c24
        by_cases c25 : 0 ≤ x9_2
        ·rw [if_pos c25] at H
         have c25b0 : decide (0 ≤ x9_2) = true := decide_eq_true c25
         clear c25
         by_cases c26 : x9_2 < (l1_1.length : Int)
         ·rw [if_pos c26] at H
          have c26b0 : decide (x9_2 < (l1_1.length : Int)) = true := decide_eq_true c26
          clear c26
          replace H := Option.bind_eq_some_iff.mp H
          obtain ⟨⟨t625, t626⟩, A270, H⟩ := H
          replace H : (if x8_2.length < 8796093022208 then (steepleref03_Both.l0 k2 a2 (x8_2 ++ [(⟨t625, t626⟩ : S44)]) (wrap64 (x9_2 + 1)) a0_0 l0_1 a1_0 l1_1) else (none)) = some (r1, r2, r3) := H
          have A27 := Aside0.mk A270
          clear A270
          by_cases c28 : x8_2.length < 8796093022208
          ·rw [if_pos c28] at H
           have LMc28 := Aside0.mk c28
           clear c28
           obtain ⟨y627, hy627⟩ : ∃ y_ : List (S44), y_ = (x8_2 ++ [(⟨t625, t626⟩ : S44)]) := ⟨_, rfl⟩
           replace H : (steepleref03_Both.l0 k2 a2 y627 (wrap64 (x9_2 + 1)) a0_0 l0_1 a1_0 l1_1) = some (r1, r2, r3) := by first | (rw [hy627]; with_reducible exact H) | (have H2_ := (Option.bind_some _ _).symm.trans H; rw [hy627]; with_reducible exact H2_) | (have H2_ := (Option.bind_some _ _).symm.trans H; with_reducible exact H2_) | with_reducible exact H | (rw [hy627]; exact H) | exact H
           have Ny627 := Aside0.mk hy627
           clear hy627
           have H' := Aside0.mk H
           clear H
           have hnb29 := NB620_621.out
           have hnc29 := NB621_620.out
           have hnb30 := NB620_622.out
           have hnc30 := NB622_620.out
           obtain ⟨hcz31_0, hcz31_1⟩ := zc2 BK620
           obtain ⟨hfz31_0, hfz31_1⟩ := zf2 BK620
           try go_wp2
           replace HO_8 := Aside0.mk (Kd.R_drew HO_8.out)
           replace BK620 := Aside0.mk (blk_drew BK620.out)
           replace BK621 := Aside0.mk (blk_drew BK621.out)
           replace BK622 := Aside0.mk (blk_drew BK622.out)
           replace HB := Aside0.mk (below_drew1 HB.out)
           have p623 : 0 ≤ (x9_2 : Int) := of_decide_eq_true (by first | (with_reducible assumption) | assumption)
           have q623 : x9_2 < (l0_1.length : Int) := of_decide_eq_true (by first | (with_reducible assumption) | assumption)
           obtain ⟨ad623, e623, hx623_0, hx623_1⟩ := at_T44 HR0_1.out x9_2 p623 q623
           have hw623_1 := hx623_1
           have hw623_0 := hx623_0
           cases e623
           replace hx623_0 := (HB.out.cell (World.block_lt_of_cell? w _ hx623_0)).trans hx623_0
           replace hx623_1 := (HB.out.cell (World.block_lt_of_cell? w _ hx623_1)).trans hx623_1
           replace p623 := eq_true p623
           replace q623 := eq_true q623
           have p624 : 0 ≤ (x9_2 : Int) := of_decide_eq_true (by first | (with_reducible assumption) | assumption)
           have q624 : x9_2 < (l1_1.length : Int) := of_decide_eq_true (by first | (with_reducible assumption) | assumption)
           obtain ⟨ad624, e624, hx624_0, hx624_1⟩ := at_T44 HR1_1.out x9_2 p624 q624
           have hw624_1 := hx624_1
           have hw624_0 := hx624_0
           cases e624
           replace hx624_0 := (HB.out.cell (World.block_lt_of_cell? w _ hx624_0)).trans hx624_0
           replace hx624_1 := (HB.out.cell (World.block_lt_of_cell? w _ hx624_1)).trans hx624_1
           replace p624 := eq_true p624
           replace q624 := eq_true q624
           refine start_ (n := 15) (S := fun w' => w'.cell? ⟨gb620, 0, none⟩ = some (.int .i64 a0_0) ∧ w'.cell? ⟨gb620, 1, none⟩ = some (.slice (some ad623) l0_1.length c0_1) ∧ w'.cell? ⟨gb621, 0, none⟩ = some (.int .i64 a1_0) ∧ w'.cell? ⟨gb621, 1, none⟩ = some (.slice (some ad624) l1_1.length c1_1) ∧ w'.cell? (ad623.add ((x9_2).toNat * 2)) = some (.int .u64 ((rd_T44 l0_1 x9_2).f0)) ∧ w'.cell? ⟨(ad623.add ((x9_2).toNat * 2)).block, (ad623.add ((x9_2).toNat * 2)).off + 1, none⟩ = some (.int .u64 ((rd_T44 l0_1 x9_2).f1)) ∧ w'.cell? (ad624.add ((x9_2).toNat * 2)) = some (.int .u64 ((rd_T44 l1_1 x9_2).f0)) ∧ w'.cell? ⟨(ad624.add ((x9_2).toNat * 2)).block, (ad624.add ((x9_2).toNat * 2)).off + 1, none⟩ = some (.int .u64 ((rd_T44 l1_1 x9_2).f1))) (ds := []) #[false, false, false, false, false, false, false, false, false, false, false, false, false, false, false] (by kernel_rfl) rfl rfl ⟨(blk_cell BK620.out 0).trans rfl, (blk_cell BK620.out 1).trans rfl, (blk_cell BK621.out 0).trans rfl, (blk_cell BK621.out 1).trans rfl, ((HB.out.cell (World.block_lt_of_cell? w _ hw623_0)).trans hw623_0), ((HB.out.cell (World.block_lt_of_cell? w _ hw623_1)).trans hw623_1), ((HB.out.cell (World.block_lt_of_cell? w _ hw624_0)).trans hw624_0), ((HB.out.cell (World.block_lt_of_cell? w _ hw624_1)).trans hw624_1)⟩ (fun hHeld => ?_); refine with_tabW steepleref03_Both.tab8 steepleref03_Both.bits8 (fun HT_ HW_ => ?_)
           generalize wr.drew = w32 at HO_8 BK620 BK621 BK622 HB hx623_0 hx623_1 hx624_0 hx624_1 hHeld ⊢
           refine pure_ (i := 0) (N := some 34) (v := ?_) (a' := ?_) #[true, false, false, false, false, false, false, false, false, false, false, false, false, false, false] rfl rfl (any_of HT_.out (by kernel_rfl)) (fun _ _ _ h => h) (Or.inl ⟨by rfl, ?_⟩) ?_ ?_
           rotate_left
           ·intro w'
            go_simp
            with_reducible rfl
           rotate_left
           ·simp only [Act.put, List.setIfInBounds_toArray, List.set_cons_zero, List.set_cons_succ, i64_w, i32_w]
            rfl
           refine pure_ (i := 1) (N := some 35) (v := ?_) (a' := ?_) #[true, true, false, false, false, false, false, false, false, false, false, false, false, false, false] rfl rfl (any_of HT_.out (by kernel_rfl)) (fun _ _ _ h => h) (Or.inl ⟨by rfl, ?_⟩) ?_ ?_
           rotate_left
           ·intro w'
            go_simp
            with_reducible rfl
           rotate_left
           ·simp only [Act.put, List.setIfInBounds_toArray, List.set_cons_zero, List.set_cons_succ, i64_w, i32_w]
            rfl
           refine pure_ (i := 3) (N := some 37) (v := ?_) (a' := ?_) #[true, true, false, true, false, false, false, false, false, false, false, false, false, false, false] rfl rfl (any_of HT_.out (by kernel_rfl)) (fun _ _ _ h => h) (Or.inl ⟨by rfl, ?_⟩) ?_ ?_
           rotate_left
           ·intro w'
            go_simp
            with_reducible rfl
           rotate_left
           ·simp only [Act.put, List.setIfInBounds_toArray, List.set_cons_zero, List.set_cons_succ, i64_w, i32_w]
            rfl
           refine pure_ (i := 6) (N := some 40) (v := ?_) (a' := ?_) #[true, true, false, true, false, false, true, false, false, false, false, false, false, false, false] rfl rfl (any_of HT_.out (by kernel_rfl)) (fun _ _ _ h => h) (Or.inl ⟨by rfl, ?_⟩) ?_ ?_
           rotate_left
           ·intro w'
            go_simp
            with_reducible rfl
           rotate_left
           ·simp only [Act.put, List.setIfInBounds_toArray, List.set_cons_zero, List.set_cons_succ, i64_w, i32_w]
            rfl
           refine pure_ (i := 8) (N := some 42) (v := ?_) (a' := ?_) #[true, true, false, true, false, false, true, false, true, false, false, false, false, false, false] rfl rfl (any_of HT_.out (by kernel_rfl)) (fun _ _ _ h => h) (Or.inl ⟨by rfl, ?_⟩) ?_ ?_
           rotate_left
           ·intro w'
            go_simp
            with_reducible rfl
           rotate_left
           ·simp only [Act.put, List.setIfInBounds_toArray, List.set_cons_zero, List.set_cons_succ, i64_w, i32_w]
            rfl
           refine take_ (i := 2) (N := some 36) (v := ?_) (a' := ?_) #[true, true, true, true, false, false, true, false, true, false, false, false, false, false, false] rfl rfl (take_ofW HT_.out HW_.out (by kernel_rfl)) (fun _ _ _ h => h) (Or.inl ⟨by rfl, ?_⟩) hHeld ?_ ?_
           rotate_left
           ·rintro w' ⟨s0, s1, s2, s3, s4, s5, s6, s7⟩
            go_simp
            with_reducible rfl
           rotate_left
           ·simp only [Act.put, List.setIfInBounds_toArray, List.set_cons_zero, List.set_cons_succ, i64_w, i32_w]
            rfl
           refine pure_ (i := 4) (N := some 38) (v := ?_) (a' := ?_) #[true, true, true, true, true, false, true, false, true, false, false, false, false, false, false] rfl rfl (any_of HT_.out (by kernel_rfl)) (fun _ _ _ h => h) (Or.inl ⟨by rfl, ?_⟩) ?_ ?_
           rotate_left
           ·intro w'
            go_simp
            with_reducible rfl
           rotate_left
           ·simp only [Act.put, List.setIfInBounds_toArray, List.set_cons_zero, List.set_cons_succ, i64_w, i32_w]
            rfl
           refine take_ (i := 5) (N := some 39) (v := ?_) (a' := ?_) #[true, true, true, true, true, true, true, false, true, false, false, false, false, false, false] rfl rfl (take_ofW HT_.out HW_.out (by kernel_rfl)) (fun _ _ _ h => h) (Or.inl ⟨by rfl, ?_⟩) hHeld ?_ ?_
           rotate_left
           ·rintro w' ⟨s0, s1, s2, s3, s4, s5, s6, s7⟩
            go_simp
            with_reducible rfl
           rotate_left
           ·simp only [Act.put, List.setIfInBounds_toArray, List.set_cons_zero, List.set_cons_succ, i64_w, i32_w]
            rfl
           refine take_ (i := 7) (N := some 41) (v := ?_) (a' := ?_) #[true, true, true, true, true, true, true, true, true, false, false, false, false, false, false] rfl rfl (take_ofW HT_.out HW_.out (by kernel_rfl)) (fun _ _ _ h => h) (Or.inl ⟨by rfl, ?_⟩) hHeld ?_ ?_
           rotate_left
           ·rintro w' ⟨s0, s1, s2, s3, s4, s5, s6, s7⟩
            go_simp
            with_reducible rfl
           rotate_left
           ·simp only [Act.put, List.setIfInBounds_toArray, List.set_cons_zero, List.set_cons_succ, i64_w, i32_w]
            rfl
           refine pure_ (i := 9) (N := some 43) (v := ?_) (a' := ?_) #[true, true, true, true, true, true, true, true, true, true, false, false, false, false, false] rfl rfl (any_of HT_.out (by kernel_rfl)) (fun _ _ _ h => h) (Or.inl ⟨by rfl, ?_⟩) ?_ ?_
           rotate_left
           ·intro w'
            go_simp
            with_reducible rfl
           rotate_left
           ·simp only [Act.put, List.setIfInBounds_toArray, List.set_cons_zero, List.set_cons_succ, i64_w, i32_w]
            rfl
           refine take_ (i := 10) (N := some 44) (v := ?_) (a' := ?_) #[true, true, true, true, true, true, true, true, true, true, true, false, false, false, false] rfl rfl (take_ofW HT_.out HW_.out (by kernel_rfl)) (fun _ _ _ h => h) (Or.inl ⟨by rfl, ?_⟩) hHeld ?_ ?_
           rotate_left
           ·rintro w' ⟨s0, s1, s2, s3, s4, s5, s6, s7⟩
            go_simp
            with_reducible rfl
           rotate_left
           ·simp only [Act.put, List.setIfInBounds_toArray, List.set_cons_zero, List.set_cons_succ, i64_w, i32_w]
            rfl
           refine one_ (i := 11) (N := some 45) #[true, true, true, true, true, true, true, true, true, true, true, true, false, false, false] rfl rfl (one_of HT_.out (by kernel_rfl)) (by decide) (fun K hK => ?_)
           refine goes_ Try.func31 (by kernel_rfl) rfl #[.agg #[.int .u64 ((rd_T44 l0_1 x9_2).f0), .int .u64 ((rd_T44 l0_1 x9_2).f1)], .agg #[.int .u64 ((rd_T44 l1_1 x9_2).f0), .int .u64 ((rd_T44 l1_1 x9_2).f1)]] (by rfl) rfl rfl (by (try simp only [List.map_toArray, List.map_cons, List.map_nil]); first | done | rfl | (simp only [List.length_drop, List.length_take]; rfl)) ?_
           with_reducible refine (steepleref02_Add.calls ((rd_T44 l0_1 x9_2).f0) ((rd_T44 l0_1 x9_2).f1) ((rd_T44 l1_1 x9_2).f0) ((rd_T44 l1_1 x9_2).f1) t625 t626 _ A27.out).mono ?_
           rintro e w33 ⟨rfl, hb⟩
           refine ⟨_, rfl, ?_⟩
           replace HO_8 := kb HO_8 hb
           replace BK620 := bb BK620 hb
           replace BK621 := bb BK621 hb
           replace BK622 := bb BK622 hb
           replace HB := bh HB hb
           (try clear hb)
           (try clear hb2)
           (try clear hk)
           (try clear hi)
           refine hK.out _ _ ⟨(blk_cell BK620.out 0).trans rfl, (blk_cell BK620.out 1).trans rfl, (blk_cell BK621.out 0).trans rfl, (blk_cell BK621.out 1).trans rfl, ((HB.out.cell (World.block_lt_of_cell? w _ hw623_0)).trans hw623_0), ((HB.out.cell (World.block_lt_of_cell? w _ hw623_1)).trans hw623_1), ((HB.out.cell (World.block_lt_of_cell? w _ hw624_0)).trans hw624_0), ((HB.out.cell (World.block_lt_of_cell? w _ hw624_1)).trans hw624_1)⟩ (fun hHeld => ?_)
           clear hK K
           refine norm_ (a' := ?_) ?_ ?_
           rotate_left
           ·show Act.put _ (some 45) _ = _
            simp only [Act.put, List.setIfInBounds_toArray, List.set_cons_zero, List.set_cons_succ, i64_w, i32_w]
            rfl
           refine one_ (i := 12) (N := some 46) #[true, true, true, true, true, true, true, true, true, true, true, true, true, false, false] rfl rfl (one_of HT_.out (by kernel_rfl)) (by decide) (fun K hK => ?_)
           refine value_ (w1 := ?_) (v := ?_) (by rfl) rfl ?_ ?_
           rotate_left 2
           ·go_simp
            constructor
            ·rfl
            ·rfl
           refine hK.out _ _ ⟨(blk_cell (blk_alloc BK620.out _) 0).trans rfl, (blk_cell (blk_alloc BK620.out _) 1).trans rfl, (blk_cell (blk_alloc BK621.out _) 0).trans rfl, (blk_cell (blk_alloc BK621.out _) 1).trans rfl, (World.cell?_alloc_lt _ _ _ (World.block_lt_of_cell? _ _ (((HB.out.cell (World.block_lt_of_cell? w _ hw623_0)).trans hw623_0)))).trans (((HB.out.cell (World.block_lt_of_cell? w _ hw623_0)).trans hw623_0)), (World.cell?_alloc_lt _ _ _ (World.block_lt_of_cell? _ _ (((HB.out.cell (World.block_lt_of_cell? w _ hw623_1)).trans hw623_1)))).trans (((HB.out.cell (World.block_lt_of_cell? w _ hw623_1)).trans hw623_1)), (World.cell?_alloc_lt _ _ _ (World.block_lt_of_cell? _ _ (((HB.out.cell (World.block_lt_of_cell? w _ hw624_0)).trans hw624_0)))).trans (((HB.out.cell (World.block_lt_of_cell? w _ hw624_0)).trans hw624_0)), (World.cell?_alloc_lt _ _ _ (World.block_lt_of_cell? _ _ (((HB.out.cell (World.block_lt_of_cell? w _ hw624_1)).trans hw624_1)))).trans (((HB.out.cell (World.block_lt_of_cell? w _ hw624_1)).trans hw624_1))⟩ (fun hHeld => ?_)
           clear hK K
           refine norm_ (a' := ?_) ?_ ?_
           rotate_left
           ·show Act.put _ (some 46) _ = _
            simp only [Act.put, List.setIfInBounds_toArray, List.set_cons_zero, List.set_cons_succ, i64_w, i32_w]
            rfl
           refine one_ (i := 13) (N := some 47) #[true, true, true, true, true, true, true, true, true, true, true, true, true, true, false] rfl rfl (one_of HT_.out (by kernel_rfl)) (by decide) (fun K hK => ?_)
           refine Kd.R_append_step k44 (w0 := w) w.heap.size (by rfl) (.tmp 34) (.tmp 46) 35 44 (.agg #[(.int .u64 0), (.int .u64 0)]) 16 rfl Try.underlying35 info44 rfl (by decide) (by omega) u8 x8_2 (⟨t625, t626⟩ : S44) [.int .u64 t625, .int .u64 t626] (fun _ => True) (fun _ => False) rfl rfl ?aP (fun _ hk => hk.elim) ?aF ?aO ?aB ?aS ?aL ?_
           (case aP => exact k44_mkM _ _ _ (⟨t625, t626⟩ : S44))
           (case aB => exact (bq HB.out))
           (case aF => exact (fun _ _ => trivial))
           (case aO => exact (kr HO_8.out))
           (case aS => exact (below_size (bq HB.out)))
           (case aL => have := LMc28.out; omega)
           intro v628 w34 ho hb hg hat
           rw [← Ny627.out] at ho
           have HO629 := Aside0.mk ho
           replace BK620 := Aside0.mk (blk_grown (g := gb620) (o := .cells #[.int .i64 a0_0, .slice (some ad623) l0_1.length c0_1] 37 (0, 0)) (bk BK620.out) hg (Kd.R_ne HO_8.out BK620.out (by decide)))
           replace BK621 := Aside0.mk (blk_grown (g := gb621) (o := .cells #[.int .i64 a1_0, .slice (some ad624) l1_1.length c1_1] 37 (0, 0)) (bk BK621.out) hg (Kd.R_ne HO_8.out BK621.out (by decide)))
           replace BK622 := Aside0.mk (blk_grown (g := gb622) (o := .cells #[.int .i64 0, .slice none 0 0] 37 (0, 0)) (bk BK622.out) hg (Kd.R_ne HO_8.out BK622.out (by decide)))
           replace HB := Aside0.mk hb
           clear HO_8
           clear ho hb hg hat
           refine hK.out _ _ ⟨(blk_cell BK620.out 0).trans rfl, (blk_cell BK620.out 1).trans rfl, (blk_cell BK621.out 0).trans rfl, (blk_cell BK621.out 1).trans rfl, ((HB.out.cell (World.block_lt_of_cell? w _ hw623_0)).trans hw623_0), ((HB.out.cell (World.block_lt_of_cell? w _ hw623_1)).trans hw623_1), ((HB.out.cell (World.block_lt_of_cell? w _ hw624_0)).trans hw624_0), ((HB.out.cell (World.block_lt_of_cell? w _ hw624_1)).trans hw624_1)⟩ (fun hHeld => ?_)
           clear hK K
           refine norm_ (a' := ?_) ?_ ?_
           rotate_left
           ·show Act.put _ (some 47) _ = _
            simp only [Act.put, List.setIfInBounds_toArray, List.set_cons_zero, List.set_cons_succ, i64_w, i32_w]
            rfl
           refine pure_ (i := 14) (N := some 8) (v := ?_) (a' := ?_) #[true, true, true, true, true, true, true, true, true, true, true, true, true, true, true] rfl rfl (any_of HT_.out (by kernel_rfl)) (fun _ _ _ h => h) (Or.inl ⟨by rfl, ?_⟩) ?_ ?_
           rotate_left
           ·intro w'
            go_simp
            with_reducible rfl
           rotate_left
           ·simp only [Act.put, List.setIfInBounds_toArray, List.set_cons_zero, List.set_cons_succ, i64_w, i32_w]
            rfl
           refine done_ (done_of HT_.out (by kernel_rfl)) ?_
           try go_wp2
           go_roundg k2
           case measure => have := HJ3.out; have := HK2.out; omega
           case rel => exact ⟨(y627), (wrap64 (x9_2 + 1)), (by first | rfl | (simp; done) | (simp [*]; done)), H', ⟨by have := HJ3.out; have := HK2.out; omega⟩, ⟨kr HO629.out⟩, ⟨bk BK620.out⟩, ⟨bk BK621.out⟩, ⟨bk BK622.out⟩, ⟨bq HB.out⟩⟩
          ·rw [if_neg c28] at H
           exact absurd H (by simp)
         ·rw [if_neg c26] at H
          exact absurd H (by simp)
        ·rw [if_neg c25] at H
         exact absurd H (by simp)
       ·rw [if_neg c24] at H
        have c24b0 : (a2 == 0) = false := beq_eq_false_iff_ne.mpr c24
        have c24b1 : (a2 != 0) = true := bne_iff_ne.mpr c24
        by_cases c35 : 0 ≤ x9_2
        ·rw [if_pos c35] at H
         have c35b0 : decide (0 ≤ x9_2) = true := decide_eq_true c35
         clear c35
         by_cases c36 : x9_2 < (l1_1.length : Int)
         ·rw [if_pos c36] at H
          have c36b0 : decide (x9_2 < (l1_1.length : Int)) = true := decide_eq_true c36
          clear c36
          replace H := Option.bind_eq_some_iff.mp H
          obtain ⟨⟨t632, t633⟩, A370, H⟩ := H
          replace H : (if x8_2.length < 8796093022208 then (steepleref03_Both.l0 k2 a2 (x8_2 ++ [(⟨t632, t633⟩ : S44)]) (wrap64 (x9_2 + 1)) a0_0 l0_1 a1_0 l1_1) else (none)) = some (r1, r2, r3) := H
          have A37 := Aside0.mk A370
          clear A370
          by_cases c38 : x8_2.length < 8796093022208
          ·rw [if_pos c38] at H
           have LMc38 := Aside0.mk c38
           clear c38
           obtain ⟨y634, hy634⟩ : ∃ y_ : List (S44), y_ = (x8_2 ++ [(⟨t632, t633⟩ : S44)]) := ⟨_, rfl⟩
           replace H : (steepleref03_Both.l0 k2 a2 y634 (wrap64 (x9_2 + 1)) a0_0 l0_1 a1_0 l1_1) = some (r1, r2, r3) := by first | (rw [hy634]; with_reducible exact H) | (have H2_ := (Option.bind_some _ _).symm.trans H; rw [hy634]; with_reducible exact H2_) | (have H2_ := (Option.bind_some _ _).symm.trans H; with_reducible exact H2_) | with_reducible exact H | (rw [hy634]; exact H) | exact H
           have Ny634 := Aside0.mk hy634
           clear hy634
           have H' := Aside0.mk H
           clear H
           have hnb39 := NB620_621.out
           have hnc39 := NB621_620.out
           have hnb40 := NB620_622.out
           have hnc40 := NB622_620.out
           obtain ⟨hcz41_0, hcz41_1⟩ := zc2 BK620
           obtain ⟨hfz41_0, hfz41_1⟩ := zf2 BK620
           try go_wp2
           replace HO_8 := Aside0.mk (Kd.R_drew HO_8.out)
           replace BK620 := Aside0.mk (blk_drew BK620.out)
           replace BK621 := Aside0.mk (blk_drew BK621.out)
           replace BK622 := Aside0.mk (blk_drew BK622.out)
           replace HB := Aside0.mk (below_drew1 HB.out)
           have p630 : 0 ≤ (x9_2 : Int) := of_decide_eq_true (by first | (with_reducible assumption) | assumption)
           have q630 : x9_2 < (l0_1.length : Int) := of_decide_eq_true (by first | (with_reducible assumption) | assumption)
           obtain ⟨ad630, e630, hx630_0, hx630_1⟩ := at_T44 HR0_1.out x9_2 p630 q630
           have hw630_1 := hx630_1
           have hw630_0 := hx630_0
           cases e630
           replace hx630_0 := (HB.out.cell (World.block_lt_of_cell? w _ hx630_0)).trans hx630_0
           replace hx630_1 := (HB.out.cell (World.block_lt_of_cell? w _ hx630_1)).trans hx630_1
           replace p630 := eq_true p630
           replace q630 := eq_true q630
           have p631 : 0 ≤ (x9_2 : Int) := of_decide_eq_true (by first | (with_reducible assumption) | assumption)
           have q631 : x9_2 < (l1_1.length : Int) := of_decide_eq_true (by first | (with_reducible assumption) | assumption)
           obtain ⟨ad631, e631, hx631_0, hx631_1⟩ := at_T44 HR1_1.out x9_2 p631 q631
           have hw631_1 := hx631_1
           have hw631_0 := hx631_0
           cases e631
           replace hx631_0 := (HB.out.cell (World.block_lt_of_cell? w _ hx631_0)).trans hx631_0
           replace hx631_1 := (HB.out.cell (World.block_lt_of_cell? w _ hx631_1)).trans hx631_1
           replace p631 := eq_true p631
           replace q631 := eq_true q631
           refine start_ (n := 15) (S := fun w' => w'.cell? ⟨gb620, 0, none⟩ = some (.int .i64 a0_0) ∧ w'.cell? ⟨gb620, 1, none⟩ = some (.slice (some ad630) l0_1.length c0_1) ∧ w'.cell? ⟨gb621, 0, none⟩ = some (.int .i64 a1_0) ∧ w'.cell? ⟨gb621, 1, none⟩ = some (.slice (some ad631) l1_1.length c1_1) ∧ w'.cell? (ad630.add ((x9_2).toNat * 2)) = some (.int .u64 ((rd_T44 l0_1 x9_2).f0)) ∧ w'.cell? ⟨(ad630.add ((x9_2).toNat * 2)).block, (ad630.add ((x9_2).toNat * 2)).off + 1, none⟩ = some (.int .u64 ((rd_T44 l0_1 x9_2).f1)) ∧ w'.cell? (ad631.add ((x9_2).toNat * 2)) = some (.int .u64 ((rd_T44 l1_1 x9_2).f0)) ∧ w'.cell? ⟨(ad631.add ((x9_2).toNat * 2)).block, (ad631.add ((x9_2).toNat * 2)).off + 1, none⟩ = some (.int .u64 ((rd_T44 l1_1 x9_2).f1))) (ds := []) #[false, false, false, false, false, false, false, false, false, false, false, false, false, false, false] (by kernel_rfl) rfl rfl ⟨(blk_cell BK620.out 0).trans rfl, (blk_cell BK620.out 1).trans rfl, (blk_cell BK621.out 0).trans rfl, (blk_cell BK621.out 1).trans rfl, ((HB.out.cell (World.block_lt_of_cell? w _ hw630_0)).trans hw630_0), ((HB.out.cell (World.block_lt_of_cell? w _ hw630_1)).trans hw630_1), ((HB.out.cell (World.block_lt_of_cell? w _ hw631_0)).trans hw631_0), ((HB.out.cell (World.block_lt_of_cell? w _ hw631_1)).trans hw631_1)⟩ (fun hHeld => ?_); refine with_tabW steepleref03_Both.tab9 steepleref03_Both.bits9 (fun HT_ HW_ => ?_)
           generalize wr.drew = w42 at HO_8 BK620 BK621 BK622 HB hx630_0 hx630_1 hx631_0 hx631_1 hHeld ⊢
           refine pure_ (i := 0) (N := some 48) (v := ?_) (a' := ?_) #[true, false, false, false, false, false, false, false, false, false, false, false, false, false, false] rfl rfl (any_of HT_.out (by kernel_rfl)) (fun _ _ _ h => h) (Or.inl ⟨by rfl, ?_⟩) ?_ ?_
           rotate_left
           ·intro w'
            go_simp
            with_reducible rfl
           rotate_left
           ·simp only [Act.put, List.setIfInBounds_toArray, List.set_cons_zero, List.set_cons_succ, i64_w, i32_w]
            rfl
           refine pure_ (i := 1) (N := some 49) (v := ?_) (a' := ?_) #[true, true, false, false, false, false, false, false, false, false, false, false, false, false, false] rfl rfl (any_of HT_.out (by kernel_rfl)) (fun _ _ _ h => h) (Or.inl ⟨by rfl, ?_⟩) ?_ ?_
           rotate_left
           ·intro w'
            go_simp
            with_reducible rfl
           rotate_left
           ·simp only [Act.put, List.setIfInBounds_toArray, List.set_cons_zero, List.set_cons_succ, i64_w, i32_w]
            rfl
           refine pure_ (i := 3) (N := some 51) (v := ?_) (a' := ?_) #[true, true, false, true, false, false, false, false, false, false, false, false, false, false, false] rfl rfl (any_of HT_.out (by kernel_rfl)) (fun _ _ _ h => h) (Or.inl ⟨by rfl, ?_⟩) ?_ ?_
           rotate_left
           ·intro w'
            go_simp
            with_reducible rfl
           rotate_left
           ·simp only [Act.put, List.setIfInBounds_toArray, List.set_cons_zero, List.set_cons_succ, i64_w, i32_w]
            rfl
           refine pure_ (i := 6) (N := some 54) (v := ?_) (a' := ?_) #[true, true, false, true, false, false, true, false, false, false, false, false, false, false, false] rfl rfl (any_of HT_.out (by kernel_rfl)) (fun _ _ _ h => h) (Or.inl ⟨by rfl, ?_⟩) ?_ ?_
           rotate_left
           ·intro w'
            go_simp
            with_reducible rfl
           rotate_left
           ·simp only [Act.put, List.setIfInBounds_toArray, List.set_cons_zero, List.set_cons_succ, i64_w, i32_w]
            rfl
           refine pure_ (i := 8) (N := some 56) (v := ?_) (a' := ?_) #[true, true, false, true, false, false, true, false, true, false, false, false, false, false, false] rfl rfl (any_of HT_.out (by kernel_rfl)) (fun _ _ _ h => h) (Or.inl ⟨by rfl, ?_⟩) ?_ ?_
           rotate_left
           ·intro w'
            go_simp
            with_reducible rfl
           rotate_left
           ·simp only [Act.put, List.setIfInBounds_toArray, List.set_cons_zero, List.set_cons_succ, i64_w, i32_w]
            rfl
           refine take_ (i := 2) (N := some 50) (v := ?_) (a' := ?_) #[true, true, true, true, false, false, true, false, true, false, false, false, false, false, false] rfl rfl (take_ofW HT_.out HW_.out (by kernel_rfl)) (fun _ _ _ h => h) (Or.inl ⟨by rfl, ?_⟩) hHeld ?_ ?_
           rotate_left
           ·rintro w' ⟨s0, s1, s2, s3, s4, s5, s6, s7⟩
            go_simp
            with_reducible rfl
           rotate_left
           ·simp only [Act.put, List.setIfInBounds_toArray, List.set_cons_zero, List.set_cons_succ, i64_w, i32_w]
            rfl
           refine pure_ (i := 4) (N := some 52) (v := ?_) (a' := ?_) #[true, true, true, true, true, false, true, false, true, false, false, false, false, false, false] rfl rfl (any_of HT_.out (by kernel_rfl)) (fun _ _ _ h => h) (Or.inl ⟨by rfl, ?_⟩) ?_ ?_
           rotate_left
           ·intro w'
            go_simp
            with_reducible rfl
           rotate_left
           ·simp only [Act.put, List.setIfInBounds_toArray, List.set_cons_zero, List.set_cons_succ, i64_w, i32_w]
            rfl
           refine take_ (i := 5) (N := some 53) (v := ?_) (a' := ?_) #[true, true, true, true, true, true, true, false, true, false, false, false, false, false, false] rfl rfl (take_ofW HT_.out HW_.out (by kernel_rfl)) (fun _ _ _ h => h) (Or.inl ⟨by rfl, ?_⟩) hHeld ?_ ?_
           rotate_left
           ·rintro w' ⟨s0, s1, s2, s3, s4, s5, s6, s7⟩
            go_simp
            with_reducible rfl
           rotate_left
           ·simp only [Act.put, List.setIfInBounds_toArray, List.set_cons_zero, List.set_cons_succ, i64_w, i32_w]
            rfl
           refine take_ (i := 7) (N := some 55) (v := ?_) (a' := ?_) #[true, true, true, true, true, true, true, true, true, false, false, false, false, false, false] rfl rfl (take_ofW HT_.out HW_.out (by kernel_rfl)) (fun _ _ _ h => h) (Or.inl ⟨by rfl, ?_⟩) hHeld ?_ ?_
           rotate_left
           ·rintro w' ⟨s0, s1, s2, s3, s4, s5, s6, s7⟩
            go_simp
            with_reducible rfl
           rotate_left
           ·simp only [Act.put, List.setIfInBounds_toArray, List.set_cons_zero, List.set_cons_succ, i64_w, i32_w]
            rfl
           refine pure_ (i := 9) (N := some 57) (v := ?_) (a' := ?_) #[true, true, true, true, true, true, true, true, true, true, false, false, false, false, false] rfl rfl (any_of HT_.out (by kernel_rfl)) (fun _ _ _ h => h) (Or.inl ⟨by rfl, ?_⟩) ?_ ?_
           rotate_left
           ·intro w'
            go_simp
            with_reducible rfl
           rotate_left
           ·simp only [Act.put, List.setIfInBounds_toArray, List.set_cons_zero, List.set_cons_succ, i64_w, i32_w]
            rfl
           refine take_ (i := 10) (N := some 58) (v := ?_) (a' := ?_) #[true, true, true, true, true, true, true, true, true, true, true, false, false, false, false] rfl rfl (take_ofW HT_.out HW_.out (by kernel_rfl)) (fun _ _ _ h => h) (Or.inl ⟨by rfl, ?_⟩) hHeld ?_ ?_
           rotate_left
           ·rintro w' ⟨s0, s1, s2, s3, s4, s5, s6, s7⟩
            go_simp
            with_reducible rfl
           rotate_left
           ·simp only [Act.put, List.setIfInBounds_toArray, List.set_cons_zero, List.set_cons_succ, i64_w, i32_w]
            rfl
           refine one_ (i := 11) (N := some 59) #[true, true, true, true, true, true, true, true, true, true, true, true, false, false, false] rfl rfl (one_of HT_.out (by kernel_rfl)) (by decide) (fun K hK => ?_)
           refine goes_ Try.func33 (by kernel_rfl) rfl #[.agg #[.int .u64 ((rd_T44 l0_1 x9_2).f0), .int .u64 ((rd_T44 l0_1 x9_2).f1)], .agg #[.int .u64 ((rd_T44 l1_1 x9_2).f0), .int .u64 ((rd_T44 l1_1 x9_2).f1)]] (by rfl) rfl rfl (by (try simp only [List.map_toArray, List.map_cons, List.map_nil]); first | done | rfl | (simp only [List.length_drop, List.length_take]; rfl)) ?_
           with_reducible refine (steepleref02_Product.calls k2 ((rd_T44 l0_1 x9_2).f0) ((rd_T44 l0_1 x9_2).f1) ((rd_T44 l1_1 x9_2).f0) ((rd_T44 l1_1 x9_2).f1) t632 t633 _ A37.out).mono ?_
           rintro e w43 ⟨rfl, hb⟩
           refine ⟨_, rfl, ?_⟩
           replace HO_8 := kb HO_8 hb
           replace BK620 := bb BK620 hb
           replace BK621 := bb BK621 hb
           replace BK622 := bb BK622 hb
           replace HB := bh HB hb
           (try clear hb)
           (try clear hb2)
           (try clear hk)
           (try clear hi)
           refine hK.out _ _ ⟨(blk_cell BK620.out 0).trans rfl, (blk_cell BK620.out 1).trans rfl, (blk_cell BK621.out 0).trans rfl, (blk_cell BK621.out 1).trans rfl, ((HB.out.cell (World.block_lt_of_cell? w _ hw630_0)).trans hw630_0), ((HB.out.cell (World.block_lt_of_cell? w _ hw630_1)).trans hw630_1), ((HB.out.cell (World.block_lt_of_cell? w _ hw631_0)).trans hw631_0), ((HB.out.cell (World.block_lt_of_cell? w _ hw631_1)).trans hw631_1)⟩ (fun hHeld => ?_)
           clear hK K
           refine norm_ (a' := ?_) ?_ ?_
           rotate_left
           ·show Act.put _ (some 59) _ = _
            simp only [Act.put, List.setIfInBounds_toArray, List.set_cons_zero, List.set_cons_succ, i64_w, i32_w]
            rfl
           refine one_ (i := 12) (N := some 60) #[true, true, true, true, true, true, true, true, true, true, true, true, true, false, false] rfl rfl (one_of HT_.out (by kernel_rfl)) (by decide) (fun K hK => ?_)
           refine value_ (w1 := ?_) (v := ?_) (by rfl) rfl ?_ ?_
           rotate_left 2
           ·go_simp
            constructor
            ·rfl
            ·rfl
           refine hK.out _ _ ⟨(blk_cell (blk_alloc BK620.out _) 0).trans rfl, (blk_cell (blk_alloc BK620.out _) 1).trans rfl, (blk_cell (blk_alloc BK621.out _) 0).trans rfl, (blk_cell (blk_alloc BK621.out _) 1).trans rfl, (World.cell?_alloc_lt _ _ _ (World.block_lt_of_cell? _ _ (((HB.out.cell (World.block_lt_of_cell? w _ hw630_0)).trans hw630_0)))).trans (((HB.out.cell (World.block_lt_of_cell? w _ hw630_0)).trans hw630_0)), (World.cell?_alloc_lt _ _ _ (World.block_lt_of_cell? _ _ (((HB.out.cell (World.block_lt_of_cell? w _ hw630_1)).trans hw630_1)))).trans (((HB.out.cell (World.block_lt_of_cell? w _ hw630_1)).trans hw630_1)), (World.cell?_alloc_lt _ _ _ (World.block_lt_of_cell? _ _ (((HB.out.cell (World.block_lt_of_cell? w _ hw631_0)).trans hw631_0)))).trans (((HB.out.cell (World.block_lt_of_cell? w _ hw631_0)).trans hw631_0)), (World.cell?_alloc_lt _ _ _ (World.block_lt_of_cell? _ _ (((HB.out.cell (World.block_lt_of_cell? w _ hw631_1)).trans hw631_1)))).trans (((HB.out.cell (World.block_lt_of_cell? w _ hw631_1)).trans hw631_1))⟩ (fun hHeld => ?_)
           clear hK K
           refine norm_ (a' := ?_) ?_ ?_
           rotate_left
           ·show Act.put _ (some 60) _ = _
            simp only [Act.put, List.setIfInBounds_toArray, List.set_cons_zero, List.set_cons_succ, i64_w, i32_w]
            rfl
           refine one_ (i := 13) (N := some 61) #[true, true, true, true, true, true, true, true, true, true, true, true, true, true, false] rfl rfl (one_of HT_.out (by kernel_rfl)) (by decide) (fun K hK => ?_)
           refine Kd.R_append_step k44 (w0 := w) w.heap.size (by rfl) (.tmp 48) (.tmp 60) 35 44 (.agg #[(.int .u64 0), (.int .u64 0)]) 16 rfl Try.underlying35 info44 rfl (by decide) (by omega) u8 x8_2 (⟨t632, t633⟩ : S44) [.int .u64 t632, .int .u64 t633] (fun _ => True) (fun _ => False) rfl rfl ?aP (fun _ hk => hk.elim) ?aF ?aO ?aB ?aS ?aL ?_
           (case aP => exact k44_mkM _ _ _ (⟨t632, t633⟩ : S44))
           (case aB => exact (bq HB.out))
           (case aF => exact (fun _ _ => trivial))
           (case aO => exact (kr HO_8.out))
           (case aS => exact (below_size (bq HB.out)))
           (case aL => have := LMc38.out; omega)
           intro v635 w44 ho hb hg hat
           rw [← Ny634.out] at ho
           have HO636 := Aside0.mk ho
           replace BK620 := Aside0.mk (blk_grown (g := gb620) (o := .cells #[.int .i64 a0_0, .slice (some ad630) l0_1.length c0_1] 37 (0, 0)) (bk BK620.out) hg (Kd.R_ne HO_8.out BK620.out (by decide)))
           replace BK621 := Aside0.mk (blk_grown (g := gb621) (o := .cells #[.int .i64 a1_0, .slice (some ad631) l1_1.length c1_1] 37 (0, 0)) (bk BK621.out) hg (Kd.R_ne HO_8.out BK621.out (by decide)))
           replace BK622 := Aside0.mk (blk_grown (g := gb622) (o := .cells #[.int .i64 0, .slice none 0 0] 37 (0, 0)) (bk BK622.out) hg (Kd.R_ne HO_8.out BK622.out (by decide)))
           replace HB := Aside0.mk hb
           clear HO_8
           clear ho hb hg hat
           refine hK.out _ _ ⟨(blk_cell BK620.out 0).trans rfl, (blk_cell BK620.out 1).trans rfl, (blk_cell BK621.out 0).trans rfl, (blk_cell BK621.out 1).trans rfl, ((HB.out.cell (World.block_lt_of_cell? w _ hw630_0)).trans hw630_0), ((HB.out.cell (World.block_lt_of_cell? w _ hw630_1)).trans hw630_1), ((HB.out.cell (World.block_lt_of_cell? w _ hw631_0)).trans hw631_0), ((HB.out.cell (World.block_lt_of_cell? w _ hw631_1)).trans hw631_1)⟩ (fun hHeld => ?_)
           clear hK K
           refine norm_ (a' := ?_) ?_ ?_
           rotate_left
           ·show Act.put _ (some 61) _ = _
            simp only [Act.put, List.setIfInBounds_toArray, List.set_cons_zero, List.set_cons_succ, i64_w, i32_w]
            rfl
           refine pure_ (i := 14) (N := some 8) (v := ?_) (a' := ?_) #[true, true, true, true, true, true, true, true, true, true, true, true, true, true, true] rfl rfl (any_of HT_.out (by kernel_rfl)) (fun _ _ _ h => h) (Or.inl ⟨by rfl, ?_⟩) ?_ ?_
           rotate_left
           ·intro w'
            go_simp
            with_reducible rfl
           rotate_left
           ·simp only [Act.put, List.setIfInBounds_toArray, List.set_cons_zero, List.set_cons_succ, i64_w, i32_w]
            rfl
           refine done_ (done_of HT_.out (by kernel_rfl)) ?_
           try go_wp2
           go_roundg k2
           case measure => have := HJ3.out; have := HK2.out; omega
           case rel => exact ⟨(y634), (wrap64 (x9_2 + 1)), (by first | rfl | (simp; done) | (simp [*]; done)), H', ⟨by have := HJ3.out; have := HK2.out; omega⟩, ⟨kr HO636.out⟩, ⟨bk BK620.out⟩, ⟨bk BK621.out⟩, ⟨bk BK622.out⟩, ⟨bq HB.out⟩⟩
          ·rw [if_neg c38] at H
           exact absurd H (by simp)
         ·rw [if_neg c36] at H
          exact absurd H (by simp)
        ·rw [if_neg c35] at H
         exact absurd H (by simp)
      ·rw [if_neg c23] at H
       have c23b0 : decide (x9_2 < (l0_1.length : Int)) = false := decide_eq_false c23
       clear c23
       simp only [Option.some.injEq, Prod.mk.injEq] at H
       obtain ⟨rfl, rfl, rfl⟩ := H
       have hnb45 := NB620_621.out
       have hnc45 := NB621_620.out
       have hnb46 := NB620_622.out
       have hnc46 := NB622_620.out
       obtain ⟨hcz47_0, hcz47_1⟩ := zc2 BK620
       obtain ⟨hfz47_0, hfz47_1⟩ := zf2 BK620
       obtain ⟨Ao48, co48, eo48⟩ := Kd.R_slice HO_8.out
       subst eo48
       have hnb49 := NB622_621.out
       have hnc49 := NB621_622.out
       obtain ⟨hcz50_0, hcz50_1⟩ := zc2 BK622
       obtain ⟨hfz50_0, hfz50_1⟩ := zf2 BK622
       go_wp2
       refine bodyPost_ret (results_ct rfl _ _ gb622 37 #[.int .i64 a0_0, .slice Ao48 x8_2.length co48] (0, 0) _ rfl (by (with_reducible repeat refine bl ?_); refine blk_put (cs := #[.int .i64 a0_0, .slice none 0 0]) ?_ 1 _ rfl; (with_reducible repeat refine bl ?_); refine blk_put (cs := #[.int .i64 0, .slice none 0 0]) ?_ 0 _ rfl; (with_reducible repeat refine bl ?_); exact BK622.out) Try.underlying37 rfl (by kernel_rfl)) rfl ?_
       exact ⟨_, by first | rfl | (simp [errW_none, errW_some] <;> rfl) | (simp [*, errW_none, errW_some] <;> rfl), by (with_reducible repeat refine kl ?_); exact Kd.R_mono (Kd.R_far (p := ⟨gb622, 1, none⟩) (Kd.R_far (p := ⟨gb622, 0, none⟩) (Kd.R_types HO_8.out BK622.out (by decide)) (fun _ hk => hk.2) (.int .i64 a0_0)) (fun _ hk => hk.2) (.slice Ao48 x8_2.length co48)) (fun _ hk => trivial), bq HB.out⟩

end Go.Proofs.Ytceneggampgboaa.P
