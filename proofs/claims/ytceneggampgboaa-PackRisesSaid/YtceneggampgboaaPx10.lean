/- Written by a program of this session: functions that the law reaches, as Lean functions, and that the code comes to their answers. Conditions: those that each theorem names. -/
import Derived.Test.YtceneggampgboaaPx0
import Derived.Test.YtceneggampgboaaPx5
namespace Go.Proofs.Ytceneggampgboaa.P
open Go.RowKit Go.Proofs.YtceneggampgboaaX Go.Proofs.YtceneggampgboaaW.PrintWords Go.Proofs.YtceneggampgboaaW.PrintLast Go.Proofs.YtceneggampgboaaW.PrintMore
attribute [local go_sem] max2_int min2_int max_two min_two max_three min_three max_four min_four   -- for this text's walks alone
set_option linter.unusedVariables false
set_option linter.unusedSimpArgs false

/-! ### steepleref03_With: function 15 -/
mutual
def steepleref03_With.j0 : Nat → Int → Bool → Int → List (S44) → Int → Int → Option (Int × (List (S44)) × Int)
 | 0, _, _, _, _, _, _ => none
 | k + 1, x1, x18, x270000, x270001, x271000, x271001 => if x18 = true then (some (0, ([] : List (S44)), 4)) else ((steepleref01_Of.f k x270000 x271000 x271001).bind fun t272 => (if t272 = true then (steepleref03_With.l0 k x1 ([] : List (S44)) 0 x270000 x270001 x271000 x271001) else (some (0, ([] : List (S44)), 5))))
def steepleref03_With.l0 : Nat → Int → List (S44) → Int → Int → List (S44) → Int → Int → Option (Int × (List (S44)) × Int)
 | 0, _, _, _, _, _, _, _ => none
 | k + 1, x1, x8, x9, x270000, x270001, x271000, x271001 => if x9 < (x270001.length : Int) then (if x9 = x1 then (if x8.length < 8796093022208 then (steepleref03_With.l0 k x1 (x8 ++ [(⟨x271000, x271001⟩ : S44)]) (wrap64 (x9 + 1)) x270000 x270001 x271000 x271001) else (none)) else (if 0 ≤ x9 then (if x8.length < 8796093022208 then (steepleref03_With.l0 k x1 (x8 ++ [(⟨(rd_T44 x270001 x9).f0, (rd_T44 x270001 x9).f1⟩ : S44)]) (wrap64 (x9 + 1)) x270000 x270001 x271000 x271001) else (none)) else (none))) else (some (x270000, x8, 0))
end
def steepleref03_With.f (k : Nat) (a0_0 : Int) (l0_1 : List (S44)) (a1 : Int) (a2_0 : Int) (a2_1 : Int) : Option (Int × (List (S44)) × Int) := if a1 < 0 then (steepleref03_With.j0 k a1 true a0_0 l0_1 a2_0 a2_1) else (steepleref03_With.j0 k a1 (decide (a1 ≥ (l0_1.length : Int))) a0_0 l0_1 a2_0 a2_1)
theorem steepleref03_With.mono_l : ∀ k, (∀ y0 y1 y2 y3 y4 y5, LeO (steepleref03_With.j0 k y0 y1 y2 y3 y4 y5) (steepleref03_With.j0 (k + 1) y0 y1 y2 y3 y4 y5)) ∧ (∀ y0 y1 y2 y3 y4 y5 y6, LeO (steepleref03_With.l0 k y0 y1 y2 y3 y4 y5 y6) (steepleref03_With.l0 (k + 1) y0 y1 y2 y3 y4 y5 y6))
 | 0 => ⟨fun _ _ _ _ _ _ r h => by simp [steepleref03_With.j0] at h, fun _ _ _ _ _ _ _ r h => by simp [steepleref03_With.l0] at h⟩
 | k + 1 => by
  obtain ⟨ih0, ih1⟩ := steepleref03_With.mono_l k
  refine ⟨?_, ?_⟩
  ·intro y0 y1 y2 y3 y4 y5
   unfold steepleref03_With.j0
   repeat' first
   | (with_reducible exact ih0 _ _ _ _ _ _)
   | (with_reducible exact ih1 _ _ _ _ _ _ _)
   | (with_reducible exact steepleref01_Of.mono _ _ _ _)
   | (with_reducible exact LeO.refl _)
   | (with_reducible exact LeO.none _)
   | (with_reducible refine LeO.ite ?_ ?_)
   | (with_reducible refine LeO.bind ?_ (fun _ => ?_))
   | exact ih0 _ _ _ _ _ _
   | exact ih1 _ _ _ _ _ _ _
   | exact steepleref01_Of.mono _ _ _ _
   | exact LeO.none _
   | refine LeO.ite ?_ ?_
   | refine LeO.bind ?_ (fun _ => ?_)
  ·intro y0 y1 y2 y3 y4 y5 y6
   unfold steepleref03_With.l0
   repeat' first
   | (with_reducible exact ih0 _ _ _ _ _ _)
   | (with_reducible exact ih1 _ _ _ _ _ _ _)
   | (with_reducible exact steepleref01_Of.mono _ _ _ _)
   | (with_reducible exact LeO.refl _)
   | (with_reducible exact LeO.none _)
   | (with_reducible refine LeO.ite ?_ ?_)
   | (with_reducible refine LeO.bind ?_ (fun _ => ?_))
   | exact ih0 _ _ _ _ _ _
   | exact ih1 _ _ _ _ _ _ _
   | exact steepleref01_Of.mono _ _ _ _
   | exact LeO.none _
   | refine LeO.ite ?_ ?_
   | refine LeO.bind ?_ (fun _ => ?_)
theorem steepleref03_With.mono : ∀ a0 a1 a2 a3 a4 k, LeO (steepleref03_With.f k a0 a1 a2 a3 a4) (steepleref03_With.f (k + 1) a0 a1 a2 a3 a4) := by
 intro a0 a1 a2 a3 a4 k
 obtain ⟨ih0, ih1⟩ := steepleref03_With.mono_l k
 unfold steepleref03_With.f
 repeat' first
   | (with_reducible exact ih0 _ _ _ _ _ _)
   | (with_reducible exact ih1 _ _ _ _ _ _ _)
   | (with_reducible exact steepleref01_Of.mono _ _ _ _)
   | (with_reducible exact LeO.refl _)
   | (with_reducible exact LeO.none _)
   | (with_reducible refine LeO.ite ?_ ?_)
   | (with_reducible refine LeO.bind ?_ (fun _ => ?_))
   | exact ih0 _ _ _ _ _ _
   | exact ih1 _ _ _ _ _ _ _
   | exact steepleref01_Of.mono _ _ _ _
   | exact LeO.none _
   | refine LeO.ite ?_ ?_
   | refine LeO.bind ?_ (fun _ => ?_)
set_option maxHeartbeats 8000000 in
set_option maxRecDepth 100000 in
theorem steepleref03_With.calls (k : Nat) (a0_0 : Int) (A0_1 : Option Addr) (c0_1 : Nat) (l0_1 : List (S44)) (a1 : Int) (a2_0 : Int) (a2_1 : Int) (r1 : Int) (r2 : List (S44)) (r3 : Int) (w : World) (hr0_1 : Kd.C k44 w A0_1 l0_1.length l0_1) (hc0_1 : l0_1.length ≤ c0_1) (h : steepleref03_With.f k a0_0 l0_1 a1 a2_0 a2_1 = some (r1, r2, r3)) :
  Calls Try.prog 15 #[.agg #[.int .i64 a0_0, .slice A0_1 l0_1.length c0_1], .int .i64 a1, .agg #[.int .u64 a2_0, .int .u64 a2_1]] w fun e w' => ∃ v1_ : Value, e = .returned (.tuple #[.agg #[.int .i64 r1, v1_], .int .i64 r3]) ∧ Kd.R k44 44 w' w.heap.size (fun _ => True) v1_ r2 ∧ Below w.heap.size w w' := by
 have hu37 := Try.underlying37
 have hu44 := Try.underlying44
 have HR0_1 := Aside0.mk hr0_1
 have HC0_1 := Aside0.mk hc0_1
 clear hr0_1 hc0_1
 have HB := Aside0.mk (Below.refl w.heap.size w)
 have H : (if a1 < 0 then (steepleref03_With.j0 k a1 true a0_0 l0_1 a2_0 a2_1) else (steepleref03_With.j0 k a1 (decide (a1 ≥ (l0_1.length : Int))) a0_0 l0_1 a2_0 a2_1)) = some (r1, r2, r3) := h
 clear h
 have HC4 := Aside0.mk H
 clear H
 go_enter Try.func15, Try.ntmps15
 go_upto_region 1 with (first | ((with_reducible refine gate_dst (N := 3) rfl ?_); (try (refine gate_guard (by rfl) ?_; dsimp only)); refine box_event ?hg (N := 3) ?hd (cs := #[.int .i64 a0_0, .slice A0_1 l0_1.length c0_1]) (t := 37) ?hr ?_; (case hd => rfl); (case hg => rfl); (case hr => first | (go_simp; done) | (go_simp; rfl)); intro gb269 hg w5 hbox hb; have BK269 := Aside0.mk hbox; have GW269 := ge hg HB; have GE269 := ge hg HB; replace HB := bh HB hb; clear hb hbox hg) | ((with_reducible refine gate_dst (N := 5) rfl ?_); (try (refine gate_guard (by rfl) ?_; dsimp only)); refine box_event ?hg (N := 5) ?hd (cs := #[.int .u64 a2_0, .int .u64 a2_1]) (t := 44) ?hr ?_; (case hd => rfl); (case hg => rfl); (case hr => first | (go_simp; done) | (go_simp; rfl)); intro gb270 hg w6 hbox hb; have BK270 := Aside0.mk hbox; have GW270 := ge hg HB; have GE270 := ge hg HB; have NB269_270 := nl hg BK269; have NB270_269 := ng hg BK269; replace BK269 := bb BK269 hb; replace HB := bh HB hb; clear hb hbox hg) | ((with_reducible refine gate_dst (N := 6) rfl ?_); (try (refine gate_guard (by rfl) ?_; dsimp only)); refine box_event ?hg (N := 6) ?hd (cs := #[.int .i64 0, .slice none 0 0]) (t := 37) ?hr ?_; (case hd => rfl); (case hg => rfl); (case hr => first | (go_simp; done) | (go_simp; rfl)); intro gb271 hg w7 hbox hb; have BK271 := Aside0.mk hbox; have GW271 := ge hg HB; have GE271 := ge hg HB; have NB269_271 := nl hg BK269; have NB271_269 := ng hg BK269; have NB270_271 := nl hg BK270; have NB271_270 := ng hg BK270; replace BK269 := bb BK269 hb; replace BK270 := bb BK270 hb; replace HB := bh HB hb; clear hb hbox hg))
 (try simp only [Act.put, List.setIfInBounds_toArray, List.set_cons_zero, List.set_cons_succ])
 go_cut [18] (fun v18 wc => ∃ (kq : Nat) (x18_3 : Bool), v18 = .bool x18_3 ∧ Aside0 (steepleref03_With.j0 kq a1 x18_3 a0_0 l0_1 a2_0 a2_1 = some (r1, r2, r3)) ∧ Aside0 (kq ≤ k) ∧ Aside0 (wc.heap[gb269]? = some (.cells #[.int .i64 a0_0, (.slice A0_1 l0_1.length c0_1)] 37 (0, 0))) ∧ Aside0 (wc.heap[gb270]? = some (.cells #[.int .u64 a2_0, .int .u64 a2_1] 44 (0, 0))) ∧ Aside0 (wc.heap[gb271]? = some (.cells #[.int .i64 0, (.slice none 0 0)] 37 (0, 0))) ∧ Aside0 (Below w.heap.size w wc))
 case first =>
  have H := HC4.out
  clear HC4
  by_cases c8 : a1 < 0
  ·rw [if_pos c8] at H
   have c8b0 : decide (a1 < 0) = true := decide_eq_true c8
   clear c8
   (first | rw [c8b0] | (simp only [i64_w, i32_w]; rw [c8b0]) | skip)
   have H' := Aside0.mk H
   clear H
   go_wp2
   go_meet
   case rel => exact ⟨_, (true), (by first | rfl | (simp; done) | (simp [*]; done)), H', ⟨by first | omega | exact Nat.le_refl _⟩, ⟨bk BK269.out⟩, ⟨bk BK270.out⟩, ⟨bk BK271.out⟩, ⟨bq HB.out⟩⟩
  ·rw [if_neg c8] at H
   have c8b0 : decide (a1 < 0) = false := decide_eq_false c8
   clear c8
   (first | rw [c8b0] | (simp only [i64_w, i32_w]; rw [c8b0]) | skip)
   have H' := Aside0.mk H
   clear H
   have hnb9 := NB269_270.out
   have hnc9 := NB270_269.out
   have hnb10 := NB269_271.out
   have hnc10 := NB271_269.out
   obtain ⟨hcz11_0, hcz11_1⟩ := zc2 BK269
   obtain ⟨hfz11_0, hfz11_1⟩ := zf2 BK269
   go_wp2
   go_meet
   case rel => exact ⟨_, (decide (a1 ≥ (l0_1.length : Int))), (by first | rfl | (simp; done) | (simp [*]; done)), H', ⟨by first | omega | exact Nat.le_refl _⟩, ⟨bk BK269.out⟩, ⟨bk BK270.out⟩, ⟨bk BK271.out⟩, ⟨bq HB.out⟩⟩
 case rest =>
  clear HC4
  try clear c1
  try clear p2
  try clear c8
  try clear c8b0
  try clear c9
  try clear c10
  try clear hcz11_0
  try clear hcz11_1
  try clear hfz11_0
  try clear hfz11_1
  obtain ⟨kq, x18_3, rfl, HA, HJ3, BK269, BK270, BK271, HB⟩ := hcut
  cases kq with
  | zero => exact absurd HA.out (by simp [steepleref03_With.j0])
  | succ kj3 =>
   have H := HA.out
   clear HA
   simp only [steepleref03_With.j0] at H
   by_cases c12 : x18_3 = true
   ·subst c12
    have H1 : (some (0, ([] : List (S44)), 4)) = some (r1, r2, r3) := by rw [if_pos rfl] at H; exact H
    clear H
    have H := H1
    clear H1
    simp only [Option.some.injEq, Prod.mk.injEq] at H
    obtain ⟨rfl, rfl, rfl⟩ := H
    have hnb13 := NB271_269.out
    have hnc13 := NB269_271.out
    have hnb14 := NB271_270.out
    have hnc14 := NB270_271.out
    obtain ⟨hcz15_0, hcz15_1⟩ := zc2 BK271
    obtain ⟨hfz15_0, hfz15_1⟩ := zf2 BK271
    go_wp2
    refine bodyPost_ret (results_ct rfl _ _ gb271 37 #[.int .i64 0, .slice none 0 0] (0, 0) _ rfl (by (with_reducible repeat refine bl ?_); refine blk_put (cs := #[.int .i64 0, .slice none 0 0]) ?_ 1 _ rfl; (with_reducible repeat refine bl ?_); refine blk_put (cs := #[.int .i64 0, .slice none 0 0]) ?_ 0 _ rfl; (with_reducible repeat refine bl ?_); exact BK271.out) Try.underlying37 rfl (by kernel_rfl)) rfl ?_
    exact ⟨_, by first | rfl | (simp [errW_none, errW_some] <;> rfl) | (simp [*, errW_none, errW_some] <;> rfl), by first | exact Kd.R_nil _ _ _ _ _ | exact Kd.N_nil _ _ _ _ _ | exact Kd.V_nil _ _ _ _ _ | exact Kd.Q_nil _ _ _ _ _ | exact Kd.S_nil _ _ _ _ _, bq HB.out⟩
   ·replace c12 := Bool.eq_false_iff.mpr c12
    subst c12
    have H1 : ((steepleref01_Of.f kj3 a0_0 a2_0 a2_1).bind fun t272 => (if t272 = true then (steepleref03_With.l0 kj3 a1 ([] : List (S44)) 0 a0_0 l0_1 a2_0 a2_1) else (some (0, ([] : List (S44)), 5)))) = some (r1, r2, r3) := by rw [if_neg (show ¬ (false = true) by decide)] at H; exact H
    clear H
    have H := H1
    clear H1
    replace H := Option.bind_eq_some_iff.mp H
    obtain ⟨t272, A160, H⟩ := H
    replace H : (if t272 = true then (steepleref03_With.l0 kj3 a1 ([] : List (S44)) 0 a0_0 l0_1 a2_0 a2_1) else (some (0, ([] : List (S44)), 5))) = some (r1, r2, r3) := H
    have A16 := Aside0.mk A160
    clear A160
    by_cases c17 : t272 = true
    ·subst c17
     have H1 : (steepleref03_With.l0 kj3 a1 ([] : List (S44)) 0 a0_0 l0_1 a2_0 a2_1) = some (r1, r2, r3) := by rw [if_pos rfl] at H; exact H
     clear H
     have H := H1
     clear H1
     have H' := Aside0.mk H
     clear H
     have hnb18 := NB269_270.out
     have hnc18 := NB270_269.out
     have hnb19 := NB269_271.out
     have hnc19 := NB271_269.out
     obtain ⟨hcz20_0, hcz20_1⟩ := zc2 BK269
     obtain ⟨hfz20_0, hfz20_1⟩ := zf2 BK269
     have hnb21 := NB270_271.out
     have hnc21 := NB271_270.out
     obtain ⟨hcz22_0, hcz22_1⟩ := zc2 BK270
     obtain ⟨hfz22_0, hfz22_1⟩ := zf2 BK270
     go_wp2_with (first | ((with_reducible refine gate_callee (f := 25) rfl ?_); refine goesL_ (some 23) rfl rfl Try.func25 (by kernel_rfl) rfl #[.int .i64 a0_0, .agg #[.int .u64 a2_0, .int .u64 a2_1]] rfl (by (try simp only [List.map_toArray, List.map_cons, List.map_nil]); first | done | rfl | (simp only [List.length_drop, List.length_take]; rfl)) ?_; (with_reducible refine (steepleref01_Of.calls kj3 a0_0 a2_0 a2_1 true _ A16.out).mono ?_); rintro e w23 ⟨rfl, hb⟩; refine ⟨_, rfl, ?_⟩; replace BK269 := bb BK269 hb; replace BK270 := bb BK270 hb; replace BK271 := bb BK271 hb; replace HB := bh HB hb; (try clear hb); (try clear hb2); (try clear hk); (try clear hi)))
     go_loopg [8, 9] kj3 (fun kq v8 v9 w' => ∃ (x8_2 : List (S44)) (x9_2 : Int), v9 = .int .i64 x9_2 ∧ Aside0 (steepleref03_With.l0 kq a1 x8_2 x9_2 a0_0 l0_1 a2_0 a2_1 = some (r1, r2, r3)) ∧ Aside0 (kq ≤ kj3) ∧ Aside0 (Kd.R k44 44 w' w.heap.size (fun k_ => k_ ≠ gb270) v8 x8_2) ∧ Aside0 (w'.heap[gb269]? = some (.cells #[.int .i64 a0_0, (.slice A0_1 l0_1.length c0_1)] 37 (0, 0))) ∧ Aside0 (w'.heap[gb270]? = some (.cells #[.int .u64 a2_0, .int .u64 a2_1] 44 (0, 0))) ∧ Aside0 (w'.heap[gb271]? = some (.cells #[.int .i64 0, (.slice none 0 0)] 37 (0, 0))) ∧ Aside0 (Below w.heap.size w w'))
     case atStart => exact ⟨(([] : List (S44))), (0), (by first | rfl | (simp; done) | (simp [*]; done)), H', ⟨Nat.le_refl _⟩, ⟨by first | exact Kd.R_nil _ _ _ _ _ | exact Kd.N_nil _ _ _ _ _ | exact Kd.V_nil _ _ _ _ _ | exact Kd.Q_nil _ _ _ _ _ | exact Kd.S_nil _ _ _ _ _⟩, ⟨bk BK269.out⟩, ⟨bk BK270.out⟩, ⟨bk BK271.out⟩, ⟨bq HB.out⟩⟩
     case round =>
      clear H'
      try clear c1
      try clear c2
      try clear p2
      try clear c8
      try clear c8b0
      try clear c9
      try clear c10
      try clear c12
      try clear c13
      try clear c14
      try clear c15
      try clear c17
      try clear c18
      try clear c19
      try clear c21
      try clear hcz11_0
      try clear hcz11_1
      try clear hcz15_0
      try clear hcz15_1
      try clear hcz20_0
      try clear hcz20_1
      try clear hcz22_0
      try clear hcz22_1
      try clear hfz11_0
      try clear hfz11_1
      try clear hfz15_0
      try clear hfz15_1
      try clear hfz20_0
      try clear hfz20_1
      try clear hfz22_0
      try clear hfz22_1
      try clear p2
      obtain ⟨x8_2, x9_2, rfl, HA, HK2, HO_8, BK269, BK270, BK271, HB⟩ := hrel
      cases gk with
      | zero => exact absurd HA.out (by simp [steepleref03_With.l0])
      | succ k2 =>
       have H := HA.out
       clear HA
       simp only [steepleref03_With.l0] at H
       by_cases c24 : x9_2 < (l0_1.length : Int)
       ·rw [if_pos c24] at H
        have c24b0 : decide (x9_2 < (l0_1.length : Int)) = true := decide_eq_true c24
        clear c24
        by_cases c25 : x9_2 = a1
        ·rw [if_pos c25] at H
         have c25b0 : (x9_2 == a1) = true := beq_iff_eq.mpr c25
         have c25b1 : (x9_2 != a1) = false := bne_eq_false_iff_eq.mpr c25
         clear c25
         by_cases c26 : x8_2.length < 8796093022208
         ·rw [if_pos c26] at H
          have LMc26 := Aside0.mk c26
          clear c26
          obtain ⟨y273, hy273⟩ : ∃ y_ : List (S44), y_ = (x8_2 ++ [(⟨a2_0, a2_1⟩ : S44)]) := ⟨_, rfl⟩
          replace H : (steepleref03_With.l0 k2 a1 y273 (wrap64 (x9_2 + 1)) a0_0 l0_1 a2_0 a2_1) = some (r1, r2, r3) := by first | (rw [hy273]; with_reducible exact H) | (have H2_ := (Option.bind_some _ _).symm.trans H; rw [hy273]; with_reducible exact H2_) | (have H2_ := (Option.bind_some _ _).symm.trans H; with_reducible exact H2_) | with_reducible exact H | (rw [hy273]; exact H) | exact H
          have Ny273 := Aside0.mk hy273
          clear hy273
          have H' := Aside0.mk H
          clear H
          have hnb27 := NB269_270.out
          have hnc27 := NB270_269.out
          have hnb28 := NB269_271.out
          have hnc28 := NB271_269.out
          obtain ⟨hcz29_0, hcz29_1⟩ := zc2 BK269
          obtain ⟨hfz29_0, hfz29_1⟩ := zf2 BK269
          have hnb30 := NB270_271.out
          have hnc30 := NB271_270.out
          obtain ⟨hcz31_0, hcz31_1⟩ := zc2 BK270
          obtain ⟨hfz31_0, hfz31_1⟩ := zf2 BK270
          go_wp2_with (first | ((with_reducible refine gate_builtin (b := .append) (xs := #[.tmp 36, .tmp 38]) rfl ?_); (try (refine gate_guard (by rfl) ?_; dsimp only)); at_builtin; refine Kd.R_append k44 (w0 := w) w.heap.size rfl (.tmp 36) (.tmp 38) 35 44 (.agg #[(.int .u64 0), (.int .u64 0)]) 16 rfl Try.underlying35 info44 rfl (by decide) (by omega) u8 x8_2 (⟨a2_0, a2_1⟩ : S44) [.int .u64 a2_0, .int .u64 a2_1] (fun k_ => k_ ≠ gb270) (fun _ => False) rfl rfl ?aP (fun _ hk => hk.elim) ?aF ?aO ?aB ?aS ?aL ?_; (case aP => exact k44_mkM _ _ _ (⟨a2_0, a2_1⟩ : S44)); (case aB => exact (bq HB.out)); (case aF => exact (fun k_ hk => Kd.freshB (g := gb270) (o := .cells #[.int .u64 a2_0, .int .u64 a2_1] 44 (0, 0)) (bk BK270.out) k_ hk)); (case aO => exact (kr HO_8.out)); (case aS => exact (below_size (bq HB.out))); (case aL => have := LMc26.out; omega); intro v274 w32 ho hb hg hat; rw [← Ny273.out] at ho; have HO275 := Aside0.mk ho; replace BK269 := Aside0.mk (blk_grown (g := gb269) (o := .cells #[.int .i64 a0_0, .slice A0_1 l0_1.length c0_1] 37 (0, 0)) (bk BK269.out) hg (Kd.R_ne HO_8.out BK269.out (by decide))); replace BK270 := Aside0.mk (blk_grown (g := gb270) (o := .cells #[.int .u64 a2_0, .int .u64 a2_1] 44 (0, 0)) (bk BK270.out) hg (Kd.R_away HO_8.out (fun _ hk => hk))); replace BK271 := Aside0.mk (blk_grown (g := gb271) (o := .cells #[.int .i64 0, .slice none 0 0] 37 (0, 0)) (bk BK271.out) hg (Kd.R_ne HO_8.out BK271.out (by decide))); replace HB := Aside0.mk hb; clear HO_8; clear ho hb hg hat))
          go_roundg k2
          case measure => have := HJ3.out; have := HK2.out; omega
          case rel => exact ⟨(y273), (wrap64 (x9_2 + 1)), (by first | rfl | (simp; done) | (simp [*]; done)), H', ⟨by have := HJ3.out; have := HK2.out; omega⟩, ⟨kr HO275.out⟩, ⟨bk BK269.out⟩, ⟨bk BK270.out⟩, ⟨bk BK271.out⟩, ⟨bq HB.out⟩⟩
         ·rw [if_neg c26] at H
          exact absurd H (by simp)
        ·rw [if_neg c25] at H
         have c25b0 : (x9_2 == a1) = false := beq_eq_false_iff_ne.mpr c25
         have c25b1 : (x9_2 != a1) = true := bne_iff_ne.mpr c25
         by_cases c33 : 0 ≤ x9_2
         ·rw [if_pos c33] at H
          have c33b0 : decide (0 ≤ x9_2) = true := decide_eq_true c33
          clear c33
          by_cases c34 : x8_2.length < 8796093022208
          ·rw [if_pos c34] at H
           have LMc34 := Aside0.mk c34
           clear c34
           obtain ⟨y277, hy277⟩ : ∃ y_ : List (S44), y_ = (x8_2 ++ [(⟨(rd_T44 l0_1 x9_2).f0, (rd_T44 l0_1 x9_2).f1⟩ : S44)]) := ⟨_, rfl⟩
           replace H : (steepleref03_With.l0 k2 a1 y277 (wrap64 (x9_2 + 1)) a0_0 l0_1 a2_0 a2_1) = some (r1, r2, r3) := by first | (rw [hy277]; with_reducible exact H) | (have H2_ := (Option.bind_some _ _).symm.trans H; rw [hy277]; with_reducible exact H2_) | (have H2_ := (Option.bind_some _ _).symm.trans H; with_reducible exact H2_) | with_reducible exact H | (rw [hy277]; exact H) | exact H
           have Ny277 := Aside0.mk hy277
           clear hy277
           have H' := Aside0.mk H
           clear H
           have hnb35 := NB269_270.out
           have hnc35 := NB270_269.out
           have hnb36 := NB269_271.out
           have hnc36 := NB271_269.out
           obtain ⟨hcz37_0, hcz37_1⟩ := zc2 BK269
           obtain ⟨hfz37_0, hfz37_1⟩ := zf2 BK269
           have p276 : 0 ≤ (x9_2 : Int) := of_decide_eq_true (by first | (with_reducible assumption) | assumption)
           have q276 : x9_2 < (l0_1.length : Int) := of_decide_eq_true (by first | (with_reducible assumption) | assumption)
           obtain ⟨ad276, e276, hx276_0, hx276_1⟩ := at_T44 HR0_1.out x9_2 p276 q276
           cases e276
           replace hx276_0 := (HB.out.cell (World.block_lt_of_cell? w _ hx276_0)).trans hx276_0
           replace hx276_1 := (HB.out.cell (World.block_lt_of_cell? w _ hx276_1)).trans hx276_1
           replace p276 := eq_true p276
           replace q276 := eq_true q276
           go_wp2_with (first | ((with_reducible refine gate_builtin (b := .append) (xs := #[.tmp 40, .tmp 46]) rfl ?_); (try (refine gate_guard (by rfl) ?_; dsimp only)); at_builtin; refine Kd.R_append k44 (w0 := w) w.heap.size rfl (.tmp 40) (.tmp 46) 35 44 (.agg #[(.int .u64 0), (.int .u64 0)]) 16 rfl Try.underlying35 info44 rfl (by decide) (by omega) u8 x8_2 (⟨(rd_T44 l0_1 x9_2).f0, (rd_T44 l0_1 x9_2).f1⟩ : S44) [.int .u64 ((rd_T44 l0_1 x9_2).f0), .int .u64 ((rd_T44 l0_1 x9_2).f1)] (fun k_ => k_ ≠ gb270) (fun _ => False) rfl rfl ?aP (fun _ hk => hk.elim) ?aF ?aO ?aB ?aS ?aL ?_; (case aP => exact k44_mkM _ _ _ (⟨(rd_T44 l0_1 x9_2).f0, (rd_T44 l0_1 x9_2).f1⟩ : S44)); (case aB => exact (bq HB.out)); (case aF => exact (fun k_ hk => Kd.freshB (g := gb270) (o := .cells #[.int .u64 a2_0, .int .u64 a2_1] 44 (0, 0)) (bk BK270.out) k_ hk)); (case aO => exact (kr HO_8.out)); (case aS => exact (below_size (bq HB.out))); (case aL => have := LMc34.out; omega); intro v278 w38 ho hb hg hat; rw [← Ny277.out] at ho; have HO279 := Aside0.mk ho; replace BK269 := Aside0.mk (blk_grown (g := gb269) (o := .cells #[.int .i64 a0_0, .slice (some ad276) l0_1.length c0_1] 37 (0, 0)) (bk BK269.out) hg (Kd.R_ne HO_8.out BK269.out (by decide))); replace BK270 := Aside0.mk (blk_grown (g := gb270) (o := .cells #[.int .u64 a2_0, .int .u64 a2_1] 44 (0, 0)) (bk BK270.out) hg (Kd.R_away HO_8.out (fun _ hk => hk))); replace BK271 := Aside0.mk (blk_grown (g := gb271) (o := .cells #[.int .i64 0, .slice none 0 0] 37 (0, 0)) (bk BK271.out) hg (Kd.R_ne HO_8.out BK271.out (by decide))); replace HB := Aside0.mk hb; clear HO_8; clear ho hb hg hat))
           go_roundg k2
           case measure => have := HJ3.out; have := HK2.out; omega
           case rel => exact ⟨(y277), (wrap64 (x9_2 + 1)), (by first | rfl | (simp; done) | (simp [*]; done)), H', ⟨by have := HJ3.out; have := HK2.out; omega⟩, ⟨kr HO279.out⟩, ⟨bk BK269.out⟩, ⟨bk BK270.out⟩, ⟨bk BK271.out⟩, ⟨bq HB.out⟩⟩
          ·rw [if_neg c34] at H
           exact absurd H (by simp)
         ·rw [if_neg c33] at H
          exact absurd H (by simp)
       ·rw [if_neg c24] at H
        have c24b0 : decide (x9_2 < (l0_1.length : Int)) = false := decide_eq_false c24
        clear c24
        simp only [Option.some.injEq, Prod.mk.injEq] at H
        obtain ⟨rfl, rfl, rfl⟩ := H
        have hnb39 := NB269_270.out
        have hnc39 := NB270_269.out
        have hnb40 := NB269_271.out
        have hnc40 := NB271_269.out
        obtain ⟨hcz41_0, hcz41_1⟩ := zc2 BK269
        obtain ⟨hfz41_0, hfz41_1⟩ := zf2 BK269
        obtain ⟨Ao42, co42, eo42⟩ := Kd.R_slice HO_8.out
        subst eo42
        have hnb43 := NB271_270.out
        have hnc43 := NB270_271.out
        obtain ⟨hcz44_0, hcz44_1⟩ := zc2 BK271
        obtain ⟨hfz44_0, hfz44_1⟩ := zf2 BK271
        go_wp2
        refine bodyPost_ret (results_ct rfl _ _ gb271 37 #[.int .i64 a0_0, .slice Ao42 x8_2.length co42] (0, 0) _ rfl (by (with_reducible repeat refine bl ?_); refine blk_put (cs := #[.int .i64 a0_0, .slice none 0 0]) ?_ 1 _ rfl; (with_reducible repeat refine bl ?_); refine blk_put (cs := #[.int .i64 0, .slice none 0 0]) ?_ 0 _ rfl; (with_reducible repeat refine bl ?_); exact BK271.out) Try.underlying37 rfl (by kernel_rfl)) rfl ?_
        exact ⟨_, by first | rfl | (simp [errW_none, errW_some] <;> rfl) | (simp [*, errW_none, errW_some] <;> rfl), by (with_reducible repeat refine kl ?_); exact Kd.R_mono (Kd.R_far (p := ⟨gb271, 1, none⟩) (Kd.R_far (p := ⟨gb271, 0, none⟩) (Kd.R_types HO_8.out BK271.out (by decide)) (fun _ hk => hk.2) (.int .i64 a0_0)) (fun _ hk => hk.2) (.slice Ao42 x8_2.length co42)) (fun _ hk => trivial), bq HB.out⟩
    ·replace c17 := Bool.eq_false_iff.mpr c17
     subst c17
     have H1 : (some (0, ([] : List (S44)), 5)) = some (r1, r2, r3) := by rw [if_neg (show ¬ (false = true) by decide)] at H; exact H
     clear H
     have H := H1
     clear H1
     simp only [Option.some.injEq, Prod.mk.injEq] at H
     obtain ⟨rfl, rfl, rfl⟩ := H
     have hnb45 := NB269_270.out
     have hnc45 := NB270_269.out
     have hnb46 := NB269_271.out
     have hnc46 := NB271_269.out
     obtain ⟨hcz47_0, hcz47_1⟩ := zc2 BK269
     obtain ⟨hfz47_0, hfz47_1⟩ := zf2 BK269
     have hnb48 := NB270_271.out
     have hnc48 := NB271_270.out
     obtain ⟨hcz49_0, hcz49_1⟩ := zc2 BK270
     obtain ⟨hfz49_0, hfz49_1⟩ := zf2 BK270
     go_wp2_with (first | ((with_reducible refine gate_callee (f := 25) rfl ?_); refine goesL_ (some 23) rfl rfl Try.func25 (by kernel_rfl) rfl #[.int .i64 a0_0, .agg #[.int .u64 a2_0, .int .u64 a2_1]] rfl (by (try simp only [List.map_toArray, List.map_cons, List.map_nil]); first | done | rfl | (simp only [List.length_drop, List.length_take]; rfl)) ?_; (with_reducible refine (steepleref01_Of.calls kj3 a0_0 a2_0 a2_1 false _ A16.out).mono ?_); rintro e w50 ⟨rfl, hb⟩; refine ⟨_, rfl, ?_⟩; replace BK269 := bb BK269 hb; replace BK270 := bb BK270 hb; replace BK271 := bb BK271 hb; replace HB := bh HB hb; (try clear hb); (try clear hb2); (try clear hk); (try clear hi); obtain ⟨hcz51_0, hcz51_1⟩ := zc2 BK271; obtain ⟨hfz51_0, hfz51_1⟩ := zf2 BK271))
     refine bodyPost_ret (results_ct rfl _ _ gb271 37 #[.int .i64 0, .slice none 0 0] (0, 0) _ rfl (by (with_reducible repeat refine bl ?_); refine blk_put (cs := #[.int .i64 0, .slice none 0 0]) ?_ 1 _ rfl; (with_reducible repeat refine bl ?_); refine blk_put (cs := #[.int .i64 0, .slice none 0 0]) ?_ 0 _ rfl; (with_reducible repeat refine bl ?_); exact BK271.out) Try.underlying37 rfl (by kernel_rfl)) rfl ?_
     exact ⟨_, by first | rfl | (simp [errW_none, errW_some] <;> rfl) | (simp [*, errW_none, errW_some] <;> rfl), by first | exact Kd.R_nil _ _ _ _ _ | exact Kd.N_nil _ _ _ _ _ | exact Kd.V_nil _ _ _ _ _ | exact Kd.Q_nil _ _ _ _ _ | exact Kd.S_nil _ _ _ _ _, bq HB.out⟩

end Go.Proofs.Ytceneggampgboaa.P
