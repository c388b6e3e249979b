/- Written by a program of this session: functions that the law reaches, as Lean functions, and that the code comes to their answers. Conditions: those that each theorem names. -/
import Derived.Test.YtceneggampgboaaPx0
import Derived.Test.YtceneggampgboaaPx3
namespace Go.Proofs.Ytceneggampgboaa.P
open Go.RowKit Go.Proofs.YtceneggampgboaaX Go.Proofs.YtceneggampgboaaW.PrintWords Go.Proofs.YtceneggampgboaaW.PrintLast Go.Proofs.YtceneggampgboaaW.PrintMore
attribute [local go_sem] max2_int min2_int max_two min_two max_three min_three max_four min_four   -- for this text's walks alone
set_option linter.unusedVariables false
set_option linter.unusedSimpArgs false

/-! ### steeplelaw03_Pair_made: function 16 -/
def steeplelaw03_Pair_made.j0 : Nat → Bool → Int → Int → List (S25) → List (S25) → Option (Int × Int × List Int × Int × Int × List Int × Bool)
 | 0, _, _, _, _, _ => none
 | k + 1, x18, x322000, x322001, x322002, x322003 => if x18 = true then (some (0, 0, ([] : List Int), 0, 0, ([] : List Int), false)) else ((pack_Make.f k x322000 x322002).bind fun bt324 => ((pack_Make.f k x322001 x322003).bind fun bt331 => (if bt324.2.2.2 = 0 then (some (bt324.1, bt324.2.1, bt324.2.2.1, bt331.1, bt331.2.1, bt331.2.2.1, (bt331.2.2.2 == 0))) else (some (bt324.1, bt324.2.1, bt324.2.2.1, bt331.1, bt331.2.1, bt331.2.2.1, false)))))
def steeplelaw03_Pair_made.f (k : Nat) (a0_0 : Int) (a0_1 : Int) (l0_2 : List (S25)) (l0_3 : List (S25)) : Option (Int × Int × List Int × Int × Int × List Int × Bool) := if (l0_2.length : Int) > 200 then (steeplelaw03_Pair_made.j0 k true a0_0 a0_1 l0_2 l0_3) else (steeplelaw03_Pair_made.j0 k (decide ((l0_3.length : Int) > 200)) a0_0 a0_1 l0_2 l0_3)
theorem steeplelaw03_Pair_made.mono_l : ∀ k, (∀ y0 y1 y2 y3 y4, LeO (steeplelaw03_Pair_made.j0 k y0 y1 y2 y3 y4) (steeplelaw03_Pair_made.j0 (k + 1) y0 y1 y2 y3 y4))
 | 0 => fun _ _ _ _ _ r h => by simp [steeplelaw03_Pair_made.j0] at h
 | k + 1 => by
  have ih0 := steeplelaw03_Pair_made.mono_l k
  ·intro y0 y1 y2 y3 y4
   unfold steeplelaw03_Pair_made.j0
   repeat' first
   | (with_reducible exact ih0 _ _ _ _ _)
   | (with_reducible exact pack_Make.mono _ _ _)
   | (with_reducible exact LeO.refl _)
   | (with_reducible exact LeO.none _)
   | (with_reducible refine LeO.ite ?_ ?_)
   | (with_reducible refine LeO.bind ?_ (fun _ => ?_))
   | exact ih0 _ _ _ _ _
   | exact pack_Make.mono _ _ _
   | exact LeO.none _
   | refine LeO.ite ?_ ?_
   | refine LeO.bind ?_ (fun _ => ?_)
theorem steeplelaw03_Pair_made.mono : ∀ a0 a1 a2 a3 k, LeO (steeplelaw03_Pair_made.f k a0 a1 a2 a3) (steeplelaw03_Pair_made.f (k + 1) a0 a1 a2 a3) := by
 intro a0 a1 a2 a3 k
 have ih0 := steeplelaw03_Pair_made.mono_l k
 unfold steeplelaw03_Pair_made.f
 repeat' first
   | (with_reducible exact ih0 _ _ _ _ _)
   | (with_reducible exact pack_Make.mono _ _ _)
   | (with_reducible exact LeO.refl _)
   | (with_reducible exact LeO.none _)
   | (with_reducible refine LeO.ite ?_ ?_)
   | (with_reducible refine LeO.bind ?_ (fun _ => ?_))
   | exact ih0 _ _ _ _ _
   | exact pack_Make.mono _ _ _
   | exact LeO.none _
   | refine LeO.ite ?_ ?_
   | refine LeO.bind ?_ (fun _ => ?_)
def steeplelaw03_Pair_made.T5 : Bool × List (List Nat × List Nat) := (true, [([], []), ([], []), ([], []), ([2], [2]), ([3], [3]), ([4], [4]), ([5, 4], [4, 5]), ([4, 6], [4, 6]), ([0, 4, 0], [0]), ([1, 8, 0, 1, 8], [1]), ([7, 9, 0, 1, 2, 3, 4, 5, 6, 7, 8, 9], [7])])
def steeplelaw03_Pair_made.B5 : List Nat := [0, 0, 0, 4, 12, 28, 60, 124, 29, 287, 1023]
theorem steeplelaw03_Pair_made.tab5 : rtab .any (opsOf Try.f16 5) = steeplelaw03_Pair_made.T5 := by kernel_rfl
theorem steeplelaw03_Pair_made.bits5 : waitsOk steeplelaw03_Pair_made.T5.2 steeplelaw03_Pair_made.B5 = true := by kernel_rfl
set_option maxHeartbeats 8000000 in
set_option maxRecDepth 100000 in
theorem steeplelaw03_Pair_made.calls (k : Nat) (a0_0 : Int) (a0_1 : Int) (A0_2 : Option Addr) (c0_2 : Nat) (l0_2 : List (S25)) (A0_3 : Option Addr) (c0_3 : Nat) (l0_3 : List (S25)) (r1 : Int) (r2 : Int) (r3 : List Int) (r4 : Int) (r5 : Int) (r6 : List Int) (r7 : Bool) (w : World) (hr0_2 : Kd.C k25 w A0_2 l0_2.length l0_2) (hc0_2 : l0_2.length ≤ c0_2) (hr0_3 : Kd.C k25 w A0_3 l0_3.length l0_3) (hc0_3 : l0_3.length ≤ c0_3) (h : steeplelaw03_Pair_made.f k a0_0 a0_1 l0_2 l0_3 = some (r1, r2, r3, r4, r5, r6, r7)) :
  Calls Try.prog 16 #[.agg #[.int .i64 a0_0, .int .i64 a0_1, .slice A0_2 l0_2.length c0_2, .slice A0_3 l0_3.length c0_3]] w fun e w' => ∃ v2_ v5_ : Value, e = .returned (.tuple #[.agg #[.int .i64 r1, .int .i64 r2, v2_], .agg #[.int .i64 r4, .int .i64 r5, v5_], .bool r7]) ∧ Kd.R (Kd.int .u64) 23 w' w.heap.size (fun k_ => some k_ ≠ (v5_ : Value).ownBlock) v2_ r3 ∧ Kd.R (Kd.int .u64) 23 w' w.heap.size (fun k_ => some k_ ≠ (v2_ : Value).ownBlock) v5_ r6 ∧ Below w.heap.size w w' := by
 have hu49 := Try.underlying49
 have hu31 := Try.underlying31
 have HR0_2 := Aside0.mk hr0_2
 have HC0_2 := Aside0.mk hc0_2
 clear hr0_2 hc0_2
 have HR0_3 := Aside0.mk hr0_3
 have HC0_3 := Aside0.mk hc0_3
 clear hr0_3 hc0_3
 have HB := Aside0.mk (Below.refl w.heap.size w)
 have H : (if (l0_2.length : Int) > 200 then (steeplelaw03_Pair_made.j0 k true a0_0 a0_1 l0_2 l0_3) else (steeplelaw03_Pair_made.j0 k (decide ((l0_3.length : Int) > 200)) a0_0 a0_1 l0_2 l0_3)) = some (r1, r2, r3, r4, r5, r6, r7) := h
 clear h
 have HC2 := Aside0.mk H
 clear H
 go_enter Try.func16, Try.ntmps16
 go_upto_region 1 with (first | ((with_reducible refine gate_dst (N := 1) rfl ?_); (try (refine gate_guard (by rfl) ?_; dsimp only)); refine box_event ?hg (N := 1) ?hd (cs := #[.int .i64 a0_0, .int .i64 a0_1, .slice A0_2 l0_2.length c0_2, .slice A0_3 l0_3.length c0_3]) (t := 49) ?hr ?_; (case hd => rfl); (case hg => rfl); (case hr => first | (go_simp; done) | (go_simp; rfl)); intro gb321 hg w3 hbox hb; have BK321 := Aside0.mk hbox; have GW321 := ge hg HB; have GE321 := ge hg HB; replace HB := bh HB hb; clear hb hbox hg) | ((with_reducible refine gate_dst (N := 2) rfl ?_); (try (refine gate_guard (by rfl) ?_; dsimp only)); refine box_event ?hg (N := 2) ?hd (cs := #[.int .i64 0, .int .i64 0, .slice none 0 0]) (t := 31) ?hr ?_; (case hd => rfl); (case hg => rfl); (case hr => first | (go_simp; done) | (go_simp; rfl)); intro gb322 hg w4 hbox hb; have BK322 := Aside0.mk hbox; have GW322 := ge hg HB; have GE322 := ge hg HB; have NB321_322 := nl hg BK321; have NB322_321 := ng hg BK321; replace BK321 := bb BK321 hb; replace HB := bh HB hb; clear hb hbox hg) | ((with_reducible refine gate_dst (N := 3) rfl ?_); (try (refine gate_guard (by rfl) ?_; dsimp only)); refine box_event ?hg (N := 3) ?hd (cs := #[.int .i64 0, .int .i64 0, .slice none 0 0]) (t := 31) ?hr ?_; (case hd => rfl); (case hg => rfl); (case hr => first | (go_simp; done) | (go_simp; rfl)); intro gb323 hg w5 hbox hb; have BK323 := Aside0.mk hbox; have GW323 := ge hg HB; have GE323 := ge hg HB; have NB321_323 := nl hg BK321; have NB323_321 := ng hg BK321; have NB322_323 := nl hg BK322; have NB323_322 := ng hg BK322; replace BK321 := bb BK321 hb; replace BK322 := bb BK322 hb; replace HB := bh HB hb; clear hb hbox hg))
 (try simp only [Act.put, List.setIfInBounds_toArray, List.set_cons_zero, List.set_cons_succ])
 go_cut [18] (fun v18 wc => ∃ (kq : Nat) (x18_1 : Bool), v18 = .bool x18_1 ∧ Aside0 (steeplelaw03_Pair_made.j0 kq x18_1 a0_0 a0_1 l0_2 l0_3 = some (r1, r2, r3, r4, r5, r6, r7)) ∧ Aside0 (kq ≤ k) ∧ Aside0 (wc.heap[gb321]? = some (.cells #[.int .i64 a0_0, .int .i64 a0_1, (.slice A0_2 l0_2.length c0_2), (.slice A0_3 l0_3.length c0_3)] 49 (0, 0))) ∧ Aside0 (wc.heap[gb322]? = some (.cells #[.int .i64 0, .int .i64 0, (.slice none 0 0)] 31 (0, 0))) ∧ Aside0 (wc.heap[gb323]? = some (.cells #[.int .i64 0, .int .i64 0, (.slice none 0 0)] 31 (0, 0))) ∧ Aside0 (Below w.heap.size w wc))
 case first =>
  have H := HC2.out
  clear HC2
  by_cases c6 : (l0_2.length : Int) > 200
  ·rw [if_pos c6] at H
   have c6b0 : decide (200 < (l0_2.length : Int)) = true := decide_eq_true c6
   have c6b1 : decide (200 < l0_2.length) = true := decide_eq_true (by omega)
   clear c6
   (first | rw [c6b0] | (simp only [i64_w, i32_w]; rw [c6b0]) | skip)
   have H' := Aside0.mk H
   clear H
   have hnb7 := NB321_322.out
   have hnc7 := NB322_321.out
   have hnb8 := NB321_323.out
   have hnc8 := NB323_321.out
   obtain ⟨hcz9_0, hcz9_1, hcz9_2, hcz9_3⟩ := zc4 BK321
   obtain ⟨hfz9_0, hfz9_1, hfz9_2, hfz9_3⟩ := zf4 BK321
   go_wp2
   go_meet
   case rel => exact ⟨_, (true), (by first | rfl | (simp; done) | (simp [*]; done)), H', ⟨by first | omega | exact Nat.le_refl _⟩, ⟨bk BK321.out⟩, ⟨bk BK322.out⟩, ⟨bk BK323.out⟩, ⟨bq HB.out⟩⟩
  ·rw [if_neg c6] at H
   have c6b0 : decide (200 < (l0_2.length : Int)) = false := decide_eq_false c6
   have c6b1 : decide (200 < l0_2.length) = false := decide_eq_false (by omega)
   clear c6
   (first | rw [c6b0] | (simp only [i64_w, i32_w]; rw [c6b0]) | skip)
   have H' := Aside0.mk H
   clear H
   have hnb10 := NB321_322.out
   have hnc10 := NB322_321.out
   have hnb11 := NB321_323.out
   have hnc11 := NB323_321.out
   obtain ⟨hcz12_0, hcz12_1, hcz12_2, hcz12_3⟩ := zc4 BK321
   obtain ⟨hfz12_0, hfz12_1, hfz12_2, hfz12_3⟩ := zf4 BK321
   go_wp2
   go_meet
   case rel => exact ⟨_, (decide ((l0_3.length : Int) > 200)), (by first | rfl | (simp; done) | (simp [*]; done)), H', ⟨by first | omega | exact Nat.le_refl _⟩, ⟨bk BK321.out⟩, ⟨bk BK322.out⟩, ⟨bk BK323.out⟩, ⟨bq HB.out⟩⟩
 case rest =>
  clear HC2
  try clear c1
  try clear p2
  try clear c6
  try clear c6b0
  try clear c6b1
  try clear c7
  try clear c8
  try clear c10
  try clear c11
  try clear hcz12_0
  try clear hcz12_1
  try clear hcz12_2
  try clear hcz12_3
  try clear hcz9_0
  try clear hcz9_1
  try clear hcz9_2
  try clear hcz9_3
  try clear hfz12_0
  try clear hfz12_1
  try clear hfz12_2
  try clear hfz12_3
  try clear hfz9_0
  try clear hfz9_1
  try clear hfz9_2
  try clear hfz9_3
  obtain ⟨kq, x18_1, rfl, HA, HJ1, BK321, BK322, BK323, HB⟩ := hcut
  cases kq with
  | zero => exact absurd HA.out (by simp [steeplelaw03_Pair_made.j0])
  | succ kj1 =>
   have H := HA.out
   clear HA
   simp only [steeplelaw03_Pair_made.j0] at H
   by_cases c13 : x18_1 = true
   ·subst c13
    have H1 : (some (0, 0, ([] : List Int), 0, 0, ([] : List Int), false)) = some (r1, r2, r3, r4, r5, r6, r7) := by rw [if_pos rfl] at H; exact H
    clear H
    have H := H1
    clear H1
    simp only [Option.some.injEq, Prod.mk.injEq] at H
    obtain ⟨rfl, rfl, rfl, rfl, rfl, rfl, rfl⟩ := H
    have hnb14 := NB322_321.out
    have hnc14 := NB321_322.out
    have hnb15 := NB322_323.out
    have hnc15 := NB323_322.out
    obtain ⟨hcz16_0, hcz16_1, hcz16_2⟩ := zc3 BK322
    obtain ⟨hfz16_0, hfz16_1, hfz16_2⟩ := zf3 BK322
    have hnb17 := NB323_321.out
    have hnc17 := NB321_323.out
    obtain ⟨hcz18_0, hcz18_1, hcz18_2⟩ := zc3 BK323
    obtain ⟨hfz18_0, hfz18_1, hfz18_2⟩ := zf3 BK323
    go_wp2
    refine bodyPost_ret (results_list (rs := [.cell 2 31, .cell 3 31, .tmp 4]) rfl (by simp) (.cell gb322 31 #[.int .i64 0, .int .i64 0, .slice none 0 0] (0, 0) _ rfl (by (with_reducible repeat refine bl ?_); refine blk_far ?_ NB322_323.out _; (with_reducible repeat refine bl ?_); refine blk_far ?_ NB322_323.out _; (with_reducible repeat refine bl ?_); refine blk_far ?_ NB322_323.out _; (with_reducible repeat refine bl ?_); refine blk_put (cs := #[.int .i64 0, .int .i64 0, .slice none 0 0]) ?_ 2 _ rfl; (with_reducible repeat refine bl ?_); refine blk_put (cs := #[.int .i64 0, .int .i64 0, .slice none 0 0]) ?_ 1 _ rfl; (with_reducible repeat refine bl ?_); refine blk_put (cs := #[.int .i64 0, .int .i64 0, .slice none 0 0]) ?_ 0 _ rfl; (with_reducible repeat refine bl ?_); exact BK322.out) Try.underlying31 rfl (by kernel_rfl) (.cell gb323 31 #[.int .i64 0, .int .i64 0, .slice none 0 0] (0, 0) _ rfl (by (with_reducible repeat refine bl ?_); refine blk_put (cs := #[.int .i64 0, .int .i64 0, .slice none 0 0]) ?_ 2 _ rfl; (with_reducible repeat refine bl ?_); refine blk_put (cs := #[.int .i64 0, .int .i64 0, .slice none 0 0]) ?_ 1 _ rfl; (with_reducible repeat refine bl ?_); refine blk_put (cs := #[.int .i64 0, .int .i64 0, .slice none 0 0]) ?_ 0 _ rfl; (with_reducible repeat refine bl ?_); refine blk_far ?_ NB323_322.out _; (with_reducible repeat refine bl ?_); refine blk_far ?_ NB323_322.out _; (with_reducible repeat refine bl ?_); refine blk_far ?_ NB323_322.out _; (with_reducible repeat refine bl ?_); exact BK323.out) Try.underlying31 rfl (by kernel_rfl) (.tmp .nil)))) rfl ?_
    exact ⟨_, _, by first | rfl | (simp [errW_none, errW_some] <;> rfl) | (simp [*, errW_none, errW_some] <;> rfl), by first | exact Kd.R_nil _ _ _ _ _ | exact Kd.N_nil _ _ _ _ _ | exact Kd.V_nil _ _ _ _ _ | exact Kd.Q_nil _ _ _ _ _ | exact Kd.S_nil _ _ _ _ _, by first | exact Kd.R_nil _ _ _ _ _ | exact Kd.N_nil _ _ _ _ _ | exact Kd.V_nil _ _ _ _ _ | exact Kd.Q_nil _ _ _ _ _ | exact Kd.S_nil _ _ _ _ _, bq HB.out⟩
   ·replace c13 := Bool.eq_false_iff.mpr c13
    subst c13
    have H1 : ((pack_Make.f kj1 a0_0 l0_2).bind fun bt324 => ((pack_Make.f kj1 a0_1 l0_3).bind fun bt331 => (if bt324.2.2.2 = 0 then (some (bt324.1, bt324.2.1, bt324.2.2.1, bt331.1, bt331.2.1, bt331.2.2.1, (bt331.2.2.2 == 0))) else (some (bt324.1, bt324.2.1, bt324.2.2.1, bt331.1, bt331.2.1, bt331.2.2.1, false))))) = some (r1, r2, r3, r4, r5, r6, r7) := by rw [if_neg (show ¬ (false = true) by decide)] at H; exact H
    clear H
    have H := H1
    clear H1
    replace H := Option.bind_eq_some_iff.mp H
    obtain ⟨⟨t324, t325, t326, t329⟩, A190, H⟩ := H
    replace H : ((pack_Make.f kj1 a0_1 l0_3).bind fun bt331 => (if t329 = 0 then (some (t324, t325, t326, bt331.1, bt331.2.1, bt331.2.2.1, (bt331.2.2.2 == 0))) else (some (t324, t325, t326, bt331.1, bt331.2.1, bt331.2.2.1, false)))) = some (r1, r2, r3, r4, r5, r6, r7) := H
    have A19 := Aside0.mk A190
    clear A190
    replace H := Option.bind_eq_some_iff.mp H
    obtain ⟨⟨t331, t332, t333, t336⟩, A200, H⟩ := H
    replace H : (if t329 = 0 then (some (t324, t325, t326, t331, t332, t333, (t336 == 0))) else (some (t324, t325, t326, t331, t332, t333, false))) = some (r1, r2, r3, r4, r5, r6, r7) := H
    have A20 := Aside0.mk A200
    clear A200
    by_cases c21 : t329 = 0
    ·rw [if_pos c21] at H
     have c21b0 : (t329 == 0) = true := beq_iff_eq.mpr c21
     have c21b1 : (t329 != 0) = false := bne_eq_false_iff_eq.mpr c21
     clear c21
     simp only [Option.some.injEq, Prod.mk.injEq] at H
     obtain ⟨rfl, rfl, rfl, rfl, rfl, rfl, rfl⟩ := H
     have hnb22 := NB321_322.out
     have hnc22 := NB322_321.out
     have hnb23 := NB321_323.out
     have hnc23 := NB323_321.out
     obtain ⟨hcz24_0, hcz24_1, hcz24_2, hcz24_3⟩ := zc4 BK321
     obtain ⟨hfz24_0, hfz24_1, hfz24_2, hfz24_3⟩ := zf4 BK321
     try go_wp2_with (first | ((with_reducible refine gate_callee (f := 9) rfl ?_); refine goesL_ (some 26) rfl rfl Try.func9 (by kernel_rfl) rfl #[.int .i64 a0_0, .slice A0_2 l0_2.length c0_2] rfl (by (try simp only [List.map_toArray, List.map_cons, List.map_nil]); first | done | rfl | (simp only [List.length_drop, List.length_take]; rfl)) ?_; (with_reducible refine (pack_Make.calls kj1 a0_0 _ _ l0_2 t324 t325 t326 t329 _ ?side1 ?side2 A19.out).mono ?_); (case side1 => repeat (first | exact (Kd.C_below HR0_2.out HB.out) | (with_reducible refine Kd.C_alloc ?_ _) | (with_reducible refine Kd.C_drewN ?_ _) | (with_reducible refine Kd.C_drew ?_))); (case side2 => exact HC0_2.out); rintro e w25 ⟨v327, rfl, ho0, hb⟩; refine ⟨_, rfl, ?_⟩; have HO328 := kw ho0 HB; replace BK321 := bb BK321 hb; replace BK322 := bb BK322 hb; replace BK323 := bb BK323 hb; replace HB := bh HB hb; (try clear hb); (try clear hb2); (try clear hk); (try clear hi); (try clear ho0)) | ((with_reducible refine gate_dst (N := 5) rfl ?_); (try (refine gate_guard (by rfl) ?_; dsimp only)); refine box_event ?hg (N := 5) ?hd (cs := #[.int .i64 0, .int .i64 0, .slice none 0 0]) (t := 31) ?hr ?_; (case hd => rfl); (case hg => rfl); (case hr => first | (go_simp; done) | (go_simp; rfl)); intro gb330 hg w26 hbox hb; have BK330 := Aside0.mk hbox; have GW330 := ge hg HB; have GE330 := ge hg HB; have NB321_330 := nl hg BK321; have NB330_321 := ng hg BK321; have NB322_330 := nl hg BK322; have NB330_322 := ng hg BK322; have NB323_330 := nl hg BK323; have NB330_323 := ng hg BK323; replace HO328 := kb HO328 hb; replace BK321 := bb BK321 hb; replace BK322 := bb BK322 hb; replace BK323 := bb BK323 hb; replace HB := bh HB hb; clear hb hbox hg; have hnb27 := NB330_321.out; have hnc27 := NB321_330.out; have hnb28 := NB330_322.out; have hnc28 := NB322_330.out; have hnb29 := NB330_323.out; have hnc29 := NB323_330.out; obtain ⟨hcz30_0, hcz30_1, hcz30_2⟩ := zc3 BK330; obtain ⟨hfz30_0, hfz30_1, hfz30_2⟩ := zf3 BK330; obtain ⟨Ao31, co31, eo31⟩ := Kd.R_slice HO328.out; subst eo31; obtain ⟨hcz32_0, hcz32_1, hcz32_2, hcz32_3⟩ := zc4 BK321; obtain ⟨hfz32_0, hfz32_1, hfz32_2, hfz32_3⟩ := zf4 BK321) | ((with_reducible refine gate_callee (f := 9) rfl ?_); refine goesL_ (some 34) rfl rfl Try.func9 (by kernel_rfl) rfl #[.int .i64 a0_1, .slice A0_3 l0_3.length c0_3] rfl (by (try simp only [List.map_toArray, List.map_cons, List.map_nil]); first | done | rfl | (simp only [List.length_drop, List.length_take]; rfl)) ?_; (with_reducible refine (pack_Make.calls kj1 a0_1 _ _ l0_3 t331 t332 t333 t336 _ ?side1 ?side2 A20.out).mono ?_); (case side1 => exact Kd.C_below HR0_3.out (bq HB.out)); (case side2 => exact HC0_3.out); rintro e w33 ⟨v334, rfl, ho0, hb⟩; refine ⟨_, rfl, ?_⟩; have HO335 := Aside0.mk (Kd.R_lower (Kd.R_new' ho0 (Kd.R_lt (by (with_reducible repeat refine kl ?_); exact (kf3 HO328 BK330 (by decide))))) (below_size (bq HB.out))); replace HO328 := Aside0.mk (Kd.R_elder' (by (with_reducible repeat refine kl ?_); exact (kf3 HO328 BK330 (by decide))) (Kd.R_base ho0) hb); replace BK321 := Aside0.mk (blk_below (g := gb321) (o := .cells #[.int .i64 a0_0, .int .i64 a0_1, .slice A0_2 l0_2.length c0_2, .slice A0_3 l0_3.length c0_3] 49 (0, 0)) (by (with_reducible repeat refine bl ?_); refine blk_far ?_ NB321_330.out _; (with_reducible repeat refine bl ?_); refine blk_far ?_ NB321_330.out _; (with_reducible repeat refine bl ?_); refine blk_far ?_ NB321_330.out _; (with_reducible repeat refine bl ?_); exact BK321.out) hb); replace BK322 := Aside0.mk (blk_below (g := gb322) (o := .cells #[.int .i64 0, .int .i64 0, .slice none 0 0] 31 (0, 0)) (by (with_reducible repeat refine bl ?_); refine blk_far ?_ NB322_330.out _; (with_reducible repeat refine bl ?_); refine blk_far ?_ NB322_330.out _; (with_reducible repeat refine bl ?_); refine blk_far ?_ NB322_330.out _; (with_reducible repeat refine bl ?_); exact BK322.out) hb); replace BK323 := Aside0.mk (blk_below (g := gb323) (o := .cells #[.int .i64 0, .int .i64 0, .slice none 0 0] 31 (0, 0)) (by (with_reducible repeat refine bl ?_); refine blk_far ?_ NB323_330.out _; (with_reducible repeat refine bl ?_); refine blk_far ?_ NB323_330.out _; (with_reducible repeat refine bl ?_); refine blk_far ?_ NB323_330.out _; (with_reducible repeat refine bl ?_); exact BK323.out) hb); replace BK330 := Aside0.mk (blk_below (g := gb330) (o := .cells #[.int .i64 t324, .int .i64 t325, .slice Ao31 t326.length co31] 31 (0, 0)) (by (with_reducible repeat refine bl ?_); refine blk_put (cs := #[.int .i64 t324, .int .i64 t325, .slice none 0 0]) ?_ 2 _ rfl; (with_reducible repeat refine bl ?_); refine blk_put (cs := #[.int .i64 t324, .int .i64 0, .slice none 0 0]) ?_ 1 _ rfl; (with_reducible repeat refine bl ?_); refine blk_put (cs := #[.int .i64 0, .int .i64 0, .slice none 0 0]) ?_ 0 _ rfl; (with_reducible repeat refine bl ?_); exact BK330.out) hb); replace HB := bh HB hb; (try clear hb); (try clear hb2); (try clear hk); (try clear hi); (try clear ho0)) | ((with_reducible refine gate_dst (N := 7) rfl ?_); (try (refine gate_guard (by rfl) ?_; dsimp only)); refine box_event ?hg (N := 7) ?hd (cs := #[.int .i64 0, .int .i64 0, .slice none 0 0]) (t := 31) ?hr ?_; (case hd => rfl); (case hg => rfl); (case hr => first | (go_simp; done) | (go_simp; rfl)); intro gb337 hg w34 hbox hb; have BK337 := Aside0.mk hbox; have GW337 := ge hg HB; have GE337 := ge hg HB; have NB321_337 := nl hg BK321; have NB337_321 := ng hg BK321; have NB322_337 := nl hg BK322; have NB337_322 := ng hg BK322; have NB323_337 := nl hg BK323; have NB337_323 := ng hg BK323; have NB330_337 := nl hg BK330; have NB337_330 := ng hg BK330; replace HO328 := kb HO328 hb; replace HO335 := kb HO335 hb; replace BK321 := bb BK321 hb; replace BK322 := bb BK322 hb; replace BK323 := bb BK323 hb; replace BK330 := bb BK330 hb; replace HB := bh HB hb; clear hb hbox hg; have hnb35 := NB337_321.out; have hnc35 := NB321_337.out; have hnb36 := NB337_322.out; have hnc36 := NB322_337.out; have hnb37 := NB337_323.out; have hnc37 := NB323_337.out; have hnb38 := NB337_330.out; have hnc38 := NB330_337.out; obtain ⟨hcz39_0, hcz39_1, hcz39_2⟩ := zc3 BK337; obtain ⟨hfz39_0, hfz39_1, hfz39_2⟩ := zf3 BK337; obtain ⟨Ao40, co40, eo40⟩ := Kd.R_slice HO335.out; subst eo40))
     have n0_ : Aside0 (Kd.R (Kd.int .u64) 23 (((w34.setCell ⟨gb337, 0, none⟩ (.int .i64 t331)).setCell ⟨gb337, 1, none⟩ (.int .i64 t332)).setCell ⟨gb337, 2, none⟩ (.slice Ao40 t333.length co40)) w.heap.size (fun k_ => some k_ ≠ (.slice Ao40 t333.length co40 : Value).ownBlock) (.slice Ao31 t326.length co31) t326) := ⟨by (with_reducible repeat refine kl ?_); exact Kd.R_mono (Kd.R_far (p := ⟨gb337, 2, none⟩) (Kd.R_far (p := ⟨gb337, 1, none⟩) (Kd.R_far (p := ⟨gb337, 0, none⟩) (Kd.R_types HO328.out BK337.out (by decide)) (fun _ hk => hk.2) (.int .i64 t331)) (fun _ hk => hk.2) (.int .i64 t332)) (fun _ hk => hk.2) (.slice Ao40 t333.length co40)) (fun _ hk => hk.1.2)⟩
     have n1_ : Aside0 (Kd.R (Kd.int .u64) 23 (((w34.setCell ⟨gb337, 0, none⟩ (.int .i64 t331)).setCell ⟨gb337, 1, none⟩ (.int .i64 t332)).setCell ⟨gb337, 2, none⟩ (.slice Ao40 t333.length co40)) w.heap.size (fun k_ => some k_ ≠ (.slice Ao31 t326.length co31 : Value).ownBlock) (.slice Ao40 t333.length co40) t333) := ⟨by (with_reducible repeat refine kl ?_); exact Kd.R_mono (Kd.R_far (p := ⟨gb337, 2, none⟩) (Kd.R_far (p := ⟨gb337, 1, none⟩) (Kd.R_far (p := ⟨gb337, 0, none⟩) (Kd.R_types HO335.out BK337.out (by decide)) (fun _ hk => hk.2) (.int .i64 t331)) (fun _ hk => hk.2) (.int .i64 t332)) (fun _ hk => hk.2) (.slice Ao40 t333.length co40)) (fun _ hk => hk.1.2)⟩
     have n2_ : Aside0 ((((w34.setCell ⟨gb337, 0, none⟩ (.int .i64 t331)).setCell ⟨gb337, 1, none⟩ (.int .i64 t332)).setCell ⟨gb337, 2, none⟩ (.slice Ao40 t333.length co40)).heap[gb321]? = some (.cells #[.int .i64 a0_0, .int .i64 a0_1, .slice A0_2 l0_2.length c0_2, .slice A0_3 l0_3.length c0_3] 49 (0, 0))) := ⟨by (with_reducible repeat refine bl ?_); refine blk_far ?_ NB321_337.out _; (with_reducible repeat refine bl ?_); refine blk_far ?_ NB321_337.out _; (with_reducible repeat refine bl ?_); refine blk_far ?_ NB321_337.out _; (with_reducible repeat refine bl ?_); exact BK321.out⟩
     have n3_ : Aside0 ((((w34.setCell ⟨gb337, 0, none⟩ (.int .i64 t331)).setCell ⟨gb337, 1, none⟩ (.int .i64 t332)).setCell ⟨gb337, 2, none⟩ (.slice Ao40 t333.length co40)).heap[gb322]? = some (.cells #[.int .i64 0, .int .i64 0, .slice none 0 0] 31 (0, 0))) := ⟨by (with_reducible repeat refine bl ?_); refine blk_far ?_ NB322_337.out _; (with_reducible repeat refine bl ?_); refine blk_far ?_ NB322_337.out _; (with_reducible repeat refine bl ?_); refine blk_far ?_ NB322_337.out _; (with_reducible repeat refine bl ?_); exact BK322.out⟩
     have n4_ : Aside0 ((((w34.setCell ⟨gb337, 0, none⟩ (.int .i64 t331)).setCell ⟨gb337, 1, none⟩ (.int .i64 t332)).setCell ⟨gb337, 2, none⟩ (.slice Ao40 t333.length co40)).heap[gb323]? = some (.cells #[.int .i64 0, .int .i64 0, .slice none 0 0] 31 (0, 0))) := ⟨by (with_reducible repeat refine bl ?_); refine blk_far ?_ NB323_337.out _; (with_reducible repeat refine bl ?_); refine blk_far ?_ NB323_337.out _; (with_reducible repeat refine bl ?_); refine blk_far ?_ NB323_337.out _; (with_reducible repeat refine bl ?_); exact BK323.out⟩
     have n5_ : Aside0 ((((w34.setCell ⟨gb337, 0, none⟩ (.int .i64 t331)).setCell ⟨gb337, 1, none⟩ (.int .i64 t332)).setCell ⟨gb337, 2, none⟩ (.slice Ao40 t333.length co40)).heap[gb330]? = some (.cells #[.int .i64 t324, .int .i64 t325, .slice Ao31 t326.length co31] 31 (0, 0))) := ⟨by (with_reducible repeat refine bl ?_); refine blk_far ?_ NB330_337.out _; (with_reducible repeat refine bl ?_); refine blk_far ?_ NB330_337.out _; (with_reducible repeat refine bl ?_); refine blk_far ?_ NB330_337.out _; (with_reducible repeat refine bl ?_); exact BK330.out⟩
     have n6_ : Aside0 ((((w34.setCell ⟨gb337, 0, none⟩ (.int .i64 t331)).setCell ⟨gb337, 1, none⟩ (.int .i64 t332)).setCell ⟨gb337, 2, none⟩ (.slice Ao40 t333.length co40)).heap[gb337]? = some (.cells #[.int .i64 t331, .int .i64 t332, .slice Ao40 t333.length co40] 31 (0, 0))) := ⟨by (with_reducible repeat refine bl ?_); refine blk_put (cs := #[.int .i64 t331, .int .i64 t332, .slice none 0 0]) ?_ 2 _ rfl; (with_reducible repeat refine bl ?_); refine blk_put (cs := #[.int .i64 t331, .int .i64 0, .slice none 0 0]) ?_ 1 _ rfl; (with_reducible repeat refine bl ?_); refine blk_put (cs := #[.int .i64 0, .int .i64 0, .slice none 0 0]) ?_ 0 _ rfl; (with_reducible repeat refine bl ?_); exact BK337.out⟩
     have n7_ : Aside0 (Below w.heap.size w (((w34.setCell ⟨gb337, 0, none⟩ (.int .i64 t331)).setCell ⟨gb337, 1, none⟩ (.int .i64 t332)).setCell ⟨gb337, 2, none⟩ (.slice Ao40 t333.length co40))) := ⟨bq HB.out⟩
     (try clear HO328)
     (try clear HO335)
     (try clear BK321)
     (try clear BK322)
     (try clear BK323)
     (try clear BK330)
     (try clear BK337)
     (try clear HB)
     generalize (((w34.setCell ⟨gb337, 0, none⟩ (.int .i64 t331)).setCell ⟨gb337, 1, none⟩ (.int .i64 t332)).setCell ⟨gb337, 2, none⟩ (.slice Ao40 t333.length co40)) = w41 at n0_ n1_ n2_ n3_ n4_ n5_ n6_ n7_ ⊢
     have HO328 := n0_
     have HO335 := n1_
     have BK321 := n2_
     have BK322 := n3_
     have BK323 := n4_
     have BK330 := n5_
     have BK337 := n6_
     have HB := n7_
     clear n0_ n1_ n2_ n3_ n4_ n5_ n6_ n7_
     replace HO328 := Aside0.mk (Kd.R_drew HO328.out)
     replace HO335 := Aside0.mk (Kd.R_drew HO335.out)
     replace BK321 := Aside0.mk (blk_drew BK321.out)
     replace BK322 := Aside0.mk (blk_drew BK322.out)
     replace BK323 := Aside0.mk (blk_drew BK323.out)
     replace BK330 := Aside0.mk (blk_drew BK330.out)
     replace BK337 := Aside0.mk (blk_drew BK337.out)
     replace HB := Aside0.mk (below_drew1 HB.out)
     refine start_ (n := 11) (S := fun w' => w'.cell? ⟨gb330, 0, none⟩ = some (.int .i64 t324) ∧ w'.cell? ⟨gb330, 1, none⟩ = some (.int .i64 t325) ∧ w'.cell? ⟨gb330, 2, none⟩ = some (.slice Ao31 t326.length co31) ∧ w'.cell? ⟨gb337, 0, none⟩ = some (.int .i64 t331) ∧ w'.cell? ⟨gb337, 1, none⟩ = some (.int .i64 t332) ∧ w'.cell? ⟨gb337, 2, none⟩ = some (.slice Ao40 t333.length co40)) (ds := []) #[false, false, false, false, false, false, false, false, false, false, false] (by kernel_rfl) rfl rfl ⟨(blk_cell BK330.out 0).trans rfl, (blk_cell BK330.out 1).trans rfl, (blk_cell BK330.out 2).trans rfl, (blk_cell BK337.out 0).trans rfl, (blk_cell BK337.out 1).trans rfl, (blk_cell BK337.out 2).trans rfl⟩ (fun hHeld => ?_); refine with_tabW steeplelaw03_Pair_made.tab5 steeplelaw03_Pair_made.bits5 (fun HT_ HW_ => ?_)
     generalize w41.drew = w42 at HO328 HO335 BK321 BK322 BK323 BK330 BK337 HB hHeld ⊢
     refine pure_ (i := 2) (N := some 39) (v := ?_) (a' := ?_) #[false, false, true, false, false, false, false, false, false, false, false] rfl rfl (any_of HT_.out (by kernel_rfl)) (fun _ _ _ h => h) (Or.inl ⟨by rfl, ?_⟩) ?_ ?_
     rotate_left
     ·intro w'
      go_simp
      with_reducible rfl
     rotate_left
     ·simp only [Act.put, List.setIfInBounds_toArray, List.set_cons_zero, List.set_cons_succ, i64_w, i32_w]
      rfl
     refine pure_ (i := 3) (N := some 40) (v := ?_) (a' := ?_) #[false, false, true, true, false, false, false, false, false, false, false] rfl rfl (any_of HT_.out (by kernel_rfl)) (fun _ _ _ h => h) (Or.inl ⟨by rfl, ?_⟩) ?_ ?_
     rotate_left
     ·intro w'
      go_simp
      with_reducible rfl
     rotate_left
     ·simp only [Act.put, List.setIfInBounds_toArray, List.set_cons_zero, List.set_cons_succ, i64_w, i32_w]
      rfl
     refine pure_ (i := 4) (N := some 41) (v := ?_) (a' := ?_) #[false, false, true, true, true, false, false, false, false, false, false] rfl rfl (any_of HT_.out (by kernel_rfl)) (fun _ _ _ h => h) (Or.inl ⟨by rfl, ?_⟩) ?_ ?_
     rotate_left
     ·intro w'
      go_simp
      with_reducible rfl
     rotate_left
     ·simp only [Act.put, List.setIfInBounds_toArray, List.set_cons_zero, List.set_cons_succ, i64_w, i32_w]
      rfl
     refine pure_ (i := 5) (N := some 42) (v := ?_) (a' := ?_) #[false, false, true, true, true, true, false, false, false, false, false] rfl rfl (any_of HT_.out (by kernel_rfl)) (fun _ _ _ h => h) (Or.inl ⟨by rfl, ?_⟩) ?_ ?_
     rotate_left
     ·intro w'
      go_simp
      with_reducible rfl
     rotate_left
     ·simp only [Act.put, List.setIfInBounds_toArray, List.set_cons_zero, List.set_cons_succ, i64_w, i32_w]
      rfl
     refine pure_ (i := 6) (N := some 43) (v := ?_) (a' := ?_) #[false, false, true, true, true, true, true, false, false, false, false] rfl rfl (any_of HT_.out (by kernel_rfl)) (fun _ _ _ h => h) (Or.inl ⟨by rfl, ?_⟩) ?_ ?_
     rotate_left
     ·intro w'
      go_simp
      with_reducible rfl
     rotate_left
     ·simp only [Act.put, List.setIfInBounds_toArray, List.set_cons_zero, List.set_cons_succ, i64_w, i32_w]
      rfl
     refine pure_ (i := 7) (N := some 44) (v := ?_) (a' := ?_) #[false, false, true, true, true, true, true, true, false, false, false] rfl rfl (any_of HT_.out (by kernel_rfl)) (fun _ _ _ h => h) (Or.inl ⟨by rfl, ?_⟩) ?_ ?_
     rotate_left
     ·intro w'
      go_simp
      with_reducible rfl
     rotate_left
     ·simp only [Act.put, List.setIfInBounds_toArray, List.set_cons_zero, List.set_cons_succ, i64_w, i32_w]
      rfl
     refine take_ (i := 0) (N := some 37) (v := ?_) (a' := ?_) #[true, false, true, true, true, true, true, true, false, false, false] rfl rfl (take_ofW HT_.out HW_.out (by kernel_rfl)) (fun _ _ _ h => h) (Or.inl ⟨by rfl, ?_⟩) hHeld ?_ ?_
     rotate_left
     ·rintro w' ⟨s0, s1, s2, s3, s4, s5⟩
      go_simp
      with_reducible rfl
     rotate_left
     ·simp only [Act.put, List.setIfInBounds_toArray, List.set_cons_zero, List.set_cons_succ, i64_w, i32_w]
      rfl
     refine take_ (i := 1) (N := some 38) (v := ?_) (a' := ?_) #[true, true, true, true, true, true, true, true, false, false, false] rfl rfl (take_ofW HT_.out HW_.out (by kernel_rfl)) (fun _ _ _ h => h) (Or.inl ⟨by rfl, ?_⟩) hHeld ?_ ?_
     rotate_left
     ·rintro w' ⟨s0, s1, s2, s3, s4, s5⟩
      go_simp
      with_reducible rfl
     rotate_left
     ·simp only [Act.put, List.setIfInBounds_toArray, List.set_cons_zero, List.set_cons_succ, i64_w, i32_w]
      rfl
     refine one_ (i := 8) (N := none) #[true, true, true, true, true, true, true, true, true, false, false] rfl rfl (one_of HT_.out (by kernel_rfl)) (by decide) (fun K hK => ?_)
     have hs43 : w42.cell? ⟨gb322, 0, none⟩ = some (.int .i64 0) := (blk_cell BK322.out 0).trans rfl
     have hfs43 := blk_frozen BK322.out 0
     have hns43_0 := NB321_322.out
     have hns43_2 := NB323_322.out
     have hns43_3 := NB330_322.out
     have hns43_4 := NB337_322.out
     have hms43_0 := NB322_321.out
     have hms43_2 := NB322_323.out
     have hms43_3 := NB322_330.out
     have hms43_4 := NB322_337.out
     have hs44 : w42.cell? ⟨gb322, 1, none⟩ = some (.int .i64 0) := (blk_cell BK322.out 1).trans rfl
     have hfs44 := blk_frozen BK322.out 1
     have hns44_0 := NB321_322.out
     have hns44_2 := NB323_322.out
     have hns44_3 := NB330_322.out
     have hns44_4 := NB337_322.out
     have hms44_0 := NB322_321.out
     have hms44_2 := NB322_323.out
     have hms44_3 := NB322_330.out
     have hms44_4 := NB322_337.out
     have hs45 : w42.cell? ⟨gb322, 2, none⟩ = some (.slice none 0 0) := (blk_cell BK322.out 2).trans rfl
     have hfs45 := blk_frozen BK322.out 2
     have hns45_0 := NB321_322.out
     have hns45_2 := NB323_322.out
     have hns45_3 := NB330_322.out
     have hns45_4 := NB337_322.out
     have hms45_0 := NB322_321.out
     have hms45_2 := NB322_323.out
     have hms45_3 := NB322_330.out
     have hms45_4 := NB322_337.out
     refine skip_ (w1 := ?_) (by rfl) rfl ?_ ?_
     rotate_left
     ·go_simp
      rfl
     refine hK.out _ _ ⟨((cell_far (p := ⟨gb322, _, none⟩) NB330_322.out _).trans (((cell_far (p := ⟨gb322, _, none⟩) NB330_322.out _).trans (((cell_far (p := ⟨gb322, _, none⟩) NB330_322.out _).trans (hHeld.1)))))), ((cell_far (p := ⟨gb322, _, none⟩) NB330_322.out _).trans (((cell_far (p := ⟨gb322, _, none⟩) NB330_322.out _).trans (((cell_far (p := ⟨gb322, _, none⟩) NB330_322.out _).trans (hHeld.2.1)))))), ((cell_far (p := ⟨gb322, _, none⟩) NB330_322.out _).trans (((cell_far (p := ⟨gb322, _, none⟩) NB330_322.out _).trans (((cell_far (p := ⟨gb322, _, none⟩) NB330_322.out _).trans (hHeld.2.2.1)))))), ((cell_far (p := ⟨gb322, _, none⟩) NB337_322.out _).trans (((cell_far (p := ⟨gb322, _, none⟩) NB337_322.out _).trans (((cell_far (p := ⟨gb322, _, none⟩) NB337_322.out _).trans (hHeld.2.2.2.1)))))), ((cell_far (p := ⟨gb322, _, none⟩) NB337_322.out _).trans (((cell_far (p := ⟨gb322, _, none⟩) NB337_322.out _).trans (((cell_far (p := ⟨gb322, _, none⟩) NB337_322.out _).trans (hHeld.2.2.2.2.1)))))), ((cell_far (p := ⟨gb322, _, none⟩) NB337_322.out _).trans (((cell_far (p := ⟨gb322, _, none⟩) NB337_322.out _).trans (((cell_far (p := ⟨gb322, _, none⟩) NB337_322.out _).trans (hHeld.2.2.2.2.2))))))⟩ (fun hHeld => ?_)
     clear hK K
     refine one_ (i := 9) (N := none) #[true, true, true, true, true, true, true, true, true, true, false] rfl rfl (one_of HT_.out (by kernel_rfl)) (by decide) (fun K hK => ?_)
     have hs46 : w42.cell? ⟨gb323, 0, none⟩ = some (.int .i64 0) := (blk_cell BK323.out 0).trans rfl
     have hfs46 := blk_frozen BK323.out 0
     have hns46_0 := NB321_323.out
     have hns46_1 := NB322_323.out
     have hns46_3 := NB330_323.out
     have hns46_4 := NB337_323.out
     have hms46_0 := NB323_321.out
     have hms46_1 := NB323_322.out
     have hms46_3 := NB323_330.out
     have hms46_4 := NB323_337.out
     have hs47 : w42.cell? ⟨gb323, 1, none⟩ = some (.int .i64 0) := (blk_cell BK323.out 1).trans rfl
     have hfs47 := blk_frozen BK323.out 1
     have hns47_0 := NB321_323.out
     have hns47_1 := NB322_323.out
     have hns47_3 := NB330_323.out
     have hns47_4 := NB337_323.out
     have hms47_0 := NB323_321.out
     have hms47_1 := NB323_322.out
     have hms47_3 := NB323_330.out
     have hms47_4 := NB323_337.out
     have hs48 : w42.cell? ⟨gb323, 2, none⟩ = some (.slice none 0 0) := (blk_cell BK323.out 2).trans rfl
     have hfs48 := blk_frozen BK323.out 2
     have hns48_0 := NB321_323.out
     have hns48_1 := NB322_323.out
     have hns48_3 := NB330_323.out
     have hns48_4 := NB337_323.out
     have hms48_0 := NB323_321.out
     have hms48_1 := NB323_322.out
     have hms48_3 := NB323_330.out
     have hms48_4 := NB323_337.out
     refine skip_ (w1 := ?_) (by rfl) rfl ?_ ?_
     rotate_left
     ·go_simp
      rfl
     refine hK.out _ _ ⟨((cell_far (p := ⟨gb323, _, none⟩) NB330_323.out _).trans (((cell_far (p := ⟨gb323, _, none⟩) NB330_323.out _).trans (((cell_far (p := ⟨gb323, _, none⟩) NB330_323.out _).trans (hHeld.1)))))), ((cell_far (p := ⟨gb323, _, none⟩) NB330_323.out _).trans (((cell_far (p := ⟨gb323, _, none⟩) NB330_323.out _).trans (((cell_far (p := ⟨gb323, _, none⟩) NB330_323.out _).trans (hHeld.2.1)))))), ((cell_far (p := ⟨gb323, _, none⟩) NB330_323.out _).trans (((cell_far (p := ⟨gb323, _, none⟩) NB330_323.out _).trans (((cell_far (p := ⟨gb323, _, none⟩) NB330_323.out _).trans (hHeld.2.2.1)))))), ((cell_far (p := ⟨gb323, _, none⟩) NB337_323.out _).trans (((cell_far (p := ⟨gb323, _, none⟩) NB337_323.out _).trans (((cell_far (p := ⟨gb323, _, none⟩) NB337_323.out _).trans (hHeld.2.2.2.1)))))), ((cell_far (p := ⟨gb323, _, none⟩) NB337_323.out _).trans (((cell_far (p := ⟨gb323, _, none⟩) NB337_323.out _).trans (((cell_far (p := ⟨gb323, _, none⟩) NB337_323.out _).trans (hHeld.2.2.2.2.1)))))), ((cell_far (p := ⟨gb323, _, none⟩) NB337_323.out _).trans (((cell_far (p := ⟨gb323, _, none⟩) NB337_323.out _).trans (((cell_far (p := ⟨gb323, _, none⟩) NB337_323.out _).trans (hHeld.2.2.2.2.2))))))⟩ (fun hHeld => ?_)
     clear hK K
     refine pure_ (i := 10) (N := some 4) (v := ?_) (a' := ?_) #[true, true, true, true, true, true, true, true, true, true, true] rfl rfl (any_of HT_.out (by kernel_rfl)) (fun _ _ _ h => h) (Or.inl ⟨by rfl, ?_⟩) ?_ ?_
     rotate_left
     ·intro w'
      go_simp
      with_reducible rfl
     rotate_left
     ·simp only [Act.put, List.setIfInBounds_toArray, List.set_cons_zero, List.set_cons_succ, i64_w, i32_w]
      rfl
     refine done_ (done_of HT_.out (by kernel_rfl)) ?_
     try go_wp2
     refine bodyPost_ret (results_list (rs := [.cell 2 31, .cell 3 31, .tmp 4]) rfl (by simp) (.cell gb322 31 #[.int .i64 t324, .int .i64 t325, .slice Ao31 t326.length co31] (0, 0) _ rfl (by (with_reducible repeat refine bl ?_); refine blk_far ?_ NB322_323.out _; (with_reducible repeat refine bl ?_); refine blk_far ?_ NB322_323.out _; (with_reducible repeat refine bl ?_); refine blk_far ?_ NB322_323.out _; (with_reducible repeat refine bl ?_); refine blk_put (cs := #[.int .i64 t324, .int .i64 t325, .slice none 0 0]) ?_ 2 _ rfl; (with_reducible repeat refine bl ?_); refine blk_put (cs := #[.int .i64 t324, .int .i64 0, .slice none 0 0]) ?_ 1 _ rfl; (with_reducible repeat refine bl ?_); refine blk_put (cs := #[.int .i64 0, .int .i64 0, .slice none 0 0]) ?_ 0 _ rfl; (with_reducible repeat refine bl ?_); exact BK322.out) Try.underlying31 rfl (by kernel_rfl) (.cell gb323 31 #[.int .i64 t331, .int .i64 t332, .slice Ao40 t333.length co40] (0, 0) _ rfl (by (with_reducible repeat refine bl ?_); refine blk_put (cs := #[.int .i64 t331, .int .i64 t332, .slice none 0 0]) ?_ 2 _ rfl; (with_reducible repeat refine bl ?_); refine blk_put (cs := #[.int .i64 t331, .int .i64 0, .slice none 0 0]) ?_ 1 _ rfl; (with_reducible repeat refine bl ?_); refine blk_put (cs := #[.int .i64 0, .int .i64 0, .slice none 0 0]) ?_ 0 _ rfl; (with_reducible repeat refine bl ?_); refine blk_far ?_ NB323_322.out _; (with_reducible repeat refine bl ?_); refine blk_far ?_ NB323_322.out _; (with_reducible repeat refine bl ?_); refine blk_far ?_ NB323_322.out _; (with_reducible repeat refine bl ?_); exact BK323.out) Try.underlying31 rfl (by kernel_rfl) (.tmp .nil)))) rfl ?_
     exact ⟨_, _, by first | rfl | (simp [errW_none, errW_some] <;> rfl) | (simp [*, errW_none, errW_some] <;> rfl), by (with_reducible repeat refine kl ?_); exact Kd.R_mono (Kd.R_far (p := ⟨gb323, 2, none⟩) (Kd.R_far (p := ⟨gb323, 1, none⟩) (Kd.R_far (p := ⟨gb323, 0, none⟩) (Kd.R_far (p := ⟨gb322, 2, none⟩) (Kd.R_far (p := ⟨gb322, 1, none⟩) (Kd.R_far (p := ⟨gb322, 0, none⟩) (Kd.R_types (Kd.R_types HO328.out BK322.out (by decide)) BK323.out (by decide)) (fun _ hk => hk.1.2) (.int .i64 t324)) (fun _ hk => hk.1.2) (.int .i64 t325)) (fun _ hk => hk.1.2) (.slice Ao31 t326.length co31)) (fun _ hk => hk.2) (.int .i64 t331)) (fun _ hk => hk.2) (.int .i64 t332)) (fun _ hk => hk.2) (.slice Ao40 t333.length co40)) (fun _ hk => hk.1.1), by (with_reducible repeat refine kl ?_); exact Kd.R_mono (Kd.R_far (p := ⟨gb323, 2, none⟩) (Kd.R_far (p := ⟨gb323, 1, none⟩) (Kd.R_far (p := ⟨gb323, 0, none⟩) (Kd.R_far (p := ⟨gb322, 2, none⟩) (Kd.R_far (p := ⟨gb322, 1, none⟩) (Kd.R_far (p := ⟨gb322, 0, none⟩) (Kd.R_types (Kd.R_types HO335.out BK322.out (by decide)) BK323.out (by decide)) (fun _ hk => hk.1.2) (.int .i64 t324)) (fun _ hk => hk.1.2) (.int .i64 t325)) (fun _ hk => hk.1.2) (.slice Ao31 t326.length co31)) (fun _ hk => hk.2) (.int .i64 t331)) (fun _ hk => hk.2) (.int .i64 t332)) (fun _ hk => hk.2) (.slice Ao40 t333.length co40)) (fun _ hk => hk.1.1), bq HB.out⟩
    ·rw [if_neg c21] at H
     have c21b0 : (t329 == 0) = false := beq_eq_false_iff_ne.mpr c21
     have c21b1 : (t329 != 0) = true := bne_iff_ne.mpr c21
     simp only [Option.some.injEq, Prod.mk.injEq] at H
     obtain ⟨rfl, rfl, rfl, rfl, rfl, rfl, rfl⟩ := H
     have hnb49 := NB321_322.out
     have hnc49 := NB322_321.out
     have hnb50 := NB321_323.out
     have hnc50 := NB323_321.out
     obtain ⟨hcz51_0, hcz51_1, hcz51_2, hcz51_3⟩ := zc4 BK321
     obtain ⟨hfz51_0, hfz51_1, hfz51_2, hfz51_3⟩ := zf4 BK321
     try go_wp2_with (first | ((with_reducible refine gate_callee (f := 9) rfl ?_); refine goesL_ (some 26) rfl rfl Try.func9 (by kernel_rfl) rfl #[.int .i64 a0_0, .slice A0_2 l0_2.length c0_2] rfl (by (try simp only [List.map_toArray, List.map_cons, List.map_nil]); first | done | rfl | (simp only [List.length_drop, List.length_take]; rfl)) ?_; (with_reducible refine (pack_Make.calls kj1 a0_0 _ _ l0_2 t324 t325 t326 t329 _ ?side1 ?side2 A19.out).mono ?_); (case side1 => repeat (first | exact (Kd.C_below HR0_2.out HB.out) | (with_reducible refine Kd.C_alloc ?_ _) | (with_reducible refine Kd.C_drewN ?_ _) | (with_reducible refine Kd.C_drew ?_))); (case side2 => exact HC0_2.out); rintro e w52 ⟨v327, rfl, ho0, hb⟩; refine ⟨_, rfl, ?_⟩; have HO328 := kw ho0 HB; replace BK321 := bb BK321 hb; replace BK322 := bb BK322 hb; replace BK323 := bb BK323 hb; replace HB := bh HB hb; (try clear hb); (try clear hb2); (try clear hk); (try clear hi); (try clear ho0)) | ((with_reducible refine gate_dst (N := 5) rfl ?_); (try (refine gate_guard (by rfl) ?_; dsimp only)); refine box_event ?hg (N := 5) ?hd (cs := #[.int .i64 0, .int .i64 0, .slice none 0 0]) (t := 31) ?hr ?_; (case hd => rfl); (case hg => rfl); (case hr => first | (go_simp; done) | (go_simp; rfl)); intro gb330 hg w53 hbox hb; have BK330 := Aside0.mk hbox; have GW330 := ge hg HB; have GE330 := ge hg HB; have NB321_330 := nl hg BK321; have NB330_321 := ng hg BK321; have NB322_330 := nl hg BK322; have NB330_322 := ng hg BK322; have NB323_330 := nl hg BK323; have NB330_323 := ng hg BK323; replace HO328 := kb HO328 hb; replace BK321 := bb BK321 hb; replace BK322 := bb BK322 hb; replace BK323 := bb BK323 hb; replace HB := bh HB hb; clear hb hbox hg; have hnb54 := NB330_321.out; have hnc54 := NB321_330.out; have hnb55 := NB330_322.out; have hnc55 := NB322_330.out; have hnb56 := NB330_323.out; have hnc56 := NB323_330.out; obtain ⟨hcz57_0, hcz57_1, hcz57_2⟩ := zc3 BK330; obtain ⟨hfz57_0, hfz57_1, hfz57_2⟩ := zf3 BK330; obtain ⟨Ao58, co58, eo58⟩ := Kd.R_slice HO328.out; subst eo58; obtain ⟨hcz59_0, hcz59_1, hcz59_2, hcz59_3⟩ := zc4 BK321; obtain ⟨hfz59_0, hfz59_1, hfz59_2, hfz59_3⟩ := zf4 BK321) | ((with_reducible refine gate_callee (f := 9) rfl ?_); refine goesL_ (some 34) rfl rfl Try.func9 (by kernel_rfl) rfl #[.int .i64 a0_1, .slice A0_3 l0_3.length c0_3] rfl (by (try simp only [List.map_toArray, List.map_cons, List.map_nil]); first | done | rfl | (simp only [List.length_drop, List.length_take]; rfl)) ?_; (with_reducible refine (pack_Make.calls kj1 a0_1 _ _ l0_3 t331 t332 t333 t336 _ ?side1 ?side2 A20.out).mono ?_); (case side1 => exact Kd.C_below HR0_3.out (bq HB.out)); (case side2 => exact HC0_3.out); rintro e w60 ⟨v334, rfl, ho0, hb⟩; refine ⟨_, rfl, ?_⟩; have HO335 := Aside0.mk (Kd.R_lower (Kd.R_new' ho0 (Kd.R_lt (by (with_reducible repeat refine kl ?_); exact (kf3 HO328 BK330 (by decide))))) (below_size (bq HB.out))); replace HO328 := Aside0.mk (Kd.R_elder' (by (with_reducible repeat refine kl ?_); exact (kf3 HO328 BK330 (by decide))) (Kd.R_base ho0) hb); replace BK321 := Aside0.mk (blk_below (g := gb321) (o := .cells #[.int .i64 a0_0, .int .i64 a0_1, .slice A0_2 l0_2.length c0_2, .slice A0_3 l0_3.length c0_3] 49 (0, 0)) (by (with_reducible repeat refine bl ?_); refine blk_far ?_ NB321_330.out _; (with_reducible repeat refine bl ?_); refine blk_far ?_ NB321_330.out _; (with_reducible repeat refine bl ?_); refine blk_far ?_ NB321_330.out _; (with_reducible repeat refine bl ?_); exact BK321.out) hb); replace BK322 := Aside0.mk (blk_below (g := gb322) (o := .cells #[.int .i64 0, .int .i64 0, .slice none 0 0] 31 (0, 0)) (by (with_reducible repeat refine bl ?_); refine blk_far ?_ NB322_330.out _; (with_reducible repeat refine bl ?_); refine blk_far ?_ NB322_330.out _; (with_reducible repeat refine bl ?_); refine blk_far ?_ NB322_330.out _; (with_reducible repeat refine bl ?_); exact BK322.out) hb); replace BK323 := Aside0.mk (blk_below (g := gb323) (o := .cells #[.int .i64 0, .int .i64 0, .slice none 0 0] 31 (0, 0)) (by (with_reducible repeat refine bl ?_); refine blk_far ?_ NB323_330.out _; (with_reducible repeat refine bl ?_); refine blk_far ?_ NB323_330.out _; (with_reducible repeat refine bl ?_); refine blk_far ?_ NB323_330.out _; (with_reducible repeat refine bl ?_); exact BK323.out) hb); replace BK330 := Aside0.mk (blk_below (g := gb330) (o := .cells #[.int .i64 t324, .int .i64 t325, .slice Ao58 t326.length co58] 31 (0, 0)) (by (with_reducible repeat refine bl ?_); refine blk_put (cs := #[.int .i64 t324, .int .i64 t325, .slice none 0 0]) ?_ 2 _ rfl; (with_reducible repeat refine bl ?_); refine blk_put (cs := #[.int .i64 t324, .int .i64 0, .slice none 0 0]) ?_ 1 _ rfl; (with_reducible repeat refine bl ?_); refine blk_put (cs := #[.int .i64 0, .int .i64 0, .slice none 0 0]) ?_ 0 _ rfl; (with_reducible repeat refine bl ?_); exact BK330.out) hb); replace HB := bh HB hb; (try clear hb); (try clear hb2); (try clear hk); (try clear hi); (try clear ho0)) | ((with_reducible refine gate_dst (N := 7) rfl ?_); (try (refine gate_guard (by rfl) ?_; dsimp only)); refine box_event ?hg (N := 7) ?hd (cs := #[.int .i64 0, .int .i64 0, .slice none 0 0]) (t := 31) ?hr ?_; (case hd => rfl); (case hg => rfl); (case hr => first | (go_simp; done) | (go_simp; rfl)); intro gb337 hg w61 hbox hb; have BK337 := Aside0.mk hbox; have GW337 := ge hg HB; have GE337 := ge hg HB; have NB321_337 := nl hg BK321; have NB337_321 := ng hg BK321; have NB322_337 := nl hg BK322; have NB337_322 := ng hg BK322; have NB323_337 := nl hg BK323; have NB337_323 := ng hg BK323; have NB330_337 := nl hg BK330; have NB337_330 := ng hg BK330; replace HO328 := kb HO328 hb; replace HO335 := kb HO335 hb; replace BK321 := bb BK321 hb; replace BK322 := bb BK322 hb; replace BK323 := bb BK323 hb; replace BK330 := bb BK330 hb; replace HB := bh HB hb; clear hb hbox hg; have hnb62 := NB337_321.out; have hnc62 := NB321_337.out; have hnb63 := NB337_322.out; have hnc63 := NB322_337.out; have hnb64 := NB337_323.out; have hnc64 := NB323_337.out; have hnb65 := NB337_330.out; have hnc65 := NB330_337.out; obtain ⟨hcz66_0, hcz66_1, hcz66_2⟩ := zc3 BK337; obtain ⟨hfz66_0, hfz66_1, hfz66_2⟩ := zf3 BK337; obtain ⟨Ao67, co67, eo67⟩ := Kd.R_slice HO335.out; subst eo67))
     have n0_ : Aside0 (Kd.R (Kd.int .u64) 23 (((w61.setCell ⟨gb337, 0, none⟩ (.int .i64 t331)).setCell ⟨gb337, 1, none⟩ (.int .i64 t332)).setCell ⟨gb337, 2, none⟩ (.slice Ao67 t333.length co67)) w.heap.size (fun k_ => some k_ ≠ (.slice Ao67 t333.length co67 : Value).ownBlock) (.slice Ao58 t326.length co58) t326) := ⟨by (with_reducible repeat refine kl ?_); exact Kd.R_mono (Kd.R_far (p := ⟨gb337, 2, none⟩) (Kd.R_far (p := ⟨gb337, 1, none⟩) (Kd.R_far (p := ⟨gb337, 0, none⟩) (Kd.R_types HO328.out BK337.out (by decide)) (fun _ hk => hk.2) (.int .i64 t331)) (fun _ hk => hk.2) (.int .i64 t332)) (fun _ hk => hk.2) (.slice Ao67 t333.length co67)) (fun _ hk => hk.1.2)⟩
     have n1_ : Aside0 (Kd.R (Kd.int .u64) 23 (((w61.setCell ⟨gb337, 0, none⟩ (.int .i64 t331)).setCell ⟨gb337, 1, none⟩ (.int .i64 t332)).setCell ⟨gb337, 2, none⟩ (.slice Ao67 t333.length co67)) w.heap.size (fun k_ => some k_ ≠ (.slice Ao58 t326.length co58 : Value).ownBlock) (.slice Ao67 t333.length co67) t333) := ⟨by (with_reducible repeat refine kl ?_); exact Kd.R_mono (Kd.R_far (p := ⟨gb337, 2, none⟩) (Kd.R_far (p := ⟨gb337, 1, none⟩) (Kd.R_far (p := ⟨gb337, 0, none⟩) (Kd.R_types HO335.out BK337.out (by decide)) (fun _ hk => hk.2) (.int .i64 t331)) (fun _ hk => hk.2) (.int .i64 t332)) (fun _ hk => hk.2) (.slice Ao67 t333.length co67)) (fun _ hk => hk.1.2)⟩
     have n2_ : Aside0 ((((w61.setCell ⟨gb337, 0, none⟩ (.int .i64 t331)).setCell ⟨gb337, 1, none⟩ (.int .i64 t332)).setCell ⟨gb337, 2, none⟩ (.slice Ao67 t333.length co67)).heap[gb321]? = some (.cells #[.int .i64 a0_0, .int .i64 a0_1, .slice A0_2 l0_2.length c0_2, .slice A0_3 l0_3.length c0_3] 49 (0, 0))) := ⟨by (with_reducible repeat refine bl ?_); refine blk_far ?_ NB321_337.out _; (with_reducible repeat refine bl ?_); refine blk_far ?_ NB321_337.out _; (with_reducible repeat refine bl ?_); refine blk_far ?_ NB321_337.out _; (with_reducible repeat refine bl ?_); exact BK321.out⟩
     have n3_ : Aside0 ((((w61.setCell ⟨gb337, 0, none⟩ (.int .i64 t331)).setCell ⟨gb337, 1, none⟩ (.int .i64 t332)).setCell ⟨gb337, 2, none⟩ (.slice Ao67 t333.length co67)).heap[gb322]? = some (.cells #[.int .i64 0, .int .i64 0, .slice none 0 0] 31 (0, 0))) := ⟨by (with_reducible repeat refine bl ?_); refine blk_far ?_ NB322_337.out _; (with_reducible repeat refine bl ?_); refine blk_far ?_ NB322_337.out _; (with_reducible repeat refine bl ?_); refine blk_far ?_ NB322_337.out _; (with_reducible repeat refine bl ?_); exact BK322.out⟩
     have n4_ : Aside0 ((((w61.setCell ⟨gb337, 0, none⟩ (.int .i64 t331)).setCell ⟨gb337, 1, none⟩ (.int .i64 t332)).setCell ⟨gb337, 2, none⟩ (.slice Ao67 t333.length co67)).heap[gb323]? = some (.cells #[.int .i64 0, .int .i64 0, .slice none 0 0] 31 (0, 0))) := ⟨by (with_reducible repeat refine bl ?_); refine blk_far ?_ NB323_337.out _; (with_reducible repeat refine bl ?_); refine blk_far ?_ NB323_337.out _; (with_reducible repeat refine bl ?_); refine blk_far ?_ NB323_337.out _; (with_reducible repeat refine bl ?_); exact BK323.out⟩
     have n5_ : Aside0 ((((w61.setCell ⟨gb337, 0, none⟩ (.int .i64 t331)).setCell ⟨gb337, 1, none⟩ (.int .i64 t332)).setCell ⟨gb337, 2, none⟩ (.slice Ao67 t333.length co67)).heap[gb330]? = some (.cells #[.int .i64 t324, .int .i64 t325, .slice Ao58 t326.length co58] 31 (0, 0))) := ⟨by (with_reducible repeat refine bl ?_); refine blk_far ?_ NB330_337.out _; (with_reducible repeat refine bl ?_); refine blk_far ?_ NB330_337.out _; (with_reducible repeat refine bl ?_); refine blk_far ?_ NB330_337.out _; (with_reducible repeat refine bl ?_); exact BK330.out⟩
     have n6_ : Aside0 ((((w61.setCell ⟨gb337, 0, none⟩ (.int .i64 t331)).setCell ⟨gb337, 1, none⟩ (.int .i64 t332)).setCell ⟨gb337, 2, none⟩ (.slice Ao67 t333.length co67)).heap[gb337]? = some (.cells #[.int .i64 t331, .int .i64 t332, .slice Ao67 t333.length co67] 31 (0, 0))) := ⟨by (with_reducible repeat refine bl ?_); refine blk_put (cs := #[.int .i64 t331, .int .i64 t332, .slice none 0 0]) ?_ 2 _ rfl; (with_reducible repeat refine bl ?_); refine blk_put (cs := #[.int .i64 t331, .int .i64 0, .slice none 0 0]) ?_ 1 _ rfl; (with_reducible repeat refine bl ?_); refine blk_put (cs := #[.int .i64 0, .int .i64 0, .slice none 0 0]) ?_ 0 _ rfl; (with_reducible repeat refine bl ?_); exact BK337.out⟩
     have n7_ : Aside0 (Below w.heap.size w (((w61.setCell ⟨gb337, 0, none⟩ (.int .i64 t331)).setCell ⟨gb337, 1, none⟩ (.int .i64 t332)).setCell ⟨gb337, 2, none⟩ (.slice Ao67 t333.length co67))) := ⟨bq HB.out⟩
     (try clear HO328)
     (try clear HO335)
     (try clear BK321)
     (try clear BK322)
     (try clear BK323)
     (try clear BK330)
     (try clear BK337)
     (try clear HB)
     generalize (((w61.setCell ⟨gb337, 0, none⟩ (.int .i64 t331)).setCell ⟨gb337, 1, none⟩ (.int .i64 t332)).setCell ⟨gb337, 2, none⟩ (.slice Ao67 t333.length co67)) = w68 at n0_ n1_ n2_ n3_ n4_ n5_ n6_ n7_ ⊢
     have HO328 := n0_
     have HO335 := n1_
     have BK321 := n2_
     have BK322 := n3_
     have BK323 := n4_
     have BK330 := n5_
     have BK337 := n6_
     have HB := n7_
     clear n0_ n1_ n2_ n3_ n4_ n5_ n6_ n7_
     replace HO328 := Aside0.mk (Kd.R_drew HO328.out)
     replace HO335 := Aside0.mk (Kd.R_drew HO335.out)
     replace BK321 := Aside0.mk (blk_drew BK321.out)
     replace BK322 := Aside0.mk (blk_drew BK322.out)
     replace BK323 := Aside0.mk (blk_drew BK323.out)
     replace BK330 := Aside0.mk (blk_drew BK330.out)
     replace BK337 := Aside0.mk (blk_drew BK337.out)
     replace HB := Aside0.mk (below_drew1 HB.out)
     refine start_ (n := 11) (S := fun w' => w'.cell? ⟨gb330, 0, none⟩ = some (.int .i64 t324) ∧ w'.cell? ⟨gb330, 1, none⟩ = some (.int .i64 t325) ∧ w'.cell? ⟨gb330, 2, none⟩ = some (.slice Ao58 t326.length co58) ∧ w'.cell? ⟨gb337, 0, none⟩ = some (.int .i64 t331) ∧ w'.cell? ⟨gb337, 1, none⟩ = some (.int .i64 t332) ∧ w'.cell? ⟨gb337, 2, none⟩ = some (.slice Ao67 t333.length co67)) (ds := []) #[false, false, false, false, false, false, false, false, false, false, false] (by kernel_rfl) rfl rfl ⟨(blk_cell BK330.out 0).trans rfl, (blk_cell BK330.out 1).trans rfl, (blk_cell BK330.out 2).trans rfl, (blk_cell BK337.out 0).trans rfl, (blk_cell BK337.out 1).trans rfl, (blk_cell BK337.out 2).trans rfl⟩ (fun hHeld => ?_); refine with_tabW steeplelaw03_Pair_made.tab5 steeplelaw03_Pair_made.bits5 (fun HT_ HW_ => ?_)
     generalize w68.drew = w69 at HO328 HO335 BK321 BK322 BK323 BK330 BK337 HB hHeld ⊢
     refine pure_ (i := 2) (N := some 39) (v := ?_) (a' := ?_) #[false, false, true, false, false, false, false, false, false, false, false] rfl rfl (any_of HT_.out (by kernel_rfl)) (fun _ _ _ h => h) (Or.inl ⟨by rfl, ?_⟩) ?_ ?_
     rotate_left
     ·intro w'
      go_simp
      with_reducible rfl
     rotate_left
     ·simp only [Act.put, List.setIfInBounds_toArray, List.set_cons_zero, List.set_cons_succ, i64_w, i32_w]
      rfl
     refine pure_ (i := 3) (N := some 40) (v := ?_) (a' := ?_) #[false, false, true, true, false, false, false, false, false, false, false] rfl rfl (any_of HT_.out (by kernel_rfl)) (fun _ _ _ h => h) (Or.inl ⟨by rfl, ?_⟩) ?_ ?_
     rotate_left
     ·intro w'
      go_simp
      with_reducible rfl
     rotate_left
     ·simp only [Act.put, List.setIfInBounds_toArray, List.set_cons_zero, List.set_cons_succ, i64_w, i32_w]
      rfl
     refine pure_ (i := 4) (N := some 41) (v := ?_) (a' := ?_) #[false, false, true, true, true, false, false, false, false, false, false] rfl rfl (any_of HT_.out (by kernel_rfl)) (fun _ _ _ h => h) (Or.inl ⟨by rfl, ?_⟩) ?_ ?_
     rotate_left
     ·intro w'
      go_simp
      with_reducible rfl
     rotate_left
     ·simp only [Act.put, List.setIfInBounds_toArray, List.set_cons_zero, List.set_cons_succ, i64_w, i32_w]
      rfl
     refine pure_ (i := 5) (N := some 42) (v := undef) (a' := ?_) #[false, false, true, true, true, true, false, false, false, false, false] rfl rfl (any_of HT_.out (by kernel_rfl)) (fun _ _ _ h => h) (Or.inr ⟨by rfl, rfl⟩) ?_ ?_
     rotate_left
     ·simp only [Act.put, List.setIfInBounds_toArray, List.set_cons_zero, List.set_cons_succ, i64_w, i32_w]
      rfl
     refine pure_ (i := 6) (N := some 43) (v := undef) (a' := ?_) #[false, false, true, true, true, true, true, false, false, false, false] rfl rfl (any_of HT_.out (by kernel_rfl)) (fun _ _ _ h => h) (Or.inr ⟨by rfl, rfl⟩) ?_ ?_
     rotate_left
     ·simp only [Act.put, List.setIfInBounds_toArray, List.set_cons_zero, List.set_cons_succ, i64_w, i32_w]
      rfl
     refine pure_ (i := 7) (N := some 44) (v := ?_) (a' := ?_) #[false, false, true, true, true, true, true, true, false, false, false] rfl rfl (any_of HT_.out (by kernel_rfl)) (fun _ _ _ h => h) (Or.inl ⟨by rfl, ?_⟩) ?_ ?_
     rotate_left
     ·intro w'
      go_simp
      with_reducible rfl
     rotate_left
     ·simp only [Act.put, List.setIfInBounds_toArray, List.set_cons_zero, List.set_cons_succ, i64_w, i32_w]
      rfl
     refine take_ (i := 0) (N := some 37) (v := ?_) (a' := ?_) #[true, false, true, true, true, true, true, true, false, false, false] rfl rfl (take_ofW HT_.out HW_.out (by kernel_rfl)) (fun _ _ _ h => h) (Or.inl ⟨by rfl, ?_⟩) hHeld ?_ ?_
     rotate_left
     ·rintro w' ⟨s0, s1, s2, s3, s4, s5⟩
      go_simp
      with_reducible rfl
     rotate_left
     ·simp only [Act.put, List.setIfInBounds_toArray, List.set_cons_zero, List.set_cons_succ, i64_w, i32_w]
      rfl
     refine take_ (i := 1) (N := some 38) (v := ?_) (a' := ?_) #[true, true, true, true, true, true, true, true, false, false, false] rfl rfl (take_ofW HT_.out HW_.out (by kernel_rfl)) (fun _ _ _ h => h) (Or.inl ⟨by rfl, ?_⟩) hHeld ?_ ?_
     rotate_left
     ·rintro w' ⟨s0, s1, s2, s3, s4, s5⟩
      go_simp
      with_reducible rfl
     rotate_left
     ·simp only [Act.put, List.setIfInBounds_toArray, List.set_cons_zero, List.set_cons_succ, i64_w, i32_w]
      rfl
     refine one_ (i := 8) (N := none) #[true, true, true, true, true, true, true, true, true, false, false] rfl rfl (one_of HT_.out (by kernel_rfl)) (by decide) (fun K hK => ?_)
     have hs70 : w69.cell? ⟨gb322, 0, none⟩ = some (.int .i64 0) := (blk_cell BK322.out 0).trans rfl
     have hfs70 := blk_frozen BK322.out 0
     have hns70_0 := NB321_322.out
     have hns70_2 := NB323_322.out
     have hns70_3 := NB330_322.out
     have hns70_4 := NB337_322.out
     have hms70_0 := NB322_321.out
     have hms70_2 := NB322_323.out
     have hms70_3 := NB322_330.out
     have hms70_4 := NB322_337.out
     have hs71 : w69.cell? ⟨gb322, 1, none⟩ = some (.int .i64 0) := (blk_cell BK322.out 1).trans rfl
     have hfs71 := blk_frozen BK322.out 1
     have hns71_0 := NB321_322.out
     have hns71_2 := NB323_322.out
     have hns71_3 := NB330_322.out
     have hns71_4 := NB337_322.out
     have hms71_0 := NB322_321.out
     have hms71_2 := NB322_323.out
     have hms71_3 := NB322_330.out
     have hms71_4 := NB322_337.out
     have hs72 : w69.cell? ⟨gb322, 2, none⟩ = some (.slice none 0 0) := (blk_cell BK322.out 2).trans rfl
     have hfs72 := blk_frozen BK322.out 2
     have hns72_0 := NB321_322.out
     have hns72_2 := NB323_322.out
     have hns72_3 := NB330_322.out
     have hns72_4 := NB337_322.out
     have hms72_0 := NB322_321.out
     have hms72_2 := NB322_323.out
     have hms72_3 := NB322_330.out
     have hms72_4 := NB322_337.out
     refine skip_ (w1 := ?_) (by rfl) rfl ?_ ?_
     rotate_left
     ·go_simp
      rfl
     refine hK.out _ _ ⟨((cell_far (p := ⟨gb322, _, none⟩) NB330_322.out _).trans (((cell_far (p := ⟨gb322, _, none⟩) NB330_322.out _).trans (((cell_far (p := ⟨gb322, _, none⟩) NB330_322.out _).trans (hHeld.1)))))), ((cell_far (p := ⟨gb322, _, none⟩) NB330_322.out _).trans (((cell_far (p := ⟨gb322, _, none⟩) NB330_322.out _).trans (((cell_far (p := ⟨gb322, _, none⟩) NB330_322.out _).trans (hHeld.2.1)))))), ((cell_far (p := ⟨gb322, _, none⟩) NB330_322.out _).trans (((cell_far (p := ⟨gb322, _, none⟩) NB330_322.out _).trans (((cell_far (p := ⟨gb322, _, none⟩) NB330_322.out _).trans (hHeld.2.2.1)))))), ((cell_far (p := ⟨gb322, _, none⟩) NB337_322.out _).trans (((cell_far (p := ⟨gb322, _, none⟩) NB337_322.out _).trans (((cell_far (p := ⟨gb322, _, none⟩) NB337_322.out _).trans (hHeld.2.2.2.1)))))), ((cell_far (p := ⟨gb322, _, none⟩) NB337_322.out _).trans (((cell_far (p := ⟨gb322, _, none⟩) NB337_322.out _).trans (((cell_far (p := ⟨gb322, _, none⟩) NB337_322.out _).trans (hHeld.2.2.2.2.1)))))), ((cell_far (p := ⟨gb322, _, none⟩) NB337_322.out _).trans (((cell_far (p := ⟨gb322, _, none⟩) NB337_322.out _).trans (((cell_far (p := ⟨gb322, _, none⟩) NB337_322.out _).trans (hHeld.2.2.2.2.2))))))⟩ (fun hHeld => ?_)
     clear hK K
     refine one_ (i := 9) (N := none) #[true, true, true, true, true, true, true, true, true, true, false] rfl rfl (one_of HT_.out (by kernel_rfl)) (by decide) (fun K hK => ?_)
     have hs73 : w69.cell? ⟨gb323, 0, none⟩ = some (.int .i64 0) := (blk_cell BK323.out 0).trans rfl
     have hfs73 := blk_frozen BK323.out 0
     have hns73_0 := NB321_323.out
     have hns73_1 := NB322_323.out
     have hns73_3 := NB330_323.out
     have hns73_4 := NB337_323.out
     have hms73_0 := NB323_321.out
     have hms73_1 := NB323_322.out
     have hms73_3 := NB323_330.out
     have hms73_4 := NB323_337.out
     have hs74 : w69.cell? ⟨gb323, 1, none⟩ = some (.int .i64 0) := (blk_cell BK323.out 1).trans rfl
     have hfs74 := blk_frozen BK323.out 1
     have hns74_0 := NB321_323.out
     have hns74_1 := NB322_323.out
     have hns74_3 := NB330_323.out
     have hns74_4 := NB337_323.out
     have hms74_0 := NB323_321.out
     have hms74_1 := NB323_322.out
     have hms74_3 := NB323_330.out
     have hms74_4 := NB323_337.out
     have hs75 : w69.cell? ⟨gb323, 2, none⟩ = some (.slice none 0 0) := (blk_cell BK323.out 2).trans rfl
     have hfs75 := blk_frozen BK323.out 2
     have hns75_0 := NB321_323.out
     have hns75_1 := NB322_323.out
     have hns75_3 := NB330_323.out
     have hns75_4 := NB337_323.out
     have hms75_0 := NB323_321.out
     have hms75_1 := NB323_322.out
     have hms75_3 := NB323_330.out
     have hms75_4 := NB323_337.out
     refine skip_ (w1 := ?_) (by rfl) rfl ?_ ?_
     rotate_left
     ·go_simp
      rfl
     refine hK.out _ _ ⟨((cell_far (p := ⟨gb323, _, none⟩) NB330_323.out _).trans (((cell_far (p := ⟨gb323, _, none⟩) NB330_323.out _).trans (((cell_far (p := ⟨gb323, _, none⟩) NB330_323.out _).trans (hHeld.1)))))), ((cell_far (p := ⟨gb323, _, none⟩) NB330_323.out _).trans (((cell_far (p := ⟨gb323, _, none⟩) NB330_323.out _).trans (((cell_far (p := ⟨gb323, _, none⟩) NB330_323.out _).trans (hHeld.2.1)))))), ((cell_far (p := ⟨gb323, _, none⟩) NB330_323.out _).trans (((cell_far (p := ⟨gb323, _, none⟩) NB330_323.out _).trans (((cell_far (p := ⟨gb323, _, none⟩) NB330_323.out _).trans (hHeld.2.2.1)))))), ((cell_far (p := ⟨gb323, _, none⟩) NB337_323.out _).trans (((cell_far (p := ⟨gb323, _, none⟩) NB337_323.out _).trans (((cell_far (p := ⟨gb323, _, none⟩) NB337_323.out _).trans (hHeld.2.2.2.1)))))), ((cell_far (p := ⟨gb323, _, none⟩) NB337_323.out _).trans (((cell_far (p := ⟨gb323, _, none⟩) NB337_323.out _).trans (((cell_far (p := ⟨gb323, _, none⟩) NB337_323.out _).trans (hHeld.2.2.2.2.1)))))), ((cell_far (p := ⟨gb323, _, none⟩) NB337_323.out _).trans (((cell_far (p := ⟨gb323, _, none⟩) NB337_323.out _).trans (((cell_far (p := ⟨gb323, _, none⟩) NB337_323.out _).trans (hHeld.2.2.2.2.2))))))⟩ (fun hHeld => ?_)
     clear hK K
     refine pure_ (i := 10) (N := some 4) (v := ?_) (a' := ?_) #[true, true, true, true, true, true, true, true, true, true, true] rfl rfl (any_of HT_.out (by kernel_rfl)) (fun _ _ _ h => h) (Or.inl ⟨by rfl, ?_⟩) ?_ ?_
     rotate_left
     ·intro w'
      go_simp
      with_reducible rfl
     rotate_left
     ·simp only [Act.put, List.setIfInBounds_toArray, List.set_cons_zero, List.set_cons_succ, i64_w, i32_w]
      rfl
     refine done_ (done_of HT_.out (by kernel_rfl)) ?_
     try go_wp2
     refine bodyPost_ret (results_list (rs := [.cell 2 31, .cell 3 31, .tmp 4]) rfl (by simp) (.cell gb322 31 #[.int .i64 t324, .int .i64 t325, .slice Ao58 t326.length co58] (0, 0) _ rfl (by (with_reducible repeat refine bl ?_); refine blk_far ?_ NB322_323.out _; (with_reducible repeat refine bl ?_); refine blk_far ?_ NB322_323.out _; (with_reducible repeat refine bl ?_); refine blk_far ?_ NB322_323.out _; (with_reducible repeat refine bl ?_); refine blk_put (cs := #[.int .i64 t324, .int .i64 t325, .slice none 0 0]) ?_ 2 _ rfl; (with_reducible repeat refine bl ?_); refine blk_put (cs := #[.int .i64 t324, .int .i64 0, .slice none 0 0]) ?_ 1 _ rfl; (with_reducible repeat refine bl ?_); refine blk_put (cs := #[.int .i64 0, .int .i64 0, .slice none 0 0]) ?_ 0 _ rfl; (with_reducible repeat refine bl ?_); exact BK322.out) Try.underlying31 rfl (by kernel_rfl) (.cell gb323 31 #[.int .i64 t331, .int .i64 t332, .slice Ao67 t333.length co67] (0, 0) _ rfl (by (with_reducible repeat refine bl ?_); refine blk_put (cs := #[.int .i64 t331, .int .i64 t332, .slice none 0 0]) ?_ 2 _ rfl; (with_reducible repeat refine bl ?_); refine blk_put (cs := #[.int .i64 t331, .int .i64 0, .slice none 0 0]) ?_ 1 _ rfl; (with_reducible repeat refine bl ?_); refine blk_put (cs := #[.int .i64 0, .int .i64 0, .slice none 0 0]) ?_ 0 _ rfl; (with_reducible repeat refine bl ?_); refine blk_far ?_ NB323_322.out _; (with_reducible repeat refine bl ?_); refine blk_far ?_ NB323_322.out _; (with_reducible repeat refine bl ?_); refine blk_far ?_ NB323_322.out _; (with_reducible repeat refine bl ?_); exact BK323.out) Try.underlying31 rfl (by kernel_rfl) (.tmp .nil)))) rfl ?_
     exact ⟨_, _, by first | rfl | (simp [errW_none, errW_some] <;> rfl) | (simp [*, errW_none, errW_some] <;> rfl), by (with_reducible repeat refine kl ?_); exact Kd.R_mono (Kd.R_far (p := ⟨gb323, 2, none⟩) (Kd.R_far (p := ⟨gb323, 1, none⟩) (Kd.R_far (p := ⟨gb323, 0, none⟩) (Kd.R_far (p := ⟨gb322, 2, none⟩) (Kd.R_far (p := ⟨gb322, 1, none⟩) (Kd.R_far (p := ⟨gb322, 0, none⟩) (Kd.R_types (Kd.R_types HO328.out BK322.out (by decide)) BK323.out (by decide)) (fun _ hk => hk.1.2) (.int .i64 t324)) (fun _ hk => hk.1.2) (.int .i64 t325)) (fun _ hk => hk.1.2) (.slice Ao58 t326.length co58)) (fun _ hk => hk.2) (.int .i64 t331)) (fun _ hk => hk.2) (.int .i64 t332)) (fun _ hk => hk.2) (.slice Ao67 t333.length co67)) (fun _ hk => hk.1.1), by (with_reducible repeat refine kl ?_); exact Kd.R_mono (Kd.R_far (p := ⟨gb323, 2, none⟩) (Kd.R_far (p := ⟨gb323, 1, none⟩) (Kd.R_far (p := ⟨gb323, 0, none⟩) (Kd.R_far (p := ⟨gb322, 2, none⟩) (Kd.R_far (p := ⟨gb322, 1, none⟩) (Kd.R_far (p := ⟨gb322, 0, none⟩) (Kd.R_types (Kd.R_types HO335.out BK322.out (by decide)) BK323.out (by decide)) (fun _ hk => hk.1.2) (.int .i64 t324)) (fun _ hk => hk.1.2) (.int .i64 t325)) (fun _ hk => hk.1.2) (.slice Ao58 t326.length co58)) (fun _ hk => hk.2) (.int .i64 t331)) (fun _ hk => hk.2) (.int .i64 t332)) (fun _ hk => hk.2) (.slice Ao67 t333.length co67)) (fun _ hk => hk.1.1), bq HB.out⟩

/-! ### steepleref02_Add: function 31 -/
def steepleref02_Add.f (a0_0 : Int) (a0_1 : Int) (a1_0 : Int) (a1_1 : Int) : Option (Int × Int) := some (Go.bits .xor .u64 a0_0 a1_0, Go.bits .xor .u64 a0_1 a1_1)
set_option maxHeartbeats 8000000 in
set_option maxRecDepth 100000 in
theorem steepleref02_Add.calls (a0_0 : Int) (a0_1 : Int) (a1_0 : Int) (a1_1 : Int) (r1 : Int) (r2 : Int) (w : World) (h : steepleref02_Add.f a0_0 a0_1 a1_0 a1_1 = some (r1, r2)) :
  Calls Try.prog 31 #[.agg #[.int .u64 a0_0, .int .u64 a0_1], .agg #[.int .u64 a1_0, .int .u64 a1_1]] w fun e w' => e = .returned (.agg #[.int .u64 r1, .int .u64 r2]) ∧ Below w.heap.size w w' := by
 have hu44 := Try.underlying44
 have HB := Aside0.mk (Below.refl w.heap.size w)
 have H : (some (Go.bits .xor .u64 a0_0 a1_0, Go.bits .xor .u64 a0_1 a1_1)) = some (r1, r2) := h
 clear h
 simp only [Option.some.injEq, Prod.mk.injEq] at H
 obtain ⟨rfl, rfl⟩ := H
 go_enter Try.func31, Try.ntmps31
 go_wp2_with (first | ((with_reducible refine gate_dst (N := 2) rfl ?_); refine box_event ?hg (N := 2) ?hd (cs := #[.int .u64 a0_0, .int .u64 a0_1]) (t := 44) ?hr ?_; (case hd => rfl); (case hg => rfl); (case hr => first | (go_simp; done) | (go_simp; rfl)); intro gb338 hg w3 hbox hb; have BK338 := Aside0.mk hbox; have GW338 := ge hg HB; have GE338 := ge hg HB; replace HB := bh HB hb; clear hb hbox hg) | ((with_reducible refine gate_dst (N := 3) rfl ?_); refine box_event ?hg (N := 3) ?hd (cs := #[.int .u64 a1_0, .int .u64 a1_1]) (t := 44) ?hr ?_; (case hd => rfl); (case hg => rfl); (case hr => first | (go_simp; done) | (go_simp; rfl)); intro gb339 hg w4 hbox hb; have BK339 := Aside0.mk hbox; have GW339 := ge hg HB; have GE339 := ge hg HB; have NB338_339 := nl hg BK338; have NB339_338 := ng hg BK338; replace BK338 := bb BK338 hb; replace HB := bh HB hb; clear hb hbox hg) | ((with_reducible refine gate_dst (N := 4) rfl ?_); refine box_event ?hg (N := 4) ?hd (cs := #[.int .u64 0, .int .u64 0]) (t := 44) ?hr ?_; (case hd => rfl); (case hg => rfl); (case hr => first | (go_simp; done) | (go_simp; rfl)); intro gb340 hg w5 hbox hb; have BK340 := Aside0.mk hbox; have GW340 := ge hg HB; have GE340 := ge hg HB; have NB338_340 := nl hg BK338; have NB340_338 := ng hg BK338; have NB339_340 := nl hg BK339; have NB340_339 := ng hg BK339; replace BK338 := bb BK338 hb; replace BK339 := bb BK339 hb; replace HB := bh HB hb; clear hb hbox hg; have hnb6 := NB338_339.out; have hnc6 := NB339_338.out; have hnb7 := NB338_340.out; have hnc7 := NB340_338.out; obtain ⟨hcz8_0, hcz8_1⟩ := zc2 BK338; obtain ⟨hfz8_0, hfz8_1⟩ := zf2 BK338; have hnb9 := NB339_340.out; have hnc9 := NB340_339.out; obtain ⟨hcz10_0, hcz10_1⟩ := zc2 BK339; obtain ⟨hfz10_0, hfz10_1⟩ := zf2 BK339; obtain ⟨hcz11_0, hcz11_1⟩ := zc2 BK340; obtain ⟨hfz11_0, hfz11_1⟩ := zf2 BK340))
 refine bodyPost_ret (results_cell_row rfl _ _ gb340 44 #[.int .u64 (Go.bits .xor .u64 a0_0 a1_0), .int .u64 (Go.bits .xor .u64 a0_1 a1_1)] (0, 0) _ rfl (by (with_reducible repeat refine bl ?_); refine blk_put (cs := #[.int .u64 (Go.bits .xor .u64 a0_0 a1_0), .int .u64 0]) ?_ 1 _ rfl; (with_reducible repeat refine bl ?_); refine blk_put (cs := #[.int .u64 0, .int .u64 0]) ?_ 0 _ rfl; (with_reducible repeat refine bl ?_); exact BK340.out) Try.underlying44 rfl (by kernel_rfl)) rfl ?_
 exact ⟨by first | rfl | (simp [errW_none, errW_some] <;> rfl) | (simp [*, errW_none, errW_some] <;> rfl), bq HB.out⟩

/-! ### steepleref02_mask: function 61 -/
def steepleref02_mask.f (a0 : Int) : Option (Int) := (some (([6148914691236517205, 3689348814741910323, 1085102592571150095, 71777214294589695, 281470681808895, 4294967295] : List Int) : List Int)).bind fun y341 => (if 0 ≤ a0 then (if a0 < (y341.length : Int) then (some (rd y341 a0)) else (none)) else (none))
set_option maxHeartbeats 8000000 in
set_option maxRecDepth 100000 in
theorem steepleref02_mask.calls (a0 : Int) (r : Int) (w : World) (h : steepleref02_mask.f a0 = some r) :
  Calls Try.prog 61 #[.int .i64 a0] w fun e w' => e = .returned (.int .u64 r) ∧ Below w.heap.size w w' := by
 have HB := Aside0.mk (Below.refl w.heap.size w)
 have H : ((some (([6148914691236517205, 3689348814741910323, 1085102592571150095, 71777214294589695, 281470681808895, 4294967295] : List Int) : List Int)).bind fun y341 => (if 0 ≤ a0 then (if a0 < (y341.length : Int) then (some (rd y341 a0)) else (none)) else (none))) = some r := h
 clear h
 obtain ⟨y341, hy341⟩ : ∃ y_ : List Int, y_ = (([6148914691236517205, 3689348814741910323, 1085102592571150095, 71777214294589695, 281470681808895, 4294967295] : List Int)) := ⟨_, rfl⟩
 replace H : (if 0 ≤ a0 then (if a0 < (y341.length : Int) then (some (rd y341 a0)) else (none)) else (none)) = some r := by first | (rw [hy341]; with_reducible exact H) | (have H2_ := (Option.bind_some _ _).symm.trans H; rw [hy341]; with_reducible exact H2_) | (have H2_ := (Option.bind_some _ _).symm.trans H; with_reducible exact H2_) | with_reducible exact H | (rw [hy341]; exact H) | exact H
 have Ny341 := Aside0.mk hy341
 clear hy341
 by_cases c2 : 0 ≤ a0
 ·rw [if_pos c2] at H
  have c2b0 : decide (0 ≤ a0) = true := decide_eq_true c2
  clear c2
  by_cases c3 : a0 < (y341.length : Int)
  ·rw [if_pos c3] at H
   have c3b0 : decide (a0 < (y341.length : Int)) = true := decide_eq_true c3
   clear c3
   obtain rfl := Option.some.inj H
   go_enter Try.func61, Try.ntmps61
   go_wp2_with (first | ((with_reducible refine gate_dst (N := 4) rfl ?_); refine Kd.R_lit (Kd.int .u64) _ 23 ?hg (N := 4) ?hd (xs := ([6148914691236517205, 3689348814741910323, 1085102592571150095, 71777214294589695, 281470681808895, 4294967295] : List Int)) (inner := [.int .u64 6148914691236517205, .int .u64 3689348814741910323, .int .u64 1085102592571150095, .int .u64 71777214294589695, .int .u64 281470681808895, .int .u64 4294967295]) (ok := fun _ => True) (okp := fun _ => True) ?hr ?hp (fun _ hk => hk) trivial (Below.refl _ _) (Nat.le_refl _) (by simp) ?_; (case hd => rfl); (case hg => rfl); (case hr => first | (go_simp; done) | (go_simp; rfl)); (case hp => exact (Reps.one (show Kd.M (Kd.int .u64) _ _ _ 6148914691236517205 [.int .u64 6148914691236517205] from rfl) (Reps.one (show Kd.M (Kd.int .u64) _ _ _ 3689348814741910323 [.int .u64 3689348814741910323] from rfl) (Reps.one (show Kd.M (Kd.int .u64) _ _ _ 1085102592571150095 [.int .u64 1085102592571150095] from rfl) (Reps.one (show Kd.M (Kd.int .u64) _ _ _ 71777214294589695 [.int .u64 71777214294589695] from rfl) (Reps.one (show Kd.M (Kd.int .u64) _ _ _ 281470681808895 [.int .u64 281470681808895] from rfl) (Reps.one (show Kd.M (Kd.int .u64) _ _ _ 4294967295 [.int .u64 4294967295] from rfl) (Reps.none _ _)))))))); intro v342 w4 ho5 hb hg_ hnew_; clear hg_ hnew_; (first | rw [← Ny341.out] at ho5 | (simp only [Int.reduceToNat] at ho5; rw [← Ny341.out] at ho5)); have HO343 := kw ho5 HB; replace HB := bh HB hb; clear hb ho5; obtain ⟨Ao6, co6, eo6⟩ := Kd.R_slice HO343.out; subst eo6; have p344 : 0 ≤ (a0 : Int) := of_decide_eq_true (by first | (with_reducible assumption) | assumption); have q344 : a0 < (y341.length : Int) := of_decide_eq_true (by first | (with_reducible assumption) | assumption); obtain ⟨ad344, e344, hx344_0⟩ := Kd.at_int (Kd.R_reads' HO343.out).2.2 a0 p344 q344; cases e344; replace p344 := eq_true p344; replace q344 := eq_true q344))
   go_ret
   exact ⟨by first | rfl | (simp [errW_none, errW_some] <;> rfl) | (simp [*, errW_none, errW_some] <;> rfl), bq HB.out⟩
  ·rw [if_neg c3] at H
   exact absurd H (by simp)
 ·rw [if_neg c2] at H
  exact absurd H (by simp)

/-! ### steepleref02_timesWord: function 58 -/
def steepleref02_timesWord.f : Nat → Int → Int → Option (Int)
 | 0, _, _ => none
 | k + 1, a0, a1 => if a0 < 0 then (some a1) else (if 0 ≤ (IntKind.u64.wrap (a0)) then ((steepleref02_mask.f a0).bind fun t345 => ((steepleref02_mask.f a0).bind fun t346 => ((steepleref02_timesWord.f k (wrap64 (a0 - 1)) (Go.bits .and .u64 (shr .u64 a1 (shl .u64 1 (IntKind.u64.wrap (a0)))) t345)).bind fun t347 => (some (Go.bits .or .u64 (shl .u64 (Go.bits .xor .u64 (Go.bits .and .u64 a1 t346) t347) (shl .u64 1 (IntKind.u64.wrap (a0)))) (Go.bits .and .u64 (shr .u64 a1 (shl .u64 1 (IntKind.u64.wrap (a0)))) t345)))))) else (none))
theorem steepleref02_timesWord.mono_l : ∀ k, (∀ y0 y1, LeO (steepleref02_timesWord.f k y0 y1) (steepleref02_timesWord.f (k + 1) y0 y1))
 | 0 => fun _ _ r h => by simp [steepleref02_timesWord.f] at h
 | k + 1 => by
  have ih0 := steepleref02_timesWord.mono_l k
  ·intro y0 y1
   unfold steepleref02_timesWord.f
   repeat' first
   | (with_reducible exact ih0 _ _)
   | (with_reducible exact LeO.refl _)
   | (with_reducible exact LeO.none _)
   | (with_reducible refine LeO.ite ?_ ?_)
   | (with_reducible refine LeO.bind ?_ (fun _ => ?_))
   | exact ih0 _ _
   | exact LeO.none _
   | refine LeO.ite ?_ ?_
   | refine LeO.bind ?_ (fun _ => ?_)
theorem steepleref02_timesWord.mono : ∀ a0 a1 k, LeO (steepleref02_timesWord.f k a0 a1) (steepleref02_timesWord.f (k + 1) a0 a1) := by
 intro a0 a1 k
 have ih0 := steepleref02_timesWord.mono_l k
 exact ih0 a0 a1
set_option maxHeartbeats 8000000 in
set_option maxRecDepth 100000 in
theorem steepleref02_timesWord.calls (k : Nat) : ∀ (a0 : Int) (a1 : Int) (r : Int) (w : World) (h : steepleref02_timesWord.f k a0 a1 = some r),
  Calls Try.prog 58 #[.int .i64 a0, .int .u64 a1] w fun e w' => e = .returned (.int .u64 r) ∧ Below w.heap.size w w' := by
 induction k using Nat.strongRecOn with
 | _ k ih =>
 intro a0 a1 r w h
 cases k with
 | zero => exact absurd h (by simp [steepleref02_timesWord.f])
 | succ k =>
 simp only [steepleref02_timesWord.f] at h
 have HB := Aside0.mk (Below.refl w.heap.size w)
 have H : (if a0 < 0 then (some a1) else (if 0 ≤ (IntKind.u64.wrap (a0)) then ((steepleref02_mask.f a0).bind fun t345 => ((steepleref02_mask.f a0).bind fun t346 => ((steepleref02_timesWord.f k (wrap64 (a0 - 1)) (Go.bits .and .u64 (shr .u64 a1 (shl .u64 1 (IntKind.u64.wrap (a0)))) t345)).bind fun t347 => (some (Go.bits .or .u64 (shl .u64 (Go.bits .xor .u64 (Go.bits .and .u64 a1 t346) t347) (shl .u64 1 (IntKind.u64.wrap (a0)))) (Go.bits .and .u64 (shr .u64 a1 (shl .u64 1 (IntKind.u64.wrap (a0)))) t345)))))) else (none))) = some r := h
 clear h
 by_cases c3 : a0 < 0
 ·rw [if_pos c3] at H
  have c3b0 : decide (a0 < 0) = true := decide_eq_true c3
  clear c3
  obtain rfl := Option.some.inj H
  go_enter Try.func58, Try.ntmps58
  go_wp2
  go_ret
  exact ⟨by first | rfl | (simp [errW_none, errW_some] <;> rfl) | (simp [*, errW_none, errW_some] <;> rfl), bq HB.out⟩
 ·rw [if_neg c3] at H
  have c3b0 : decide (a0 < 0) = false := decide_eq_false c3
  clear c3
  obtain ⟨ji4, hji4⟩ : ∃ j_ : Int, (IntKind.u64.wrap (a0)) = j_ := ⟨_, rfl⟩
  replace H : (if 0 ≤ (ji4) then ((steepleref02_mask.f a0).bind fun t345 => ((steepleref02_mask.f a0).bind fun t346 => ((steepleref02_timesWord.f k (wrap64 (a0 - 1)) (Go.bits .and .u64 (shr .u64 a1 (shl .u64 1 (ji4))) t345)).bind fun t347 => (some (Go.bits .or .u64 (shl .u64 (Go.bits .xor .u64 (Go.bits .and .u64 a1 t346) t347) (shl .u64 1 (ji4))) (Go.bits .and .u64 (shr .u64 a1 (shl .u64 1 (ji4))) t345)))))) else (none)) = some r := by first | (rw [hji4] at H; exact H) | (simp only [hji4] at H ⊢; exact H)
  by_cases c5 : 0 ≤ (ji4)
  ·rw [if_pos c5] at H
   have c5b0 := eq_true c5
   have c5b1 : decide (0 ≤ (ji4)) = true := decide_eq_true c5
   clear c5
   obtain ⟨ji6, hji6⟩ : ∃ j_ : Int, (shl .u64 1 (ji4)) = j_ := ⟨_, rfl⟩
   replace H : ((steepleref02_mask.f a0).bind fun t345 => ((steepleref02_mask.f a0).bind fun t346 => ((steepleref02_timesWord.f k (wrap64 (a0 - 1)) (Go.bits .and .u64 (shr .u64 a1 (ji6)) t345)).bind fun t347 => (some (Go.bits .or .u64 (shl .u64 (Go.bits .xor .u64 (Go.bits .and .u64 a1 t346) t347) (ji6)) (Go.bits .and .u64 (shr .u64 a1 (ji6)) t345)))))) = some r := by first | (rw [hji6] at H; exact H) | (simp only [hji6] at H ⊢; exact H)
   have hji6_ : (IntKind.u64.wrap (1 * 2 ^ min (ji4).toNat 64)) = ji6 := hji6
   have hji6z : (ji4) ≤ 64 → (IntKind.u64.wrap (1 * 2 ^ (ji4).toNat)) = ji6 := shl_small hji6
   have hji6p0 := eq_true (show (0 : Int) ≤ ji6 by rw [← hji6_]; exact wrap_u64_nonneg _)
   have hji6p1 : decide (0 ≤ (ji6 : Int)) = true := decide_eq_true (of_eq_true hji6p0)
   have hji6u : (IntKind.u64.wrap (2 ^ min (ji4).toNat 64)) = ji6 := by have h_ := hji6_; rw [Int.one_mul] at h_; exact h_
   have hji6v : (ji4) ≤ 64 → (IntKind.u64.wrap (2 ^ (ji4).toNat)) = ji6 := fun hle_ => by have h_ := hji6z hle_; rw [Int.one_mul] at h_; exact h_
   obtain ⟨ji7, hji7⟩ : ∃ j_ : Int, (shr .u64 a1 (ji6)) = j_ := ⟨_, rfl⟩
   replace H : ((steepleref02_mask.f a0).bind fun t345 => ((steepleref02_mask.f a0).bind fun t346 => ((steepleref02_timesWord.f k (wrap64 (a0 - 1)) (Go.bits .and .u64 (ji7) t345)).bind fun t347 => (some (Go.bits .or .u64 (shl .u64 (Go.bits .xor .u64 (Go.bits .and .u64 a1 t346) t347) (ji6)) (Go.bits .and .u64 (ji7) t345)))))) = some r := by first | (rw [hji7] at H; exact H) | (simp only [hji7] at H ⊢; exact H)
   have hji7_ : (a1 / 2 ^ min (ji6).toNat 64) = ji7 := hji7
   have hji7z : (ji6) ≤ 64 → (a1 / 2 ^ (ji6).toNat) = ji7 := shr_small hji7
   replace H := Option.bind_eq_some_iff.mp H
   obtain ⟨t345, A80, H⟩ := H
   replace H : ((steepleref02_mask.f a0).bind fun t346 => ((steepleref02_timesWord.f k (wrap64 (a0 - 1)) (Go.bits .and .u64 (ji7) t345)).bind fun t347 => (some (Go.bits .or .u64 (shl .u64 (Go.bits .xor .u64 (Go.bits .and .u64 a1 t346) t347) (ji6)) (Go.bits .and .u64 (ji7) t345))))) = some r := H
   have A8 := Aside0.mk A80
   clear A80
   replace H := Option.bind_eq_some_iff.mp H
   obtain ⟨t346, A90, H⟩ := H
   replace H : ((steepleref02_timesWord.f k (wrap64 (a0 - 1)) (Go.bits .and .u64 (ji7) t345)).bind fun t347 => (some (Go.bits .or .u64 (shl .u64 (Go.bits .xor .u64 (Go.bits .and .u64 a1 t346) t347) (ji6)) (Go.bits .and .u64 (ji7) t345)))) = some r := H
   have A9 := Aside0.mk A90
   clear A90
   replace H := Option.bind_eq_some_iff.mp H
   obtain ⟨t347, A100, H⟩ := H
   replace H : (some (Go.bits .or .u64 (shl .u64 (Go.bits .xor .u64 (Go.bits .and .u64 a1 t346) t347) (ji6)) (Go.bits .and .u64 (ji7) t345))) = some r := H
   have A10 := Aside0.mk A100
   clear A100
   obtain ⟨ji11, hji11⟩ : ∃ j_ : Int, (shl .u64 (Go.bits .xor .u64 (Go.bits .and .u64 a1 t346) t347) (ji6)) = j_ := ⟨_, rfl⟩
   replace H : (some (Go.bits .or .u64 (ji11) (Go.bits .and .u64 (ji7) t345))) = some r := by first | (rw [hji11] at H; exact H) | (simp only [hji11] at H ⊢; exact H)
   (try rw [hji11] at A8)
   (try rw [hji11] at A9)
   (try rw [hji11] at A10)
   have hji11_ : (IntKind.u64.wrap ((Go.bits .xor .u64 (Go.bits .and .u64 a1 t346) t347) * 2 ^ min (ji6).toNat 64)) = ji11 := hji11
   have hji11z : (ji6) ≤ 64 → (IntKind.u64.wrap ((Go.bits .xor .u64 (Go.bits .and .u64 a1 t346) t347) * 2 ^ (ji6).toNat)) = ji11 := shl_small hji11
   have hji11p0 := eq_true (show (0 : Int) ≤ ji11 by rw [← hji11_]; exact wrap_u64_nonneg _)
   have hji11p1 : decide (0 ≤ (ji11 : Int)) = true := decide_eq_true (of_eq_true hji11p0)
   obtain rfl := Option.some.inj H
   go_enter Try.func58, Try.ntmps58
   go_wp2_with (first | ((with_reducible refine gate_callee (f := 61) rfl ?_); refine goesL_ (some 18) rfl rfl Try.func61 (by kernel_rfl) rfl #[.int .i64 a0] rfl (by (try simp only [List.map_toArray, List.map_cons, List.map_nil]); first | done | rfl | (simp only [List.length_drop, List.length_take]; rfl)) ?_; (with_reducible refine (steepleref02_mask.calls a0 t345 _ A8.out).mono ?_); rintro e w12 ⟨rfl, hb⟩; refine ⟨_, rfl, ?_⟩; replace HB := bh HB hb; (try clear hb); (try clear hb2); (try clear hk); (try clear hi)) | ((with_reducible refine gate_callee (f := 61) rfl ?_); refine goesL_ (some 22) rfl rfl Try.func61 (by kernel_rfl) rfl #[.int .i64 a0] rfl (by (try simp only [List.map_toArray, List.map_cons, List.map_nil]); first | done | rfl | (simp only [List.length_drop, List.length_take]; rfl)) ?_; (with_reducible refine (steepleref02_mask.calls a0 t346 _ A9.out).mono ?_); rintro e w13 ⟨rfl, hb⟩; refine ⟨_, rfl, ?_⟩; replace HB := bh HB hb; (try clear hb); (try clear hb2); (try clear hk); (try clear hi)) | ((with_reducible refine gate_callee (f := 58) rfl ?_); refine goesL_ (some 28) rfl rfl Try.func58 (by kernel_rfl) rfl #[.int .i64 (wrap64 (a0 - 1)), .int .u64 (Go.bits .and .u64 (ji7) t345)] rfl (by (try simp only [List.map_toArray, List.map_cons, List.map_nil]); first | done | (simp only [hji7]; rfl) | rfl | (simp only [List.length_drop, List.length_take]; rfl)) ?_; (with_reducible refine (ih k (by omega) (wrap64 (a0 - 1)) (Go.bits .and .u64 (ji7) t345) t347 _ A10.out).mono ?_); rintro e w14 ⟨rfl, hb⟩; refine ⟨_, rfl, ?_⟩; replace HB := bh HB hb; (try clear hb); (try clear hb2); (try clear hk); (try clear hi)))
   go_ret
   exact ⟨by first | rfl | (simp [errW_none, errW_some] <;> rfl) | (simp only [← hji4, ← hji6, ← hji7, ← hji11]; first | rfl | (simp [errW_none, errW_some] <;> rfl)) | (simp [*, errW_none, errW_some] <;> rfl), bq HB.out⟩
  ·rw [if_neg c5] at H
   exact absurd H (by simp)

end Go.Proofs.Ytceneggampgboaa.P
