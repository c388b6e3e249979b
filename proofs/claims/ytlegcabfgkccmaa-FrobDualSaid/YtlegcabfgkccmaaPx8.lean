/- Written by a program of this session: functions that the law reaches, as Lean functions, and that the code comes to their answers. Conditions: those that each theorem names. -/
import Derived.Test.YtlegcabfgkccmaaPx0
import Derived.Test.YtlegcabfgkccmaaPx6
import Derived.Test.YtlegcabfgkccmaaPx7
namespace Go.Proofs.Ytlegcabfgkccmaa.P
open Go.RowKit Go.Proofs.YtlegcabfgkccmaaX Go.Proofs.YtlegcabfgkccmaaW.PrintWords Go.Proofs.YtlegcabfgkccmaaW.PrintLast Go.Proofs.YtlegcabfgkccmaaW.PrintMore
attribute [local go_sem] max2_int min2_int max_two min_two max_three min_three max_four min_four   -- for this text's walks alone
set_option linter.unusedVariables false
set_option linter.unusedSimpArgs false

/-! ### steepleref33_Conjugates: function 30 -/
def steepleref33_Conjugates.l0 : Nat → Int → Int → List (S37) → Int → Int → Int → Option ((List (S37)))
 | 0, _, _, _, _, _, _ => none
 | k + 1, x0, x1, x7, x9, x204000, x204001 => (steepleref15_Two.f k (wrap64 (x0 - x1))).bind fun t204 => (if x9 < t204 then (if x7.length < 8796093022208 then ((steepleref15_Two.f k x1).bind fun t208 => ((steepleref33_Power.f k x204000 x204001 t208).bind fun bt209 => (steepleref33_Conjugates.l0 k x0 x1 (x7 ++ [(⟨x204000, x204001⟩ : S37)]) (wrap64 (x9 + 1)) bt209.1 bt209.2))) else (none)) else (some x7))
def steepleref33_Conjugates.f (k : Nat) (a0 : Int) (a1 : Int) (a2_0 : Int) (a2_1 : Int) : Option ((List (S37))) := steepleref33_Conjugates.l0 k a0 a1 ([] : List (S37)) 0 a2_0 a2_1
theorem steepleref33_Conjugates.mono_l : ∀ k, (∀ y0 y1 y2 y3 y4 y5, LeO (steepleref33_Conjugates.l0 k y0 y1 y2 y3 y4 y5) (steepleref33_Conjugates.l0 (k + 1) y0 y1 y2 y3 y4 y5))
 | 0 => fun _ _ _ _ _ _ r h => by simp [steepleref33_Conjugates.l0] at h
 | k + 1 => by
  have ih0 := steepleref33_Conjugates.mono_l k
  ·intro y0 y1 y2 y3 y4 y5
   unfold steepleref33_Conjugates.l0
   repeat' first
   | (with_reducible exact ih0 _ _ _ _ _ _)
   | (with_reducible exact steepleref15_Two.mono _ _)
   | (with_reducible exact steepleref33_Power.mono _ _ _ _)
   | (with_reducible exact LeO.refl _)
   | (with_reducible exact LeO.none _)
   | (with_reducible refine LeO.ite ?_ ?_)
   | (with_reducible refine LeO.bind ?_ (fun _ => ?_))
   | exact ih0 _ _ _ _ _ _
   | exact steepleref15_Two.mono _ _
   | exact steepleref33_Power.mono _ _ _ _
   | exact LeO.none _
   | refine LeO.ite ?_ ?_
   | refine LeO.bind ?_ (fun _ => ?_)
theorem steepleref33_Conjugates.mono : ∀ a0 a1 a2 a3 k, LeO (steepleref33_Conjugates.f k a0 a1 a2 a3) (steepleref33_Conjugates.f (k + 1) a0 a1 a2 a3) := by
 intro a0 a1 a2 a3 k
 have ih0 := steepleref33_Conjugates.mono_l k
 unfold steepleref33_Conjugates.f
 repeat' first
   | (with_reducible exact ih0 _ _ _ _ _ _)
   | (with_reducible exact steepleref15_Two.mono _ _)
   | (with_reducible exact steepleref33_Power.mono _ _ _ _)
   | (with_reducible exact LeO.refl _)
   | (with_reducible exact LeO.none _)
   | (with_reducible refine LeO.ite ?_ ?_)
   | (with_reducible refine LeO.bind ?_ (fun _ => ?_))
   | exact ih0 _ _ _ _ _ _
   | exact steepleref15_Two.mono _ _
   | exact steepleref33_Power.mono _ _ _ _
   | exact LeO.none _
   | refine LeO.ite ?_ ?_
   | refine LeO.bind ?_ (fun _ => ?_)
set_option maxHeartbeats 8000000 in
set_option maxRecDepth 100000 in
theorem steepleref33_Conjugates.calls (k : Nat) (a0 : Int) (a1 : Int) (a2_0 : Int) (a2_1 : Int) (r : List (S37)) (w : World) (h : steepleref33_Conjugates.f k a0 a1 a2_0 a2_1 = some r) :
  Calls Try.prog 30 #[.int .i64 a0, .int .i64 a1, .agg #[.int .u64 a2_0, .int .u64 a2_1]] w fun e w' => ∃ v0_ : Value, e = .returned (v0_) ∧ Kd.R k37 37 w' w.heap.size (fun _ => True) v0_ r ∧ Below w.heap.size w w' := by
 have hu37 := Try.underlying37
 have HB := Aside0.mk (Below.refl w.heap.size w)
 have H : (steepleref33_Conjugates.l0 k a0 a1 ([] : List (S37)) 0 a2_0 a2_1) = some r := h
 clear h
 have H' := Aside0.mk H
 clear H
 go_enter Try.func30, Try.ntmps30
 go_wp2_with (first | ((with_reducible refine gate_dst (N := 5) rfl ?_); refine box_event ?hg (N := 5) ?hd (cs := #[.int .u64 a2_0, .int .u64 a2_1]) (t := 37) ?hr ?_; (case hd => rfl); (case hg => rfl); (case hr => first | (go_simp; done) | (go_simp; rfl)); intro gb202 hg w4 hbox hb; have BK202 := Aside0.mk hbox; have GW202 := ge hg HB; have GE202 := ge hg HB; replace HB := bh HB hb; clear hb hbox hg; obtain ⟨hcz5_0, hcz5_1⟩ := zc2 BK202; obtain ⟨hfz5_0, hfz5_1⟩ := zf2 BK202) | ((with_reducible refine gate_dst (N := 8) rfl ?_); refine box_event ?hg (N := 8) ?hd (cs := #[.int .u64 0, .int .u64 0]) (t := 37) ?hr ?_; (case hd => rfl); (case hg => rfl); (case hr => first | (go_simp; done) | (go_simp; rfl)); intro gb203 hg w6 hbox hb; have BK203 := Aside0.mk hbox; have GW203 := ge hg HB; have GE203 := ge hg HB; have NB202_203 := nl hg BK202; have NB203_202 := ng hg BK202; replace BK202 := bb BK202 hb; replace HB := bh HB hb; clear hb hbox hg; have hnb7 := NB203_202.out; have hnc7 := NB202_203.out; obtain ⟨hcz8_0, hcz8_1⟩ := zc2 BK203; obtain ⟨hfz8_0, hfz8_1⟩ := zf2 BK203))
 go_loopg [7, 9] k (fun kq v7 v9 w' => ∃ (x7_1 : List (S37)) (x9_1 : Int) (x204000_1 : Int) (x204001_1 : Int), v9 = .int .i64 x9_1 ∧ Aside0 (steepleref33_Conjugates.l0 kq a0 a1 x7_1 x9_1 x204000_1 x204001_1 = some r) ∧ Aside0 (kq ≤ k) ∧ Aside0 (Kd.R k37 37 w' w.heap.size (fun k_ => k_ ≠ gb202 ∧ k_ ≠ gb203) v7 x7_1) ∧ Aside0 (w'.heap[gb202]? = some (.cells #[.int .u64 a2_0, .int .u64 a2_1] 37 (0, 0))) ∧ Aside0 (w'.heap[gb203]? = some (.cells #[.int .u64 x204000_1, .int .u64 x204001_1] 37 (0, 0))) ∧ Aside0 (Below w.heap.size w w'))
 case atStart => exact ⟨(([] : List (S37))), (0), (a2_0), (a2_1), (by first | rfl | (simp; done) | (simp [*]; done)), H', ⟨Nat.le_refl _⟩, ⟨by first | exact Kd.R_nil _ _ _ _ _ | exact Kd.N_nil _ _ _ _ _ | exact Kd.V_nil _ _ _ _ _ | exact Kd.Q_nil _ _ _ _ _ | exact Kd.S_nil _ _ _ _ _⟩, ⟨by (with_reducible repeat refine bl ?_); refine blk_far ?_ NB202_203.out _; (with_reducible repeat refine bl ?_); refine blk_far ?_ NB202_203.out _; (with_reducible repeat refine bl ?_); exact BK202.out⟩, ⟨by (with_reducible repeat refine bl ?_); refine blk_put (cs := #[.int .u64 a2_0, .int .u64 0]) ?_ 1 _ rfl; (with_reducible repeat refine bl ?_); refine blk_put (cs := #[.int .u64 0, .int .u64 0]) ?_ 0 _ rfl; (with_reducible repeat refine bl ?_); exact BK203.out⟩, ⟨bq HB.out⟩⟩
 case round =>
  clear H'
  try clear p2
  try clear c3
  try clear c7
  try clear hcz5_0
  try clear hcz5_1
  try clear hcz8_0
  try clear hcz8_1
  try clear hfz5_0
  try clear hfz5_1
  try clear hfz8_0
  try clear hfz8_1
  obtain ⟨x7_1, x9_1, x204000_1, x204001_1, rfl, HA, HK1, HO_7, BK202, BK203, HB⟩ := hrel
  cases gk with
  | zero => exact absurd HA.out (by simp [steepleref33_Conjugates.l0])
  | succ k1 =>
   have H := HA.out
   clear HA
   simp only [steepleref33_Conjugates.l0] at H
   replace H := Option.bind_eq_some_iff.mp H
   obtain ⟨t204, A90, H⟩ := H
   replace H : (if x9_1 < t204 then (if x7_1.length < 8796093022208 then ((steepleref15_Two.f k1 a1).bind fun t208 => ((steepleref33_Power.f k1 x204000_1 x204001_1 t208).bind fun bt209 => (steepleref33_Conjugates.l0 k1 a0 a1 (x7_1 ++ [(⟨x204000_1, x204001_1⟩ : S37)]) (wrap64 (x9_1 + 1)) bt209.1 bt209.2))) else (none)) else (some x7_1)) = some r := H
   have A9 := Aside0.mk A90
   clear A90
   by_cases c10 : x9_1 < t204
   ·rw [if_pos c10] at H
    have c10b0 : decide (x9_1 < t204) = true := decide_eq_true c10
    clear c10
    by_cases c11 : x7_1.length < 8796093022208
    ·rw [if_pos c11] at H
     have LMc11 := Aside0.mk c11
     clear c11
     obtain ⟨y205, hy205⟩ : ∃ y_ : List (S37), y_ = (x7_1 ++ [(⟨x204000_1, x204001_1⟩ : S37)]) := ⟨_, rfl⟩
     replace H : ((steepleref15_Two.f k1 a1).bind fun t208 => ((steepleref33_Power.f k1 x204000_1 x204001_1 t208).bind fun bt209 => (steepleref33_Conjugates.l0 k1 a0 a1 y205 (wrap64 (x9_1 + 1)) bt209.1 bt209.2))) = some r := by first | (rw [hy205]; with_reducible exact H) | (have H2_ := (Option.bind_some _ _).symm.trans H; rw [hy205]; with_reducible exact H2_) | (have H2_ := (Option.bind_some _ _).symm.trans H; with_reducible exact H2_) | with_reducible exact H | (rw [hy205]; exact H) | exact H
     have Ny205 := Aside0.mk hy205
     clear hy205
     replace H := Option.bind_eq_some_iff.mp H
     obtain ⟨t208, A120, H⟩ := H
     replace H : ((steepleref33_Power.f k1 x204000_1 x204001_1 t208).bind fun bt209 => (steepleref33_Conjugates.l0 k1 a0 a1 y205 (wrap64 (x9_1 + 1)) bt209.1 bt209.2)) = some r := H
     have A12 := Aside0.mk A120
     clear A120
     replace H := Option.bind_eq_some_iff.mp H
     obtain ⟨⟨t209, t210⟩, A130, H⟩ := H
     replace H : (steepleref33_Conjugates.l0 k1 a0 a1 y205 (wrap64 (x9_1 + 1)) t209 t210) = some r := H
     have A13 := Aside0.mk A130
     clear A130
     have H' := Aside0.mk H
     clear H
     try go_wp2_with (first | ((with_reducible refine gate_callee (f := 19) rfl ?_); refine goesL_ (some 15) rfl rfl Try.func19 (by kernel_rfl) rfl #[.int .i64 (wrap64 (a0 - a1))] rfl (by (try simp only [List.map_toArray, List.map_cons, List.map_nil]); first | done | rfl | (simp only [List.length_drop, List.length_take]; rfl)) ?_; (with_reducible refine (steepleref15_Two.calls k1 (wrap64 (a0 - a1)) t204 _ A9.out).mono ?_); rintro e w' ⟨rfl, ⟨nd, rfl⟩⟩; refine ⟨_, rfl, ?_⟩; (try (rw [drewN_self wr]; generalize hq_ : World.drewN wr _ = wr; have n0_ : Aside0 (Kd.R k37 37 wr w.heap.size (fun k_ => k_ ≠ gb202 ∧ k_ ≠ gb203) u7 x7_1) := ⟨by rw [← hq_]; exact (kr HO_7.out)⟩; have n1_ : Aside0 (wr.heap[gb202]? = some (.cells #[.int .u64 a2_0, .int .u64 a2_1] 37 (0, 0))) := ⟨by rw [← hq_]; exact (bk BK202.out)⟩; have n2_ : Aside0 (wr.heap[gb203]? = some (.cells #[.int .u64 x204000_1, .int .u64 x204001_1] 37 (0, 0))) := ⟨by rw [← hq_]; exact (bk BK203.out)⟩; have n3_ : Aside0 (Below w.heap.size w wr) := ⟨by rw [← hq_]; exact (bq HB.out)⟩; clear HO_7 BK202 BK203 HB hq_; have HO_7 := n0_; have BK202 := n1_; have BK203 := n2_; have HB := n3_; clear n0_ n1_ n2_ n3_)); have hnb14 := NB203_202.out; have hnc14 := NB202_203.out; obtain ⟨hcz15_0, hcz15_1⟩ := zc2 BK203; obtain ⟨hfz15_0, hfz15_1⟩ := zf2 BK203) | ((with_reducible refine gate_builtin (b := .append) (xs := #[.tmp 19, .tmp 21]) rfl ?_); at_builtin; refine Kd.R_append k37 (w0 := w) w.heap.size rfl (.tmp 19) (.tmp 21) 39 37 (.agg #[(.int .u64 0), (.int .u64 0)]) 16 rfl Try.underlying39 info37 rfl (by decide) (by omega) u7 x7_1 (⟨x204000_1, x204001_1⟩ : S37) [.int .u64 x204000_1, .int .u64 x204001_1] (fun k_ => k_ ≠ gb202 ∧ k_ ≠ gb203) (fun _ => False) rfl rfl ?aP (fun _ hk => hk.elim) ?aF ?aO ?aB ?aS ?aL ?_; (case aP => exact k37_mkM _ _ _ (⟨x204000_1, x204001_1⟩ : S37)); (case aB => exact (bq HB.out)); (case aF => exact (fun k_ hk => ⟨Kd.freshB (g := gb202) (o := .cells #[.int .u64 a2_0, .int .u64 a2_1] 37 (0, 0)) (bk BK202.out) k_ hk, Kd.freshB (g := gb203) (o := .cells #[.int .u64 x204000_1, .int .u64 x204001_1] 37 (0, 0)) (bk BK203.out) k_ hk⟩)); (case aO => exact (kr HO_7.out)); (case aS => exact (below_size (bq HB.out))); (case aL => have := LMc11.out; omega); intro v206 w16 ho hb hg hat; rw [← Ny205.out] at ho; have HO207 := Aside0.mk ho; replace BK202 := Aside0.mk (blk_grown (g := gb202) (o := .cells #[.int .u64 a2_0, .int .u64 a2_1] 37 (0, 0)) (bk BK202.out) hg (Kd.R_away HO_7.out (fun _ hk => hk.1))); replace BK203 := Aside0.mk (blk_grown (g := gb203) (o := .cells #[.int .u64 x204000_1, .int .u64 x204001_1] 37 (0, 0)) (bk BK203.out) hg (Kd.R_away HO_7.out (fun _ hk => hk.2))); replace HB := Aside0.mk hb; clear HO_7; clear ho hb hg hat))
     replace HO207 := Aside0.mk (Kd.R_drew HO207.out)
     replace BK202 := Aside0.mk (blk_drew BK202.out)
     replace BK203 := Aside0.mk (blk_drew BK203.out)
     replace HB := Aside0.mk (below_drew1 HB.out)
     refine start_ (n := 5) (S := fun w' => w'.cell? ⟨gb203, 0, none⟩ = some (.int .u64 x204000_1) ∧ w'.cell? ⟨gb203, 1, none⟩ = some (.int .u64 x204001_1)) (ds := [4]) #[false, false, false, false, false] (by kernel_rfl) rfl rfl ⟨(blk_cell BK203.out 0).trans rfl, (blk_cell BK203.out 1).trans rfl⟩ (fun hHeld => ?_)
     generalize w16.drew = w17 at HO207 BK202 BK203 HB hHeld ⊢
     refine pure_ (i := 1) (N := some 24) (v := ?_) (a' := ?_) #[false, true, false, false, false] rfl rfl (by kernel_rfl) (fun _ _ _ h => h) (Or.inl ⟨by rfl, ?_⟩) ?_ ?_
     rotate_left
     ·intro w'
      go_simp
      with_reducible rfl
     rotate_left
     ·simp only [Act.put, List.setIfInBounds_toArray, List.set_cons_zero, List.set_cons_succ, i64_w, i32_w]
      rfl
     refine take_ (i := 0) (N := some 23) (v := ?_) (a' := ?_) #[true, true, false, false, false] rfl rfl (by kernel_rfl) (fun _ _ _ h => h) (Or.inl ⟨by rfl, ?_⟩) hHeld ?_ ?_
     rotate_left
     ·rintro w' ⟨s0, s1⟩
      go_simp
      with_reducible rfl
     rotate_left
     ·simp only [Act.put, List.setIfInBounds_toArray, List.set_cons_zero, List.set_cons_succ, i64_w, i32_w]
      rfl
     refine one_ (i := 2) (N := some 25) #[true, true, true, false, false] rfl rfl (by kernel_rfl) (by decide) (fun K hK => ?_)
     refine goes_ Try.func19 (by kernel_rfl) rfl #[.int .i64 a1] (by rfl) rfl rfl (by (try simp only [List.map_toArray, List.map_cons, List.map_nil]); first | done | rfl | (simp only [List.length_drop, List.length_take]; rfl)) ?_
     with_reducible refine (steepleref15_Two.calls k1 a1 t208 _ A12.out).mono ?_
     rintro e w' ⟨rfl, ⟨nd, rfl⟩⟩
     refine ⟨_, rfl, ?_⟩
     refine hK.out _ _ ⟨(blk_cell BK203.out 0).trans rfl, (blk_cell BK203.out 1).trans rfl⟩ (fun hHeld => ?_)
     clear hK K
     refine norm_ (a' := ?_) ?_ ?_
     rotate_left
     ·show Act.put _ (some 25) _ = _
      simp only [Act.put, List.setIfInBounds_toArray, List.set_cons_zero, List.set_cons_succ, i64_w, i32_w]
      rfl
     refine one_ (i := 3) (N := some 26) #[true, true, true, true, false] rfl rfl (by kernel_rfl) (by decide) (fun K hK => ?_)
     refine goes_ Try.func25 (by kernel_rfl) rfl #[.agg #[.int .u64 x204000_1, .int .u64 x204001_1], .int .i64 t208] (by rfl) rfl rfl (by (try simp only [List.map_toArray, List.map_cons, List.map_nil]); first | done | rfl | (simp only [List.length_drop, List.length_take]; rfl)) ?_
     with_reducible refine (steepleref33_Power.calls k1 x204000_1 x204001_1 t208 t209 t210 _ A13.out).mono ?_
     rintro e w18 ⟨rfl, hb⟩
     refine ⟨_, rfl, ?_⟩
     replace HO207 := kb HO207 hb
     replace BK202 := bb BK202 hb
     replace BK203 := bb BK203 hb
     replace HB := bh HB hb
     (try clear hb)
     (try clear hb2)
     (try clear hk)
     (try clear hi)
     refine hK.out _ _ ⟨(blk_cell BK203.out 0).trans rfl, (blk_cell BK203.out 1).trans rfl⟩ (fun hHeld => ?_)
     clear hK K
     refine norm_ (a' := ?_) ?_ ?_
     rotate_left
     ·show Act.put _ (some 26) _ = _
      simp only [Act.put, List.setIfInBounds_toArray, List.set_cons_zero, List.set_cons_succ, i64_w, i32_w]
      rfl
     refine last_ (i := 4) (N := none) #[true, true, true, true, true] rfl rfl (by kernel_rfl) (by decide) (fun K hK => ?_)
     have hs19 : w18.cell? ⟨gb203, 0, none⟩ = some (.int .u64 x204000_1) := (blk_cell BK203.out 0).trans rfl
     have hfs19 := blk_frozen BK203.out 0
     have hns19_0 := NB202_203.out
     have hms19_0 := NB203_202.out
     have hs20 : w18.cell? ⟨gb203, 1, none⟩ = some (.int .u64 x204001_1) := (blk_cell BK203.out 1).trans rfl
     have hfs20 := blk_frozen BK203.out 1
     have hns20_0 := NB202_203.out
     have hms20_0 := NB203_202.out
     refine skip_ (w1 := ?_) (by rfl) rfl ?_ ?_
     rotate_left
     ·go_simp
      rfl
     refine hK.out _ _ ?_
     clear hK K
     refine done_ (by kernel_rfl) ?_
     try go_wp2
     go_roundg k1
     case measure => have := HK1.out; omega
     case rel => exact ⟨(y205), (wrap64 (x9_1 + 1)), (t209), (t210), (by first | rfl | (simp; done) | (simp [*]; done)), H', ⟨by have := HK1.out; omega⟩, ⟨by (with_reducible repeat refine kl ?_); exact Kd.R_mono (Kd.R_far (p := ⟨gb203, 1, none⟩) (Kd.R_far (p := ⟨gb203, 0, none⟩) (Kd.R_mono HO207.out (fun k_ hk => (⟨hk, hk.2⟩ : _ ∧ k_ ≠ gb203))) (fun _ hk => hk.2) (.int .u64 t209)) (fun _ hk => hk.2) (.int .u64 t210)) (fun _ hk => ⟨hk.1.1, hk.1.2⟩)⟩, ⟨by (with_reducible repeat refine bl ?_); refine blk_far ?_ NB202_203.out _; (with_reducible repeat refine bl ?_); refine blk_far ?_ NB202_203.out _; (with_reducible repeat refine bl ?_); exact BK202.out⟩, ⟨by (with_reducible repeat refine bl ?_); refine blk_put (cs := #[.int .u64 t209, .int .u64 x204001_1]) ?_ 1 _ rfl; (with_reducible repeat refine bl ?_); refine blk_put (cs := #[.int .u64 x204000_1, .int .u64 x204001_1]) ?_ 0 _ rfl; (with_reducible repeat refine bl ?_); exact BK203.out⟩, ⟨bq HB.out⟩⟩
    ·rw [if_neg c11] at H
     exact absurd H (by simp)
   ·rw [if_neg c10] at H
    have c10b0 : decide (x9_1 < t204) = false := decide_eq_false c10
    clear c10
    obtain rfl := Option.some.inj H
    go_wp2_with (first | ((with_reducible refine gate_callee (f := 19) rfl ?_); refine goesL_ (some 15) rfl rfl Try.func19 (by kernel_rfl) rfl #[.int .i64 (wrap64 (a0 - a1))] rfl (by (try simp only [List.map_toArray, List.map_cons, List.map_nil]); first | done | rfl | (simp only [List.length_drop, List.length_take]; rfl)) ?_; (with_reducible refine (steepleref15_Two.calls k1 (wrap64 (a0 - a1)) t204 _ A9.out).mono ?_); rintro e w' ⟨rfl, ⟨nd, rfl⟩⟩; refine ⟨_, rfl, ?_⟩))
    go_ret
    exact ⟨_, by first | rfl | (simp [errW_none, errW_some] <;> rfl) | (simp [*, errW_none, errW_some] <;> rfl), by (with_reducible repeat refine kl ?_); exact Kd.R_mono HO_7.out (fun _ hk => trivial), bq HB.out⟩

/-! ### steepleref33_Trace: function 31 -/
def steepleref33_Trace.l0 : Nat → List (S37) → Int → Int → Int → Option (Int × Int)
 | 0, _, _, _, _ => none
 | k + 1, x8, x9, x214000, x214001 => if x9 < (x8.length : Int) then (if 0 ≤ x9 then ((steepleref02_Add.f x214000 x214001 ((rd_T37 x8 x9).f0) ((rd_T37 x8 x9).f1)).bind fun bt218 => (steepleref33_Trace.l0 k x8 (wrap64 (x9 + 1)) bt218.1 bt218.2)) else (none)) else (some (x214000, x214001))
def steepleref33_Trace.f (k : Nat) (a0 : Int) (a1 : Int) (a2_0 : Int) (a2_1 : Int) : Option (Int × Int) := (steepleref33_Conjugates.f k a0 a1 a2_0 a2_1).bind fun t214 => (steepleref33_Trace.l0 k t214 0 0 0)
theorem steepleref33_Trace.mono_l : ∀ k, (∀ y0 y1 y2 y3, LeO (steepleref33_Trace.l0 k y0 y1 y2 y3) (steepleref33_Trace.l0 (k + 1) y0 y1 y2 y3))
 | 0 => fun _ _ _ _ r h => by simp [steepleref33_Trace.l0] at h
 | k + 1 => by
  have ih0 := steepleref33_Trace.mono_l k
  ·intro y0 y1 y2 y3
   unfold steepleref33_Trace.l0
   repeat' first
   | (with_reducible exact ih0 _ _ _ _)
   | (with_reducible exact steepleref33_Conjugates.mono _ _ _ _ _)
   | (with_reducible exact LeO.refl _)
   | (with_reducible exact LeO.none _)
   | (with_reducible refine LeO.ite ?_ ?_)
   | (with_reducible refine LeO.bind ?_ (fun _ => ?_))
   | exact ih0 _ _ _ _
   | exact steepleref33_Conjugates.mono _ _ _ _ _
   | exact LeO.none _
   | refine LeO.ite ?_ ?_
   | refine LeO.bind ?_ (fun _ => ?_)
theorem steepleref33_Trace.mono : ∀ a0 a1 a2 a3 k, LeO (steepleref33_Trace.f k a0 a1 a2 a3) (steepleref33_Trace.f (k + 1) a0 a1 a2 a3) := by
 intro a0 a1 a2 a3 k
 have ih0 := steepleref33_Trace.mono_l k
 unfold steepleref33_Trace.f
 repeat' first
   | (with_reducible exact ih0 _ _ _ _)
   | (with_reducible exact steepleref33_Conjugates.mono _ _ _ _ _)
   | (with_reducible exact LeO.refl _)
   | (with_reducible exact LeO.none _)
   | (with_reducible refine LeO.ite ?_ ?_)
   | (with_reducible refine LeO.bind ?_ (fun _ => ?_))
   | exact ih0 _ _ _ _
   | exact steepleref33_Conjugates.mono _ _ _ _ _
   | exact LeO.none _
   | refine LeO.ite ?_ ?_
   | refine LeO.bind ?_ (fun _ => ?_)
set_option maxHeartbeats 8000000 in
set_option maxRecDepth 100000 in
theorem steepleref33_Trace.calls (k : Nat) (a0 : Int) (a1 : Int) (a2_0 : Int) (a2_1 : Int) (r1 : Int) (r2 : Int) (w : World) (h : steepleref33_Trace.f k a0 a1 a2_0 a2_1 = some (r1, r2)) :
  Calls Try.prog 31 #[.int .i64 a0, .int .i64 a1, .agg #[.int .u64 a2_0, .int .u64 a2_1]] w fun e w' => e = .returned (.agg #[.int .u64 r1, .int .u64 r2]) ∧ Below w.heap.size w w' := by
 have hu37 := Try.underlying37
 have HB := Aside0.mk (Below.refl w.heap.size w)
 have H : ((steepleref33_Conjugates.f k a0 a1 a2_0 a2_1).bind fun t214 => (steepleref33_Trace.l0 k t214 0 0 0)) = some (r1, r2) := h
 clear h
 replace H := Option.bind_eq_some_iff.mp H
 obtain ⟨t214, A40, H⟩ := H
 replace H : (steepleref33_Trace.l0 k t214 0 0 0) = some (r1, r2) := H
 have A4 := Aside0.mk A40
 clear A40
 have H' := Aside0.mk H
 clear H
 go_enter Try.func31, Try.ntmps31
 go_wp2_with (first | ((with_reducible refine gate_dst (N := 5) rfl ?_); refine box_event ?hg (N := 5) ?hd (cs := #[.int .u64 a2_0, .int .u64 a2_1]) (t := 37) ?hr ?_; (case hd => rfl); (case hg => rfl); (case hr => first | (go_simp; done) | (go_simp; rfl)); intro gb211 hg w5 hbox hb; have BK211 := Aside0.mk hbox; have GW211 := ge hg HB; have GE211 := ge hg HB; replace HB := bh HB hb; clear hb hbox hg) | ((with_reducible refine gate_dst (N := 6) rfl ?_); refine box_event ?hg (N := 6) ?hd (cs := #[.int .u64 0, .int .u64 0]) (t := 37) ?hr ?_; (case hd => rfl); (case hg => rfl); (case hr => first | (go_simp; done) | (go_simp; rfl)); intro gb212 hg w6 hbox hb; have BK212 := Aside0.mk hbox; have GW212 := ge hg HB; have GE212 := ge hg HB; have NB211_212 := nl hg BK211; have NB212_211 := ng hg BK211; replace BK211 := bb BK211 hb; replace HB := bh HB hb; clear hb hbox hg) | ((with_reducible refine gate_dst (N := 7) rfl ?_); refine box_event ?hg (N := 7) ?hd (cs := #[.int .u64 0, .int .u64 0]) (t := 37) ?hr ?_; (case hd => rfl); (case hg => rfl); (case hr => first | (go_simp; done) | (go_simp; rfl)); intro gb213 hg w7 hbox hb; have BK213 := Aside0.mk hbox; have GW213 := ge hg HB; have GE213 := ge hg HB; have NB211_213 := nl hg BK211; have NB213_211 := ng hg BK211; have NB212_213 := nl hg BK212; have NB213_212 := ng hg BK212; replace BK211 := bb BK211 hb; replace BK212 := bb BK212 hb; replace HB := bh HB hb; clear hb hbox hg; have hnb8 := NB211_212.out; have hnc8 := NB212_211.out; have hnb9 := NB211_213.out; have hnc9 := NB213_211.out; obtain ⟨hcz10_0, hcz10_1⟩ := zc2 BK211; obtain ⟨hfz10_0, hfz10_1⟩ := zf2 BK211) | ((with_reducible refine gate_callee (f := 30) rfl ?_); refine goesL_ (some 13) rfl rfl Try.func30 (by kernel_rfl) rfl #[.int .i64 a0, .int .i64 a1, .agg #[.int .u64 a2_0, .int .u64 a2_1]] rfl (by (try simp only [List.map_toArray, List.map_cons, List.map_nil]); first | done | rfl | (simp only [List.length_drop, List.length_take]; rfl)) ?_; (with_reducible refine (steepleref33_Conjugates.calls k a0 a1 a2_0 a2_1 t214 _ A4.out).mono ?_); rintro e w11 ⟨v215, rfl, ho0, hb⟩; refine ⟨_, rfl, ?_⟩; have HO216 := Aside0.mk (Kd.R_lower (Kd.R_newB (Kd.R_newB (Kd.R_newB ho0 (g := gb211) (o := .cells #[.int .u64 a2_0, .int .u64 a2_1] 37 (0, 0)) (bk BK211.out)) (g := gb212) (o := .cells #[.int .u64 0, .int .u64 0] 37 (0, 0)) (bk BK212.out)) (g := gb213) (o := .cells #[.int .u64 0, .int .u64 0] 37 (0, 0)) (bk BK213.out)) (below_size (bq HB.out))); replace BK211 := bb BK211 hb; replace BK212 := bb BK212 hb; replace BK213 := bb BK213 hb; replace HB := bh HB hb; (try clear hb); (try clear hb2); (try clear hk); (try clear hi); (try clear ho0)))
 go_loopg [9] k (fun kq v9 w' => ∃ (x9_1 : Int) (x214000_1 : Int) (x214001_1 : Int), v9 = .int .i64 x9_1 ∧ Aside0 (steepleref33_Trace.l0 kq t214 x9_1 x214000_1 x214001_1 = some (r1, r2)) ∧ Aside0 (kq ≤ k) ∧ Aside0 (Kd.R k37 37 w' w.heap.size (fun k_ => k_ ≠ gb211 ∧ k_ ≠ gb212 ∧ k_ ≠ gb213) v215 t214) ∧ Aside0 (w'.heap[gb211]? = some (.cells #[.int .u64 a2_0, .int .u64 a2_1] 37 (0, 0))) ∧ Aside0 (w'.heap[gb212]? = some (.cells #[.int .u64 0, .int .u64 0] 37 (0, 0))) ∧ Aside0 (w'.heap[gb213]? = some (.cells #[.int .u64 x214000_1, .int .u64 x214001_1] 37 (0, 0))) ∧ Aside0 (Below w.heap.size w w'))
 case atStart => exact ⟨(0), (0), (0), (by first | rfl | (simp; done) | (simp [*]; done)), H', ⟨Nat.le_refl _⟩, ⟨by (with_reducible repeat refine kl ?_); exact Kd.R_mono HO216.out (fun _ hk => ⟨hk.1.1.2, ⟨hk.1.2, hk.2⟩⟩)⟩, ⟨bk BK211.out⟩, ⟨bk BK212.out⟩, ⟨bk BK213.out⟩, ⟨bq HB.out⟩⟩
 case round =>
  clear H'
  try clear p2
  try clear c3
  try clear c8
  try clear c9
  try clear hcz10_0
  try clear hcz10_1
  try clear hfz10_0
  try clear hfz10_1
  obtain ⟨x9_1, x214000_1, x214001_1, rfl, HA, HK1, HO_8, BK211, BK212, BK213, HB⟩ := hrel
  cases gk with
  | zero => exact absurd HA.out (by simp [steepleref33_Trace.l0])
  | succ k1 =>
   have H := HA.out
   clear HA
   simp only [steepleref33_Trace.l0] at H
   by_cases c12 : x9_1 < (t214.length : Int)
   ·rw [if_pos c12] at H
    have c12b0 : decide (x9_1 < (t214.length : Int)) = true := decide_eq_true c12
    clear c12
    by_cases c13 : 0 ≤ x9_1
    ·rw [if_pos c13] at H
     have c13b0 : decide (0 ≤ x9_1) = true := decide_eq_true c13
     clear c13
     replace H := Option.bind_eq_some_iff.mp H
     obtain ⟨⟨t218, t219⟩, A140, H⟩ := H
     replace H : (steepleref33_Trace.l0 k1 t214 (wrap64 (x9_1 + 1)) t218 t219) = some (r1, r2) := H
     have A14 := Aside0.mk A140
     clear A140
     have H' := Aside0.mk H
     clear H
     obtain ⟨Ao15, co15, eo15⟩ := Kd.R_slice HO_8.out
     subst eo15
     try go_wp2
     replace HO_8 := Aside0.mk (Kd.R_drew HO_8.out)
     replace BK211 := Aside0.mk (blk_drew BK211.out)
     replace BK212 := Aside0.mk (blk_drew BK212.out)
     replace BK213 := Aside0.mk (blk_drew BK213.out)
     replace HB := Aside0.mk (below_drew1 HB.out)
     have p217 : 0 ≤ (x9_1 : Int) := of_decide_eq_true (by first | (with_reducible assumption) | assumption)
     have q217 : x9_1 < (t214.length : Int) := of_decide_eq_true (by first | (with_reducible assumption) | assumption)
     (try (obtain ⟨Ap_, cp_, ep_⟩ := Kd.R_slice HO_8.out; subst ep_))
     obtain ⟨ad217, e217, hx217_0, hx217_1⟩ := at_T37 (Kd.R_reads' HO_8.out).2.2 x9_1 p217 q217
     cases e217
     replace p217 := eq_true p217
     replace q217 := eq_true q217
     refine start_ (n := 7) (S := fun w' => w'.cell? ⟨gb213, 0, none⟩ = some (.int .u64 x214000_1) ∧ w'.cell? ⟨gb213, 1, none⟩ = some (.int .u64 x214001_1) ∧ w'.cell? (ad217.add ((x9_1).toNat * 2)) = some (.int .u64 ((rd_T37 t214 x9_1).f0)) ∧ w'.cell? ⟨(ad217.add ((x9_1).toNat * 2)).block, (ad217.add ((x9_1).toNat * 2)).off + 1, none⟩ = some (.int .u64 ((rd_T37 t214 x9_1).f1))) (ds := [6]) #[false, false, false, false, false, false, false] (by kernel_rfl) rfl rfl ⟨(blk_cell BK213.out 0).trans rfl, (blk_cell BK213.out 1).trans rfl, hx217_0, hx217_1⟩ (fun hHeld => ?_)
     generalize wr.drew = w16 at HO_8 BK211 BK212 BK213 HB hx217_0 hx217_1 hHeld ⊢
     refine pure_ (i := 1) (N := some 21) (v := ?_) (a' := ?_) #[false, true, false, false, false, false, false] rfl rfl (by kernel_rfl) (fun _ _ _ h => h) (Or.inl ⟨by rfl, ?_⟩) ?_ ?_
     rotate_left
     ·intro w'
      go_simp
      with_reducible rfl
     rotate_left
     ·simp only [Act.put, List.setIfInBounds_toArray, List.set_cons_zero, List.set_cons_succ, i64_w, i32_w]
      rfl
     refine pure_ (i := 2) (N := some 22) (v := ?_) (a' := ?_) #[false, true, true, false, false, false, false] rfl rfl (by kernel_rfl) (fun _ _ _ h => h) (Or.inl ⟨by rfl, ?_⟩) ?_ ?_
     rotate_left
     ·intro w'
      go_simp
      with_reducible rfl
     rotate_left
     ·simp only [Act.put, List.setIfInBounds_toArray, List.set_cons_zero, List.set_cons_succ, i64_w, i32_w]
      rfl
     refine pure_ (i := 3) (N := some 23) (v := ?_) (a' := ?_) #[false, true, true, true, false, false, false] rfl rfl (by kernel_rfl) (fun _ _ _ h => h) (Or.inl ⟨by rfl, ?_⟩) ?_ ?_
     rotate_left
     ·intro w'
      go_simp
      with_reducible rfl
     rotate_left
     ·simp only [Act.put, List.setIfInBounds_toArray, List.set_cons_zero, List.set_cons_succ, i64_w, i32_w]
      rfl
     refine take_ (i := 0) (N := some 20) (v := ?_) (a' := ?_) #[true, true, true, true, false, false, false] rfl rfl (by kernel_rfl) (fun _ _ _ h => h) (Or.inl ⟨by rfl, ?_⟩) hHeld ?_ ?_
     rotate_left
     ·rintro w' ⟨s0, s1, s2, s3⟩
      go_simp
      with_reducible rfl
     rotate_left
     ·simp only [Act.put, List.setIfInBounds_toArray, List.set_cons_zero, List.set_cons_succ, i64_w, i32_w]
      rfl
     refine take_ (i := 4) (N := some 24) (v := ?_) (a' := ?_) #[true, true, true, true, true, false, false] rfl rfl (by kernel_rfl) (fun _ _ _ h => h) (Or.inl ⟨by rfl, ?_⟩) hHeld ?_ ?_
     rotate_left
     ·rintro w' ⟨s0, s1, s2, s3⟩
      go_simp
      with_reducible rfl
     rotate_left
     ·simp only [Act.put, List.setIfInBounds_toArray, List.set_cons_zero, List.set_cons_succ, i64_w, i32_w]
      rfl
     refine one_ (i := 5) (N := some 25) #[true, true, true, true, true, true, false] rfl rfl (by kernel_rfl) (by decide) (fun K hK => ?_)
     refine goes_ Try.func21 (by kernel_rfl) rfl #[.agg #[.int .u64 x214000_1, .int .u64 x214001_1], .agg #[.int .u64 ((rd_T37 t214 x9_1).f0), .int .u64 ((rd_T37 t214 x9_1).f1)]] (by rfl) rfl rfl (by (try simp only [List.map_toArray, List.map_cons, List.map_nil]); first | done | rfl | (simp only [List.length_drop, List.length_take]; rfl)) ?_
     with_reducible refine (steepleref02_Add.calls x214000_1 x214001_1 ((rd_T37 t214 x9_1).f0) ((rd_T37 t214 x9_1).f1) t218 t219 _ A14.out).mono ?_
     rintro e w17 ⟨rfl, hb⟩
     have HS2_ := (hb.cell (World.block_lt_of_cell? _ _ (hHeld.2.2.1))).trans (hHeld.2.2.1)
     have HS3_ := (hb.cell (World.block_lt_of_cell? _ _ (hHeld.2.2.2))).trans (hHeld.2.2.2)
     refine ⟨_, rfl, ?_⟩
     replace HO_8 := kb HO_8 hb
     replace BK211 := bb BK211 hb
     replace BK212 := bb BK212 hb
     replace BK213 := bb BK213 hb
     replace HB := bh HB hb
     (try clear hb)
     (try clear hb2)
     (try clear hk)
     (try clear hi)
     refine hK.out _ _ ⟨(blk_cell BK213.out 0).trans rfl, (blk_cell BK213.out 1).trans rfl, HS2_, HS3_⟩ (fun hHeld => ?_)
     clear hK K
     refine norm_ (a' := ?_) ?_ ?_
     rotate_left
     ·show Act.put _ (some 25) _ = _
      simp only [Act.put, List.setIfInBounds_toArray, List.set_cons_zero, List.set_cons_succ, i64_w, i32_w]
      rfl
     refine last_ (i := 6) (N := none) #[true, true, true, true, true, true, true] rfl rfl (by kernel_rfl) (by decide) (fun K hK => ?_)
     have hs18 : w17.cell? ⟨gb213, 0, none⟩ = some (.int .u64 x214000_1) := (blk_cell BK213.out 0).trans rfl
     have hfs18 := blk_frozen BK213.out 0
     have hns18_0 := NB211_213.out
     have hns18_1 := NB212_213.out
     have hms18_0 := NB213_211.out
     have hms18_1 := NB213_212.out
     have hs19 : w17.cell? ⟨gb213, 1, none⟩ = some (.int .u64 x214001_1) := (blk_cell BK213.out 1).trans rfl
     have hfs19 := blk_frozen BK213.out 1
     have hns19_0 := NB211_213.out
     have hns19_1 := NB212_213.out
     have hms19_0 := NB213_211.out
     have hms19_1 := NB213_212.out
     refine skip_ (w1 := ?_) (by rfl) rfl ?_ ?_
     rotate_left
     ·go_simp
      rfl
     refine hK.out _ _ ?_
     clear hK K
     refine done_ (by kernel_rfl) ?_
     try go_wp2
     go_roundg k1
     case measure => have := HK1.out; omega
     case rel => exact ⟨(wrap64 (x9_1 + 1)), (t218), (t219), (by first | rfl | (simp; done) | (simp [*]; done)), H', ⟨by have := HK1.out; omega⟩, ⟨by (with_reducible repeat refine kl ?_); exact Kd.R_mono (Kd.R_far (p := ⟨gb213, 1, none⟩) (Kd.R_far (p := ⟨gb213, 0, none⟩) (Kd.R_mono HO_8.out (fun k_ hk => (⟨hk, hk.2.2⟩ : _ ∧ k_ ≠ gb213))) (fun _ hk => hk.2) (.int .u64 t218)) (fun _ hk => hk.2) (.int .u64 t219)) (fun _ hk => ⟨hk.1.1, ⟨hk.1.2.1, hk.1.2.2⟩⟩)⟩, ⟨by (with_reducible repeat refine bl ?_); refine blk_far ?_ NB211_213.out _; (with_reducible repeat refine bl ?_); refine blk_far ?_ NB211_213.out _; (with_reducible repeat refine bl ?_); exact BK211.out⟩, ⟨by (with_reducible repeat refine bl ?_); refine blk_far ?_ NB212_213.out _; (with_reducible repeat refine bl ?_); refine blk_far ?_ NB212_213.out _; (with_reducible repeat refine bl ?_); exact BK212.out⟩, ⟨by (with_reducible repeat refine bl ?_); refine blk_put (cs := #[.int .u64 t218, .int .u64 x214001_1]) ?_ 1 _ rfl; (with_reducible repeat refine bl ?_); refine blk_put (cs := #[.int .u64 x214000_1, .int .u64 x214001_1]) ?_ 0 _ rfl; (with_reducible repeat refine bl ?_); exact BK213.out⟩, ⟨bq HB.out⟩⟩
    ·rw [if_neg c13] at H
     exact absurd H (by simp)
   ·rw [if_neg c12] at H
    have c12b0 : decide (x9_1 < (t214.length : Int)) = false := decide_eq_false c12
    clear c12
    simp only [Option.some.injEq, Prod.mk.injEq] at H
    obtain ⟨rfl, rfl⟩ := H
    obtain ⟨Ao20, co20, eo20⟩ := Kd.R_slice HO_8.out
    subst eo20
    have hnb21 := NB213_211.out
    have hnc21 := NB211_213.out
    have hnb22 := NB213_212.out
    have hnc22 := NB212_213.out
    obtain ⟨hcz23_0, hcz23_1⟩ := zc2 BK213
    obtain ⟨hfz23_0, hfz23_1⟩ := zf2 BK213
    have hnb24 := NB212_211.out
    have hnc24 := NB211_212.out
    obtain ⟨hcz25_0, hcz25_1⟩ := zc2 BK212
    obtain ⟨hfz25_0, hfz25_1⟩ := zf2 BK212
    go_wp2
    refine bodyPost_ret (results_cell_row rfl _ _ gb212 37 #[.int .u64 x214000_1, .int .u64 x214001_1] (0, 0) _ rfl (by (with_reducible repeat refine bl ?_); refine blk_put (cs := #[.int .u64 x214000_1, .int .u64 0]) ?_ 1 _ rfl; (with_reducible repeat refine bl ?_); refine blk_put (cs := #[.int .u64 0, .int .u64 0]) ?_ 0 _ rfl; (with_reducible repeat refine bl ?_); exact BK212.out) Try.underlying37 rfl (by kernel_rfl)) rfl ?_
    exact ⟨by first | rfl | (simp [errW_none, errW_some] <;> rfl) | (simp [*, errW_none, errW_some] <;> rfl), bq HB.out⟩

/-! ### tower_Bit: function 47 -/
def tower_Bit.j0 : Nat → Int → Bool → Option (Int × Int)
 | 0, _, _ => none
 | k + 1, x0, x3 => if x3 = true then (if 0 ≤ x0 then (some (0, shl .u64 1 x0)) else (none)) else (if x0 ≥ 64 then (if x0 < 128 then (if 0 ≤ (wrap64 (x0 - 64)) then (some (shl .u64 1 (wrap64 (x0 - 64)), 0)) else (none)) else (some (0, 0))) else (some (0, 0)))
def tower_Bit.f (k : Nat) (a0 : Int) : Option (Int × Int) := if a0 ≥ 0 then (tower_Bit.j0 k a0 (decide (a0 < 64))) else (tower_Bit.j0 k a0 false)
theorem tower_Bit.mono_l : ∀ k, (∀ y0 y1, LeO (tower_Bit.j0 k y0 y1) (tower_Bit.j0 (k + 1) y0 y1))
 | 0 => fun _ _ r h => by simp [tower_Bit.j0] at h
 | k + 1 => by
  have ih0 := tower_Bit.mono_l k
  ·intro y0 y1
   unfold tower_Bit.j0
   repeat' first
   | (with_reducible exact ih0 _ _)
   | (with_reducible exact LeO.refl _)
   | (with_reducible exact LeO.none _)
   | (with_reducible refine LeO.ite ?_ ?_)
   | (with_reducible refine LeO.bind ?_ (fun _ => ?_))
   | exact ih0 _ _
   | exact LeO.none _
   | refine LeO.ite ?_ ?_
   | refine LeO.bind ?_ (fun _ => ?_)
theorem tower_Bit.mono : ∀ a0 k, LeO (tower_Bit.f k a0) (tower_Bit.f (k + 1) a0) := by
 intro a0 k
 have ih0 := tower_Bit.mono_l k
 unfold tower_Bit.f
 repeat' first
   | (with_reducible exact ih0 _ _)
   | (with_reducible exact LeO.refl _)
   | (with_reducible exact LeO.none _)
   | (with_reducible refine LeO.ite ?_ ?_)
   | (with_reducible refine LeO.bind ?_ (fun _ => ?_))
   | exact ih0 _ _
   | exact LeO.none _
   | refine LeO.ite ?_ ?_
   | refine LeO.bind ?_ (fun _ => ?_)
set_option maxHeartbeats 8000000 in
set_option maxRecDepth 100000 in
theorem tower_Bit.calls (k : Nat) (a0 : Int) (r1 : Int) (r2 : Int) (w : World) (h : tower_Bit.f k a0 = some (r1, r2)) :
  Calls Try.prog 47 #[.int .i64 a0] w fun e w' => e = .returned (.agg #[.int .u64 r1, .int .u64 r2]) ∧ Below w.heap.size w w' := by
 have hu24 := Try.underlying24
 have HB := Aside0.mk (Below.refl w.heap.size w)
 have H : (if a0 ≥ 0 then (tower_Bit.j0 k a0 (decide (a0 < 64))) else (tower_Bit.j0 k a0 false)) = some (r1, r2) := h
 clear h
 have HC2 := Aside0.mk H
 clear H
 go_enter Try.func47, Try.ntmps47
 go_upto_region 1 with (first | ((with_reducible refine gate_dst (N := 2) rfl ?_); refine box_event ?hg (N := 2) ?hd (cs := #[.int .u64 0, .int .u64 0]) (t := 24) ?hr ?_; (case hd => rfl); (case hg => rfl); (case hr => first | (go_simp; done) | (go_simp; rfl)); intro gb220 hg w3 hbox hb; have BK220 := Aside0.mk hbox; have GW220 := ge hg HB; have GE220 := ge hg HB; replace HB := bh HB hb; clear hb hbox hg))
 (try simp only [Act.put, List.setIfInBounds_toArray, List.set_cons_zero, List.set_cons_succ])
 go_cut [3] (fun v3 wc => ∃ (kq : Nat) (x3_1 : Bool), v3 = .bool x3_1 ∧ Aside0 (tower_Bit.j0 kq a0 x3_1 = some (r1, r2)) ∧ Aside0 (kq ≤ k) ∧ Aside0 (wc.heap[gb220]? = some (.cells #[.int .u64 0, .int .u64 0] 24 (0, 0))) ∧ Aside0 (Below w.heap.size w wc))
 case first =>
  have H := HC2.out
  clear HC2
  by_cases c4 : a0 ≥ 0
  ·rw [if_pos c4] at H
   have c4b0 : decide (0 ≤ a0) = true := decide_eq_true c4
   clear c4
   (first | rw [c4b0] | (simp only [i64_w, i32_w]; rw [c4b0]) | skip)
   have H' := Aside0.mk H
   clear H
   go_wp2
   go_meet
   case rel => exact ⟨_, (decide (a0 < 64)), (by first | rfl | (simp; done) | (simp [*]; done)), H', ⟨by first | omega | exact Nat.le_refl _⟩, ⟨bk BK220.out⟩, ⟨bq HB.out⟩⟩
  ·rw [if_neg c4] at H
   have c4b0 : decide (0 ≤ a0) = false := decide_eq_false c4
   clear c4
   (first | rw [c4b0] | (simp only [i64_w, i32_w]; rw [c4b0]) | skip)
   have H' := Aside0.mk H
   clear H
   go_wp2
   go_meet
   case rel => exact ⟨_, (false), (by first | rfl | (simp; done) | (simp [*]; done)), H', ⟨by first | omega | exact Nat.le_refl _⟩, ⟨bk BK220.out⟩, ⟨bq HB.out⟩⟩
 case rest =>
  clear HC2
  try clear p2
  try clear c4
  try clear c4b0
  obtain ⟨kq, x3_1, rfl, HA, HJ1, BK220, HB⟩ := hcut
  cases kq with
  | zero => exact absurd HA.out (by simp [tower_Bit.j0])
  | succ kj1 =>
   have H := HA.out
   clear HA
   simp only [tower_Bit.j0] at H
   by_cases c5 : x3_1 = true
   ·subst c5
    have H1 : (if 0 ≤ a0 then (some (0, shl .u64 1 a0)) else (none)) = some (r1, r2) := by rw [if_pos rfl] at H; exact H
    clear H
    have H := H1
    clear H1
    by_cases c6 : 0 ≤ a0
    ·rw [if_pos c6] at H
     have c6b0 := eq_true c6
     have c6b1 : decide (0 ≤ a0) = true := decide_eq_true c6
     clear c6
     obtain ⟨ji7, hji7⟩ : ∃ j_ : Int, (shl .u64 1 a0) = j_ := ⟨_, rfl⟩
     replace H : (some (0, ji7)) = some (r1, r2) := by first | (rw [hji7] at H; exact H) | (simp only [hji7] at H ⊢; exact H)
     have hji7_ : (IntKind.u64.wrap (1 * 2 ^ min a0.toNat 64)) = ji7 := hji7
     have hji7z : a0 ≤ 64 → (IntKind.u64.wrap (1 * 2 ^ a0.toNat)) = ji7 := shl_small hji7
     have hji7p0 := eq_true (show (0 : Int) ≤ ji7 by rw [← hji7_]; exact wrap_u64_nonneg _)
     have hji7p1 : decide (0 ≤ (ji7 : Int)) = true := decide_eq_true (of_eq_true hji7p0)
     have hji7u : (IntKind.u64.wrap (2 ^ min a0.toNat 64)) = ji7 := by have h_ := hji7_; rw [Int.one_mul] at h_; exact h_
     have hji7v : a0 ≤ 64 → (IntKind.u64.wrap (2 ^ a0.toNat)) = ji7 := fun hle_ => by have h_ := hji7z hle_; rw [Int.one_mul] at h_; exact h_
     simp only [Option.some.injEq, Prod.mk.injEq] at H
     obtain ⟨rfl, rfl⟩ := H
     obtain ⟨hcz8_0, hcz8_1⟩ := zc2 BK220
     obtain ⟨hfz8_0, hfz8_1⟩ := zf2 BK220
     go_wp2
     refine bodyPost_ret (results_cell_row rfl _ _ gb220 24 #[.int .u64 0, .int .u64 ji7] (0, 0) _ rfl (by (with_reducible repeat refine bl ?_); refine blk_put (cs := #[.int .u64 0, .int .u64 0]) ?_ 1 _ rfl; (with_reducible repeat refine bl ?_); refine blk_put (cs := #[.int .u64 0, .int .u64 0]) ?_ 0 _ rfl; (with_reducible repeat refine bl ?_); exact BK220.out) Try.underlying24 rfl (by kernel_rfl)) rfl ?_
     exact ⟨by first | rfl | (simp [errW_none, errW_some] <;> rfl) | (simp only [← hji7]; first | rfl | (simp [errW_none, errW_some] <;> rfl)) | (simp [*, errW_none, errW_some] <;> rfl), bq HB.out⟩
    ·rw [if_neg c6] at H
     exact absurd H (by simp)
   ·replace c5 := Bool.eq_false_iff.mpr c5
    subst c5
    have H1 : (if a0 ≥ 64 then (if a0 < 128 then (if 0 ≤ (wrap64 (a0 - 64)) then (some (shl .u64 1 (wrap64 (a0 - 64)), 0)) else (none)) else (some (0, 0))) else (some (0, 0))) = some (r1, r2) := by rw [if_neg (show ¬ (false = true) by decide)] at H; exact H
    clear H
    have H := H1
    clear H1
    by_cases c9 : a0 ≥ 64
    ·rw [if_pos c9] at H
     have c9b0 : decide (64 ≤ a0) = true := decide_eq_true c9
     clear c9
     by_cases c10 : a0 < 128
     ·rw [if_pos c10] at H
      have c10b0 : decide (a0 < 128) = true := decide_eq_true c10
      clear c10
      obtain ⟨ji11, hji11⟩ : ∃ j_ : Int, (wrap64 (a0 - 64)) = j_ := ⟨_, rfl⟩
      replace H : (if 0 ≤ (ji11) then (some (shl .u64 1 (ji11), 0)) else (none)) = some (r1, r2) := by first | (rw [hji11] at H; exact H) | (simp only [hji11] at H ⊢; exact H)
      have hji11w : (IntKind.i64.wrap (a0 - 64)) = ji11 := (i64_w _).trans hji11
      by_cases c12 : 0 ≤ (ji11)
      ·rw [if_pos c12] at H
       have c12b0 := eq_true c12
       have c12b1 : decide (0 ≤ (ji11)) = true := decide_eq_true c12
       clear c12
       obtain ⟨ji13, hji13⟩ : ∃ j_ : Int, (shl .u64 1 (ji11)) = j_ := ⟨_, rfl⟩
       replace H : (some (ji13, 0)) = some (r1, r2) := by first | (rw [hji13] at H; exact H) | (simp only [hji13] at H ⊢; exact H)
       have hji13_ : (IntKind.u64.wrap (1 * 2 ^ min (ji11).toNat 64)) = ji13 := hji13
       have hji13z : (ji11) ≤ 64 → (IntKind.u64.wrap (1 * 2 ^ (ji11).toNat)) = ji13 := shl_small hji13
       have hji13p0 := eq_true (show (0 : Int) ≤ ji13 by rw [← hji13_]; exact wrap_u64_nonneg _)
       have hji13p1 : decide (0 ≤ (ji13 : Int)) = true := decide_eq_true (of_eq_true hji13p0)
       have hji13u : (IntKind.u64.wrap (2 ^ min (ji11).toNat 64)) = ji13 := by have h_ := hji13_; rw [Int.one_mul] at h_; exact h_
       have hji13v : (ji11) ≤ 64 → (IntKind.u64.wrap (2 ^ (ji11).toNat)) = ji13 := fun hle_ => by have h_ := hji13z hle_; rw [Int.one_mul] at h_; exact h_
       simp only [Option.some.injEq, Prod.mk.injEq] at H
       obtain ⟨rfl, rfl⟩ := H
       obtain ⟨hcz14_0, hcz14_1⟩ := zc2 BK220
       obtain ⟨hfz14_0, hfz14_1⟩ := zf2 BK220
       go_wp2
       refine bodyPost_ret (results_cell_row rfl _ _ gb220 24 #[.int .u64 ji13, .int .u64 0] (0, 0) _ rfl (by (with_reducible repeat refine bl ?_); refine blk_put (cs := #[.int .u64 ji13, .int .u64 0]) ?_ 1 _ rfl; (with_reducible repeat refine bl ?_); refine blk_put (cs := #[.int .u64 0, .int .u64 0]) ?_ 0 _ rfl; (with_reducible repeat refine bl ?_); exact BK220.out) Try.underlying24 rfl (by kernel_rfl)) rfl ?_
       exact ⟨by first | rfl | (simp [errW_none, errW_some] <;> rfl) | (simp only [← hji11, ← hji13]; first | rfl | (simp [errW_none, errW_some] <;> rfl)) | (simp [*, errW_none, errW_some] <;> rfl), bq HB.out⟩
      ·rw [if_neg c12] at H
       exact absurd H (by simp)
     ·rw [if_neg c10] at H
      have c10b0 : decide (a0 < 128) = false := decide_eq_false c10
      clear c10
      simp only [Option.some.injEq, Prod.mk.injEq] at H
      obtain ⟨rfl, rfl⟩ := H
      obtain ⟨hcz15_0, hcz15_1⟩ := zc2 BK220
      obtain ⟨hfz15_0, hfz15_1⟩ := zf2 BK220
      go_wp2
      refine bodyPost_ret (results_cell_row rfl _ _ gb220 24 #[.int .u64 0, .int .u64 0] (0, 0) _ rfl (by (with_reducible repeat refine bl ?_); refine blk_put (cs := #[.int .u64 0, .int .u64 0]) ?_ 1 _ rfl; (with_reducible repeat refine bl ?_); refine blk_put (cs := #[.int .u64 0, .int .u64 0]) ?_ 0 _ rfl; (with_reducible repeat refine bl ?_); exact BK220.out) Try.underlying24 rfl (by kernel_rfl)) rfl ?_
      exact ⟨by first | rfl | (simp [errW_none, errW_some] <;> rfl) | (simp [*, errW_none, errW_some] <;> rfl), bq HB.out⟩
    ·rw [if_neg c9] at H
     have c9b0 : decide (64 ≤ a0) = false := decide_eq_false c9
     clear c9
     simp only [Option.some.injEq, Prod.mk.injEq] at H
     obtain ⟨rfl, rfl⟩ := H
     obtain ⟨hcz16_0, hcz16_1⟩ := zc2 BK220
     obtain ⟨hfz16_0, hfz16_1⟩ := zf2 BK220
     go_wp2
     refine bodyPost_ret (results_cell_row rfl _ _ gb220 24 #[.int .u64 0, .int .u64 0] (0, 0) _ rfl (by (with_reducible repeat refine bl ?_); refine blk_put (cs := #[.int .u64 0, .int .u64 0]) ?_ 1 _ rfl; (with_reducible repeat refine bl ?_); refine blk_put (cs := #[.int .u64 0, .int .u64 0]) ?_ 0 _ rfl; (with_reducible repeat refine bl ?_); exact BK220.out) Try.underlying24 rfl (by kernel_rfl)) rfl ?_
     exact ⟨by first | rfl | (simp [errW_none, errW_some] <;> rfl) | (simp [*, errW_none, errW_some] <;> rfl), bq HB.out⟩

/-! ### span_has: function 58 -/
def span_has.f (k : Nat) (a0_0 : Int) (a0_1 : Int) (a1 : Int) : Option (Bool) := (tower_Bit.f k a1).bind fun bt222 => (some ((Go.bits .or .u64 (Go.bits .and .u64 a0_1 bt222.2) (Go.bits .and .u64 a0_0 bt222.1)) != 0))
theorem span_has.mono : ∀ a0 a1 a2 k, LeO (span_has.f k a0 a1 a2) (span_has.f (k + 1) a0 a1 a2) := by
 intro a0 a1 a2 k
 unfold span_has.f
 repeat' first
   | (with_reducible exact tower_Bit.mono _ _)
   | (with_reducible exact LeO.refl _)
   | (with_reducible exact LeO.none _)
   | (with_reducible refine LeO.ite ?_ ?_)
   | (with_reducible refine LeO.bind ?_ (fun _ => ?_))
   | exact tower_Bit.mono _ _
   | exact LeO.none _
   | refine LeO.ite ?_ ?_
   | refine LeO.bind ?_ (fun _ => ?_)
set_option maxHeartbeats 8000000 in
set_option maxRecDepth 100000 in
theorem span_has.calls (k : Nat) (a0_0 : Int) (a0_1 : Int) (a1 : Int) (r : Bool) (w : World) (h : span_has.f k a0_0 a0_1 a1 = some r) :
  Calls Try.prog 58 #[.agg #[.int .u64 a0_0, .int .u64 a0_1], .int .i64 a1] w fun e w' => e = .returned (.bool r) ∧ Below w.heap.size w w' := by
 have hu24 := Try.underlying24
 have HB := Aside0.mk (Below.refl w.heap.size w)
 have H : ((tower_Bit.f k a1).bind fun bt222 => (some ((Go.bits .or .u64 (Go.bits .and .u64 a0_1 bt222.2) (Go.bits .and .u64 a0_0 bt222.1)) != 0))) = some r := h
 clear h
 replace H := Option.bind_eq_some_iff.mp H
 obtain ⟨⟨t222, t223⟩, A30, H⟩ := H
 replace H : (some ((Go.bits .or .u64 (Go.bits .and .u64 a0_1 t223) (Go.bits .and .u64 a0_0 t222)) != 0)) = some r := H
 have A3 := Aside0.mk A30
 clear A30
 obtain rfl := Option.some.inj H
 go_enter Try.func58, Try.ntmps58
 go_wp2_with (first | ((with_reducible refine gate_dst (N := 2) rfl ?_); refine box_event ?hg (N := 2) ?hd (cs := #[.int .u64 a0_0, .int .u64 a0_1]) (t := 24) ?hr ?_; (case hd => rfl); (case hg => rfl); (case hr => first | (go_simp; done) | (go_simp; rfl)); intro gb221 hg w4 hbox hb; have BK221 := Aside0.mk hbox; have GW221 := ge hg HB; have GE221 := ge hg HB; replace HB := bh HB hb; clear hb hbox hg) | ((with_reducible refine gate_callee (f := 47) rfl ?_); refine goesL_ (some 7) rfl rfl Try.func47 (by kernel_rfl) rfl #[.int .i64 a1] rfl (by (try simp only [List.map_toArray, List.map_cons, List.map_nil]); first | done | rfl | (simp only [List.length_drop, List.length_take]; rfl)) ?_; (with_reducible refine (tower_Bit.calls k a1 t222 t223 _ A3.out).mono ?_); rintro e w5 ⟨rfl, hb⟩; refine ⟨_, rfl, ?_⟩; replace BK221 := bb BK221 hb; replace HB := bh HB hb; (try clear hb); (try clear hb2); (try clear hk); (try clear hi)) | ((with_reducible refine gate_dst (N := 5) rfl ?_); refine box_event ?hg (N := 5) ?hd (cs := #[.int .u64 0, .int .u64 0]) (t := 24) ?hr ?_; (case hd => rfl); (case hg => rfl); (case hr => first | (go_simp; done) | (go_simp; rfl)); intro gb224 hg w6 hbox hb; have BK224 := Aside0.mk hbox; have GW224 := ge hg HB; have GE224 := ge hg HB; have NB221_224 := nl hg BK221; have NB224_221 := ng hg BK221; replace BK221 := bb BK221 hb; replace HB := bh HB hb; clear hb hbox hg; have hnb7 := NB224_221.out; have hnc7 := NB221_224.out; obtain ⟨hcz8_0, hcz8_1⟩ := zc2 BK224; obtain ⟨hfz8_0, hfz8_1⟩ := zf2 BK224; obtain ⟨hcz9_0, hcz9_1⟩ := zc2 BK221; obtain ⟨hfz9_0, hfz9_1⟩ := zf2 BK221))
 go_ret
 exact ⟨by first | rfl | (simp [errW_none, errW_some] <;> rfl) | (simp [*, errW_none, errW_some] <;> rfl), bq HB.out⟩

end Go.Proofs.Ytlegcabfgkccmaa.P
