/- Written by a program of this session: functions that the law reaches, as Lean functions, and that the code comes to their answers. Conditions: those that each theorem names. -/
import Derived.Test.YtbfncpcpmigidaaPx0
import Derived.Test.YtbfncpcpmigidaaPx3
namespace Go.Proofs.Ytbfncpcpmigidaa.P
open Go.RowKit Go.Proofs.YtbfncpcpmigidaaX Go.Proofs.YtbfncpcpmigidaaW.PrintWords Go.Proofs.YtbfncpcpmigidaaW.PrintLast Go.Proofs.YtbfncpcpmigidaaW.PrintMore
attribute [local go_sem] max2_int min2_int max_two min_two max_three min_three max_four min_four   -- for this text's walks alone
set_option linter.unusedVariables false
set_option linter.unusedSimpArgs false
theorem fld_lo4 (w : World) (a b : Int) : Sem.run Try.prog (Instr.field 51 (Value.agg #[Value.int IntKind.u64 a, Value.int IntKind.u64 b]) 1) w = Result.ok (Value.int IntKind.u64 b) w := by
  have hu := Try.underlying51
  go_simp
  rfl
attribute [local go_sem] fld_lo4

/-! ### steepleref02_Inv: function 24 -/
def steepleref02_Inv.l0 : Nat → Int → List Int → Int → Int → Int → Int → Int → Option (Int × Int)
 | 0, _, _, _, _, _, _, _ => none
 | k + 1, x0, x5, x8, x202000, x202001, x203000, x203001 => if 0 ≤ x0 then (if x0 < (x5.length : Int) then (if x8 < (rd x5 x0) then ((steepleref02_Product.f k x203000 x203001 x203000 x203001).bind fun bt204 => ((steepleref02_Product.f k x202000 x202001 bt204.1 bt204.2).bind fun bt206 => (steepleref02_Inv.l0 k x0 x5 (wrap64 (x8 + 1)) bt206.1 bt206.2 bt204.1 bt204.2))) else (some (x202000, x202001))) else (none)) else (none)
def steepleref02_Inv.f (k : Nat) (a0 : Int) (a1_0 : Int) (a1_1 : Int) : Option (Int × Int) := (steepleref01_Of.f k a0 a1_0 a1_1).bind fun t197 => (if t197 = true then (if a0 = 0 then (some (a1_0, a1_1)) else (steepleref02_Inv.l0 k a0 (([1, 2, 4, 8, 16, 32, 64, 128] : List Int)) 1 0 1 a1_0 a1_1)) else (some (0, 0)))
theorem steepleref02_Inv.mono_l : ∀ k, (∀ y0 y1 y2 y3 y4 y5 y6, LeO (steepleref02_Inv.l0 k y0 y1 y2 y3 y4 y5 y6) (steepleref02_Inv.l0 (k + 1) y0 y1 y2 y3 y4 y5 y6))
 | 0 => fun _ _ _ _ _ _ _ r h => by simp [steepleref02_Inv.l0] at h
 | k + 1 => by
  have ih0 := steepleref02_Inv.mono_l k
  ·intro y0 y1 y2 y3 y4 y5 y6
   unfold steepleref02_Inv.l0
   repeat' first
   | (with_reducible exact ih0 _ _ _ _ _ _ _)
   | (with_reducible exact steepleref01_Of.mono _ _ _ _)
   | (with_reducible exact steepleref02_Product.mono _ _ _ _ _)
   | (with_reducible exact LeO.refl _)
   | (with_reducible exact LeO.none _)
   | (with_reducible refine LeO.ite ?_ ?_)
   | (with_reducible refine LeO.bind ?_ (fun _ => ?_))
   | exact ih0 _ _ _ _ _ _ _
   | exact steepleref01_Of.mono _ _ _ _
   | exact steepleref02_Product.mono _ _ _ _ _
   | exact LeO.none _
   | refine LeO.ite ?_ ?_
   | refine LeO.bind ?_ (fun _ => ?_)
theorem steepleref02_Inv.mono : ∀ a0 a1 a2 k, LeO (steepleref02_Inv.f k a0 a1 a2) (steepleref02_Inv.f (k + 1) a0 a1 a2) := by
 intro a0 a1 a2 k
 have ih0 := steepleref02_Inv.mono_l k
 unfold steepleref02_Inv.f
 repeat' first
   | (with_reducible exact ih0 _ _ _ _ _ _ _)
   | (with_reducible exact steepleref01_Of.mono _ _ _ _)
   | (with_reducible exact steepleref02_Product.mono _ _ _ _ _)
   | (with_reducible exact LeO.refl _)
   | (with_reducible exact LeO.none _)
   | (with_reducible refine LeO.ite ?_ ?_)
   | (with_reducible refine LeO.bind ?_ (fun _ => ?_))
   | exact ih0 _ _ _ _ _ _ _
   | exact steepleref01_Of.mono _ _ _ _
   | exact steepleref02_Product.mono _ _ _ _ _
   | exact LeO.none _
   | refine LeO.ite ?_ ?_
   | refine LeO.bind ?_ (fun _ => ?_)
set_option maxHeartbeats 8000000 in
set_option maxRecDepth 100000 in
theorem steepleref02_Inv.calls (k : Nat) (a0 : Int) (a1_0 : Int) (a1_1 : Int) (r1 : Int) (r2 : Int) (w : World) (h : steepleref02_Inv.f k a0 a1_0 a1_1 = some (r1, r2)) :
  Calls Try.prog 24 #[.int .i64 a0, .agg #[.int .u64 a1_0, .int .u64 a1_1]] w fun e w' => e = .returned (.agg #[.int .u64 r1, .int .u64 r2]) ∧ Below w.heap.size w w' := by
 have hu51 := Try.underlying51
 have HB := Aside0.mk (Below.refl w.heap.size w)
 have H : ((steepleref01_Of.f k a0 a1_0 a1_1).bind fun t197 => (if t197 = true then (if a0 = 0 then (some (a1_0, a1_1)) else (steepleref02_Inv.l0 k a0 (([1, 2, 4, 8, 16, 32, 64, 128] : List Int)) 1 0 1 a1_0 a1_1)) else (some (0, 0)))) = some (r1, r2) := h
 clear h
 replace H := Option.bind_eq_some_iff.mp H
 obtain ⟨t197, A30, H⟩ := H
 replace H : (if t197 = true then (if a0 = 0 then (some (a1_0, a1_1)) else (steepleref02_Inv.l0 k a0 (([1, 2, 4, 8, 16, 32, 64, 128] : List Int)) 1 0 1 a1_0 a1_1)) else (some (0, 0))) = some (r1, r2) := H
 have A3 := Aside0.mk A30
 clear A30
 by_cases c4 : t197 = true
 ·subst c4
  have H1 : (if a0 = 0 then (some (a1_0, a1_1)) else (steepleref02_Inv.l0 k a0 (([1, 2, 4, 8, 16, 32, 64, 128] : List Int)) 1 0 1 a1_0 a1_1)) = some (r1, r2) := by rw [if_pos rfl] at H; exact H
  clear H
  have H := H1
  clear H1
  obtain ⟨y198, hy198⟩ : ∃ y_ : List Int, y_ = (([1, 2, 4, 8, 16, 32, 64, 128] : List Int)) := ⟨_, rfl⟩
  replace H : (if a0 = 0 then (some (a1_0, a1_1)) else (steepleref02_Inv.l0 k a0 y198 1 0 1 a1_0 a1_1)) = some (r1, r2) := by first | (rw [hy198]; with_reducible exact H) | (have H2_ := (Option.bind_some _ _).symm.trans H; rw [hy198]; with_reducible exact H2_) | (have H2_ := (Option.bind_some _ _).symm.trans H; with_reducible exact H2_) | with_reducible exact H | (rw [hy198]; exact H) | exact H
  have Ny198 := Aside0.mk hy198
  clear hy198
  by_cases c5 : a0 = 0
  ·rw [if_pos c5] at H
   have c5b0 : (a0 == 0) = true := beq_iff_eq.mpr c5
   have c5b1 : (a0 != 0) = false := bne_eq_false_iff_eq.mpr c5
   clear c5
   simp only [Option.some.injEq, Prod.mk.injEq] at H
   obtain ⟨rfl, rfl⟩ := H
   go_enter Try.func24, Try.ntmps24
   go_wp2_with (first | ((with_reducible refine gate_dst (N := 3) rfl ?_); refine box_event ?hg (N := 3) ?hd (cs := #[.int .u64 a1_0, .int .u64 a1_1]) (t := 51) ?hr ?_; (case hd => rfl); (case hg => rfl); (case hr => first | (go_simp; done) | (go_simp; rfl)); intro gb195 hg w6 hbox hb; have BK195 := Aside0.mk hbox; have GW195 := ge hg HB; have GE195 := ge hg HB; replace HB := bh HB hb; clear hb hbox hg) | ((with_reducible refine gate_dst (N := 4) rfl ?_); refine box_event ?hg (N := 4) ?hd (cs := #[.int .u64 0, .int .u64 0]) (t := 51) ?hr ?_; (case hd => rfl); (case hg => rfl); (case hr => first | (go_simp; done) | (go_simp; rfl)); intro gb196 hg w7 hbox hb; have BK196 := Aside0.mk hbox; have GW196 := ge hg HB; have GE196 := ge hg HB; have NB195_196 := nl hg BK195; have NB196_195 := ng hg BK195; replace BK195 := bb BK195 hb; replace HB := bh HB hb; clear hb hbox hg; have hnb8 := NB195_196.out; have hnc8 := NB196_195.out; obtain ⟨hcz9_0, hcz9_1⟩ := zc2 BK195; obtain ⟨hfz9_0, hfz9_1⟩ := zf2 BK195) | ((with_reducible refine gate_callee (f := 36) rfl ?_); refine goesL_ (some 11) rfl rfl Try.func36 (by kernel_rfl) rfl #[.int .i64 a0, .agg #[.int .u64 a1_0, .int .u64 a1_1]] rfl (by (try simp only [List.map_toArray, List.map_cons, List.map_nil]); first | done | rfl | (simp only [List.length_drop, List.length_take]; rfl)) ?_; (with_reducible refine (steepleref01_Of.calls k a0 a1_0 a1_1 true _ A3.out).mono ?_); rintro e w10 ⟨rfl, hb⟩; refine ⟨_, rfl, ?_⟩; replace BK195 := bb BK195 hb; replace BK196 := bb BK196 hb; replace HB := bh HB hb; (try clear hb); (try clear hb2); (try clear hk); (try clear hi)) | ((with_reducible refine gate_dst (N := 14) rfl ?_); refine Kd.R_lit (Kd.int .i64) _ 3 ?hg (N := 14) ?hd (xs := ([1, 2, 4, 8, 16, 32, 64, 128] : List Int)) (inner := [.int .i64 1, .int .i64 2, .int .i64 4, .int .i64 8, .int .i64 16, .int .i64 32, .int .i64 64, .int .i64 128]) (ok := fun _ => True) (okp := fun _ => True) ?hr ?hp (fun _ hk => hk) trivial (Below.refl _ _) (Nat.le_refl _) (by simp) ?_; (case hd => rfl); (case hg => rfl); (case hr => first | (go_simp; done) | (go_simp; rfl)); (case hp => exact (Reps.one (show Kd.M (Kd.int .i64) _ _ _ 1 [.int .i64 1] from rfl) (Reps.one (show Kd.M (Kd.int .i64) _ _ _ 2 [.int .i64 2] from rfl) (Reps.one (show Kd.M (Kd.int .i64) _ _ _ 4 [.int .i64 4] from rfl) (Reps.one (show Kd.M (Kd.int .i64) _ _ _ 8 [.int .i64 8] from rfl) (Reps.one (show Kd.M (Kd.int .i64) _ _ _ 16 [.int .i64 16] from rfl) (Reps.one (show Kd.M (Kd.int .i64) _ _ _ 32 [.int .i64 32] from rfl) (Reps.one (show Kd.M (Kd.int .i64) _ _ _ 64 [.int .i64 64] from rfl) (Reps.one (show Kd.M (Kd.int .i64) _ _ _ 128 [.int .i64 128] from rfl) (Reps.none _ _)))))))))); intro v199 w11 ho12 hb hg_ hnew_; clear hg_ hnew_; (first | rw [← Ny198.out] at ho12 | (simp only [Int.reduceToNat] at ho12; rw [← Ny198.out] at ho12)); have HO200 := kw ho12 HB; replace BK195 := bb BK195 hb; replace BK196 := bb BK196 hb; replace HB := bh HB hb; clear hb ho12; obtain ⟨hcz13_0, hcz13_1⟩ := zc2 BK195; obtain ⟨hfz13_0, hfz13_1⟩ := zf2 BK195; obtain ⟨hcz14_0, hcz14_1⟩ := zc2 BK196; obtain ⟨hfz14_0, hfz14_1⟩ := zf2 BK196))
   refine bodyPost_ret (results_cell_row rfl _ _ gb196 51 #[.int .u64 a1_0, .int .u64 a1_1] (0, 0) _ rfl (by (with_reducible repeat refine bl ?_); refine blk_put (cs := #[.int .u64 a1_0, .int .u64 0]) ?_ 1 _ rfl; (with_reducible repeat refine bl ?_); refine blk_put (cs := #[.int .u64 0, .int .u64 0]) ?_ 0 _ rfl; (with_reducible repeat refine bl ?_); exact BK196.out) Try.underlying51 rfl (by kernel_rfl)) rfl ?_
   exact ⟨by first | rfl | (simp [errW_none, errW_some] <;> rfl) | (simp [*, errW_none, errW_some] <;> rfl), bq HB.out⟩
  ·rw [if_neg c5] at H
   have c5b0 : (a0 == 0) = false := beq_eq_false_iff_ne.mpr c5
   have c5b1 : (a0 != 0) = true := bne_iff_ne.mpr c5
   have H' := Aside0.mk H
   clear H
   go_enter Try.func24, Try.ntmps24
   go_wp2_with (first | ((with_reducible refine gate_dst (N := 3) rfl ?_); refine box_event ?hg (N := 3) ?hd (cs := #[.int .u64 a1_0, .int .u64 a1_1]) (t := 51) ?hr ?_; (case hd => rfl); (case hg => rfl); (case hr => first | (go_simp; done) | (go_simp; rfl)); intro gb195 hg w15 hbox hb; have BK195 := Aside0.mk hbox; have GW195 := ge hg HB; have GE195 := ge hg HB; replace HB := bh HB hb; clear hb hbox hg) | ((with_reducible refine gate_dst (N := 4) rfl ?_); refine box_event ?hg (N := 4) ?hd (cs := #[.int .u64 0, .int .u64 0]) (t := 51) ?hr ?_; (case hd => rfl); (case hg => rfl); (case hr => first | (go_simp; done) | (go_simp; rfl)); intro gb196 hg w16 hbox hb; have BK196 := Aside0.mk hbox; have GW196 := ge hg HB; have GE196 := ge hg HB; have NB195_196 := nl hg BK195; have NB196_195 := ng hg BK195; replace BK195 := bb BK195 hb; replace HB := bh HB hb; clear hb hbox hg; have hnb17 := NB195_196.out; have hnc17 := NB196_195.out; obtain ⟨hcz18_0, hcz18_1⟩ := zc2 BK195; obtain ⟨hfz18_0, hfz18_1⟩ := zf2 BK195) | ((with_reducible refine gate_callee (f := 36) rfl ?_); refine goesL_ (some 11) rfl rfl Try.func36 (by kernel_rfl) rfl #[.int .i64 a0, .agg #[.int .u64 a1_0, .int .u64 a1_1]] rfl (by (try simp only [List.map_toArray, List.map_cons, List.map_nil]); first | done | rfl | (simp only [List.length_drop, List.length_take]; rfl)) ?_; (with_reducible refine (steepleref01_Of.calls k a0 a1_0 a1_1 true _ A3.out).mono ?_); rintro e w19 ⟨rfl, hb⟩; refine ⟨_, rfl, ?_⟩; replace BK195 := bb BK195 hb; replace BK196 := bb BK196 hb; replace HB := bh HB hb; (try clear hb); (try clear hb2); (try clear hk); (try clear hi)) | ((with_reducible refine gate_dst (N := 14) rfl ?_); refine Kd.R_lit (Kd.int .i64) _ 3 ?hg (N := 14) ?hd (xs := ([1, 2, 4, 8, 16, 32, 64, 128] : List Int)) (inner := [.int .i64 1, .int .i64 2, .int .i64 4, .int .i64 8, .int .i64 16, .int .i64 32, .int .i64 64, .int .i64 128]) (ok := fun _ => True) (okp := fun _ => True) ?hr ?hp (fun _ hk => hk) trivial (Below.refl _ _) (Nat.le_refl _) (by simp) ?_; (case hd => rfl); (case hg => rfl); (case hr => first | (go_simp; done) | (go_simp; rfl)); (case hp => exact (Reps.one (show Kd.M (Kd.int .i64) _ _ _ 1 [.int .i64 1] from rfl) (Reps.one (show Kd.M (Kd.int .i64) _ _ _ 2 [.int .i64 2] from rfl) (Reps.one (show Kd.M (Kd.int .i64) _ _ _ 4 [.int .i64 4] from rfl) (Reps.one (show Kd.M (Kd.int .i64) _ _ _ 8 [.int .i64 8] from rfl) (Reps.one (show Kd.M (Kd.int .i64) _ _ _ 16 [.int .i64 16] from rfl) (Reps.one (show Kd.M (Kd.int .i64) _ _ _ 32 [.int .i64 32] from rfl) (Reps.one (show Kd.M (Kd.int .i64) _ _ _ 64 [.int .i64 64] from rfl) (Reps.one (show Kd.M (Kd.int .i64) _ _ _ 128 [.int .i64 128] from rfl) (Reps.none _ _)))))))))); intro v199 w20 ho21 hb hg_ hnew_; clear hg_ hnew_; (first | rw [← Ny198.out] at ho21 | (simp only [Int.reduceToNat] at ho21; rw [← Ny198.out] at ho21)); have HO200 := kw ho21 HB; replace BK195 := bb BK195 hb; replace BK196 := bb BK196 hb; replace HB := bh HB hb; clear hb ho21) | ((with_reducible refine gate_dst (N := 6) rfl ?_); refine box_event ?hg (N := 6) ?hd (cs := #[.int .u64 0, .int .u64 0]) (t := 51) ?hr ?_; (case hd => rfl); (case hg => rfl); (case hr => first | (go_simp; done) | (go_simp; rfl)); intro gb201 hg w22 hbox hb; have BK201 := Aside0.mk hbox; have GW201 := ge hg HB; have GE201 := ge hg HB; have NB195_201 := nl hg BK195; have NB201_195 := ng hg BK195; have NB196_201 := nl hg BK196; have NB201_196 := ng hg BK196; replace HO200 := kb HO200 hb; replace BK195 := bb BK195 hb; replace BK196 := bb BK196 hb; replace HB := bh HB hb; clear hb hbox hg; have hnb23 := NB201_195.out; have hnc23 := NB195_201.out; have hnb24 := NB201_196.out; have hnc24 := NB196_201.out; obtain ⟨hcz25_0, hcz25_1⟩ := zc2 BK201; obtain ⟨hfz25_0, hfz25_1⟩ := zf2 BK201; obtain ⟨hcz26_0, hcz26_1⟩ := zc2 BK195; obtain ⟨hfz26_0, hfz26_1⟩ := zf2 BK195) | ((with_reducible refine gate_dst (N := 7) rfl ?_); refine box_event ?hg (N := 7) ?hd (cs := #[.int .u64 0, .int .u64 0]) (t := 51) ?hr ?_; (case hd => rfl); (case hg => rfl); (case hr => first | (go_simp; done) | (go_simp; rfl)); intro gb202 hg w27 hbox hb; have BK202 := Aside0.mk hbox; have GW202 := ge hg HB; have GE202 := ge hg HB; have NB195_202 := Aside0.mk ((by rw [hg]; exact Nat.ne_of_lt (blk_lt (g := gb195) (o := .cells #[.int .u64 a1_0, .int .u64 a1_1] 51 (0, 0)) (by (with_reducible repeat refine bl ?_); refine blk_far ?_ NB195_201.out _; (with_reducible repeat refine bl ?_); refine blk_far ?_ NB195_201.out _; (with_reducible repeat refine bl ?_); exact BK195.out)) : gb195 ≠ gb202)); have NB202_195 := Aside0.mk ((by rw [hg]; exact Nat.ne_of_gt (blk_lt (g := gb195) (o := .cells #[.int .u64 a1_0, .int .u64 a1_1] 51 (0, 0)) (by (with_reducible repeat refine bl ?_); refine blk_far ?_ NB195_201.out _; (with_reducible repeat refine bl ?_); refine blk_far ?_ NB195_201.out _; (with_reducible repeat refine bl ?_); exact BK195.out)) : gb202 ≠ gb195)); have NB196_202 := Aside0.mk ((by rw [hg]; exact Nat.ne_of_lt (blk_lt (g := gb196) (o := .cells #[.int .u64 0, .int .u64 0] 51 (0, 0)) (by (with_reducible repeat refine bl ?_); refine blk_far ?_ NB196_201.out _; (with_reducible repeat refine bl ?_); refine blk_far ?_ NB196_201.out _; (with_reducible repeat refine bl ?_); exact BK196.out)) : gb196 ≠ gb202)); have NB202_196 := Aside0.mk ((by rw [hg]; exact Nat.ne_of_gt (blk_lt (g := gb196) (o := .cells #[.int .u64 0, .int .u64 0] 51 (0, 0)) (by (with_reducible repeat refine bl ?_); refine blk_far ?_ NB196_201.out _; (with_reducible repeat refine bl ?_); refine blk_far ?_ NB196_201.out _; (with_reducible repeat refine bl ?_); exact BK196.out)) : gb202 ≠ gb196)); have NB201_202 := Aside0.mk ((by rw [hg]; exact Nat.ne_of_lt (blk_lt (g := gb201) (o := .cells #[.int .u64 0, .int .u64 1] 51 (0, 0)) (by (with_reducible repeat refine bl ?_); refine blk_put (cs := #[.int .u64 0, .int .u64 0]) ?_ 1 _ rfl; (with_reducible repeat refine bl ?_); refine blk_put (cs := #[.int .u64 0, .int .u64 0]) ?_ 0 _ rfl; (with_reducible repeat refine bl ?_); exact BK201.out)) : gb201 ≠ gb202)); have NB202_201 := Aside0.mk ((by rw [hg]; exact Nat.ne_of_gt (blk_lt (g := gb201) (o := .cells #[.int .u64 0, .int .u64 1] 51 (0, 0)) (by (with_reducible repeat refine bl ?_); refine blk_put (cs := #[.int .u64 0, .int .u64 0]) ?_ 1 _ rfl; (with_reducible repeat refine bl ?_); refine blk_put (cs := #[.int .u64 0, .int .u64 0]) ?_ 0 _ rfl; (with_reducible repeat refine bl ?_); exact BK201.out)) : gb202 ≠ gb201)); replace HO200 := Aside0.mk (Kd.R_below (by (with_reducible repeat refine kl ?_); exact (Kd.R_mono (Kd.R_far (p := ⟨gb201, 1, none⟩) (Kd.R_far (p := ⟨gb201, 0, none⟩) (Kd.R_types HO200.out BK201.out (by decide)) (fun _ hk => hk.2) (.int .u64 0)) (fun _ hk => hk.2) (.int .u64 1)) (fun _ h_ => h_.1))) hb); replace BK195 := Aside0.mk (blk_below (g := gb195) (o := .cells #[.int .u64 a1_0, .int .u64 a1_1] 51 (0, 0)) (by (with_reducible repeat refine bl ?_); refine blk_far ?_ NB195_201.out _; (with_reducible repeat refine bl ?_); refine blk_far ?_ NB195_201.out _; (with_reducible repeat refine bl ?_); exact BK195.out) hb); replace BK196 := Aside0.mk (blk_below (g := gb196) (o := .cells #[.int .u64 0, .int .u64 0] 51 (0, 0)) (by (with_reducible repeat refine bl ?_); refine blk_far ?_ NB196_201.out _; (with_reducible repeat refine bl ?_); refine blk_far ?_ NB196_201.out _; (with_reducible repeat refine bl ?_); exact BK196.out) hb); replace BK201 := Aside0.mk (blk_below (g := gb201) (o := .cells #[.int .u64 0, .int .u64 1] 51 (0, 0)) (by (with_reducible repeat refine bl ?_); refine blk_put (cs := #[.int .u64 0, .int .u64 0]) ?_ 1 _ rfl; (with_reducible repeat refine bl ?_); refine blk_put (cs := #[.int .u64 0, .int .u64 0]) ?_ 0 _ rfl; (with_reducible repeat refine bl ?_); exact BK201.out) hb); replace HB := bh HB hb; clear hb hbox hg; have hnb28 := NB202_195.out; have hnc28 := NB195_202.out; have hnb29 := NB202_196.out; have hnc29 := NB196_202.out; have hnb30 := NB202_201.out; have hnc30 := NB201_202.out; obtain ⟨hcz31_0, hcz31_1⟩ := zc2 BK202; obtain ⟨hfz31_0, hfz31_1⟩ := zf2 BK202))
   go_loopg [8] k (fun kq v8 w' => ∃ (x8_1 : Int) (x202000_1 : Int) (x202001_1 : Int) (x203000_1 : Int) (x203001_1 : Int), v8 = .int .i64 x8_1 ∧ Aside0 (steepleref02_Inv.l0 kq a0 y198 x8_1 x202000_1 x202001_1 x203000_1 x203001_1 = some (r1, r2)) ∧ Aside0 (kq ≤ k) ∧ Aside0 (Kd.R (Kd.int .i64) 3 w' w.heap.size (fun _ => True) v199 y198) ∧ Aside0 (w'.heap[gb195]? = some (.cells #[.int .u64 a1_0, .int .u64 a1_1] 51 (0, 0))) ∧ Aside0 (w'.heap[gb196]? = some (.cells #[.int .u64 0, .int .u64 0] 51 (0, 0))) ∧ Aside0 (w'.heap[gb201]? = some (.cells #[.int .u64 x202000_1, .int .u64 x202001_1] 51 (0, 0))) ∧ Aside0 (w'.heap[gb202]? = some (.cells #[.int .u64 x203000_1, .int .u64 x203001_1] 51 (0, 0))) ∧ Aside0 (Below w.heap.size w w'))
   case atStart => exact ⟨(1), (0), (1), (a1_0), (a1_1), (by first | rfl | (simp; done) | (simp [*]; done)), H', ⟨Nat.le_refl _⟩, ⟨by (with_reducible repeat refine kl ?_); exact Kd.R_mono (Kd.R_far (p := ⟨gb202, 1, none⟩) (Kd.R_far (p := ⟨gb202, 0, none⟩) (Kd.R_types HO200.out BK202.out (by decide)) (fun _ hk => hk.2) (.int .u64 a1_0)) (fun _ hk => hk.2) (.int .u64 a1_1)) (fun _ hk => trivial)⟩, ⟨by (with_reducible repeat refine bl ?_); refine blk_far ?_ NB195_202.out _; (with_reducible repeat refine bl ?_); refine blk_far ?_ NB195_202.out _; (with_reducible repeat refine bl ?_); exact BK195.out⟩, ⟨by (with_reducible repeat refine bl ?_); refine blk_far ?_ NB196_202.out _; (with_reducible repeat refine bl ?_); refine blk_far ?_ NB196_202.out _; (with_reducible repeat refine bl ?_); exact BK196.out⟩, ⟨by (with_reducible repeat refine bl ?_); refine blk_far ?_ NB201_202.out _; (with_reducible repeat refine bl ?_); refine blk_far ?_ NB201_202.out _; (with_reducible repeat refine bl ?_); exact BK201.out⟩, ⟨by (with_reducible repeat refine bl ?_); refine blk_put (cs := #[.int .u64 a1_0, .int .u64 0]) ?_ 1 _ rfl; (with_reducible repeat refine bl ?_); refine blk_put (cs := #[.int .u64 0, .int .u64 0]) ?_ 0 _ rfl; (with_reducible repeat refine bl ?_); exact BK202.out⟩, ⟨bq HB.out⟩⟩
   case round =>
    clear H'
    try clear c1
    try clear c2
    try clear p2
    try clear c3
    try clear c4
    try clear c5
    try clear c5b0
    try clear c5b1
    try clear c8
    try clear c17
    try clear c23
    try clear c24
    try clear c28
    try clear c29
    try clear c30
    try clear hcz13_0
    try clear hcz13_1
    try clear hcz14_0
    try clear hcz14_1
    try clear hcz18_0
    try clear hcz18_1
    try clear hcz25_0
    try clear hcz25_1
    try clear hcz26_0
    try clear hcz26_1
    try clear hcz31_0
    try clear hcz31_1
    try clear hcz9_0
    try clear hcz9_1
    try clear hfz13_0
    try clear hfz13_1
    try clear hfz14_0
    try clear hfz14_1
    try clear hfz18_0
    try clear hfz18_1
    try clear hfz25_0
    try clear hfz25_1
    try clear hfz26_0
    try clear hfz26_1
    try clear hfz31_0
    try clear hfz31_1
    try clear hfz9_0
    try clear hfz9_1
    obtain ⟨x8_1, x202000_1, x202001_1, x203000_1, x203001_1, rfl, HA, HK1, HO_5, BK195, BK196, BK201, BK202, HB⟩ := hrel
    cases gk with
    | zero => exact absurd HA.out (by simp [steepleref02_Inv.l0])
    | succ k1 =>
     have H := HA.out
     clear HA
     simp only [steepleref02_Inv.l0] at H
     by_cases c32 : 0 ≤ a0
     ·rw [if_pos c32] at H
      have c32b0 : decide (0 ≤ a0) = true := decide_eq_true c32
      clear c32
      by_cases c33 : a0 < (y198.length : Int)
      ·rw [if_pos c33] at H
       have c33b0 : decide (a0 < (y198.length : Int)) = true := decide_eq_true c33
       clear c33
       by_cases c34 : x8_1 < (rd y198 a0)
       ·rw [if_pos c34] at H
        have c34b0 : decide (x8_1 < (rd y198 a0)) = true := decide_eq_true c34
        clear c34
        replace H := Option.bind_eq_some_iff.mp H
        obtain ⟨⟨t204, t205⟩, A350, H⟩ := H
        replace H : ((steepleref02_Product.f k1 x202000_1 x202001_1 t204 t205).bind fun bt206 => (steepleref02_Inv.l0 k1 a0 y198 (wrap64 (x8_1 + 1)) bt206.1 bt206.2 t204 t205)) = some (r1, r2) := H
        have A35 := Aside0.mk A350
        clear A350
        replace H := Option.bind_eq_some_iff.mp H
        obtain ⟨⟨t206, t207⟩, A360, H⟩ := H
        replace H : (steepleref02_Inv.l0 k1 a0 y198 (wrap64 (x8_1 + 1)) t206 t207 t204 t205) = some (r1, r2) := H
        have A36 := Aside0.mk A360
        clear A360
        have H' := Aside0.mk H
        clear H
        obtain ⟨Ao37, co37, eo37⟩ := Kd.R_slice HO_5.out
        subst eo37
        have p203 : 0 ≤ (a0 : Int) := of_decide_eq_true (by first | (with_reducible assumption) | assumption)
        have q203 : a0 < (y198.length : Int) := of_decide_eq_true (by first | (with_reducible assumption) | assumption)
        (try (obtain ⟨Ap_, cp_, ep_⟩ := Kd.R_slice HO_5.out; subst ep_))
        obtain ⟨ad203, e203, hx203_0⟩ := Kd.at_int (Kd.R_reads' HO_5.out).2.2 a0 p203 q203
        cases e203
        replace p203 := eq_true p203
        replace q203 := eq_true q203
        have hnb38 := NB202_195.out
        have hnc38 := NB195_202.out
        have hnb39 := NB202_196.out
        have hnc39 := NB196_202.out
        have hnb40 := NB202_201.out
        have hnc40 := NB201_202.out
        obtain ⟨hcz41_0, hcz41_1⟩ := zc2 BK202
        obtain ⟨hfz41_0, hfz41_1⟩ := zf2 BK202
        go_wp2_with (first | ((with_reducible refine gate_callee (f := 23) rfl ?_); refine goesL_ (some 30) rfl rfl Try.func23 (by kernel_rfl) rfl #[.agg #[.int .u64 x203000_1, .int .u64 x203001_1], .agg #[.int .u64 x203000_1, .int .u64 x203001_1]] rfl (by (try simp only [List.map_toArray, List.map_cons, List.map_nil]); first | done | rfl | (simp only [List.length_drop, List.length_take]; rfl)) ?_; (with_reducible refine (steepleref02_Product.calls k1 x203000_1 x203001_1 x203000_1 x203001_1 t204 t205 _ A35.out).mono ?_); rintro e w42 ⟨rfl, hb⟩; refine ⟨_, rfl, ?_⟩; replace HO_5 := kb HO_5 hb; replace BK195 := bb BK195 hb; replace BK196 := bb BK196 hb; replace BK201 := bb BK201 hb; replace BK202 := bb BK202 hb; replace HB := bh HB hb; (try clear hb); (try clear hb2); (try clear hk); (try clear hi); obtain ⟨hcz43_0, hcz43_1⟩ := zc2 BK202; obtain ⟨hfz43_0, hfz43_1⟩ := zf2 BK202; have hnb44 := NB201_195.out; have hnc44 := NB195_201.out; have hnb45 := NB201_196.out; have hnc45 := NB196_201.out; obtain ⟨hcz46_0, hcz46_1⟩ := zc2 BK201; obtain ⟨hfz46_0, hfz46_1⟩ := zf2 BK201) | ((with_reducible refine gate_callee (f := 23) rfl ?_); refine goesL_ (some 33) rfl rfl Try.func23 (by kernel_rfl) rfl #[.agg #[.int .u64 x202000_1, .int .u64 x202001_1], .agg #[.int .u64 t204, .int .u64 t205]] rfl (by (try simp only [List.map_toArray, List.map_cons, List.map_nil]); first | done | rfl | (simp only [List.length_drop, List.length_take]; rfl)) ?_; (with_reducible refine (steepleref02_Product.calls k1 x202000_1 x202001_1 t204 t205 t206 t207 _ A36.out).mono ?_); rintro e w47 ⟨rfl, hb⟩; refine ⟨_, rfl, ?_⟩; replace HO_5 := Aside0.mk (Kd.R_below (by (with_reducible repeat refine kl ?_); exact (Kd.R_mono (Kd.R_far (p := ⟨gb202, 1, none⟩) (Kd.R_far (p := ⟨gb202, 0, none⟩) (Kd.R_types HO_5.out BK202.out (by decide)) (fun _ hk => hk.2) (.int .u64 t204)) (fun _ hk => hk.2) (.int .u64 t205)) (fun _ h_ => h_.1))) hb); replace BK195 := Aside0.mk (blk_below (g := gb195) (o := .cells #[.int .u64 a1_0, .int .u64 a1_1] 51 (0, 0)) (by (with_reducible repeat refine bl ?_); refine blk_far ?_ NB195_202.out _; (with_reducible repeat refine bl ?_); refine blk_far ?_ NB195_202.out _; (with_reducible repeat refine bl ?_); exact BK195.out) hb); replace BK196 := Aside0.mk (blk_below (g := gb196) (o := .cells #[.int .u64 0, .int .u64 0] 51 (0, 0)) (by (with_reducible repeat refine bl ?_); refine blk_far ?_ NB196_202.out _; (with_reducible repeat refine bl ?_); refine blk_far ?_ NB196_202.out _; (with_reducible repeat refine bl ?_); exact BK196.out) hb); replace BK201 := Aside0.mk (blk_below (g := gb201) (o := .cells #[.int .u64 x202000_1, .int .u64 x202001_1] 51 (0, 0)) (by (with_reducible repeat refine bl ?_); refine blk_far ?_ NB201_202.out _; (with_reducible repeat refine bl ?_); refine blk_far ?_ NB201_202.out _; (with_reducible repeat refine bl ?_); exact BK201.out) hb); replace BK202 := Aside0.mk (blk_below (g := gb202) (o := .cells #[.int .u64 t204, .int .u64 t205] 51 (0, 0)) (by (with_reducible repeat refine bl ?_); refine blk_put (cs := #[.int .u64 t204, .int .u64 x203001_1]) ?_ 1 _ rfl; (with_reducible repeat refine bl ?_); refine blk_put (cs := #[.int .u64 x203000_1, .int .u64 x203001_1]) ?_ 0 _ rfl; (with_reducible repeat refine bl ?_); exact BK202.out) hb); replace HB := bh HB hb; (try clear hb); (try clear hb2); (try clear hk); (try clear hi); obtain ⟨hcz48_0, hcz48_1⟩ := zc2 BK201; obtain ⟨hfz48_0, hfz48_1⟩ := zf2 BK201))
        go_roundg k1
        case measure => have := HK1.out; omega
        case rel => exact ⟨(wrap64 (x8_1 + 1)), (t206), (t207), (t204), (t205), (by first | rfl | (simp; done) | (simp [*]; done)), H', ⟨by have := HK1.out; omega⟩, ⟨by (with_reducible repeat refine kl ?_); exact Kd.R_mono (Kd.R_far (p := ⟨gb201, 1, none⟩) (Kd.R_far (p := ⟨gb201, 0, none⟩) (Kd.R_types HO_5.out BK201.out (by decide)) (fun _ hk => hk.2) (.int .u64 t206)) (fun _ hk => hk.2) (.int .u64 t207)) (fun _ hk => trivial)⟩, ⟨by (with_reducible repeat refine bl ?_); refine blk_far ?_ NB195_201.out _; (with_reducible repeat refine bl ?_); refine blk_far ?_ NB195_201.out _; (with_reducible repeat refine bl ?_); exact BK195.out⟩, ⟨by (with_reducible repeat refine bl ?_); refine blk_far ?_ NB196_201.out _; (with_reducible repeat refine bl ?_); refine blk_far ?_ NB196_201.out _; (with_reducible repeat refine bl ?_); exact BK196.out⟩, ⟨by (with_reducible repeat refine bl ?_); refine blk_put (cs := #[.int .u64 t206, .int .u64 x202001_1]) ?_ 1 _ rfl; (with_reducible repeat refine bl ?_); refine blk_put (cs := #[.int .u64 x202000_1, .int .u64 x202001_1]) ?_ 0 _ rfl; (with_reducible repeat refine bl ?_); exact BK201.out⟩, ⟨by (with_reducible repeat refine bl ?_); refine blk_far ?_ NB202_201.out _; (with_reducible repeat refine bl ?_); refine blk_far ?_ NB202_201.out _; (with_reducible repeat refine bl ?_); exact BK202.out⟩, ⟨bq HB.out⟩⟩
       ·rw [if_neg c34] at H
        have c34b0 : decide (x8_1 < (rd y198 a0)) = false := decide_eq_false c34
        clear c34
        simp only [Option.some.injEq, Prod.mk.injEq] at H
        obtain ⟨rfl, rfl⟩ := H
        obtain ⟨Ao49, co49, eo49⟩ := Kd.R_slice HO_5.out
        subst eo49
        have p203 : 0 ≤ (a0 : Int) := of_decide_eq_true (by first | (with_reducible assumption) | assumption)
        have q203 : a0 < (y198.length : Int) := of_decide_eq_true (by first | (with_reducible assumption) | assumption)
        (try (obtain ⟨Ap_, cp_, ep_⟩ := Kd.R_slice HO_5.out; subst ep_))
        obtain ⟨ad203, e203, hx203_0⟩ := Kd.at_int (Kd.R_reads' HO_5.out).2.2 a0 p203 q203
        cases e203
        replace p203 := eq_true p203
        replace q203 := eq_true q203
        have hnb50 := NB201_195.out
        have hnc50 := NB195_201.out
        have hnb51 := NB201_196.out
        have hnc51 := NB196_201.out
        have hnb52 := NB201_202.out
        have hnc52 := NB202_201.out
        obtain ⟨hcz53_0, hcz53_1⟩ := zc2 BK201
        obtain ⟨hfz53_0, hfz53_1⟩ := zf2 BK201
        have hnb54 := NB196_195.out
        have hnc54 := NB195_196.out
        have hnb55 := NB196_202.out
        have hnc55 := NB202_196.out
        obtain ⟨hcz56_0, hcz56_1⟩ := zc2 BK196
        obtain ⟨hfz56_0, hfz56_1⟩ := zf2 BK196
        go_wp2
        refine bodyPost_ret (results_cell_row rfl _ _ gb196 51 #[.int .u64 x202000_1, .int .u64 x202001_1] (0, 0) _ rfl (by (with_reducible repeat refine bl ?_); refine blk_put (cs := #[.int .u64 x202000_1, .int .u64 0]) ?_ 1 _ rfl; (with_reducible repeat refine bl ?_); refine blk_put (cs := #[.int .u64 0, .int .u64 0]) ?_ 0 _ rfl; (with_reducible repeat refine bl ?_); exact BK196.out) Try.underlying51 rfl (by kernel_rfl)) rfl ?_
        exact ⟨by first | rfl | (simp [errW_none, errW_some] <;> rfl) | (simp [*, errW_none, errW_some] <;> rfl), bq HB.out⟩
      ·rw [if_neg c33] at H
       exact absurd H (by simp)
     ·rw [if_neg c32] at H
      exact absurd H (by simp)
 ·replace c4 := Bool.eq_false_iff.mpr c4
  subst c4
  have H1 : (some (0, 0)) = some (r1, r2) := by rw [if_neg (show ¬ (false = true) by decide)] at H; exact H
  clear H
  have H := H1
  clear H1
  simp only [Option.some.injEq, Prod.mk.injEq] at H
  obtain ⟨rfl, rfl⟩ := H
  go_enter Try.func24, Try.ntmps24
  go_wp2_with (first | ((with_reducible refine gate_dst (N := 3) rfl ?_); refine box_event ?hg (N := 3) ?hd (cs := #[.int .u64 a1_0, .int .u64 a1_1]) (t := 51) ?hr ?_; (case hd => rfl); (case hg => rfl); (case hr => first | (go_simp; done) | (go_simp; rfl)); intro gb195 hg w57 hbox hb; have BK195 := Aside0.mk hbox; have GW195 := ge hg HB; have GE195 := ge hg HB; replace HB := bh HB hb; clear hb hbox hg) | ((with_reducible refine gate_dst (N := 4) rfl ?_); refine box_event ?hg (N := 4) ?hd (cs := #[.int .u64 0, .int .u64 0]) (t := 51) ?hr ?_; (case hd => rfl); (case hg => rfl); (case hr => first | (go_simp; done) | (go_simp; rfl)); intro gb196 hg w58 hbox hb; have BK196 := Aside0.mk hbox; have GW196 := ge hg HB; have GE196 := ge hg HB; have NB195_196 := nl hg BK195; have NB196_195 := ng hg BK195; replace BK195 := bb BK195 hb; replace HB := bh HB hb; clear hb hbox hg; have hnb59 := NB195_196.out; have hnc59 := NB196_195.out; obtain ⟨hcz60_0, hcz60_1⟩ := zc2 BK195; obtain ⟨hfz60_0, hfz60_1⟩ := zf2 BK195) | ((with_reducible refine gate_callee (f := 36) rfl ?_); refine goesL_ (some 11) rfl rfl Try.func36 (by kernel_rfl) rfl #[.int .i64 a0, .agg #[.int .u64 a1_0, .int .u64 a1_1]] rfl (by (try simp only [List.map_toArray, List.map_cons, List.map_nil]); first | done | rfl | (simp only [List.length_drop, List.length_take]; rfl)) ?_; (with_reducible refine (steepleref01_Of.calls k a0 a1_0 a1_1 false _ A3.out).mono ?_); rintro e w61 ⟨rfl, hb⟩; refine ⟨_, rfl, ?_⟩; replace BK195 := bb BK195 hb; replace BK196 := bb BK196 hb; replace HB := bh HB hb; (try clear hb); (try clear hb2); (try clear hk); (try clear hi); obtain ⟨hcz62_0, hcz62_1⟩ := zc2 BK196; obtain ⟨hfz62_0, hfz62_1⟩ := zf2 BK196))
  refine bodyPost_ret (results_cell_row rfl _ _ gb196 51 #[.int .u64 0, .int .u64 0] (0, 0) _ rfl (by (with_reducible repeat refine bl ?_); refine blk_put (cs := #[.int .u64 0, .int .u64 0]) ?_ 1 _ rfl; (with_reducible repeat refine bl ?_); refine blk_put (cs := #[.int .u64 0, .int .u64 0]) ?_ 0 _ rfl; (with_reducible repeat refine bl ?_); exact BK196.out) Try.underlying51 rfl (by kernel_rfl)) rfl ?_
  exact ⟨by first | rfl | (simp [errW_none, errW_some] <;> rfl) | (simp [*, errW_none, errW_some] <;> rfl), bq HB.out⟩

/-! ### steepleref10_left: function 25 -/
def steepleref10_left.l0 : Nat → Int → Int → Int → Option (Int)
 | 0, _, _, _ => none
 | k + 1, x1, x5, x6 => if x6 < x1 then (steepleref10_left.l0 k x1 (wrap64 ((Int.tmod (wrap64 (2 * x5)) 256) + (wrap64 (Int.tdiv x5 128)))) (wrap64 (x6 + 1))) else (some x5)
def steepleref10_left.f (k : Nat) (a0 : Int) (a1 : Int) : Option (Int) := steepleref10_left.l0 k a1 a0 0
theorem steepleref10_left.mono_l : ∀ k, (∀ y0 y1 y2, LeO (steepleref10_left.l0 k y0 y1 y2) (steepleref10_left.l0 (k + 1) y0 y1 y2))
 | 0 => fun _ _ _ r h => by simp [steepleref10_left.l0] at h
 | k + 1 => by
  have ih0 := steepleref10_left.mono_l k
  ·intro y0 y1 y2
   unfold steepleref10_left.l0
   repeat' first
   | (with_reducible exact ih0 _ _ _)
   | (with_reducible exact LeO.refl _)
   | (with_reducible exact LeO.none _)
   | (with_reducible refine LeO.ite ?_ ?_)
   | (with_reducible refine LeO.bind ?_ (fun _ => ?_))
   | exact ih0 _ _ _
   | exact LeO.none _
   | refine LeO.ite ?_ ?_
   | refine LeO.bind ?_ (fun _ => ?_)
theorem steepleref10_left.mono : ∀ a0 a1 k, LeO (steepleref10_left.f k a0 a1) (steepleref10_left.f (k + 1) a0 a1) := by
 intro a0 a1 k
 have ih0 := steepleref10_left.mono_l k
 unfold steepleref10_left.f
 repeat' first
   | (with_reducible exact ih0 _ _ _)
   | (with_reducible exact LeO.refl _)
   | (with_reducible exact LeO.none _)
   | (with_reducible refine LeO.ite ?_ ?_)
   | (with_reducible refine LeO.bind ?_ (fun _ => ?_))
   | exact ih0 _ _ _
   | exact LeO.none _
   | refine LeO.ite ?_ ?_
   | refine LeO.bind ?_ (fun _ => ?_)
set_option maxHeartbeats 8000000 in
set_option maxRecDepth 100000 in
theorem steepleref10_left.calls (k : Nat) (a0 : Int) (a1 : Int) (r : Int) (w : World) (h : steepleref10_left.f k a0 a1 = some r) :
  Calls Try.prog 25 #[.int .i64 a0, .int .i64 a1] w fun e w' => e = .returned (.int .i64 r) ∧ Drawn0 w w' := by
 have H : (steepleref10_left.l0 k a1 a0 0) = some r := h
 clear h
 have H' := Aside0.mk H
 clear H
 go_enter Try.func25, Try.ntmps25
 go_wp2
 go_loopg [5, 6] k (fun kq v5 v6 w' => ∃ (x5_1 : Int) (x6_1 : Int), v5 = .int .i64 x5_1 ∧ v6 = .int .i64 x6_1 ∧ Aside0 (steepleref10_left.l0 kq a1 x5_1 x6_1 = some r) ∧ Aside0 (kq ≤ k) ∧ Drawn0 w w')
 case atStart => exact ⟨(a0), (0), (by first | rfl | (simp; done) | (simp [*]; done)), (by first | rfl | (simp; done) | (simp [*]; done)), H', ⟨Nat.le_refl _⟩, by repeat (first | exact Drawn0.refl _ | apply Drawn0.step)⟩
 case round =>
  clear H'
  try clear c2
  try clear p2
  obtain ⟨x5_1, x6_1, rfl, rfl, HA, HK1, ⟨m1, rfl⟩⟩ := hrel
  cases gk with
  | zero => exact absurd HA.out (by simp [steepleref10_left.l0])
  | succ k1 =>
   have H := HA.out
   clear HA
   simp only [steepleref10_left.l0] at H
   by_cases c3 : x6_1 < a1
   ·rw [if_pos c3] at H
    have c3b0 : decide (x6_1 < a1) = true := decide_eq_true c3
    clear c3
    have H' := Aside0.mk H
    clear H
    go_wp2
    go_roundg k1
    case measure => have := HK1.out; omega
    case rel => exact ⟨(wrap64 ((Int.tmod (wrap64 (2 * x5_1)) 256) + (wrap64 (Int.tdiv x5_1 128)))), (wrap64 (x6_1 + 1)), (by first | rfl | (simp; done) | (simp [*]; done)), (by first | rfl | (simp; done) | (simp [*]; done)), H', ⟨by have := HK1.out; omega⟩, by repeat (first | exact Drawn0.refl _ | apply Drawn0.step)⟩
   ·rw [if_neg c3] at H
    have c3b0 : decide (x6_1 < a1) = false := decide_eq_false c3
    clear c3
    obtain rfl := Option.some.inj H
    go_wp2
    go_ret
    exact ⟨by first | rfl | (simp; done) | (simp [*]; done), by repeat (first | exact Drawn0.refl _ | apply Drawn0.step)⟩

/-! ### steepleref10_Box: function 12 -/
def steepleref10_Box.f (k : Nat) (a0 : Int) : Option (Int) := (steepleref02_Inv.f k 3 0 (IntKind.u64.wrap (a0))).bind fun bt208 => ((steepleref10_left.f k (wrap64 (bt208.2)) 1).bind fun t210 => ((steepleref10_left.f k (wrap64 (bt208.2)) 2).bind fun t211 => ((steepleref10_left.f k (wrap64 (bt208.2)) 3).bind fun t212 => ((steepleref10_left.f k (wrap64 (bt208.2)) 4).bind fun t213 => (some (Go.bits .xor .i64 (Go.bits .xor .i64 (Go.bits .xor .i64 (Go.bits .xor .i64 (Go.bits .xor .i64 (wrap64 (bt208.2)) t210) t211) t212) t213) 99))))))
theorem steepleref10_Box.mono : ∀ a0 k, LeO (steepleref10_Box.f k a0) (steepleref10_Box.f (k + 1) a0) := by
 intro a0 k
 unfold steepleref10_Box.f
 repeat' first
   | (with_reducible exact steepleref02_Inv.mono _ _ _ _)
   | (with_reducible exact steepleref10_left.mono _ _ _)
   | (with_reducible exact LeO.refl _)
   | (with_reducible exact LeO.none _)
   | (with_reducible refine LeO.ite ?_ ?_)
   | (with_reducible refine LeO.bind ?_ (fun _ => ?_))
   | exact steepleref02_Inv.mono _ _ _ _
   | exact steepleref10_left.mono _ _ _
   | exact LeO.none _
   | refine LeO.ite ?_ ?_
   | refine LeO.bind ?_ (fun _ => ?_)
set_option maxHeartbeats 8000000 in
set_option maxRecDepth 100000 in
theorem steepleref10_Box.calls (k : Nat) (a0 : Int) (r : Int) (w : World) (h : steepleref10_Box.f k a0 = some r) :
  Calls Try.prog 12 #[.int .i64 a0] w fun e w' => e = .returned (.int .i64 r) ∧ Below w.heap.size w w' := by
 have hu51 := Try.underlying51
 have HB := Aside0.mk (Below.refl w.heap.size w)
 have H : ((steepleref02_Inv.f k 3 0 (IntKind.u64.wrap (a0))).bind fun bt208 => ((steepleref10_left.f k (wrap64 (bt208.2)) 1).bind fun t210 => ((steepleref10_left.f k (wrap64 (bt208.2)) 2).bind fun t211 => ((steepleref10_left.f k (wrap64 (bt208.2)) 3).bind fun t212 => ((steepleref10_left.f k (wrap64 (bt208.2)) 4).bind fun t213 => (some (Go.bits .xor .i64 (Go.bits .xor .i64 (Go.bits .xor .i64 (Go.bits .xor .i64 (Go.bits .xor .i64 (wrap64 (bt208.2)) t210) t211) t212) t213) 99))))))) = some r := h
 clear h
 replace H := Option.bind_eq_some_iff.mp H
 obtain ⟨⟨t208, t209⟩, A20, H⟩ := H
 replace H : ((steepleref10_left.f k (wrap64 (t209)) 1).bind fun t210 => ((steepleref10_left.f k (wrap64 (t209)) 2).bind fun t211 => ((steepleref10_left.f k (wrap64 (t209)) 3).bind fun t212 => ((steepleref10_left.f k (wrap64 (t209)) 4).bind fun t213 => (some (Go.bits .xor .i64 (Go.bits .xor .i64 (Go.bits .xor .i64 (Go.bits .xor .i64 (Go.bits .xor .i64 (wrap64 (t209)) t210) t211) t212) t213) 99)))))) = some r := H
 have A2 := Aside0.mk A20
 clear A20
 replace H := Option.bind_eq_some_iff.mp H
 obtain ⟨t210, A30, H⟩ := H
 replace H : ((steepleref10_left.f k (wrap64 (t209)) 2).bind fun t211 => ((steepleref10_left.f k (wrap64 (t209)) 3).bind fun t212 => ((steepleref10_left.f k (wrap64 (t209)) 4).bind fun t213 => (some (Go.bits .xor .i64 (Go.bits .xor .i64 (Go.bits .xor .i64 (Go.bits .xor .i64 (Go.bits .xor .i64 (wrap64 (t209)) t210) t211) t212) t213) 99))))) = some r := H
 have A3 := Aside0.mk A30
 clear A30
 replace H := Option.bind_eq_some_iff.mp H
 obtain ⟨t211, A40, H⟩ := H
 replace H : ((steepleref10_left.f k (wrap64 (t209)) 3).bind fun t212 => ((steepleref10_left.f k (wrap64 (t209)) 4).bind fun t213 => (some (Go.bits .xor .i64 (Go.bits .xor .i64 (Go.bits .xor .i64 (Go.bits .xor .i64 (Go.bits .xor .i64 (wrap64 (t209)) t210) t211) t212) t213) 99)))) = some r := H
 have A4 := Aside0.mk A40
 clear A40
 replace H := Option.bind_eq_some_iff.mp H
 obtain ⟨t212, A50, H⟩ := H
 replace H : ((steepleref10_left.f k (wrap64 (t209)) 4).bind fun t213 => (some (Go.bits .xor .i64 (Go.bits .xor .i64 (Go.bits .xor .i64 (Go.bits .xor .i64 (Go.bits .xor .i64 (wrap64 (t209)) t210) t211) t212) t213) 99))) = some r := H
 have A5 := Aside0.mk A50
 clear A50
 replace H := Option.bind_eq_some_iff.mp H
 obtain ⟨t213, A60, H⟩ := H
 replace H : (some (Go.bits .xor .i64 (Go.bits .xor .i64 (Go.bits .xor .i64 (Go.bits .xor .i64 (Go.bits .xor .i64 (wrap64 (t209)) t210) t211) t212) t213) 99)) = some r := H
 have A6 := Aside0.mk A60
 clear A60
 obtain rfl := Option.some.inj H
 go_enter Try.func12, Try.ntmps12
 go_wp2_with (first | ((with_reducible refine gate_callee (f := 24) rfl ?_); refine goesL_ (some 7) rfl rfl Try.func24 (by kernel_rfl) rfl #[.int .i64 3, .agg #[.int .u64 0, .int .u64 (IntKind.u64.wrap (a0))]] rfl (by (try simp only [List.map_toArray, List.map_cons, List.map_nil]); first | done | rfl | (simp only [List.length_drop, List.length_take]; rfl)) ?_; (with_reducible refine (steepleref02_Inv.calls k 3 0 (IntKind.u64.wrap (a0)) t208 t209 _ A2.out).mono ?_); rintro e w7 ⟨rfl, hb⟩; refine ⟨_, rfl, ?_⟩; replace HB := bh HB hb; (try clear hb); (try clear hb2); (try clear hk); (try clear hi)) | ((with_reducible refine gate_callee (f := 25) rfl ?_); refine goesL_ (some 12) rfl rfl Try.func25 (by kernel_rfl) rfl #[.int .i64 (wrap64 (t209)), .int .i64 1] rfl (by (try simp only [List.map_toArray, List.map_cons, List.map_nil]); first | done | rfl | (simp only [List.length_drop, List.length_take]; rfl)) ?_; (with_reducible refine (steepleref10_left.calls k (wrap64 (t209)) 1 t210 _ A3.out).mono ?_); rintro e w' ⟨rfl, ⟨nd, rfl⟩⟩; refine ⟨_, rfl, ?_⟩) | ((with_reducible refine gate_callee (f := 25) rfl ?_); refine goesL_ (some 15) rfl rfl Try.func25 (by kernel_rfl) rfl #[.int .i64 (wrap64 (t209)), .int .i64 2] rfl (by (try simp only [List.map_toArray, List.map_cons, List.map_nil]); first | done | rfl | (simp only [List.length_drop, List.length_take]; rfl)) ?_; (with_reducible refine (steepleref10_left.calls k (wrap64 (t209)) 2 t211 _ A4.out).mono ?_); rintro e w' ⟨rfl, ⟨nd, rfl⟩⟩; refine ⟨_, rfl, ?_⟩) | ((with_reducible refine gate_callee (f := 25) rfl ?_); refine goesL_ (some 18) rfl rfl Try.func25 (by kernel_rfl) rfl #[.int .i64 (wrap64 (t209)), .int .i64 3] rfl (by (try simp only [List.map_toArray, List.map_cons, List.map_nil]); first | done | rfl | (simp only [List.length_drop, List.length_take]; rfl)) ?_; (with_reducible refine (steepleref10_left.calls k (wrap64 (t209)) 3 t212 _ A5.out).mono ?_); rintro e w' ⟨rfl, ⟨nd, rfl⟩⟩; refine ⟨_, rfl, ?_⟩) | ((with_reducible refine gate_callee (f := 25) rfl ?_); refine goesL_ (some 21) rfl rfl Try.func25 (by kernel_rfl) rfl #[.int .i64 (wrap64 (t209)), .int .i64 4] rfl (by (try simp only [List.map_toArray, List.map_cons, List.map_nil]); first | done | rfl | (simp only [List.length_drop, List.length_take]; rfl)) ?_; (with_reducible refine (steepleref10_left.calls k (wrap64 (t209)) 4 t213 _ A6.out).mono ?_); rintro e w' ⟨rfl, ⟨nd, rfl⟩⟩; refine ⟨_, rfl, ?_⟩))
 go_ret
 exact ⟨by first | rfl | (simp [errW_none, errW_some] <;> rfl) | (simp [*, errW_none, errW_some] <;> rfl), bq HB.out⟩

-- NOT PRINTED: function 3 (steeplelaw10_PermTables)

-- NOT PRINTED: function 4 (steeplelaw10_PermOne)

end Go.Proofs.Ytbfncpcpmigidaa.P
