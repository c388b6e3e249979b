/- Written by a program of this session: functions that the law reaches, as Lean functions, and that the code comes to their answers. Conditions: those that each theorem names. -/
import Derived.Test.YtbfncpcpmigidaaPx0
import Derived.Test.YtbfncpcpmigidaaPx1
import Derived.Test.YtbfncpcpmigidaaPx2
import Derived.Test.YtbfncpcpmigidaaPx3
namespace Go.Proofs.Ytbfncpcpmigidaa.P
open Go.RowKit Go.Proofs.YtbfncpcpmigidaaX Go.Proofs.YtbfncpcpmigidaaW.PrintWords Go.Proofs.YtbfncpcpmigidaaW.PrintLast Go.Proofs.YtbfncpcpmigidaaW.PrintMore
attribute [local go_sem] max2_int min2_int max_two min_two max_three min_three max_four min_four   -- for this text's walks alone
set_option linter.unusedVariables false
set_option linter.unusedSimpArgs false
theorem fld_lo5 (w : World) (a b : Int) : Sem.run Try.prog (Instr.field 59 (Value.agg #[Value.int IntKind.u64 a, Value.int IntKind.u64 b]) 1) w = Result.ok (Value.int IntKind.u64 b) w := by
  have hu := Try.underlying59
  go_simp
  rfl
attribute [local go_sem] fld_lo5
theorem fld_lo4 (w : World) (a b : Int) : Sem.run Try.prog (Instr.field 51 (Value.agg #[Value.int IntKind.u64 a, Value.int IntKind.u64 b]) 1) w = Result.ok (Value.int IntKind.u64 b) w := by
  have hu := Try.underlying51
  go_simp
  rfl
attribute [local go_sem] fld_lo4

/-! ### steepleref02_Inv: function 24 -/
def steepleref02_Inv.l0 : Nat → Int → List Int → Int → Int → Int → Int → Int → Option (Int × Int)
 | 0, _, _, _, _, _, _, _ => none
 | k + 1, x0, x5, x8, x202000, x202001, x203000, x203001 => if 0 ≤ x0 then (if x0 < (x5.length : Int) then (if x8 < (rd x5 x0) then ((steepleref02_Product.f k x203000 x203001 x203000 x203001).bind fun bt204 => ((steepleref02_Product.f k x202000 x202001 bt204.1 bt204.2).bind fun bt206 => (steepleref02_Inv.l0 k x0 x5 (wrap64 (x8 + 1)) bt206.1 bt206.2 bt204.1 bt204.2))) else (some (x202000, x202001))) else (none)) else (none)
def steepleref02_Inv.f (k : Nat) (a0 : Int) (a1_0 : Int) (a1_1 : Int) : Option (Int × Int) := (steepleref01_Of.f k a0 a1_0 a1_1).bind fun t197 => (if t197 = true then (if a0 = 0 then (some (a1_0, a1_1)) else (steepleref02_Inv.l0 k a0 (([1, 2, 4, 8, 16, 32, 64, 128] : List Int)) 1 0 1 a1_0 a1_1)) else (some (0, 0)))
theorem steepleref02_Inv.mono_l : ∀ k, (∀ y0 y1 y2 y3 y4 y5 y6, LeO (steepleref02_Inv.l0 k y0 y1 y2 y3 y4 y5 y6) (steepleref02_Inv.l0 (k + 1) y0 y1 y2 y3 y4 y5 y6))
 | 0 => fun _ _ _ _ _ _ _ r h => by simp [steepleref02_Inv.l0] at h
 | k + 1 => by
  have ih0 := steepleref02_Inv.mono_l k
  ·intro y0 y1 y2 y3 y4 y5 y6
   unfold steepleref02_Inv.l0
   repeat' first
   | (with_reducible exact ih0 _ _ _ _ _ _ _)
   | (with_reducible exact steepleref01_Of.mono _ _ _ _)
   | (with_reducible exact steepleref02_Product.mono _ _ _ _ _)
   | (with_reducible exact LeO.refl _)
   | (with_reducible exact LeO.none _)
   | (with_reducible refine LeO.ite ?_ ?_)
   | (with_reducible refine LeO.bind ?_ (fun _ => ?_))
   | exact ih0 _ _ _ _ _ _ _
   | exact steepleref01_Of.mono _ _ _ _
   | exact steepleref02_Product.mono _ _ _ _ _
   | exact LeO.none _
   | refine LeO.ite ?_ ?_
   | refine LeO.bind ?_ (fun _ => ?_)
theorem steepleref02_Inv.mono : ∀ a0 a1 a2 k, LeO (steepleref02_Inv.f k a0 a1 a2) (steepleref02_Inv.f (k + 1) a0 a1 a2) := by
 intro a0 a1 a2 k
 have ih0 := steepleref02_Inv.mono_l k
 unfold steepleref02_Inv.f
 repeat' first
   | (with_reducible exact ih0 _ _ _ _ _ _ _)
   | (with_reducible exact steepleref01_Of.mono _ _ _ _)
   | (with_reducible exact steepleref02_Product.mono _ _ _ _ _)
   | (with_reducible exact LeO.refl _)
   | (with_reducible exact LeO.none _)
   | (with_reducible refine LeO.ite ?_ ?_)
   | (with_reducible refine LeO.bind ?_ (fun _ => ?_))
   | exact ih0 _ _ _ _ _ _ _
   | exact steepleref01_Of.mono _ _ _ _
   | exact steepleref02_Product.mono _ _ _ _ _
   | exact LeO.none _
   | refine LeO.ite ?_ ?_
   | refine LeO.bind ?_ (fun _ => ?_)
set_option maxHeartbeats 8000000 in
set_option maxRecDepth 100000 in
theorem steepleref02_Inv.calls (k : Nat) (a0 : Int) (a1_0 : Int) (a1_1 : Int) (r1 : Int) (r2 : Int) (w : World) (h : steepleref02_Inv.f k a0 a1_0 a1_1 = some (r1, r2)) :
  Calls Try.prog 24 #[.int .i64 a0, .agg #[.int .u64 a1_0, .int .u64 a1_1]] w fun e w' => e = .returned (.agg #[.int .u64 r1, .int .u64 r2]) ∧ Below w.heap.size w w' := by
 have hu51 := Try.underlying51
 have HB := Aside0.mk (Below.refl w.heap.size w)
 have H : ((steepleref01_Of.f k a0 a1_0 a1_1).bind fun t197 => (if t197 = true then (if a0 = 0 then (some (a1_0, a1_1)) else (steepleref02_Inv.l0 k a0 (([1, 2, 4, 8, 16, 32, 64, 128] : List Int)) 1 0 1 a1_0 a1_1)) else (some (0, 0)))) = some (r1, r2) := h
 clear h
 replace H := Option.bind_eq_some_iff.mp H
 obtain ⟨t197, A30, H⟩ := H
 replace H : (if t197 = true then (if a0 = 0 then (some (a1_0, a1_1)) else (steepleref02_Inv.l0 k a0 (([1, 2, 4, 8, 16, 32, 64, 128] : List Int)) 1 0 1 a1_0 a1_1)) else (some (0, 0))) = some (r1, r2) := H
 have A3 := Aside0.mk A30
 clear A30
 by_cases c4 : t197 = true
 ·subst c4
  have H1 : (if a0 = 0 then (some (a1_0, a1_1)) else (steepleref02_Inv.l0 k a0 (([1, 2, 4, 8, 16, 32, 64, 128] : List Int)) 1 0 1 a1_0 a1_1)) = some (r1, r2) := by rw [if_pos rfl] at H; exact H
  clear H
  have H := H1
  clear H1
  obtain ⟨y198, hy198⟩ : ∃ y_ : List Int, y_ = (([1, 2, 4, 8, 16, 32, 64, 128] : List Int)) := ⟨_, rfl⟩
  replace H : (if a0 = 0 then (some (a1_0, a1_1)) else (steepleref02_Inv.l0 k a0 y198 1 0 1 a1_0 a1_1)) = some (r1, r2) := by first | (rw [hy198]; with_reducible exact H) | (have H2_ := (Option.bind_some _ _).symm.trans H; rw [hy198]; with_reducible exact H2_) | (have H2_ := (Option.bind_some _ _).symm.trans H; with_reducible exact H2_) | with_reducible exact H | (rw [hy198]; exact H) | exact H
  have Ny198 := Aside0.mk hy198
  clear hy198
  by_cases c5 : a0 = 0
  ·rw [if_pos c5] at H
   have c5b0 : (a0 == 0) = true := beq_iff_eq.mpr c5
   have c5b1 : (a0 != 0) = false := bne_eq_false_iff_eq.mpr c5
   clear c5
   simp only [Option.some.injEq, Prod.mk.injEq] at H
   obtain ⟨rfl, rfl⟩ := H
   go_enter Try.func24, Try.ntmps24
   go_wp2_with (first | ((with_reducible refine gate_dst (N := 3) rfl ?_); refine box_event ?hg (N := 3) ?hd (cs := #[.int .u64 a1_0, .int .u64 a1_1]) (t := 51) ?hr ?_; (case hd => rfl); (case hg => rfl); (case hr => first | (go_simp; done) | (go_simp; rfl)); intro gb195 hg w6 hbox hb; have BK195 := Aside0.mk hbox; have GW195 := ge hg HB; have GE195 := ge hg HB; replace HB := bh HB hb; clear hb hbox hg) | ((with_reducible refine gate_dst (N := 4) rfl ?_); refine box_event ?hg (N := 4) ?hd (cs := #[.int .u64 0, .int .u64 0]) (t := 51) ?hr ?_; (case hd => rfl); (case hg => rfl); (case hr => first | (go_simp; done) | (go_simp; rfl)); intro gb196 hg w7 hbox hb; have BK196 := Aside0.mk hbox; have GW196 := ge hg HB; have GE196 := ge hg HB; have NB195_196 := nl hg BK195; have NB196_195 := ng hg BK195; replace BK195 := bb BK195 hb; replace HB := bh HB hb; clear hb hbox hg; have hnb8 := NB195_196.out; have hnc8 := NB196_195.out; obtain ⟨hcz9_0, hcz9_1⟩ := zc2 BK195; obtain ⟨hfz9_0, hfz9_1⟩ := zf2 BK195) | ((with_reducible refine gate_callee (f := 36) rfl ?_); refine goesL_ (some 11) rfl rfl Try.func36 (by kernel_rfl) rfl #[.int .i64 a0, .agg #[.int .u64 a1_0, .int .u64 a1_1]] rfl (by (try simp only [List.map_toArray, List.map_cons, List.map_nil]); first | done | rfl | (simp only [List.length_drop, List.length_take]; rfl)) ?_; (with_reducible refine (steepleref01_Of.calls k a0 a1_0 a1_1 true _ A3.out).mono ?_); rintro e w10 ⟨rfl, hb⟩; refine ⟨_, rfl, ?_⟩; replace BK195 := bb BK195 hb; replace BK196 := bb BK196 hb; replace HB := bh HB hb; (try clear hb); (try clear hb2); (try clear hk); (try clear hi)) | ((with_reducible refine gate_dst (N := 14) rfl ?_); refine Kd.R_lit (Kd.int .i64) _ 3 ?hg (N := 14) ?hd (xs := ([1, 2, 4, 8, 16, 32, 64, 128] : List Int)) (inner := [.int .i64 1, .int .i64 2, .int .i64 4, .int .i64 8, .int .i64 16, .int .i64 32, .int .i64 64, .int .i64 128]) (ok := fun _ => True) (okp := fun _ => True) ?hr ?hp (fun _ hk => hk) trivial (Below.refl _ _) (Nat.le_refl _) (by simp) ?_; (case hd => rfl); (case hg => rfl); (case hr => first | (go_simp; done) | (go_simp; rfl)); (case hp => exact (Reps.one (show Kd.M (Kd.int .i64) _ _ _ 1 [.int .i64 1] from rfl) (Reps.one (show Kd.M (Kd.int .i64) _ _ _ 2 [.int .i64 2] from rfl) (Reps.one (show Kd.M (Kd.int .i64) _ _ _ 4 [.int .i64 4] from rfl) (Reps.one (show Kd.M (Kd.int .i64) _ _ _ 8 [.int .i64 8] from rfl) (Reps.one (show Kd.M (Kd.int .i64) _ _ _ 16 [.int .i64 16] from rfl) (Reps.one (show Kd.M (Kd.int .i64) _ _ _ 32 [.int .i64 32] from rfl) (Reps.one (show Kd.M (Kd.int .i64) _ _ _ 64 [.int .i64 64] from rfl) (Reps.one (show Kd.M (Kd.int .i64) _ _ _ 128 [.int .i64 128] from rfl) (Reps.none _ _)))))))))); intro v199 w11 ho12 hb hg_ hnew_; clear hg_ hnew_; (first | rw [← Ny198.out] at ho12 | (simp only [Int.reduceToNat] at ho12; rw [← Ny198.out] at ho12)); have HO200 := kw ho12 HB; replace BK195 := bb BK195 hb; replace BK196 := bb BK196 hb; replace HB := bh HB hb; clear hb ho12; obtain ⟨hcz13_0, hcz13_1⟩ := zc2 BK195; obtain ⟨hfz13_0, hfz13_1⟩ := zf2 BK195; obtain ⟨hcz14_0, hcz14_1⟩ := zc2 BK196; obtain ⟨hfz14_0, hfz14_1⟩ := zf2 BK196))
   refine bodyPost_ret (results_cell_row rfl _ _ gb196 51 #[.int .u64 a1_0, .int .u64 a1_1] (0, 0) _ rfl (by (with_reducible repeat refine bl ?_); refine blk_put (cs := #[.int .u64 a1_0, .int .u64 0]) ?_ 1 _ rfl; (with_reducible repeat refine bl ?_); refine blk_put (cs := #[.int .u64 0, .int .u64 0]) ?_ 0 _ rfl; (with_reducible repeat refine bl ?_); exact BK196.out) Try.underlying51 rfl (by kernel_rfl)) rfl ?_
   exact ⟨by first | rfl | (simp [errW_none, errW_some] <;> rfl) | (simp [*, errW_none, errW_some] <;> rfl), bq HB.out⟩
  ·rw [if_neg c5] at H
   have c5b0 : (a0 == 0) = false := beq_eq_false_iff_ne.mpr c5
   have c5b1 : (a0 != 0) = true := bne_iff_ne.mpr c5
   have H' := Aside0.mk H
   clear H
   go_enter Try.func24, Try.ntmps24
   go_wp2_with (first | ((with_reducible refine gate_dst (N := 3) rfl ?_); refine box_event ?hg (N := 3) ?hd (cs := #[.int .u64 a1_0, .int .u64 a1_1]) (t := 51) ?hr ?_; (case hd => rfl); (case hg => rfl); (case hr => first | (go_simp; done) | (go_simp; rfl)); intro gb195 hg w15 hbox hb; have BK195 := Aside0.mk hbox; have GW195 := ge hg HB; have GE195 := ge hg HB; replace HB := bh HB hb; clear hb hbox hg) | ((with_reducible refine gate_dst (N := 4) rfl ?_); refine box_event ?hg (N := 4) ?hd (cs := #[.int .u64 0, .int .u64 0]) (t := 51) ?hr ?_; (case hd => rfl); (case hg => rfl); (case hr => first | (go_simp; done) | (go_simp; rfl)); intro gb196 hg w16 hbox hb; have BK196 := Aside0.mk hbox; have GW196 := ge hg HB; have GE196 := ge hg HB; have NB195_196 := nl hg BK195; have NB196_195 := ng hg BK195; replace BK195 := bb BK195 hb; replace HB := bh HB hb; clear hb hbox hg; have hnb17 := NB195_196.out; have hnc17 := NB196_195.out; obtain ⟨hcz18_0, hcz18_1⟩ := zc2 BK195; obtain ⟨hfz18_0, hfz18_1⟩ := zf2 BK195) | ((with_reducible refine gate_callee (f := 36) rfl ?_); refine goesL_ (some 11) rfl rfl Try.func36 (by kernel_rfl) rfl #[.int .i64 a0, .agg #[.int .u64 a1_0, .int .u64 a1_1]] rfl (by (try simp only [List.map_toArray, List.map_cons, List.map_nil]); first | done | rfl | (simp only [List.length_drop, List.length_take]; rfl)) ?_; (with_reducible refine (steepleref01_Of.calls k a0 a1_0 a1_1 true _ A3.out).mono ?_); rintro e w19 ⟨rfl, hb⟩; refine ⟨_, rfl, ?_⟩; replace BK195 := bb BK195 hb; replace BK196 := bb BK196 hb; replace HB := bh HB hb; (try clear hb); (try clear hb2); (try clear hk); (try clear hi)) | ((with_reducible refine gate_dst (N := 14) rfl ?_); refine Kd.R_lit (Kd.int .i64) _ 3 ?hg (N := 14) ?hd (xs := ([1, 2, 4, 8, 16, 32, 64, 128] : List Int)) (inner := [.int .i64 1, .int .i64 2, .int .i64 4, .int .i64 8, .int .i64 16, .int .i64 32, .int .i64 64, .int .i64 128]) (ok := fun _ => True) (okp := fun _ => True) ?hr ?hp (fun _ hk => hk) trivial (Below.refl _ _) (Nat.le_refl _) (by simp) ?_; (case hd => rfl); (case hg => rfl); (case hr => first | (go_simp; done) | (go_simp; rfl)); (case hp => exact (Reps.one (show Kd.M (Kd.int .i64) _ _ _ 1 [.int .i64 1] from rfl) (Reps.one (show Kd.M (Kd.int .i64) _ _ _ 2 [.int .i64 2] from rfl) (Reps.one (show Kd.M (Kd.int .i64) _ _ _ 4 [.int .i64 4] from rfl) (Reps.one (show Kd.M (Kd.int .i64) _ _ _ 8 [.int .i64 8] from rfl) (Reps.one (show Kd.M (Kd.int .i64) _ _ _ 16 [.int .i64 16] from rfl) (Reps.one (show Kd.M (Kd.int .i64) _ _ _ 32 [.int .i64 32] from rfl) (Reps.one (show Kd.M (Kd.int .i64) _ _ _ 64 [.int .i64 64] from rfl) (Reps.one (show Kd.M (Kd.int .i64) _ _ _ 128 [.int .i64 128] from rfl) (Reps.none _ _)))))))))); intro v199 w20 ho21 hb hg_ hnew_; clear hg_ hnew_; (first | rw [← Ny198.out] at ho21 | (simp only [Int.reduceToNat] at ho21; rw [← Ny198.out] at ho21)); have HO200 := kw ho21 HB; replace BK195 := bb BK195 hb; replace BK196 := bb BK196 hb; replace HB := bh HB hb; clear hb ho21) | ((with_reducible refine gate_dst (N := 6) rfl ?_); refine box_event ?hg (N := 6) ?hd (cs := #[.int .u64 0, .int .u64 0]) (t := 51) ?hr ?_; (case hd => rfl); (case hg => rfl); (case hr => first | (go_simp; done) | (go_simp; rfl)); intro gb201 hg w22 hbox hb; have BK201 := Aside0.mk hbox; have GW201 := ge hg HB; have GE201 := ge hg HB; have NB195_201 := nl hg BK195; have NB201_195 := ng hg BK195; have NB196_201 := nl hg BK196; have NB201_196 := ng hg BK196; replace HO200 := kb HO200 hb; replace BK195 := bb BK195 hb; replace BK196 := bb BK196 hb; replace HB := bh HB hb; clear hb hbox hg; have hnb23 := NB201_195.out; have hnc23 := NB195_201.out; have hnb24 := NB201_196.out; have hnc24 := NB196_201.out; obtain ⟨hcz25_0, hcz25_1⟩ := zc2 BK201; obtain ⟨hfz25_0, hfz25_1⟩ := zf2 BK201; obtain ⟨hcz26_0, hcz26_1⟩ := zc2 BK195; obtain ⟨hfz26_0, hfz26_1⟩ := zf2 BK195) | ((with_reducible refine gate_dst (N := 7) rfl ?_); refine box_event ?hg (N := 7) ?hd (cs := #[.int .u64 0, .int .u64 0]) (t := 51) ?hr ?_; (case hd => rfl); (case hg => rfl); (case hr => first | (go_simp; done) | (go_simp; rfl)); intro gb202 hg w27 hbox hb; have BK202 := Aside0.mk hbox; have GW202 := ge hg HB; have GE202 := ge hg HB; have NB195_202 := Aside0.mk ((by rw [hg]; exact Nat.ne_of_lt (blk_lt (g := gb195) (o := .cells #[.int .u64 a1_0, .int .u64 a1_1] 51 (0, 0)) (by (with_reducible repeat refine bl ?_); refine blk_far ?_ NB195_201.out _; (with_reducible repeat refine bl ?_); refine blk_far ?_ NB195_201.out _; (with_reducible repeat refine bl ?_); exact BK195.out)) : gb195 ≠ gb202)); have NB202_195 := Aside0.mk ((by rw [hg]; exact Nat.ne_of_gt (blk_lt (g := gb195) (o := .cells #[.int .u64 a1_0, .int .u64 a1_1] 51 (0, 0)) (by (with_reducible repeat refine bl ?_); refine blk_far ?_ NB195_201.out _; (with_reducible repeat refine bl ?_); refine blk_far ?_ NB195_201.out _; (with_reducible repeat refine bl ?_); exact BK195.out)) : gb202 ≠ gb195)); have NB196_202 := Aside0.mk ((by rw [hg]; exact Nat.ne_of_lt (blk_lt (g := gb196) (o := .cells #[.int .u64 0, .int .u64 0] 51 (0, 0)) (by (with_reducible repeat refine bl ?_); refine blk_far ?_ NB196_201.out _; (with_reducible repeat refine bl ?_); refine blk_far ?_ NB196_201.out _; (with_reducible repeat refine bl ?_); exact BK196.out)) : gb196 ≠ gb202)); have NB202_196 := Aside0.mk ((by rw [hg]; exact Nat.ne_of_gt (blk_lt (g := gb196) (o := .cells #[.int .u64 0, .int .u64 0] 51 (0, 0)) (by (with_reducible repeat refine bl ?_); refine blk_far ?_ NB196_201.out _; (with_reducible repeat refine bl ?_); refine blk_far ?_ NB196_201.out _; (with_reducible repeat refine bl ?_); exact BK196.out)) : gb202 ≠ gb196)); have NB201_202 := Aside0.mk ((by rw [hg]; exact Nat.ne_of_lt (blk_lt (g := gb201) (o := .cells #[.int .u64 0, .int .u64 1] 51 (0, 0)) (by (with_reducible repeat refine bl ?_); refine blk_put (cs := #[.int .u64 0, .int .u64 0]) ?_ 1 _ rfl; (with_reducible repeat refine bl ?_); refine blk_put (cs := #[.int .u64 0, .int .u64 0]) ?_ 0 _ rfl; (with_reducible repeat refine bl ?_); exact BK201.out)) : gb201 ≠ gb202)); have NB202_201 := Aside0.mk ((by rw [hg]; exact Nat.ne_of_gt (blk_lt (g := gb201) (o := .cells #[.int .u64 0, .int .u64 1] 51 (0, 0)) (by (with_reducible repeat refine bl ?_); refine blk_put (cs := #[.int .u64 0, .int .u64 0]) ?_ 1 _ rfl; (with_reducible repeat refine bl ?_); refine blk_put (cs := #[.int .u64 0, .int .u64 0]) ?_ 0 _ rfl; (with_reducible repeat refine bl ?_); exact BK201.out)) : gb202 ≠ gb201)); replace HO200 := Aside0.mk (Kd.R_below (by (with_reducible repeat refine kl ?_); exact (Kd.R_mono (Kd.R_far (p := ⟨gb201, 1, none⟩) (Kd.R_far (p := ⟨gb201, 0, none⟩) (Kd.R_types HO200.out BK201.out (by decide)) (fun _ hk => hk.2) (.int .u64 0)) (fun _ hk => hk.2) (.int .u64 1)) (fun _ h_ => h_.1))) hb); replace BK195 := Aside0.mk (blk_below (g := gb195) (o := .cells #[.int .u64 a1_0, .int .u64 a1_1] 51 (0, 0)) (by (with_reducible repeat refine bl ?_); refine blk_far ?_ NB195_201.out _; (with_reducible repeat refine bl ?_); refine blk_far ?_ NB195_201.out _; (with_reducible repeat refine bl ?_); exact BK195.out) hb); replace BK196 := Aside0.mk (blk_below (g := gb196) (o := .cells #[.int .u64 0, .int .u64 0] 51 (0, 0)) (by (with_reducible repeat refine bl ?_); refine blk_far ?_ NB196_201.out _; (with_reducible repeat refine bl ?_); refine blk_far ?_ NB196_201.out _; (with_reducible repeat refine bl ?_); exact BK196.out) hb); replace BK201 := Aside0.mk (blk_below (g := gb201) (o := .cells #[.int .u64 0, .int .u64 1] 51 (0, 0)) (by (with_reducible repeat refine bl ?_); refine blk_put (cs := #[.int .u64 0, .int .u64 0]) ?_ 1 _ rfl; (with_reducible repeat refine bl ?_); refine blk_put (cs := #[.int .u64 0, .int .u64 0]) ?_ 0 _ rfl; (with_reducible repeat refine bl ?_); exact BK201.out) hb); replace HB := bh HB hb; clear hb hbox hg; have hnb28 := NB202_195.out; have hnc28 := NB195_202.out; have hnb29 := NB202_196.out; have hnc29 := NB196_202.out; have hnb30 := NB202_201.out; have hnc30 := NB201_202.out; obtain ⟨hcz31_0, hcz31_1⟩ := zc2 BK202; obtain ⟨hfz31_0, hfz31_1⟩ := zf2 BK202))
   go_loopg [8] k (fun kq v8 w' => ∃ (x8_1 : Int) (x202000_1 : Int) (x202001_1 : Int) (x203000_1 : Int) (x203001_1 : Int), v8 = .int .i64 x8_1 ∧ Aside0 (steepleref02_Inv.l0 kq a0 y198 x8_1 x202000_1 x202001_1 x203000_1 x203001_1 = some (r1, r2)) ∧ Aside0 (kq ≤ k) ∧ Aside0 (Kd.R (Kd.int .i64) 3 w' w.heap.size (fun _ => True) v199 y198) ∧ Aside0 (w'.heap[gb195]? = some (.cells #[.int .u64 a1_0, .int .u64 a1_1] 51 (0, 0))) ∧ Aside0 (w'.heap[gb196]? = some (.cells #[.int .u64 0, .int .u64 0] 51 (0, 0))) ∧ Aside0 (w'.heap[gb201]? = some (.cells #[.int .u64 x202000_1, .int .u64 x202001_1] 51 (0, 0))) ∧ Aside0 (w'.heap[gb202]? = some (.cells #[.int .u64 x203000_1, .int .u64 x203001_1] 51 (0, 0))) ∧ Aside0 (Below w.heap.size w w'))
   case atStart => exact ⟨(1), (0), (1), (a1_0), (a1_1), (by first | rfl | (simp; done) | (simp [*]; done)), H', ⟨Nat.le_refl _⟩, ⟨by (with_reducible repeat refine kl ?_); exact Kd.R_mono (Kd.R_far (p := ⟨gb202, 1, none⟩) (Kd.R_far (p := ⟨gb202, 0, none⟩) (Kd.R_types HO200.out BK202.out (by decide)) (fun _ hk => hk.2) (.int .u64 a1_0)) (fun _ hk => hk.2) (.int .u64 a1_1)) (fun _ hk => trivial)⟩, ⟨by (with_reducible repeat refine bl ?_); refine blk_far ?_ NB195_202.out _; (with_reducible repeat refine bl ?_); refine blk_far ?_ NB195_202.out _; (with_reducible repeat refine bl ?_); exact BK195.out⟩, ⟨by (with_reducible repeat refine bl ?_); refine blk_far ?_ NB196_202.out _; (with_reducible repeat refine bl ?_); refine blk_far ?_ NB196_202.out _; (with_reducible repeat refine bl ?_); exact BK196.out⟩, ⟨by (with_reducible repeat refine bl ?_); refine blk_far ?_ NB201_202.out _; (with_reducible repeat refine bl ?_); refine blk_far ?_ NB201_202.out _; (with_reducible repeat refine bl ?_); exact BK201.out⟩, ⟨by (with_reducible repeat refine bl ?_); refine blk_put (cs := #[.int .u64 a1_0, .int .u64 0]) ?_ 1 _ rfl; (with_reducible repeat refine bl ?_); refine blk_put (cs := #[.int .u64 0, .int .u64 0]) ?_ 0 _ rfl; (with_reducible repeat refine bl ?_); exact BK202.out⟩, ⟨bq HB.out⟩⟩
   case round =>
    clear H'
    try clear c1
    try clear c2
    try clear p2
    try clear c3
    try clear c4
    try clear c5
    try clear c5b0
    try clear c5b1
    try clear c8
    try clear c17
    try clear c23
    try clear c24
    try clear c28
    try clear c29
    try clear c30
    try clear hcz13_0
    try clear hcz13_1
    try clear hcz14_0
    try clear hcz14_1
    try clear hcz18_0
    try clear hcz18_1
    try clear hcz25_0
    try clear hcz25_1
    try clear hcz26_0
    try clear hcz26_1
    try clear hcz31_0
    try clear hcz31_1
    try clear hcz9_0
    try clear hcz9_1
    try clear hfz13_0
    try clear hfz13_1
    try clear hfz14_0
    try clear hfz14_1
    try clear hfz18_0
    try clear hfz18_1
    try clear hfz25_0
    try clear hfz25_1
    try clear hfz26_0
    try clear hfz26_1
    try clear hfz31_0
    try clear hfz31_1
    try clear hfz9_0
    try clear hfz9_1
    obtain ⟨x8_1, x202000_1, x202001_1, x203000_1, x203001_1, rfl, HA, HK1, HO_5, BK195, BK196, BK201, BK202, HB⟩ := hrel
    cases gk with
    | zero => exact absurd HA.out (by simp [steepleref02_Inv.l0])
    | succ k1 =>
     have H := HA.out
     clear HA
     simp only [steepleref02_Inv.l0] at H
     by_cases c32 : 0 ≤ a0
     ·rw [if_pos c32] at H
      have c32b0 : decide (0 ≤ a0) = true := decide_eq_true c32
      clear c32
      by_cases c33 : a0 < (y198.length : Int)
      ·rw [if_pos c33] at H
       have c33b0 : decide (a0 < (y198.length : Int)) = true := decide_eq_true c33
       clear c33
       by_cases c34 : x8_1 < (rd y198 a0)
       ·rw [if_pos c34] at H
        have c34b0 : decide (x8_1 < (rd y198 a0)) = true := decide_eq_true c34
        clear c34
        replace H := Option.bind_eq_some_iff.mp H
        obtain ⟨⟨t204, t205⟩, A350, H⟩ := H
        replace H : ((steepleref02_Product.f k1 x202000_1 x202001_1 t204 t205).bind fun bt206 => (steepleref02_Inv.l0 k1 a0 y198 (wrap64 (x8_1 + 1)) bt206.1 bt206.2 t204 t205)) = some (r1, r2) := H
        have A35 := Aside0.mk A350
        clear A350
        replace H := Option.bind_eq_some_iff.mp H
        obtain ⟨⟨t206, t207⟩, A360, H⟩ := H
        replace H : (steepleref02_Inv.l0 k1 a0 y198 (wrap64 (x8_1 + 1)) t206 t207 t204 t205) = some (r1, r2) := H
        have A36 := Aside0.mk A360
        clear A360
        have H' := Aside0.mk H
        clear H
        obtain ⟨Ao37, co37, eo37⟩ := Kd.R_slice HO_5.out
        subst eo37
        have p203 : 0 ≤ (a0 : Int) := of_decide_eq_true (by first | (with_reducible assumption) | assumption)
        have q203 : a0 < (y198.length : Int) := of_decide_eq_true (by first | (with_reducible assumption) | assumption)
        (try (obtain ⟨Ap_, cp_, ep_⟩ := Kd.R_slice HO_5.out; subst ep_))
        obtain ⟨ad203, e203, hx203_0⟩ := Kd.at_int (Kd.R_reads' HO_5.out).2.2 a0 p203 q203
        cases e203
        replace p203 := eq_true p203
        replace q203 := eq_true q203
        have hnb38 := NB202_195.out
        have hnc38 := NB195_202.out
        have hnb39 := NB202_196.out
        have hnc39 := NB196_202.out
        have hnb40 := NB202_201.out
        have hnc40 := NB201_202.out
        obtain ⟨hcz41_0, hcz41_1⟩ := zc2 BK202
        obtain ⟨hfz41_0, hfz41_1⟩ := zf2 BK202
        go_wp2_with (first | ((with_reducible refine gate_callee (f := 23) rfl ?_); refine goesL_ (some 30) rfl rfl Try.func23 (by kernel_rfl) rfl #[.agg #[.int .u64 x203000_1, .int .u64 x203001_1], .agg #[.int .u64 x203000_1, .int .u64 x203001_1]] rfl (by (try simp only [List.map_toArray, List.map_cons, List.map_nil]); first | done | rfl | (simp only [List.length_drop, List.length_take]; rfl)) ?_; (with_reducible refine (steepleref02_Product.calls k1 x203000_1 x203001_1 x203000_1 x203001_1 t204 t205 _ A35.out).mono ?_); rintro e w42 ⟨rfl, hb⟩; refine ⟨_, rfl, ?_⟩; replace HO_5 := kb HO_5 hb; replace BK195 := bb BK195 hb; replace BK196 := bb BK196 hb; replace BK201 := bb BK201 hb; replace BK202 := bb BK202 hb; replace HB := bh HB hb; (try clear hb); (try clear hb2); (try clear hk); (try clear hi); obtain ⟨hcz43_0, hcz43_1⟩ := zc2 BK202; obtain ⟨hfz43_0, hfz43_1⟩ := zf2 BK202; have hnb44 := NB201_195.out; have hnc44 := NB195_201.out; have hnb45 := NB201_196.out; have hnc45 := NB196_201.out; obtain ⟨hcz46_0, hcz46_1⟩ := zc2 BK201; obtain ⟨hfz46_0, hfz46_1⟩ := zf2 BK201) | ((with_reducible refine gate_callee (f := 23) rfl ?_); refine goesL_ (some 33) rfl rfl Try.func23 (by kernel_rfl) rfl #[.agg #[.int .u64 x202000_1, .int .u64 x202001_1], .agg #[.int .u64 t204, .int .u64 t205]] rfl (by (try simp only [List.map_toArray, List.map_cons, List.map_nil]); first | done | rfl | (simp only [List.length_drop, List.length_take]; rfl)) ?_; (with_reducible refine (steepleref02_Product.calls k1 x202000_1 x202001_1 t204 t205 t206 t207 _ A36.out).mono ?_); rintro e w47 ⟨rfl, hb⟩; refine ⟨_, rfl, ?_⟩; replace HO_5 := Aside0.mk (Kd.R_below (by (with_reducible repeat refine kl ?_); exact (Kd.R_mono (Kd.R_far (p := ⟨gb202, 1, none⟩) (Kd.R_far (p := ⟨gb202, 0, none⟩) (Kd.R_types HO_5.out BK202.out (by decide)) (fun _ hk => hk.2) (.int .u64 t204)) (fun _ hk => hk.2) (.int .u64 t205)) (fun _ h_ => h_.1))) hb); replace BK195 := Aside0.mk (blk_below (g := gb195) (o := .cells #[.int .u64 a1_0, .int .u64 a1_1] 51 (0, 0)) (by (with_reducible repeat refine bl ?_); refine blk_far ?_ NB195_202.out _; (with_reducible repeat refine bl ?_); refine blk_far ?_ NB195_202.out _; (with_reducible repeat refine bl ?_); exact BK195.out) hb); replace BK196 := Aside0.mk (blk_below (g := gb196) (o := .cells #[.int .u64 0, .int .u64 0] 51 (0, 0)) (by (with_reducible repeat refine bl ?_); refine blk_far ?_ NB196_202.out _; (with_reducible repeat refine bl ?_); refine blk_far ?_ NB196_202.out _; (with_reducible repeat refine bl ?_); exact BK196.out) hb); replace BK201 := Aside0.mk (blk_below (g := gb201) (o := .cells #[.int .u64 x202000_1, .int .u64 x202001_1] 51 (0, 0)) (by (with_reducible repeat refine bl ?_); refine blk_far ?_ NB201_202.out _; (with_reducible repeat refine bl ?_); refine blk_far ?_ NB201_202.out _; (with_reducible repeat refine bl ?_); exact BK201.out) hb); replace BK202 := Aside0.mk (blk_below (g := gb202) (o := .cells #[.int .u64 t204, .int .u64 t205] 51 (0, 0)) (by (with_reducible repeat refine bl ?_); refine blk_put (cs := #[.int .u64 t204, .int .u64 x203001_1]) ?_ 1 _ rfl; (with_reducible repeat refine bl ?_); refine blk_put (cs := #[.int .u64 x203000_1, .int .u64 x203001_1]) ?_ 0 _ rfl; (with_reducible repeat refine bl ?_); exact BK202.out) hb); replace HB := bh HB hb; (try clear hb); (try clear hb2); (try clear hk); (try clear hi); obtain ⟨hcz48_0, hcz48_1⟩ := zc2 BK201; obtain ⟨hfz48_0, hfz48_1⟩ := zf2 BK201))
        go_roundg k1
        case measure => have := HK1.out; omega
        case rel => exact ⟨(wrap64 (x8_1 + 1)), (t206), (t207), (t204), (t205), (by first | rfl | (simp; done) | (simp [*]; done)), H', ⟨by have := HK1.out; omega⟩, ⟨by (with_reducible repeat refine kl ?_); exact Kd.R_mono (Kd.R_far (p := ⟨gb201, 1, none⟩) (Kd.R_far (p := ⟨gb201, 0, none⟩) (Kd.R_types HO_5.out BK201.out (by decide)) (fun _ hk => hk.2) (.int .u64 t206)) (fun _ hk => hk.2) (.int .u64 t207)) (fun _ hk => trivial)⟩, ⟨by (with_reducible repeat refine bl ?_); refine blk_far ?_ NB195_201.out _; (with_reducible repeat refine bl ?_); refine blk_far ?_ NB195_201.out _; (with_reducible repeat refine bl ?_); exact BK195.out⟩, ⟨by (with_reducible repeat refine bl ?_); refine blk_far ?_ NB196_201.out _; (with_reducible repeat refine bl ?_); refine blk_far ?_ NB196_201.out _; (with_reducible repeat refine bl ?_); exact BK196.out⟩, ⟨by (with_reducible repeat refine bl ?_); refine blk_put (cs := #[.int .u64 t206, .int .u64 x202001_1]) ?_ 1 _ rfl; (with_reducible repeat refine bl ?_); refine blk_put (cs := #[.int .u64 x202000_1, .int .u64 x202001_1]) ?_ 0 _ rfl; (with_reducible repeat refine bl ?_); exact BK201.out⟩, ⟨by (with_reducible repeat refine bl ?_); refine blk_far ?_ NB202_201.out _; (with_reducible repeat refine bl ?_); refine blk_far ?_ NB202_201.out _; (with_reducible repeat refine bl ?_); exact BK202.out⟩, ⟨bq HB.out⟩⟩
       ·rw [if_neg c34] at H
        have c34b0 : decide (x8_1 < (rd y198 a0)) = false := decide_eq_false c34
        clear c34
        simp only [Option.some.injEq, Prod.mk.injEq] at H
        obtain ⟨rfl, rfl⟩ := H
        obtain ⟨Ao49, co49, eo49⟩ := Kd.R_slice HO_5.out
        subst eo49
        have p203 : 0 ≤ (a0 : Int) := of_decide_eq_true (by first | (with_reducible assumption) | assumption)
        have q203 : a0 < (y198.length : Int) := of_decide_eq_true (by first | (with_reducible assumption) | assumption)
        (try (obtain ⟨Ap_, cp_, ep_⟩ := Kd.R_slice HO_5.out; subst ep_))
        obtain ⟨ad203, e203, hx203_0⟩ := Kd.at_int (Kd.R_reads' HO_5.out).2.2 a0 p203 q203
        cases e203
        replace p203 := eq_true p203
        replace q203 := eq_true q203
        have hnb50 := NB201_195.out
        have hnc50 := NB195_201.out
        have hnb51 := NB201_196.out
        have hnc51 := NB196_201.out
        have hnb52 := NB201_202.out
        have hnc52 := NB202_201.out
        obtain ⟨hcz53_0, hcz53_1⟩ := zc2 BK201
        obtain ⟨hfz53_0, hfz53_1⟩ := zf2 BK201
        have hnb54 := NB196_195.out
        have hnc54 := NB195_196.out
        have hnb55 := NB196_202.out
        have hnc55 := NB202_196.out
        obtain ⟨hcz56_0, hcz56_1⟩ := zc2 BK196
        obtain ⟨hfz56_0, hfz56_1⟩ := zf2 BK196
        go_wp2
        refine bodyPost_ret (results_cell_row rfl _ _ gb196 51 #[.int .u64 x202000_1, .int .u64 x202001_1] (0, 0) _ rfl (by (with_reducible repeat refine bl ?_); refine blk_put (cs := #[.int .u64 x202000_1, .int .u64 0]) ?_ 1 _ rfl; (with_reducible repeat refine bl ?_); refine blk_put (cs := #[.int .u64 0, .int .u64 0]) ?_ 0 _ rfl; (with_reducible repeat refine bl ?_); exact BK196.out) Try.underlying51 rfl (by kernel_rfl)) rfl ?_
        exact ⟨by first | rfl | (simp [errW_none, errW_some] <;> rfl) | (simp [*, errW_none, errW_some] <;> rfl), bq HB.out⟩
      ·rw [if_neg c33] at H
       exact absurd H (by simp)
     ·rw [if_neg c32] at H
      exact absurd H (by simp)
 ·replace c4 := Bool.eq_false_iff.mpr c4
  subst c4
  have H1 : (some (0, 0)) = some (r1, r2) := by rw [if_neg (show ¬ (false = true) by decide)] at H; exact H
  clear H
  have H := H1
  clear H1
  simp only [Option.some.injEq, Prod.mk.injEq] at H
  obtain ⟨rfl, rfl⟩ := H
  go_enter Try.func24, Try.ntmps24
  go_wp2_with (first | ((with_reducible refine gate_dst (N := 3) rfl ?_); refine box_event ?hg (N := 3) ?hd (cs := #[.int .u64 a1_0, .int .u64 a1_1]) (t := 51) ?hr ?_; (case hd => rfl); (case hg => rfl); (case hr => first | (go_simp; done) | (go_simp; rfl)); intro gb195 hg w57 hbox hb; have BK195 := Aside0.mk hbox; have GW195 := ge hg HB; have GE195 := ge hg HB; replace HB := bh HB hb; clear hb hbox hg) | ((with_reducible refine gate_dst (N := 4) rfl ?_); refine box_event ?hg (N := 4) ?hd (cs := #[.int .u64 0, .int .u64 0]) (t := 51) ?hr ?_; (case hd => rfl); (case hg => rfl); (case hr => first | (go_simp; done) | (go_simp; rfl)); intro gb196 hg w58 hbox hb; have BK196 := Aside0.mk hbox; have GW196 := ge hg HB; have GE196 := ge hg HB; have NB195_196 := nl hg BK195; have NB196_195 := ng hg BK195; replace BK195 := bb BK195 hb; replace HB := bh HB hb; clear hb hbox hg; have hnb59 := NB195_196.out; have hnc59 := NB196_195.out; obtain ⟨hcz60_0, hcz60_1⟩ := zc2 BK195; obtain ⟨hfz60_0, hfz60_1⟩ := zf2 BK195) | ((with_reducible refine gate_callee (f := 36) rfl ?_); refine goesL_ (some 11) rfl rfl Try.func36 (by kernel_rfl) rfl #[.int .i64 a0, .agg #[.int .u64 a1_0, .int .u64 a1_1]] rfl (by (try simp only [List.map_toArray, List.map_cons, List.map_nil]); first | done | rfl | (simp only [List.length_drop, List.length_take]; rfl)) ?_; (with_reducible refine (steepleref01_Of.calls k a0 a1_0 a1_1 false _ A3.out).mono ?_); rintro e w61 ⟨rfl, hb⟩; refine ⟨_, rfl, ?_⟩; replace BK195 := bb BK195 hb; replace BK196 := bb BK196 hb; replace HB := bh HB hb; (try clear hb); (try clear hb2); (try clear hk); (try clear hi); obtain ⟨hcz62_0, hcz62_1⟩ := zc2 BK196; obtain ⟨hfz62_0, hfz62_1⟩ := zf2 BK196))
  refine bodyPost_ret (results_cell_row rfl _ _ gb196 51 #[.int .u64 0, .int .u64 0] (0, 0) _ rfl (by (with_reducible repeat refine bl ?_); refine blk_put (cs := #[.int .u64 0, .int .u64 0]) ?_ 1 _ rfl; (with_reducible repeat refine bl ?_); refine blk_put (cs := #[.int .u64 0, .int .u64 0]) ?_ 0 _ rfl; (with_reducible repeat refine bl ?_); exact BK196.out) Try.underlying51 rfl (by kernel_rfl)) rfl ?_
  exact ⟨by first | rfl | (simp [errW_none, errW_some] <;> rfl) | (simp [*, errW_none, errW_some] <;> rfl), bq HB.out⟩

/-! ### steepleref10_left: function 25 -/
def steepleref10_left.l0 : Nat → Int → Int → Int → Option (Int)
 | 0, _, _, _ => none
 | k + 1, x1, x5, x6 => if x6 < x1 then (steepleref10_left.l0 k x1 (wrap64 ((Int.tmod (wrap64 (2 * x5)) 256) + (wrap64 (Int.tdiv x5 128)))) (wrap64 (x6 + 1))) else (some x5)
def steepleref10_left.f (k : Nat) (a0 : Int) (a1 : Int) : Option (Int) := steepleref10_left.l0 k a1 a0 0
theorem steepleref10_left.mono_l : ∀ k, (∀ y0 y1 y2, LeO (steepleref10_left.l0 k y0 y1 y2) (steepleref10_left.l0 (k + 1) y0 y1 y2))
 | 0 => fun _ _ _ r h => by simp [steepleref10_left.l0] at h
 | k + 1 => by
  have ih0 := steepleref10_left.mono_l k
  ·intro y0 y1 y2
   unfold steepleref10_left.l0
   repeat' first
   | (with_reducible exact ih0 _ _ _)
   | (with_reducible exact LeO.refl _)
   | (with_reducible exact LeO.none _)
   | (with_reducible refine LeO.ite ?_ ?_)
   | (with_reducible refine LeO.bind ?_ (fun _ => ?_))
   | exact ih0 _ _ _
   | exact LeO.none _
   | refine LeO.ite ?_ ?_
   | refine LeO.bind ?_ (fun _ => ?_)
theorem steepleref10_left.mono : ∀ a0 a1 k, LeO (steepleref10_left.f k a0 a1) (steepleref10_left.f (k + 1) a0 a1) := by
 intro a0 a1 k
 have ih0 := steepleref10_left.mono_l k
 unfold steepleref10_left.f
 repeat' first
   | (with_reducible exact ih0 _ _ _)
   | (with_reducible exact LeO.refl _)
   | (with_reducible exact LeO.none _)
   | (with_reducible refine LeO.ite ?_ ?_)
   | (with_reducible refine LeO.bind ?_ (fun _ => ?_))
   | exact ih0 _ _ _
   | exact LeO.none _
   | refine LeO.ite ?_ ?_
   | refine LeO.bind ?_ (fun _ => ?_)
set_option maxHeartbeats 8000000 in
set_option maxRecDepth 100000 in
theorem steepleref10_left.calls (k : Nat) (a0 : Int) (a1 : Int) (r : Int) (w : World) (h : steepleref10_left.f k a0 a1 = some r) :
  Calls Try.prog 25 #[.int .i64 a0, .int .i64 a1] w fun e w' => e = .returned (.int .i64 r) ∧ Drawn0 w w' := by
 have H : (steepleref10_left.l0 k a1 a0 0) = some r := h
 clear h
 have H' := Aside0.mk H
 clear H
 go_enter Try.func25, Try.ntmps25
 go_wp2
 go_loopg [5, 6] k (fun kq v5 v6 w' => ∃ (x5_1 : Int) (x6_1 : Int), v5 = .int .i64 x5_1 ∧ v6 = .int .i64 x6_1 ∧ Aside0 (steepleref10_left.l0 kq a1 x5_1 x6_1 = some r) ∧ Aside0 (kq ≤ k) ∧ Drawn0 w w')
 case atStart => exact ⟨(a0), (0), (by first | rfl | (simp; done) | (simp [*]; done)), (by first | rfl | (simp; done) | (simp [*]; done)), H', ⟨Nat.le_refl _⟩, by repeat (first | exact Drawn0.refl _ | apply Drawn0.step)⟩
 case round =>
  clear H'
  try clear c2
  try clear p2
  obtain ⟨x5_1, x6_1, rfl, rfl, HA, HK1, ⟨m1, rfl⟩⟩ := hrel
  cases gk with
  | zero => exact absurd HA.out (by simp [steepleref10_left.l0])
  | succ k1 =>
   have H := HA.out
   clear HA
   simp only [steepleref10_left.l0] at H
   by_cases c3 : x6_1 < a1
   ·rw [if_pos c3] at H
    have c3b0 : decide (x6_1 < a1) = true := decide_eq_true c3
    clear c3
    have H' := Aside0.mk H
    clear H
    go_wp2
    go_roundg k1
    case measure => have := HK1.out; omega
    case rel => exact ⟨(wrap64 ((Int.tmod (wrap64 (2 * x5_1)) 256) + (wrap64 (Int.tdiv x5_1 128)))), (wrap64 (x6_1 + 1)), (by first | rfl | (simp; done) | (simp [*]; done)), (by first | rfl | (simp; done) | (simp [*]; done)), H', ⟨by have := HK1.out; omega⟩, by repeat (first | exact Drawn0.refl _ | apply Drawn0.step)⟩
   ·rw [if_neg c3] at H
    have c3b0 : decide (x6_1 < a1) = false := decide_eq_false c3
    clear c3
    obtain rfl := Option.some.inj H
    go_wp2
    go_ret
    exact ⟨by first | rfl | (simp; done) | (simp [*]; done), by repeat (first | exact Drawn0.refl _ | apply Drawn0.step)⟩

/-! ### steepleref10_Box: function 12 -/
def steepleref10_Box.f (k : Nat) (a0 : Int) : Option (Int) := (steepleref02_Inv.f k 3 0 (IntKind.u64.wrap (a0))).bind fun bt208 => ((steepleref10_left.f k (wrap64 (bt208.2)) 1).bind fun t210 => ((steepleref10_left.f k (wrap64 (bt208.2)) 2).bind fun t211 => ((steepleref10_left.f k (wrap64 (bt208.2)) 3).bind fun t212 => ((steepleref10_left.f k (wrap64 (bt208.2)) 4).bind fun t213 => (some (Go.bits .xor .i64 (Go.bits .xor .i64 (Go.bits .xor .i64 (Go.bits .xor .i64 (Go.bits .xor .i64 (wrap64 (bt208.2)) t210) t211) t212) t213) 99))))))
theorem steepleref10_Box.mono : ∀ a0 k, LeO (steepleref10_Box.f k a0) (steepleref10_Box.f (k + 1) a0) := by
 intro a0 k
 unfold steepleref10_Box.f
 repeat' first
   | (with_reducible exact steepleref02_Inv.mono _ _ _ _)
   | (with_reducible exact steepleref10_left.mono _ _ _)
   | (with_reducible exact LeO.refl _)
   | (with_reducible exact LeO.none _)
   | (with_reducible refine LeO.ite ?_ ?_)
   | (with_reducible refine LeO.bind ?_ (fun _ => ?_))
   | exact steepleref02_Inv.mono _ _ _ _
   | exact steepleref10_left.mono _ _ _
   | exact LeO.none _
   | refine LeO.ite ?_ ?_
   | refine LeO.bind ?_ (fun _ => ?_)
set_option maxHeartbeats 8000000 in
set_option maxRecDepth 100000 in
theorem steepleref10_Box.calls (k : Nat) (a0 : Int) (r : Int) (w : World) (h : steepleref10_Box.f k a0 = some r) :
  Calls Try.prog 12 #[.int .i64 a0] w fun e w' => e = .returned (.int .i64 r) ∧ Below w.heap.size w w' := by
 have hu51 := Try.underlying51
 have HB := Aside0.mk (Below.refl w.heap.size w)
 have H : ((steepleref02_Inv.f k 3 0 (IntKind.u64.wrap (a0))).bind fun bt208 => ((steepleref10_left.f k (wrap64 (bt208.2)) 1).bind fun t210 => ((steepleref10_left.f k (wrap64 (bt208.2)) 2).bind fun t211 => ((steepleref10_left.f k (wrap64 (bt208.2)) 3).bind fun t212 => ((steepleref10_left.f k (wrap64 (bt208.2)) 4).bind fun t213 => (some (Go.bits .xor .i64 (Go.bits .xor .i64 (Go.bits .xor .i64 (Go.bits .xor .i64 (Go.bits .xor .i64 (wrap64 (bt208.2)) t210) t211) t212) t213) 99))))))) = some r := h
 clear h
 replace H := Option.bind_eq_some_iff.mp H
 obtain ⟨⟨t208, t209⟩, A20, H⟩ := H
 replace H : ((steepleref10_left.f k (wrap64 (t209)) 1).bind fun t210 => ((steepleref10_left.f k (wrap64 (t209)) 2).bind fun t211 => ((steepleref10_left.f k (wrap64 (t209)) 3).bind fun t212 => ((steepleref10_left.f k (wrap64 (t209)) 4).bind fun t213 => (some (Go.bits .xor .i64 (Go.bits .xor .i64 (Go.bits .xor .i64 (Go.bits .xor .i64 (Go.bits .xor .i64 (wrap64 (t209)) t210) t211) t212) t213) 99)))))) = some r := H
 have A2 := Aside0.mk A20
 clear A20
 replace H := Option.bind_eq_some_iff.mp H
 obtain ⟨t210, A30, H⟩ := H
 replace H : ((steepleref10_left.f k (wrap64 (t209)) 2).bind fun t211 => ((steepleref10_left.f k (wrap64 (t209)) 3).bind fun t212 => ((steepleref10_left.f k (wrap64 (t209)) 4).bind fun t213 => (some (Go.bits .xor .i64 (Go.bits .xor .i64 (Go.bits .xor .i64 (Go.bits .xor .i64 (Go.bits .xor .i64 (wrap64 (t209)) t210) t211) t212) t213) 99))))) = some r := H
 have A3 := Aside0.mk A30
 clear A30
 replace H := Option.bind_eq_some_iff.mp H
 obtain ⟨t211, A40, H⟩ := H
 replace H : ((steepleref10_left.f k (wrap64 (t209)) 3).bind fun t212 => ((steepleref10_left.f k (wrap64 (t209)) 4).bind fun t213 => (some (Go.bits .xor .i64 (Go.bits .xor .i64 (Go.bits .xor .i64 (Go.bits .xor .i64 (Go.bits .xor .i64 (wrap64 (t209)) t210) t211) t212) t213) 99)))) = some r := H
 have A4 := Aside0.mk A40
 clear A40
 replace H := Option.bind_eq_some_iff.mp H
 obtain ⟨t212, A50, H⟩ := H
 replace H : ((steepleref10_left.f k (wrap64 (t209)) 4).bind fun t213 => (some (Go.bits .xor .i64 (Go.bits .xor .i64 (Go.bits .xor .i64 (Go.bits .xor .i64 (Go.bits .xor .i64 (wrap64 (t209)) t210) t211) t212) t213) 99))) = some r := H
 have A5 := Aside0.mk A50
 clear A50
 replace H := Option.bind_eq_some_iff.mp H
 obtain ⟨t213, A60, H⟩ := H
 replace H : (some (Go.bits .xor .i64 (Go.bits .xor .i64 (Go.bits .xor .i64 (Go.bits .xor .i64 (Go.bits .xor .i64 (wrap64 (t209)) t210) t211) t212) t213) 99)) = some r := H
 have A6 := Aside0.mk A60
 clear A60
 obtain rfl := Option.some.inj H
 go_enter Try.func12, Try.ntmps12
 go_wp2_with (first | ((with_reducible refine gate_callee (f := 24) rfl ?_); refine goesL_ (some 7) rfl rfl Try.func24 (by kernel_rfl) rfl #[.int .i64 3, .agg #[.int .u64 0, .int .u64 (IntKind.u64.wrap (a0))]] rfl (by (try simp only [List.map_toArray, List.map_cons, List.map_nil]); first | done | rfl | (simp only [List.length_drop, List.length_take]; rfl)) ?_; (with_reducible refine (steepleref02_Inv.calls k 3 0 (IntKind.u64.wrap (a0)) t208 t209 _ A2.out).mono ?_); rintro e w7 ⟨rfl, hb⟩; refine ⟨_, rfl, ?_⟩; replace HB := bh HB hb; (try clear hb); (try clear hb2); (try clear hk); (try clear hi)) | ((with_reducible refine gate_callee (f := 25) rfl ?_); refine goesL_ (some 12) rfl rfl Try.func25 (by kernel_rfl) rfl #[.int .i64 (wrap64 (t209)), .int .i64 1] rfl (by (try simp only [List.map_toArray, List.map_cons, List.map_nil]); first | done | rfl | (simp only [List.length_drop, List.length_take]; rfl)) ?_; (with_reducible refine (steepleref10_left.calls k (wrap64 (t209)) 1 t210 _ A3.out).mono ?_); rintro e w' ⟨rfl, ⟨nd, rfl⟩⟩; refine ⟨_, rfl, ?_⟩) | ((with_reducible refine gate_callee (f := 25) rfl ?_); refine goesL_ (some 15) rfl rfl Try.func25 (by kernel_rfl) rfl #[.int .i64 (wrap64 (t209)), .int .i64 2] rfl (by (try simp only [List.map_toArray, List.map_cons, List.map_nil]); first | done | rfl | (simp only [List.length_drop, List.length_take]; rfl)) ?_; (with_reducible refine (steepleref10_left.calls k (wrap64 (t209)) 2 t211 _ A4.out).mono ?_); rintro e w' ⟨rfl, ⟨nd, rfl⟩⟩; refine ⟨_, rfl, ?_⟩) | ((with_reducible refine gate_callee (f := 25) rfl ?_); refine goesL_ (some 18) rfl rfl Try.func25 (by kernel_rfl) rfl #[.int .i64 (wrap64 (t209)), .int .i64 3] rfl (by (try simp only [List.map_toArray, List.map_cons, List.map_nil]); first | done | rfl | (simp only [List.length_drop, List.length_take]; rfl)) ?_; (with_reducible refine (steepleref10_left.calls k (wrap64 (t209)) 3 t212 _ A5.out).mono ?_); rintro e w' ⟨rfl, ⟨nd, rfl⟩⟩; refine ⟨_, rfl, ?_⟩) | ((with_reducible refine gate_callee (f := 25) rfl ?_); refine goesL_ (some 21) rfl rfl Try.func25 (by kernel_rfl) rfl #[.int .i64 (wrap64 (t209)), .int .i64 4] rfl (by (try simp only [List.map_toArray, List.map_cons, List.map_nil]); first | done | rfl | (simp only [List.length_drop, List.length_take]; rfl)) ?_; (with_reducible refine (steepleref10_left.calls k (wrap64 (t209)) 4 t213 _ A6.out).mono ?_); rintro e w' ⟨rfl, ⟨nd, rfl⟩⟩; refine ⟨_, rfl, ?_⟩))
 go_ret
 exact ⟨by first | rfl | (simp [errW_none, errW_some] <;> rfl) | (simp [*, errW_none, errW_some] <;> rfl), bq HB.out⟩

-- NOT PRINTED: function 3 (steeplelaw10_PermTables)

-- NOT PRINTED: function 4 (steeplelaw10_PermOne)

-- NOT PRINTED: function 26 (perm_Tables_walk)

-- NOT PRINTED: function 38 (perm_state_add)

-- NOT PRINTED: function 39 (perm_state_swap)

/-! ### perm_turns: function 52 -/
def perm_turns.f (a0 : Bool) : Option (Int × Int × Int × Int × Int × Int × Int × Int) := if a0 = true then (some (1, 3, 5, 7, 0, 2, 4, 6)) else (some (0, 1, 2, 3, 4, 5, 6, 7))
set_option maxHeartbeats 8000000 in
set_option maxRecDepth 100000 in
theorem perm_turns.calls (a0 : Bool) (r1 : Int) (r2 : Int) (r3 : Int) (r4 : Int) (r5 : Int) (r6 : Int) (r7 : Int) (r8 : Int) (w : World) (h : perm_turns.f a0 = some (r1, r2, r3, r4, r5, r6, r7, r8)) :
  Calls Try.prog 52 #[.bool a0] w fun e w' => e = .returned (.agg #[.int .i64 r1, .int .i64 r2, .int .i64 r3, .int .i64 r4, .int .i64 r5, .int .i64 r6, .int .i64 r7, .int .i64 r8]) ∧ Below w.heap.size w w' := by
 have hu79 := Try.underlying79
 have HB := Aside0.mk (Below.refl w.heap.size w)
 have H : (if a0 = true then (some (1, 3, 5, 7, 0, 2, 4, 6)) else (some (0, 1, 2, 3, 4, 5, 6, 7))) = some (r1, r2, r3, r4, r5, r6, r7, r8) := h
 clear h
 by_cases c2 : a0 = true
 ·subst c2
  have H1 : (some (1, 3, 5, 7, 0, 2, 4, 6)) = some (r1, r2, r3, r4, r5, r6, r7, r8) := by rw [if_pos rfl] at H; exact H
  clear H
  have H := H1
  clear H1
  simp only [Option.some.injEq, Prod.mk.injEq] at H
  obtain ⟨rfl, rfl, rfl, rfl, rfl, rfl, rfl, rfl⟩ := H
  go_enter Try.func52, Try.ntmps52
  go_wp2_with (first | ((with_reducible refine gate_dst (N := 2) rfl ?_); refine box_event ?hg (N := 2) ?hd (cs := #[.int .i64 0, .int .i64 0, .int .i64 0, .int .i64 0, .int .i64 0, .int .i64 0, .int .i64 0, .int .i64 0]) (t := 79) ?hr ?_; (case hd => rfl); (case hg => rfl); (case hr => first | (go_simp; done) | (go_simp; rfl)); intro gb214 hg w3 hbox hb; have BK214 := Aside0.mk hbox; have GW214 := ge hg HB; have GE214 := ge hg HB; replace HB := bh HB hb; clear hb hbox hg; have hcz4_0 : w3.cell? ⟨gb214, 0, none⟩ = some (.int .i64 0) := (blk_cell BK214.out 0).trans rfl; have hcz4_1 : w3.cell? ⟨gb214, 1, none⟩ = some (.int .i64 0) := (blk_cell BK214.out 1).trans rfl; have hcz4_2 : w3.cell? ⟨gb214, 2, none⟩ = some (.int .i64 0) := (blk_cell BK214.out 2).trans rfl; have hcz4_3 : w3.cell? ⟨gb214, 3, none⟩ = some (.int .i64 0) := (blk_cell BK214.out 3).trans rfl; have hcz4_4 : w3.cell? ⟨gb214, 4, none⟩ = some (.int .i64 0) := (blk_cell BK214.out 4).trans rfl; have hcz4_5 : w3.cell? ⟨gb214, 5, none⟩ = some (.int .i64 0) := (blk_cell BK214.out 5).trans rfl; have hcz4_6 : w3.cell? ⟨gb214, 6, none⟩ = some (.int .i64 0) := (blk_cell BK214.out 6).trans rfl; have hcz4_7 : w3.cell? ⟨gb214, 7, none⟩ = some (.int .i64 0) := (blk_cell BK214.out 7).trans rfl; have hfz4_0 := blk_frozen BK214.out 0; have hfz4_1 := blk_frozen BK214.out 1; have hfz4_2 := blk_frozen BK214.out 2; have hfz4_3 := blk_frozen BK214.out 3; have hfz4_4 := blk_frozen BK214.out 4; have hfz4_5 := blk_frozen BK214.out 5; have hfz4_6 := blk_frozen BK214.out 6; have hfz4_7 := blk_frozen BK214.out 7))
  refine bodyPost_ret (results_cell_row rfl _ _ gb214 79 #[.int .i64 1, .int .i64 3, .int .i64 5, .int .i64 7, .int .i64 0, .int .i64 2, .int .i64 4, .int .i64 6] (0, 0) _ rfl (by (with_reducible repeat refine bl ?_); refine blk_put (cs := #[.int .i64 1, .int .i64 3, .int .i64 5, .int .i64 7, .int .i64 0, .int .i64 2, .int .i64 4, .int .i64 0]) ?_ 7 _ rfl; (with_reducible repeat refine bl ?_); refine blk_put (cs := #[.int .i64 1, .int .i64 3, .int .i64 5, .int .i64 7, .int .i64 0, .int .i64 2, .int .i64 0, .int .i64 0]) ?_ 6 _ rfl; (with_reducible repeat refine bl ?_); refine blk_put (cs := #[.int .i64 1, .int .i64 3, .int .i64 5, .int .i64 7, .int .i64 0, .int .i64 0, .int .i64 0, .int .i64 0]) ?_ 5 _ rfl; (with_reducible repeat refine bl ?_); refine blk_put (cs := #[.int .i64 1, .int .i64 3, .int .i64 5, .int .i64 7, .int .i64 0, .int .i64 0, .int .i64 0, .int .i64 0]) ?_ 4 _ rfl; (with_reducible repeat refine bl ?_); refine blk_put (cs := #[.int .i64 1, .int .i64 3, .int .i64 5, .int .i64 0, .int .i64 0, .int .i64 0, .int .i64 0, .int .i64 0]) ?_ 3 _ rfl; (with_reducible repeat refine bl ?_); refine blk_put (cs := #[.int .i64 1, .int .i64 3, .int .i64 0, .int .i64 0, .int .i64 0, .int .i64 0, .int .i64 0, .int .i64 0]) ?_ 2 _ rfl; (with_reducible repeat refine bl ?_); refine blk_put (cs := #[.int .i64 1, .int .i64 0, .int .i64 0, .int .i64 0, .int .i64 0, .int .i64 0, .int .i64 0, .int .i64 0]) ?_ 1 _ rfl; (with_reducible repeat refine bl ?_); refine blk_put (cs := #[.int .i64 0, .int .i64 0, .int .i64 0, .int .i64 0, .int .i64 0, .int .i64 0, .int .i64 0, .int .i64 0]) ?_ 0 _ rfl; (with_reducible repeat refine bl ?_); exact BK214.out) Try.underlying79 rfl (by kernel_rfl)) rfl ?_
  exact ⟨by first | rfl | (simp [errW_none, errW_some] <;> rfl) | (simp [*, errW_none, errW_some] <;> rfl), bq HB.out⟩
 ·replace c2 := Bool.eq_false_iff.mpr c2
  subst c2
  have H1 : (some (0, 1, 2, 3, 4, 5, 6, 7)) = some (r1, r2, r3, r4, r5, r6, r7, r8) := by rw [if_neg (show ¬ (false = true) by decide)] at H; exact H
  clear H
  have H := H1
  clear H1
  simp only [Option.some.injEq, Prod.mk.injEq] at H
  obtain ⟨rfl, rfl, rfl, rfl, rfl, rfl, rfl, rfl⟩ := H
  go_enter Try.func52, Try.ntmps52
  go_wp2_with (first | ((with_reducible refine gate_dst (N := 2) rfl ?_); refine box_event ?hg (N := 2) ?hd (cs := #[.int .i64 0, .int .i64 0, .int .i64 0, .int .i64 0, .int .i64 0, .int .i64 0, .int .i64 0, .int .i64 0]) (t := 79) ?hr ?_; (case hd => rfl); (case hg => rfl); (case hr => first | (go_simp; done) | (go_simp; rfl)); intro gb214 hg w5 hbox hb; have BK214 := Aside0.mk hbox; have GW214 := ge hg HB; have GE214 := ge hg HB; replace HB := bh HB hb; clear hb hbox hg; have hcz6_0 : w5.cell? ⟨gb214, 0, none⟩ = some (.int .i64 0) := (blk_cell BK214.out 0).trans rfl; have hcz6_1 : w5.cell? ⟨gb214, 1, none⟩ = some (.int .i64 0) := (blk_cell BK214.out 1).trans rfl; have hcz6_2 : w5.cell? ⟨gb214, 2, none⟩ = some (.int .i64 0) := (blk_cell BK214.out 2).trans rfl; have hcz6_3 : w5.cell? ⟨gb214, 3, none⟩ = some (.int .i64 0) := (blk_cell BK214.out 3).trans rfl; have hcz6_4 : w5.cell? ⟨gb214, 4, none⟩ = some (.int .i64 0) := (blk_cell BK214.out 4).trans rfl; have hcz6_5 : w5.cell? ⟨gb214, 5, none⟩ = some (.int .i64 0) := (blk_cell BK214.out 5).trans rfl; have hcz6_6 : w5.cell? ⟨gb214, 6, none⟩ = some (.int .i64 0) := (blk_cell BK214.out 6).trans rfl; have hcz6_7 : w5.cell? ⟨gb214, 7, none⟩ = some (.int .i64 0) := (blk_cell BK214.out 7).trans rfl; have hfz6_0 := blk_frozen BK214.out 0; have hfz6_1 := blk_frozen BK214.out 1; have hfz6_2 := blk_frozen BK214.out 2; have hfz6_3 := blk_frozen BK214.out 3; have hfz6_4 := blk_frozen BK214.out 4; have hfz6_5 := blk_frozen BK214.out 5; have hfz6_6 := blk_frozen BK214.out 6; have hfz6_7 := blk_frozen BK214.out 7))
  refine bodyPost_ret (results_cell_row rfl _ _ gb214 79 #[.int .i64 0, .int .i64 1, .int .i64 2, .int .i64 3, .int .i64 4, .int .i64 5, .int .i64 6, .int .i64 7] (0, 0) _ rfl (by (with_reducible repeat refine bl ?_); refine blk_put (cs := #[.int .i64 0, .int .i64 1, .int .i64 2, .int .i64 3, .int .i64 4, .int .i64 5, .int .i64 6, .int .i64 0]) ?_ 7 _ rfl; (with_reducible repeat refine bl ?_); refine blk_put (cs := #[.int .i64 0, .int .i64 1, .int .i64 2, .int .i64 3, .int .i64 4, .int .i64 5, .int .i64 0, .int .i64 0]) ?_ 6 _ rfl; (with_reducible repeat refine bl ?_); refine blk_put (cs := #[.int .i64 0, .int .i64 1, .int .i64 2, .int .i64 3, .int .i64 4, .int .i64 0, .int .i64 0, .int .i64 0]) ?_ 5 _ rfl; (with_reducible repeat refine bl ?_); refine blk_put (cs := #[.int .i64 0, .int .i64 1, .int .i64 2, .int .i64 3, .int .i64 0, .int .i64 0, .int .i64 0, .int .i64 0]) ?_ 4 _ rfl; (with_reducible repeat refine bl ?_); refine blk_put (cs := #[.int .i64 0, .int .i64 1, .int .i64 2, .int .i64 0, .int .i64 0, .int .i64 0, .int .i64 0, .int .i64 0]) ?_ 3 _ rfl; (with_reducible repeat refine bl ?_); refine blk_put (cs := #[.int .i64 0, .int .i64 1, .int .i64 0, .int .i64 0, .int .i64 0, .int .i64 0, .int .i64 0, .int .i64 0]) ?_ 2 _ rfl; (with_reducible repeat refine bl ?_); refine blk_put (cs := #[.int .i64 0, .int .i64 0, .int .i64 0, .int .i64 0, .int .i64 0, .int .i64 0, .int .i64 0, .int .i64 0]) ?_ 1 _ rfl; (with_reducible repeat refine bl ?_); refine blk_put (cs := #[.int .i64 0, .int .i64 0, .int .i64 0, .int .i64 0, .int .i64 0, .int .i64 0, .int .i64 0, .int .i64 0]) ?_ 0 _ rfl; (with_reducible repeat refine bl ?_); exact BK214.out) Try.underlying79 rfl (by kernel_rfl)) rfl ?_
  exact ⟨by first | rfl | (simp [errW_none, errW_some] <;> rfl) | (simp [*, errW_none, errW_some] <;> rfl), bq HB.out⟩

-- NOT PRINTED: function 40 (perm_state_turn)

-- NOT PRINTED: function 41 (perm_state_mix)

-- NOT PRINTED: function 37 (perm_Tables_on_1)

-- NOT PRINTED: function 27 (perm_Tables_on)

-- NOT PRINTED: function 14 (perm_Tables_P)

-- NOT PRINTED: function 15 (perm_Tables_Q)

/-! ### tower_One: function 57 -/
def tower_One.f  : Option (Int × Int) := some (0, 1)
set_option maxHeartbeats 8000000 in
set_option maxRecDepth 100000 in
theorem tower_One.calls  (r1 : Int) (r2 : Int) (w : World) (h : tower_One.f  = some (r1, r2)) :
  Calls Try.prog 57 #[] w fun e w' => e = .returned (.agg #[.int .u64 r1, .int .u64 r2]) ∧ Below w.heap.size w w' := by
 have hu59 := Try.underlying59
 have HB := Aside0.mk (Below.refl w.heap.size w)
 have H : (some (0, 1)) = some (r1, r2) := h
 clear h
 simp only [Option.some.injEq, Prod.mk.injEq] at H
 obtain ⟨rfl, rfl⟩ := H
 go_enter Try.func57, Try.ntmps57
 go_wp2_with (first | ((with_reducible refine gate_dst (N := 0) rfl ?_); refine box_event ?hg (N := 0) ?hd (cs := #[.int .u64 0, .int .u64 0]) (t := 59) ?hr ?_; (case hd => rfl); (case hg => rfl); (case hr => first | (go_simp; done) | (go_simp; rfl)); intro gb215 hg w1 hbox hb; have BK215 := Aside0.mk hbox; have GW215 := ge hg HB; have GE215 := ge hg HB; replace HB := bh HB hb; clear hb hbox hg; obtain ⟨hcz2_0, hcz2_1⟩ := zc2 BK215; obtain ⟨hfz2_0, hfz2_1⟩ := zf2 BK215))
 refine bodyPost_ret (results_cell_row rfl _ _ gb215 59 #[.int .u64 0, .int .u64 1] (0, 0) _ rfl (by (with_reducible repeat refine bl ?_); refine blk_put (cs := #[.int .u64 0, .int .u64 0]) ?_ 1 _ rfl; (with_reducible repeat refine bl ?_); refine blk_put (cs := #[.int .u64 0, .int .u64 0]) ?_ 0 _ rfl; (with_reducible repeat refine bl ?_); exact BK215.out) Try.underlying59 rfl (by kernel_rfl)) rfl ?_
 exact ⟨by first | rfl | (simp [errW_none, errW_some] <;> rfl) | (simp [*, errW_none, errW_some] <;> rfl), bq HB.out⟩

/-! ### tower_Square: function 58 -/
def tower_Square.f (k : Nat) (a0 : Int) (a1_0 : Int) (a1_1 : Int) : Option (Int × Int) := (octet_Of.f k a0 a1_0 a1_1).bind fun t218 => (if t218 = true then (if a0 ≤ 6 then ((tower_square.f k a0 a1_1).bind fun t219 => (some (0, t219))) else ((tower_square.f k 6 a1_0).bind fun t220 => ((tower_mulX.f k 6 t220).bind fun t221 => ((tower_square.f k 6 a1_1).bind fun t222 => (some (t221, Go.bits .xor .u64 t222 t220)))))) else (some (0, 0)))
theorem tower_Square.mono : ∀ a0 a1 a2 k, LeO (tower_Square.f k a0 a1 a2) (tower_Square.f (k + 1) a0 a1 a2) := by
 intro a0 a1 a2 k
 unfold tower_Square.f
 repeat' first
   | (with_reducible exact octet_Of.mono _ _ _ _)
   | (with_reducible exact tower_mulX.mono _ _ _)
   | (with_reducible exact tower_square.mono _ _ _)
   | (with_reducible exact LeO.refl _)
   | (with_reducible exact LeO.none _)
   | (with_reducible refine LeO.ite ?_ ?_)
   | (with_reducible refine LeO.bind ?_ (fun _ => ?_))
   | exact octet_Of.mono _ _ _ _
   | exact tower_mulX.mono _ _ _
   | exact tower_square.mono _ _ _
   | exact LeO.none _
   | refine LeO.ite ?_ ?_
   | refine LeO.bind ?_ (fun _ => ?_)
def tower_Square.T6 : Bool × List (List Nat × List Nat) := (true, [([], []), ([0], [0]), ([], []), ([2], [2]), ([3, 1], [3]), ([], []), ([4, 5], [4, 5]), ([1, 6], [1, 6]), ([7, 4, 0, 1, 2, 3, 4, 5, 6, 7], [7])])
def tower_Square.B6 : List Nat := [0, 1, 0, 4, 15, 0, 63, 127, 255]
theorem tower_Square.tab6 : rtab .any (opsOf Try.f58 6) = tower_Square.T6 := by kernel_rfl
theorem tower_Square.bits6 : waitsOk tower_Square.T6.2 tower_Square.B6 = true := by kernel_rfl
set_option maxHeartbeats 8000000 in
set_option maxRecDepth 100000 in
theorem tower_Square.calls (k : Nat) (a0 : Int) (a1_0 : Int) (a1_1 : Int) (r1 : Int) (r2 : Int) (w : World) (h : tower_Square.f k a0 a1_0 a1_1 = some (r1, r2)) :
  Calls Try.prog 58 #[.int .i64 a0, .agg #[.int .u64 a1_0, .int .u64 a1_1]] w fun e w' => e = .returned (.agg #[.int .u64 r1, .int .u64 r2]) ∧ Below w.heap.size w w' := by
 have hu59 := Try.underlying59
 have HB := Aside0.mk (Below.refl w.heap.size w)
 have H : ((octet_Of.f k a0 a1_0 a1_1).bind fun t218 => (if t218 = true then (if a0 ≤ 6 then ((tower_square.f k a0 a1_1).bind fun t219 => (some (0, t219))) else ((tower_square.f k 6 a1_0).bind fun t220 => ((tower_mulX.f k 6 t220).bind fun t221 => ((tower_square.f k 6 a1_1).bind fun t222 => (some (t221, Go.bits .xor .u64 t222 t220)))))) else (some (0, 0)))) = some (r1, r2) := h
 clear h
 replace H := Option.bind_eq_some_iff.mp H
 obtain ⟨t218, A30, H⟩ := H
 replace H : (if t218 = true then (if a0 ≤ 6 then ((tower_square.f k a0 a1_1).bind fun t219 => (some (0, t219))) else ((tower_square.f k 6 a1_0).bind fun t220 => ((tower_mulX.f k 6 t220).bind fun t221 => ((tower_square.f k 6 a1_1).bind fun t222 => (some (t221, Go.bits .xor .u64 t222 t220)))))) else (some (0, 0))) = some (r1, r2) := H
 have A3 := Aside0.mk A30
 clear A30
 by_cases c4 : t218 = true
 ·subst c4
  have H1 : (if a0 ≤ 6 then ((tower_square.f k a0 a1_1).bind fun t219 => (some (0, t219))) else ((tower_square.f k 6 a1_0).bind fun t220 => ((tower_mulX.f k 6 t220).bind fun t221 => ((tower_square.f k 6 a1_1).bind fun t222 => (some (t221, Go.bits .xor .u64 t222 t220)))))) = some (r1, r2) := by rw [if_pos rfl] at H; exact H
  clear H
  have H := H1
  clear H1
  by_cases c5 : a0 ≤ 6
  ·rw [if_pos c5] at H
   have c5b0 : decide (a0 ≤ 6) = true := decide_eq_true c5
   clear c5
   replace H := Option.bind_eq_some_iff.mp H
   obtain ⟨t219, A60, H⟩ := H
   replace H : (some (0, t219)) = some (r1, r2) := H
   have A6 := Aside0.mk A60
   clear A60
   simp only [Option.some.injEq, Prod.mk.injEq] at H
   obtain ⟨rfl, rfl⟩ := H
   go_enter Try.func58, Try.ntmps58
   go_wp2_with (first | ((with_reducible refine gate_dst (N := 3) rfl ?_); refine box_event ?hg (N := 3) ?hd (cs := #[.int .u64 a1_0, .int .u64 a1_1]) (t := 59) ?hr ?_; (case hd => rfl); (case hg => rfl); (case hr => first | (go_simp; done) | (go_simp; rfl)); intro gb216 hg w7 hbox hb; have BK216 := Aside0.mk hbox; have GW216 := ge hg HB; have GE216 := ge hg HB; replace HB := bh HB hb; clear hb hbox hg) | ((with_reducible refine gate_dst (N := 4) rfl ?_); refine box_event ?hg (N := 4) ?hd (cs := #[.int .u64 0, .int .u64 0]) (t := 59) ?hr ?_; (case hd => rfl); (case hg => rfl); (case hr => first | (go_simp; done) | (go_simp; rfl)); intro gb217 hg w8 hbox hb; have BK217 := Aside0.mk hbox; have GW217 := ge hg HB; have GE217 := ge hg HB; have NB216_217 := nl hg BK216; have NB217_216 := ng hg BK216; replace BK216 := bb BK216 hb; replace HB := bh HB hb; clear hb hbox hg; have hnb9 := NB216_217.out; have hnc9 := NB217_216.out; obtain ⟨hcz10_0, hcz10_1⟩ := zc2 BK216; obtain ⟨hfz10_0, hfz10_1⟩ := zf2 BK216) | ((with_reducible refine gate_callee (f := 44) rfl ?_); refine goesL_ (some 9) rfl rfl Try.func44 (by kernel_rfl) rfl #[.int .i64 a0, .agg #[.int .u64 a1_0, .int .u64 a1_1]] rfl (by (try simp only [List.map_toArray, List.map_cons, List.map_nil]); first | done | rfl | (simp only [List.length_drop, List.length_take]; rfl)) ?_; (with_reducible refine (octet_Of.calls k a0 a1_0 a1_1 true _ A3.out).mono ?_); rintro e w11 ⟨rfl, hb⟩; refine ⟨_, rfl, ?_⟩; replace BK216 := bb BK216 hb; replace BK217 := bb BK217 hb; replace HB := bh HB hb; (try clear hb); (try clear hb2); (try clear hk); (try clear hi); obtain ⟨hcz12_0, hcz12_1⟩ := zc2 BK216; obtain ⟨hfz12_0, hfz12_1⟩ := zf2 BK216) | ((with_reducible refine gate_callee (f := 48) rfl ?_); refine goesL_ (some 18) rfl rfl Try.func48 (by kernel_rfl) rfl #[.int .i64 a0, .int .u64 a1_1] rfl (by (try simp only [List.map_toArray, List.map_cons, List.map_nil]); first | done | rfl | (simp only [List.length_drop, List.length_take]; rfl)) ?_; (with_reducible refine (tower_square.calls k a0 a1_1 t219 _ A6.out).mono ?_); rintro e w' ⟨rfl, ⟨nd, rfl⟩⟩; refine ⟨_, rfl, ?_⟩; (try (rw [drewN_self w11]; generalize hq_ : World.drewN w11 _ = w11; have n0_ : Aside0 (w11.heap[gb216]? = some (.cells #[.int .u64 a1_0, .int .u64 a1_1] 59 (0, 0))) := ⟨by rw [← hq_]; exact (bk BK216.out)⟩; have n1_ : Aside0 (w11.heap[gb217]? = some (.cells #[.int .u64 0, .int .u64 0] 59 (0, 0))) := ⟨by rw [← hq_]; exact (bk BK217.out)⟩; have n2_ : Aside0 (Below w.heap.size w w11) := ⟨by rw [← hq_]; exact (bq HB.out)⟩; clear BK216 BK217 HB hq_; have BK216 := n0_; have BK217 := n1_; have HB := n2_; clear n0_ n1_ n2_)); obtain ⟨hcz13_0, hcz13_1⟩ := zc2 BK217; obtain ⟨hfz13_0, hfz13_1⟩ := zf2 BK217))
   refine bodyPost_ret (results_cell_row rfl _ _ gb217 59 #[.int .u64 0, .int .u64 t219] (0, 0) _ rfl (by (with_reducible repeat refine bl ?_); refine blk_put (cs := #[.int .u64 0, .int .u64 0]) ?_ 1 _ rfl; (with_reducible repeat refine bl ?_); refine blk_put (cs := #[.int .u64 0, .int .u64 0]) ?_ 0 _ rfl; (with_reducible repeat refine bl ?_); exact BK217.out) Try.underlying59 rfl (by kernel_rfl)) rfl ?_
   exact ⟨by first | rfl | (simp [errW_none, errW_some] <;> rfl) | (simp [*, errW_none, errW_some] <;> rfl), bq HB.out⟩
  ·rw [if_neg c5] at H
   have c5b0 : decide (a0 ≤ 6) = false := decide_eq_false c5
   clear c5
   replace H := Option.bind_eq_some_iff.mp H
   obtain ⟨t220, A140, H⟩ := H
   replace H : ((tower_mulX.f k 6 t220).bind fun t221 => ((tower_square.f k 6 a1_1).bind fun t222 => (some (t221, Go.bits .xor .u64 t222 t220)))) = some (r1, r2) := H
   have A14 := Aside0.mk A140
   clear A140
   replace H := Option.bind_eq_some_iff.mp H
   obtain ⟨t221, A150, H⟩ := H
   replace H : ((tower_square.f k 6 a1_1).bind fun t222 => (some (t221, Go.bits .xor .u64 t222 t220))) = some (r1, r2) := H
   have A15 := Aside0.mk A150
   clear A150
   replace H := Option.bind_eq_some_iff.mp H
   obtain ⟨t222, A160, H⟩ := H
   replace H : (some (t221, Go.bits .xor .u64 t222 t220)) = some (r1, r2) := H
   have A16 := Aside0.mk A160
   clear A160
   simp only [Option.some.injEq, Prod.mk.injEq] at H
   obtain ⟨rfl, rfl⟩ := H
   go_enter Try.func58, Try.ntmps58
   try go_wp2_with (first | ((with_reducible refine gate_dst (N := 3) rfl ?_); refine box_event ?hg (N := 3) ?hd (cs := #[.int .u64 a1_0, .int .u64 a1_1]) (t := 59) ?hr ?_; (case hd => rfl); (case hg => rfl); (case hr => first | (go_simp; done) | (go_simp; rfl)); intro gb216 hg w17 hbox hb; have BK216 := Aside0.mk hbox; have GW216 := ge hg HB; have GE216 := ge hg HB; replace HB := bh HB hb; clear hb hbox hg) | ((with_reducible refine gate_dst (N := 4) rfl ?_); refine box_event ?hg (N := 4) ?hd (cs := #[.int .u64 0, .int .u64 0]) (t := 59) ?hr ?_; (case hd => rfl); (case hg => rfl); (case hr => first | (go_simp; done) | (go_simp; rfl)); intro gb217 hg w18 hbox hb; have BK217 := Aside0.mk hbox; have GW217 := ge hg HB; have GE217 := ge hg HB; have NB216_217 := nl hg BK216; have NB217_216 := ng hg BK216; replace BK216 := bb BK216 hb; replace HB := bh HB hb; clear hb hbox hg; have hnb19 := NB216_217.out; have hnc19 := NB217_216.out; obtain ⟨hcz20_0, hcz20_1⟩ := zc2 BK216; obtain ⟨hfz20_0, hfz20_1⟩ := zf2 BK216) | ((with_reducible refine gate_callee (f := 44) rfl ?_); refine goesL_ (some 9) rfl rfl Try.func44 (by kernel_rfl) rfl #[.int .i64 a0, .agg #[.int .u64 a1_0, .int .u64 a1_1]] rfl (by (try simp only [List.map_toArray, List.map_cons, List.map_nil]); first | done | rfl | (simp only [List.length_drop, List.length_take]; rfl)) ?_; (with_reducible refine (octet_Of.calls k a0 a1_0 a1_1 true _ A3.out).mono ?_); rintro e w21 ⟨rfl, hb⟩; refine ⟨_, rfl, ?_⟩; replace BK216 := bb BK216 hb; replace BK217 := bb BK217 hb; replace HB := bh HB hb; (try clear hb); (try clear hb2); (try clear hk); (try clear hi); obtain ⟨hcz22_0, hcz22_1⟩ := zc2 BK216; obtain ⟨hfz22_0, hfz22_1⟩ := zf2 BK216) | ((with_reducible refine gate_callee (f := 48) rfl ?_); refine goesL_ (some 22) rfl rfl Try.func48 (by kernel_rfl) rfl #[.int .i64 6, .int .u64 a1_0] rfl (by (try simp only [List.map_toArray, List.map_cons, List.map_nil]); first | done | rfl | (simp only [List.length_drop, List.length_take]; rfl)) ?_; (with_reducible refine (tower_square.calls k 6 a1_0 t220 _ A14.out).mono ?_); rintro e w' ⟨rfl, ⟨nd, rfl⟩⟩; refine ⟨_, rfl, ?_⟩; (try (rw [drewN_self w21]; generalize hq_ : World.drewN w21 _ = w21; have n0_ : Aside0 (w21.heap[gb216]? = some (.cells #[.int .u64 a1_0, .int .u64 a1_1] 59 (0, 0))) := ⟨by rw [← hq_]; exact (bk BK216.out)⟩; have n1_ : Aside0 (w21.heap[gb217]? = some (.cells #[.int .u64 0, .int .u64 0] 59 (0, 0))) := ⟨by rw [← hq_]; exact (bk BK217.out)⟩; have n2_ : Aside0 (Below w.heap.size w w21) := ⟨by rw [← hq_]; exact (bq HB.out)⟩; clear BK216 BK217 HB hq_; have BK216 := n0_; have BK217 := n1_; have HB := n2_; clear n0_ n1_ n2_))))
   replace BK216 := Aside0.mk (blk_drew BK216.out)
   replace BK217 := Aside0.mk (blk_drew BK217.out)
   replace HB := Aside0.mk (below_drew1 HB.out)
   refine start_ (n := 9) (S := fun w' => w'.cell? ⟨gb216, 0, none⟩ = some (.int .u64 a1_0) ∧ w'.cell? ⟨gb216, 1, none⟩ = some (.int .u64 a1_1)) (ds := []) #[false, false, false, false, false, false, false, false, false] (by kernel_rfl) rfl rfl ⟨(blk_cell BK216.out 0).trans rfl, (blk_cell BK216.out 1).trans rfl⟩ (fun hHeld => ?_); refine with_tabW tower_Square.tab6 tower_Square.bits6 (fun HT_ HW_ => ?_)
   generalize w21.drew = w23 at BK216 BK217 HB hHeld ⊢
   refine pure_ (i := 0) (N := some 23) (v := ?_) (a' := ?_) #[true, false, false, false, false, false, false, false, false] rfl rfl (any_of HT_.out (by kernel_rfl)) (fun _ _ _ h => h) (Or.inl ⟨by rfl, ?_⟩) ?_ ?_
   rotate_left
   ·intro w'
    go_simp
    with_reducible rfl
   rotate_left
   ·simp only [Act.put, List.setIfInBounds_toArray, List.set_cons_zero, List.set_cons_succ, i64_w, i32_w]
    rfl
   refine pure_ (i := 2) (N := some 25) (v := ?_) (a' := ?_) #[true, false, true, false, false, false, false, false, false] rfl rfl (any_of HT_.out (by kernel_rfl)) (fun _ _ _ h => h) (Or.inl ⟨by rfl, ?_⟩) ?_ ?_
   rotate_left
   ·intro w'
    go_simp
    with_reducible rfl
   rotate_left
   ·simp only [Act.put, List.setIfInBounds_toArray, List.set_cons_zero, List.set_cons_succ, i64_w, i32_w]
    rfl
   refine pure_ (i := 5) (N := some 28) (v := ?_) (a' := ?_) #[true, false, true, false, false, true, false, false, false] rfl rfl (any_of HT_.out (by kernel_rfl)) (fun _ _ _ h => h) (Or.inl ⟨by rfl, ?_⟩) ?_ ?_
   rotate_left
   ·intro w'
    go_simp
    with_reducible rfl
   rotate_left
   ·simp only [Act.put, List.setIfInBounds_toArray, List.set_cons_zero, List.set_cons_succ, i64_w, i32_w]
    rfl
   refine take_ (i := 3) (N := some 26) (v := ?_) (a' := ?_) #[true, false, true, true, false, true, false, false, false] rfl rfl (take_ofW HT_.out HW_.out (by kernel_rfl)) (fun _ _ _ h => h) (Or.inl ⟨by rfl, ?_⟩) hHeld ?_ ?_
   rotate_left
   ·rintro w' ⟨s0, s1⟩
    go_simp
    with_reducible rfl
   rotate_left
   ·simp only [Act.put, List.setIfInBounds_toArray, List.set_cons_zero, List.set_cons_succ, i64_w, i32_w]
    rfl
   refine one_ (i := 1) (N := some 24) #[true, true, true, true, false, true, false, false, false] rfl rfl (one_of HT_.out (by kernel_rfl)) (by decide) (fun K hK => ?_)
   refine goes_ Try.func46 (by kernel_rfl) rfl #[.int .i64 6, .int .u64 t220] (by rfl) rfl rfl (by (try simp only [List.map_toArray, List.map_cons, List.map_nil]); first | done | rfl | (simp only [List.length_drop, List.length_take]; rfl)) ?_
   with_reducible refine (tower_mulX.calls k 6 t220 t221 _ A15.out).mono ?_
   rintro e w' ⟨rfl, ⟨nd, rfl⟩⟩
   refine ⟨_, rfl, ?_⟩
   refine hK.out _ _ ⟨(blk_cell BK216.out 0).trans rfl, (blk_cell BK216.out 1).trans rfl⟩ (fun hHeld => ?_)
   clear hK K
   refine norm_ (a' := ?_) ?_ ?_
   rotate_left
   ·show Act.put _ (some 24) _ = _
    simp only [Act.put, List.setIfInBounds_toArray, List.set_cons_zero, List.set_cons_succ, i64_w, i32_w]
    rfl
   refine one_ (i := 4) (N := some 27) #[true, true, true, true, true, true, false, false, false] rfl rfl (one_of HT_.out (by kernel_rfl)) (by decide) (fun K hK => ?_)
   refine goes_ Try.func48 (by kernel_rfl) rfl #[.int .i64 6, .int .u64 a1_1] (by rfl) rfl rfl (by (try simp only [List.map_toArray, List.map_cons, List.map_nil]); first | done | rfl | (simp only [List.length_drop, List.length_take]; rfl)) ?_
   with_reducible refine (tower_square.calls k 6 a1_1 t222 _ A16.out).mono ?_
   rintro e w' ⟨rfl, ⟨nd, rfl⟩⟩
   refine ⟨_, rfl, ?_⟩
   refine hK.out _ _ ⟨(blk_cell BK216.out 0).trans rfl, (blk_cell BK216.out 1).trans rfl⟩ (fun hHeld => ?_)
   clear hK K
   refine norm_ (a' := ?_) ?_ ?_
   rotate_left
   ·show Act.put _ (some 27) _ = _
    simp only [Act.put, List.setIfInBounds_toArray, List.set_cons_zero, List.set_cons_succ, i64_w, i32_w]
    rfl
   refine pure_ (i := 6) (N := some 29) (v := ?_) (a' := ?_) #[true, true, true, true, true, true, true, false, false] rfl rfl (any_of HT_.out (by kernel_rfl)) (fun _ _ _ h => h) (Or.inl ⟨by rfl, ?_⟩) ?_ ?_
   rotate_left
   ·intro w'
    go_simp
    with_reducible rfl
   rotate_left
   ·simp only [Act.put, List.setIfInBounds_toArray, List.set_cons_zero, List.set_cons_succ, i64_w, i32_w]
    rfl
   refine pure_ (i := 7) (N := some 30) (v := ?_) (a' := ?_) #[true, true, true, true, true, true, true, true, false] rfl rfl (any_of HT_.out (by kernel_rfl)) (fun _ _ _ h => h) (Or.inl ⟨by rfl, ?_⟩) ?_ ?_
   rotate_left
   ·intro w'
    go_simp
    with_reducible rfl
   rotate_left
   ·simp only [Act.put, List.setIfInBounds_toArray, List.set_cons_zero, List.set_cons_succ, i64_w, i32_w]
    rfl
   refine one_ (i := 8) (N := none) #[true, true, true, true, true, true, true, true, true] rfl rfl (one_of HT_.out (by kernel_rfl)) (by decide) (fun K hK => ?_)
   have hs24 : w23.cell? ⟨gb217, 0, none⟩ = some (.int .u64 0) := (blk_cell BK217.out 0).trans rfl
   have hfs24 := blk_frozen BK217.out 0
   have hns24_0 := NB216_217.out
   have hms24_0 := NB217_216.out
   have hs25 : w23.cell? ⟨gb217, 1, none⟩ = some (.int .u64 0) := (blk_cell BK217.out 1).trans rfl
   have hfs25 := blk_frozen BK217.out 1
   have hns25_0 := NB216_217.out
   have hms25_0 := NB217_216.out
   refine skip_ (w1 := ?_) (by rfl) rfl ?_ ?_
   rotate_left
   ·go_simp
    rfl
   refine hK.out _ _ ⟨((cell_far (p := ⟨gb217, _, none⟩) NB216_217.out _).trans (((cell_far (p := ⟨gb217, _, none⟩) NB216_217.out _).trans (hHeld.1)))), ((cell_far (p := ⟨gb217, _, none⟩) NB216_217.out _).trans (((cell_far (p := ⟨gb217, _, none⟩) NB216_217.out _).trans (hHeld.2))))⟩ (fun hHeld => ?_)
   clear hK K
   refine done_ (done_of HT_.out (by kernel_rfl)) ?_
   try go_wp2
   refine bodyPost_ret (results_cell_row rfl _ _ gb217 59 #[.int .u64 t221, .int .u64 (Go.bits .xor .u64 t222 t220)] (0, 0) _ rfl (by (with_reducible repeat refine bl ?_); refine blk_put (cs := #[.int .u64 t221, .int .u64 0]) ?_ 1 _ rfl; (with_reducible repeat refine bl ?_); refine blk_put (cs := #[.int .u64 0, .int .u64 0]) ?_ 0 _ rfl; (with_reducible repeat refine bl ?_); exact BK217.out) Try.underlying59 rfl (by kernel_rfl)) rfl ?_
   exact ⟨by first | rfl | (simp [errW_none, errW_some] <;> rfl) | (simp [*, errW_none, errW_some] <;> rfl), bq HB.out⟩
 ·replace c4 := Bool.eq_false_iff.mpr c4
  subst c4
  have H1 : (some (0, 0)) = some (r1, r2) := by rw [if_neg (show ¬ (false = true) by decide)] at H; exact H
  clear H
  have H := H1
  clear H1
  simp only [Option.some.injEq, Prod.mk.injEq] at H
  obtain ⟨rfl, rfl⟩ := H
  go_enter Try.func58, Try.ntmps58
  go_wp2_with (first | ((with_reducible refine gate_dst (N := 3) rfl ?_); refine box_event ?hg (N := 3) ?hd (cs := #[.int .u64 a1_0, .int .u64 a1_1]) (t := 59) ?hr ?_; (case hd => rfl); (case hg => rfl); (case hr => first | (go_simp; done) | (go_simp; rfl)); intro gb216 hg w26 hbox hb; have BK216 := Aside0.mk hbox; have GW216 := ge hg HB; have GE216 := ge hg HB; replace HB := bh HB hb; clear hb hbox hg) | ((with_reducible refine gate_dst (N := 4) rfl ?_); refine box_event ?hg (N := 4) ?hd (cs := #[.int .u64 0, .int .u64 0]) (t := 59) ?hr ?_; (case hd => rfl); (case hg => rfl); (case hr => first | (go_simp; done) | (go_simp; rfl)); intro gb217 hg w27 hbox hb; have BK217 := Aside0.mk hbox; have GW217 := ge hg HB; have GE217 := ge hg HB; have NB216_217 := nl hg BK216; have NB217_216 := ng hg BK216; replace BK216 := bb BK216 hb; replace HB := bh HB hb; clear hb hbox hg; have hnb28 := NB216_217.out; have hnc28 := NB217_216.out; obtain ⟨hcz29_0, hcz29_1⟩ := zc2 BK216; obtain ⟨hfz29_0, hfz29_1⟩ := zf2 BK216) | ((with_reducible refine gate_callee (f := 44) rfl ?_); refine goesL_ (some 9) rfl rfl Try.func44 (by kernel_rfl) rfl #[.int .i64 a0, .agg #[.int .u64 a1_0, .int .u64 a1_1]] rfl (by (try simp only [List.map_toArray, List.map_cons, List.map_nil]); first | done | rfl | (simp only [List.length_drop, List.length_take]; rfl)) ?_; (with_reducible refine (octet_Of.calls k a0 a1_0 a1_1 false _ A3.out).mono ?_); rintro e w30 ⟨rfl, hb⟩; refine ⟨_, rfl, ?_⟩; replace BK216 := bb BK216 hb; replace BK217 := bb BK217 hb; replace HB := bh HB hb; (try clear hb); (try clear hb2); (try clear hk); (try clear hi); obtain ⟨hcz31_0, hcz31_1⟩ := zc2 BK217; obtain ⟨hfz31_0, hfz31_1⟩ := zf2 BK217))
  refine bodyPost_ret (results_cell_row rfl _ _ gb217 59 #[.int .u64 0, .int .u64 0] (0, 0) _ rfl (by (with_reducible repeat refine bl ?_); refine blk_put (cs := #[.int .u64 0, .int .u64 0]) ?_ 1 _ rfl; (with_reducible repeat refine bl ?_); refine blk_put (cs := #[.int .u64 0, .int .u64 0]) ?_ 0 _ rfl; (with_reducible repeat refine bl ?_); exact BK217.out) Try.underlying59 rfl (by kernel_rfl)) rfl ?_
  exact ⟨by first | rfl | (simp [errW_none, errW_some] <;> rfl) | (simp [*, errW_none, errW_some] <;> rfl), bq HB.out⟩

/-! ### tower_Pow: function 53 -/
def tower_Pow.l0 : Nat → Int → Int → Int → Int → Int → Int → Option (Int × Int)
 | 0, _, _, _, _, _, _ => none
 | k + 1, x0, x2, x224000, x224001, x229000, x229001 => if x2 > 0 then (if (Go.bits .and .u64 x2 1) = 1 then ((tower_Mul.f k x0 x229000 x229001 x224000 x224001).bind fun bt229 => ((tower_Square.f k x0 x224000 x224001).bind fun bt231 => (tower_Pow.l0 k x0 (x2 / 2) bt231.1 bt231.2 bt229.1 bt229.2))) else ((tower_Square.f k x0 x224000 x224001).bind fun bt233 => (tower_Pow.l0 k x0 (x2 / 2) bt233.1 bt233.2 x229000 x229001))) else (some (x229000, x229001))
def tower_Pow.f (k : Nat) (a0 : Int) (a1_0 : Int) (a1_1 : Int) (a2 : Int) : Option (Int × Int) := (octet_Of.f k a0 a1_0 a1_1).bind fun t225 => (if t225 = true then ((tower_One.f).bind fun bt226 => (tower_Pow.l0 k a0 a2 a1_0 a1_1 bt226.1 bt226.2)) else (some (0, 0)))
theorem tower_Pow.mono_l : ∀ k, (∀ y0 y1 y2 y3 y4 y5, LeO (tower_Pow.l0 k y0 y1 y2 y3 y4 y5) (tower_Pow.l0 (k + 1) y0 y1 y2 y3 y4 y5))
 | 0 => fun _ _ _ _ _ _ r h => by simp [tower_Pow.l0] at h
 | k + 1 => by
  have ih0 := tower_Pow.mono_l k
  ·intro y0 y1 y2 y3 y4 y5
   unfold tower_Pow.l0
   repeat' first
   | (with_reducible exact ih0 _ _ _ _ _ _)
   | (with_reducible exact octet_Of.mono _ _ _ _)
   | (with_reducible exact tower_Mul.mono _ _ _ _ _ _)
   | (with_reducible exact tower_Square.mono _ _ _ _)
   | (with_reducible exact LeO.refl _)
   | (with_reducible exact LeO.none _)
   | (with_reducible refine LeO.ite ?_ ?_)
   | (with_reducible refine LeO.bind ?_ (fun _ => ?_))
   | exact ih0 _ _ _ _ _ _
   | exact octet_Of.mono _ _ _ _
   | exact tower_Mul.mono _ _ _ _ _ _
   | exact tower_Square.mono _ _ _ _
   | exact LeO.none _
   | refine LeO.ite ?_ ?_
   | refine LeO.bind ?_ (fun _ => ?_)
theorem tower_Pow.mono : ∀ a0 a1 a2 a3 k, LeO (tower_Pow.f k a0 a1 a2 a3) (tower_Pow.f (k + 1) a0 a1 a2 a3) := by
 intro a0 a1 a2 a3 k
 have ih0 := tower_Pow.mono_l k
 unfold tower_Pow.f
 repeat' first
   | (with_reducible exact ih0 _ _ _ _ _ _)
   | (with_reducible exact octet_Of.mono _ _ _ _)
   | (with_reducible exact tower_Mul.mono _ _ _ _ _ _)
   | (with_reducible exact tower_Square.mono _ _ _ _)
   | (with_reducible exact LeO.refl _)
   | (with_reducible exact LeO.none _)
   | (with_reducible refine LeO.ite ?_ ?_)
   | (with_reducible refine LeO.bind ?_ (fun _ => ?_))
   | exact ih0 _ _ _ _ _ _
   | exact octet_Of.mono _ _ _ _
   | exact tower_Mul.mono _ _ _ _ _ _
   | exact tower_Square.mono _ _ _ _
   | exact LeO.none _
   | refine LeO.ite ?_ ?_
   | refine LeO.bind ?_ (fun _ => ?_)
set_option maxHeartbeats 8000000 in
set_option maxRecDepth 100000 in
theorem tower_Pow.calls (k : Nat) (a0 : Int) (a1_0 : Int) (a1_1 : Int) (a2 : Int) (r1 : Int) (r2 : Int) (w : World) (h : tower_Pow.f k a0 a1_0 a1_1 a2 = some (r1, r2)) :
  Calls Try.prog 53 #[.int .i64 a0, .agg #[.int .u64 a1_0, .int .u64 a1_1], .int .u64 a2] w fun e w' => e = .returned (.agg #[.int .u64 r1, .int .u64 r2]) ∧ Below w.heap.size w w' := by
 have hu59 := Try.underlying59
 have HB := Aside0.mk (Below.refl w.heap.size w)
 have H : ((octet_Of.f k a0 a1_0 a1_1).bind fun t225 => (if t225 = true then ((tower_One.f).bind fun bt226 => (tower_Pow.l0 k a0 a2 a1_0 a1_1 bt226.1 bt226.2)) else (some (0, 0)))) = some (r1, r2) := h
 clear h
 replace H := Option.bind_eq_some_iff.mp H
 obtain ⟨t225, A40, H⟩ := H
 replace H : (if t225 = true then ((tower_One.f).bind fun bt226 => (tower_Pow.l0 k a0 a2 a1_0 a1_1 bt226.1 bt226.2)) else (some (0, 0))) = some (r1, r2) := H
 have A4 := Aside0.mk A40
 clear A40
 by_cases c5 : t225 = true
 ·subst c5
  have H1 : ((tower_One.f).bind fun bt226 => (tower_Pow.l0 k a0 a2 a1_0 a1_1 bt226.1 bt226.2)) = some (r1, r2) := by rw [if_pos rfl] at H; exact H
  clear H
  have H := H1
  clear H1
  replace H := Option.bind_eq_some_iff.mp H
  obtain ⟨⟨t226, t227⟩, A60, H⟩ := H
  replace H : (tower_Pow.l0 k a0 a2 a1_0 a1_1 t226 t227) = some (r1, r2) := H
  have A6 := Aside0.mk A60
  clear A60
  have H' := Aside0.mk H
  clear H
  go_enter Try.func53, Try.ntmps53
  go_wp2_with (first | ((with_reducible refine gate_dst (N := 4) rfl ?_); refine box_event ?hg (N := 4) ?hd (cs := #[.int .u64 a1_0, .int .u64 a1_1]) (t := 59) ?hr ?_; (case hd => rfl); (case hg => rfl); (case hr => first | (go_simp; done) | (go_simp; rfl)); intro gb223 hg w7 hbox hb; have BK223 := Aside0.mk hbox; have GW223 := ge hg HB; have GE223 := ge hg HB; replace HB := bh HB hb; clear hb hbox hg) | ((with_reducible refine gate_dst (N := 6) rfl ?_); refine box_event ?hg (N := 6) ?hd (cs := #[.int .u64 0, .int .u64 0]) (t := 59) ?hr ?_; (case hd => rfl); (case hg => rfl); (case hr => first | (go_simp; done) | (go_simp; rfl)); intro gb224 hg w8 hbox hb; have BK224 := Aside0.mk hbox; have GW224 := ge hg HB; have GE224 := ge hg HB; have NB223_224 := nl hg BK223; have NB224_223 := ng hg BK223; replace BK223 := bb BK223 hb; replace HB := bh HB hb; clear hb hbox hg; have hnb9 := NB223_224.out; have hnc9 := NB224_223.out; obtain ⟨hcz10_0, hcz10_1⟩ := zc2 BK223; obtain ⟨hfz10_0, hfz10_1⟩ := zf2 BK223) | ((with_reducible refine gate_callee (f := 44) rfl ?_); refine goesL_ (some 10) rfl rfl Try.func44 (by kernel_rfl) rfl #[.int .i64 a0, .agg #[.int .u64 a1_0, .int .u64 a1_1]] rfl (by (try simp only [List.map_toArray, List.map_cons, List.map_nil]); first | done | rfl | (simp only [List.length_drop, List.length_take]; rfl)) ?_; (with_reducible refine (octet_Of.calls k a0 a1_0 a1_1 true _ A4.out).mono ?_); rintro e w11 ⟨rfl, hb⟩; refine ⟨_, rfl, ?_⟩; replace BK223 := bb BK223 hb; replace BK224 := bb BK224 hb; replace HB := bh HB hb; (try clear hb); (try clear hb2); (try clear hk); (try clear hi)) | ((with_reducible refine gate_callee (f := 57) rfl ?_); refine goesL_ (some 13) rfl rfl Try.func57 (by kernel_rfl) rfl #[] rfl (by (try simp only [List.map_toArray, List.map_cons, List.map_nil]); first | done | rfl | (simp only [List.length_drop, List.length_take]; rfl)) ?_; (with_reducible refine (tower_One.calls  t226 t227 _ A6.out).mono ?_); rintro e w12 ⟨rfl, hb⟩; refine ⟨_, rfl, ?_⟩; replace BK223 := bb BK223 hb; replace BK224 := bb BK224 hb; replace HB := bh HB hb; (try clear hb); (try clear hb2); (try clear hk); (try clear hi)) | ((with_reducible refine gate_dst (N := 7) rfl ?_); refine box_event ?hg (N := 7) ?hd (cs := #[.int .u64 0, .int .u64 0]) (t := 59) ?hr ?_; (case hd => rfl); (case hg => rfl); (case hr => first | (go_simp; done) | (go_simp; rfl)); intro gb228 hg w13 hbox hb; have BK228 := Aside0.mk hbox; have GW228 := ge hg HB; have GE228 := ge hg HB; have NB223_228 := nl hg BK223; have NB228_223 := ng hg BK223; have NB224_228 := nl hg BK224; have NB228_224 := ng hg BK224; replace BK223 := bb BK223 hb; replace BK224 := bb BK224 hb; replace HB := bh HB hb; clear hb hbox hg; have hnb14 := NB228_223.out; have hnc14 := NB223_228.out; have hnb15 := NB228_224.out; have hnc15 := NB224_228.out; obtain ⟨hcz16_0, hcz16_1⟩ := zc2 BK228; obtain ⟨hfz16_0, hfz16_1⟩ := zf2 BK228))
  go_loopg [2] k (fun kq v2 w' => ∃ (x2_1 : Int) (x224000_1 : Int) (x224001_1 : Int) (x229000_1 : Int) (x229001_1 : Int), v2 = .int .u64 x2_1 ∧ Aside0 (tower_Pow.l0 kq a0 x2_1 x224000_1 x224001_1 x229000_1 x229001_1 = some (r1, r2)) ∧ Aside0 (kq ≤ k) ∧ Aside0 (w'.heap[gb223]? = some (.cells #[.int .u64 x224000_1, .int .u64 x224001_1] 59 (0, 0))) ∧ Aside0 (w'.heap[gb224]? = some (.cells #[.int .u64 0, .int .u64 0] 59 (0, 0))) ∧ Aside0 (w'.heap[gb228]? = some (.cells #[.int .u64 x229000_1, .int .u64 x229001_1] 59 (0, 0))) ∧ Aside0 (Below w.heap.size w w'))
  case atStart => exact ⟨(a2), (a1_0), (a1_1), (t226), (t227), (by first | rfl | (simp; done) | (simp [*]; done)), H', ⟨Nat.le_refl _⟩, ⟨by (with_reducible repeat refine bl ?_); refine blk_far ?_ NB223_228.out _; (with_reducible repeat refine bl ?_); refine blk_far ?_ NB223_228.out _; (with_reducible repeat refine bl ?_); exact BK223.out⟩, ⟨by (with_reducible repeat refine bl ?_); refine blk_far ?_ NB224_228.out _; (with_reducible repeat refine bl ?_); refine blk_far ?_ NB224_228.out _; (with_reducible repeat refine bl ?_); exact BK224.out⟩, ⟨by (with_reducible repeat refine bl ?_); refine blk_put (cs := #[.int .u64 t226, .int .u64 0]) ?_ 1 _ rfl; (with_reducible repeat refine bl ?_); refine blk_put (cs := #[.int .u64 0, .int .u64 0]) ?_ 0 _ rfl; (with_reducible repeat refine bl ?_); exact BK228.out⟩, ⟨bq HB.out⟩⟩
  case round =>
   clear H'
   try clear c1
   try clear p2
   try clear c4
   try clear c5
   try clear c9
   try clear c14
   try clear c15
   try clear hcz10_0
   try clear hcz10_1
   try clear hcz16_0
   try clear hcz16_1
   try clear hfz10_0
   try clear hfz10_1
   try clear hfz16_0
   try clear hfz16_1
   obtain ⟨x2_1, x224000_1, x224001_1, x229000_1, x229001_1, rfl, HA, HK1, BK223, BK224, BK228, HB⟩ := hrel
   cases gk with
   | zero => exact absurd HA.out (by simp [tower_Pow.l0])
   | succ k1 =>
    have H := HA.out
    clear HA
    simp only [tower_Pow.l0] at H
    by_cases c17 : x2_1 > 0
    ·rw [if_pos c17] at H
     have c17b0 : decide (0 < x2_1) = true := decide_eq_true c17
     clear c17
     by_cases c18 : (Go.bits .and .u64 x2_1 1) = 1
     ·rw [if_pos c18] at H
      have c18b0 : ((Go.bits .and .u64 x2_1 1) == 1) = true := beq_iff_eq.mpr c18
      have c18b1 : ((Go.bits .and .u64 x2_1 1) != 1) = false := bne_eq_false_iff_eq.mpr c18
      clear c18
      replace H := Option.bind_eq_some_iff.mp H
      obtain ⟨⟨t229, t230⟩, A190, H⟩ := H
      replace H : ((tower_Square.f k1 a0 x224000_1 x224001_1).bind fun bt231 => (tower_Pow.l0 k1 a0 (x2_1 / 2) bt231.1 bt231.2 t229 t230)) = some (r1, r2) := H
      have A19 := Aside0.mk A190
      clear A190
      replace H := Option.bind_eq_some_iff.mp H
      obtain ⟨⟨t231, t232⟩, A200, H⟩ := H
      replace H : (tower_Pow.l0 k1 a0 (x2_1 / 2) t231 t232 t229 t230) = some (r1, r2) := H
      have A20 := Aside0.mk A200
      clear A200
      have H' := Aside0.mk H
      clear H
      have hnb21 := NB228_223.out
      have hnc21 := NB223_228.out
      have hnb22 := NB228_224.out
      have hnc22 := NB224_228.out
      obtain ⟨hcz23_0, hcz23_1⟩ := zc2 BK228
      obtain ⟨hfz23_0, hfz23_1⟩ := zf2 BK228
      have hnb24 := NB223_224.out
      have hnc24 := NB224_223.out
      obtain ⟨hcz25_0, hcz25_1⟩ := zc2 BK223
      obtain ⟨hfz25_0, hfz25_1⟩ := zf2 BK223
      go_wp2_with (first | ((with_reducible refine gate_callee (f := 32) rfl ?_); refine goesL_ (some 24) rfl rfl Try.func32 (by kernel_rfl) rfl #[.int .i64 a0, .agg #[.int .u64 x229000_1, .int .u64 x229001_1], .agg #[.int .u64 x224000_1, .int .u64 x224001_1]] rfl (by (try simp only [List.map_toArray, List.map_cons, List.map_nil]); first | done | rfl | (simp only [List.length_drop, List.length_take]; rfl)) ?_; (with_reducible refine (tower_Mul.calls k1 a0 x229000_1 x229001_1 x224000_1 x224001_1 t229 t230 _ A19.out).mono ?_); rintro e w26 ⟨rfl, hb⟩; refine ⟨_, rfl, ?_⟩; replace BK223 := bb BK223 hb; replace BK224 := bb BK224 hb; replace BK228 := bb BK228 hb; replace HB := bh HB hb; (try clear hb); (try clear hb2); (try clear hk); (try clear hi); obtain ⟨hcz27_0, hcz27_1⟩ := zc2 BK228; obtain ⟨hfz27_0, hfz27_1⟩ := zf2 BK228; obtain ⟨hcz28_0, hcz28_1⟩ := zc2 BK223; obtain ⟨hfz28_0, hfz28_1⟩ := zf2 BK223) | ((with_reducible refine gate_callee (f := 58) rfl ?_); refine goesL_ (some 27) rfl rfl Try.func58 (by kernel_rfl) rfl #[.int .i64 a0, .agg #[.int .u64 x224000_1, .int .u64 x224001_1]] rfl (by (try simp only [List.map_toArray, List.map_cons, List.map_nil]); first | done | rfl | (simp only [List.length_drop, List.length_take]; rfl)) ?_; (with_reducible refine (tower_Square.calls k1 a0 x224000_1 x224001_1 t231 t232 _ A20.out).mono ?_); rintro e w29 ⟨rfl, hb⟩; refine ⟨_, rfl, ?_⟩; replace BK223 := Aside0.mk (blk_below (g := gb223) (o := .cells #[.int .u64 x224000_1, .int .u64 x224001_1] 59 (0, 0)) (by (with_reducible repeat refine bl ?_); refine blk_far ?_ NB223_228.out _; (with_reducible repeat refine bl ?_); refine blk_far ?_ NB223_228.out _; (with_reducible repeat refine bl ?_); exact BK223.out) hb); replace BK224 := Aside0.mk (blk_below (g := gb224) (o := .cells #[.int .u64 0, .int .u64 0] 59 (0, 0)) (by (with_reducible repeat refine bl ?_); refine blk_far ?_ NB224_228.out _; (with_reducible repeat refine bl ?_); refine blk_far ?_ NB224_228.out _; (with_reducible repeat refine bl ?_); exact BK224.out) hb); replace BK228 := Aside0.mk (blk_below (g := gb228) (o := .cells #[.int .u64 t229, .int .u64 t230] 59 (0, 0)) (by (with_reducible repeat refine bl ?_); refine blk_put (cs := #[.int .u64 t229, .int .u64 x229001_1]) ?_ 1 _ rfl; (with_reducible repeat refine bl ?_); refine blk_put (cs := #[.int .u64 x229000_1, .int .u64 x229001_1]) ?_ 0 _ rfl; (with_reducible repeat refine bl ?_); exact BK228.out) hb); replace HB := bh HB hb; (try clear hb); (try clear hb2); (try clear hk); (try clear hi); obtain ⟨hcz30_0, hcz30_1⟩ := zc2 BK223; obtain ⟨hfz30_0, hfz30_1⟩ := zf2 BK223))
      go_roundg k1
      case measure => have := HK1.out; omega
      case rel => exact ⟨(x2_1 / 2), (t231), (t232), (t229), (t230), (by first | rfl | (simp; done) | (simp [*]; done)), H', ⟨by have := HK1.out; omega⟩, ⟨by (with_reducible repeat refine bl ?_); refine blk_put (cs := #[.int .u64 t231, .int .u64 x224001_1]) ?_ 1 _ rfl; (with_reducible repeat refine bl ?_); refine blk_put (cs := #[.int .u64 x224000_1, .int .u64 x224001_1]) ?_ 0 _ rfl; (with_reducible repeat refine bl ?_); exact BK223.out⟩, ⟨by (with_reducible repeat refine bl ?_); refine blk_far ?_ NB224_223.out _; (with_reducible repeat refine bl ?_); refine blk_far ?_ NB224_223.out _; (with_reducible repeat refine bl ?_); exact BK224.out⟩, ⟨by (with_reducible repeat refine bl ?_); refine blk_far ?_ NB228_223.out _; (with_reducible repeat refine bl ?_); refine blk_far ?_ NB228_223.out _; (with_reducible repeat refine bl ?_); exact BK228.out⟩, ⟨bq HB.out⟩⟩
     ·rw [if_neg c18] at H
      have c18b0 : ((Go.bits .and .u64 x2_1 1) == 1) = false := beq_eq_false_iff_ne.mpr c18
      have c18b1 : ((Go.bits .and .u64 x2_1 1) != 1) = true := bne_iff_ne.mpr c18
      replace H := Option.bind_eq_some_iff.mp H
      obtain ⟨⟨t233, t234⟩, A310, H⟩ := H
      replace H : (tower_Pow.l0 k1 a0 (x2_1 / 2) t233 t234 x229000_1 x229001_1) = some (r1, r2) := H
      have A31 := Aside0.mk A310
      clear A310
      have H' := Aside0.mk H
      clear H
      have hnb32 := NB223_224.out
      have hnc32 := NB224_223.out
      have hnb33 := NB223_228.out
      have hnc33 := NB228_223.out
      obtain ⟨hcz34_0, hcz34_1⟩ := zc2 BK223
      obtain ⟨hfz34_0, hfz34_1⟩ := zf2 BK223
      go_wp2_with (first | ((with_reducible refine gate_callee (f := 58) rfl ?_); refine goesL_ (some 27) rfl rfl Try.func58 (by kernel_rfl) rfl #[.int .i64 a0, .agg #[.int .u64 x224000_1, .int .u64 x224001_1]] rfl (by (try simp only [List.map_toArray, List.map_cons, List.map_nil]); first | done | rfl | (simp only [List.length_drop, List.length_take]; rfl)) ?_; (with_reducible refine (tower_Square.calls k1 a0 x224000_1 x224001_1 t233 t234 _ A31.out).mono ?_); rintro e w35 ⟨rfl, hb⟩; refine ⟨_, rfl, ?_⟩; replace BK223 := bb BK223 hb; replace BK224 := bb BK224 hb; replace BK228 := bb BK228 hb; replace HB := bh HB hb; (try clear hb); (try clear hb2); (try clear hk); (try clear hi); obtain ⟨hcz36_0, hcz36_1⟩ := zc2 BK223; obtain ⟨hfz36_0, hfz36_1⟩ := zf2 BK223))
      go_roundg k1
      case measure => have := HK1.out; omega
      case rel => exact ⟨(x2_1 / 2), (t233), (t234), (x229000_1), (x229001_1), (by first | rfl | (simp; done) | (simp [*]; done)), H', ⟨by have := HK1.out; omega⟩, ⟨by (with_reducible repeat refine bl ?_); refine blk_put (cs := #[.int .u64 t233, .int .u64 x224001_1]) ?_ 1 _ rfl; (with_reducible repeat refine bl ?_); refine blk_put (cs := #[.int .u64 x224000_1, .int .u64 x224001_1]) ?_ 0 _ rfl; (with_reducible repeat refine bl ?_); exact BK223.out⟩, ⟨by (with_reducible repeat refine bl ?_); refine blk_far ?_ NB224_223.out _; (with_reducible repeat refine bl ?_); refine blk_far ?_ NB224_223.out _; (with_reducible repeat refine bl ?_); exact BK224.out⟩, ⟨by (with_reducible repeat refine bl ?_); refine blk_far ?_ NB228_223.out _; (with_reducible repeat refine bl ?_); refine blk_far ?_ NB228_223.out _; (with_reducible repeat refine bl ?_); exact BK228.out⟩, ⟨bq HB.out⟩⟩
    ·rw [if_neg c17] at H
     have c17b0 : decide (0 < x2_1) = false := decide_eq_false c17
     clear c17
     simp only [Option.some.injEq, Prod.mk.injEq] at H
     obtain ⟨rfl, rfl⟩ := H
     have hnb37 := NB228_223.out
     have hnc37 := NB223_228.out
     have hnb38 := NB228_224.out
     have hnc38 := NB224_228.out
     obtain ⟨hcz39_0, hcz39_1⟩ := zc2 BK228
     obtain ⟨hfz39_0, hfz39_1⟩ := zf2 BK228
     have hnb40 := NB224_223.out
     have hnc40 := NB223_224.out
     obtain ⟨hcz41_0, hcz41_1⟩ := zc2 BK224
     obtain ⟨hfz41_0, hfz41_1⟩ := zf2 BK224
     go_wp2
     refine bodyPost_ret (results_cell_row rfl _ _ gb224 59 #[.int .u64 x229000_1, .int .u64 x229001_1] (0, 0) _ rfl (by (with_reducible repeat refine bl ?_); refine blk_put (cs := #[.int .u64 x229000_1, .int .u64 0]) ?_ 1 _ rfl; (with_reducible repeat refine bl ?_); refine blk_put (cs := #[.int .u64 0, .int .u64 0]) ?_ 0 _ rfl; (with_reducible repeat refine bl ?_); exact BK224.out) Try.underlying59 rfl (by kernel_rfl)) rfl ?_
     exact ⟨by first | rfl | (simp [errW_none, errW_some] <;> rfl) | (simp [*, errW_none, errW_some] <;> rfl), bq HB.out⟩
 ·replace c5 := Bool.eq_false_iff.mpr c5
  subst c5
  have H1 : (some (0, 0)) = some (r1, r2) := by rw [if_neg (show ¬ (false = true) by decide)] at H; exact H
  clear H
  have H := H1
  clear H1
  simp only [Option.some.injEq, Prod.mk.injEq] at H
  obtain ⟨rfl, rfl⟩ := H
  go_enter Try.func53, Try.ntmps53
  go_wp2_with (first | ((with_reducible refine gate_dst (N := 4) rfl ?_); refine box_event ?hg (N := 4) ?hd (cs := #[.int .u64 a1_0, .int .u64 a1_1]) (t := 59) ?hr ?_; (case hd => rfl); (case hg => rfl); (case hr => first | (go_simp; done) | (go_simp; rfl)); intro gb223 hg w42 hbox hb; have BK223 := Aside0.mk hbox; have GW223 := ge hg HB; have GE223 := ge hg HB; replace HB := bh HB hb; clear hb hbox hg) | ((with_reducible refine gate_dst (N := 6) rfl ?_); refine box_event ?hg (N := 6) ?hd (cs := #[.int .u64 0, .int .u64 0]) (t := 59) ?hr ?_; (case hd => rfl); (case hg => rfl); (case hr => first | (go_simp; done) | (go_simp; rfl)); intro gb224 hg w43 hbox hb; have BK224 := Aside0.mk hbox; have GW224 := ge hg HB; have GE224 := ge hg HB; have NB223_224 := nl hg BK223; have NB224_223 := ng hg BK223; replace BK223 := bb BK223 hb; replace HB := bh HB hb; clear hb hbox hg; have hnb44 := NB223_224.out; have hnc44 := NB224_223.out; obtain ⟨hcz45_0, hcz45_1⟩ := zc2 BK223; obtain ⟨hfz45_0, hfz45_1⟩ := zf2 BK223) | ((with_reducible refine gate_callee (f := 44) rfl ?_); refine goesL_ (some 10) rfl rfl Try.func44 (by kernel_rfl) rfl #[.int .i64 a0, .agg #[.int .u64 a1_0, .int .u64 a1_1]] rfl (by (try simp only [List.map_toArray, List.map_cons, List.map_nil]); first | done | rfl | (simp only [List.length_drop, List.length_take]; rfl)) ?_; (with_reducible refine (octet_Of.calls k a0 a1_0 a1_1 false _ A4.out).mono ?_); rintro e w46 ⟨rfl, hb⟩; refine ⟨_, rfl, ?_⟩; replace BK223 := bb BK223 hb; replace BK224 := bb BK224 hb; replace HB := bh HB hb; (try clear hb); (try clear hb2); (try clear hk); (try clear hi); obtain ⟨hcz47_0, hcz47_1⟩ := zc2 BK224; obtain ⟨hfz47_0, hfz47_1⟩ := zf2 BK224))
  refine bodyPost_ret (results_cell_row rfl _ _ gb224 59 #[.int .u64 0, .int .u64 0] (0, 0) _ rfl (by (with_reducible repeat refine bl ?_); refine blk_put (cs := #[.int .u64 0, .int .u64 0]) ?_ 1 _ rfl; (with_reducible repeat refine bl ?_); refine blk_put (cs := #[.int .u64 0, .int .u64 0]) ?_ 0 _ rfl; (with_reducible repeat refine bl ?_); exact BK224.out) Try.underlying59 rfl (by kernel_rfl)) rfl ?_
  exact ⟨by first | rfl | (simp [errW_none, errW_some] <;> rfl) | (simp [*, errW_none, errW_some] <;> rfl), bq HB.out⟩

-- NOT PRINTED: function 43 (perm_state_unmix)

-- NOT PRINTED: function 42 (perm_Tables_off_1)

-- NOT PRINTED: function 28 (perm_Tables_off)

-- NOT PRINTED: function 16 (perm_Tables_BackP)

-- NOT PRINTED: function 17 (perm_Tables_BackQ)

end Go.Proofs.Ytbfncpcpmigidaa.P
