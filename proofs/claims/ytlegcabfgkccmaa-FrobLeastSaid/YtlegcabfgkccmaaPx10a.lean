/- Written by a program of this session: functions that the law reaches, as Lean functions, and that the code comes to their answers. Conditions: those that each theorem names. -/
import Derived.Test.YtlegcabfgkccmaaPx0
import Derived.Test.YtlegcabfgkccmaaPx2
import Derived.Test.YtlegcabfgkccmaaPx4
import Derived.Test.YtlegcabfgkccmaaPx6
import Derived.Test.YtlegcabfgkccmaaPx6a
import Derived.Test.YtlegcabfgkccmaaPx7
import Derived.Test.YtlegcabfgkccmaaPx8
import Derived.Test.YtlegcabfgkccmaaPx9
import Derived.Test.YtlegcabfgkccmaaHLeast
namespace Go.Proofs.Ytlegcabfgkccmaa.P
open Go.RowKit Go.Proofs.YtlegcabfgkccmaaX Go.Proofs.YtlegcabfgkccmaaW.PrintWords Go.Proofs.YtlegcabfgkccmaaW.PrintLast Go.Proofs.YtlegcabfgkccmaaW.PrintMore
attribute [local go_sem] max2_int min2_int max_two min_two max_three min_three max_four min_four   -- for this text's walks alone
set_option linter.unusedVariables false
set_option linter.unusedSimpArgs false

attribute [local go_sem high] eqA37
/-! ### steeplelaw33_FrobLeast: function 5 -/
mutual
def steeplelaw33_FrobLeast.l0 : Nat → List Bool → List (S37) → Int → Int → Int → Int → Int → Int → Int → Int → Int → Int → Int → Option (Bool)
 | 0, _, _, _, _, _, _, _, _, _, _, _, _, _ => none
 | k + 1, x5, x7, x12, x299000, x299001, x307000, x307001, x308000, x308001, x309000, x309001, x310000, x310001 => if x12 < (x5.length : Int) then (if 0 ≤ x12 then (if x12 < (x7.length : Int) then (if (!(((rd_T37 x7 x12).f0) == x307000) || (!(((rd_T37 x7 x12).f1) == x307001))) = true then (if (!(((rd_T37 x7 x12).f0) == x309000) || (!(((rd_T37 x7 x12).f1) == x309001))) = true then (none) else (steeplelaw33_FrobLeast.j1 k x5 x7 x12 ((rdOf false x5 x12) != (((rd_T37 x7 x12).f0) == x309000 && (((rd_T37 x7 x12).f1) == x309001))) x299000 x299001 x307000 x307001 x308000 x308001 x309000 x309001 x310000 x310001)) else (steeplelaw33_FrobLeast.j1 k x5 x7 x12 ((rdOf false x5 x12) != (((rd_T37 x7 x12).f0) == x309000 && (((rd_T37 x7 x12).f1) == x309001))) x299000 x299001 x307000 x307001 x308000 x308001 x309000 x309001 x310000 x310001)) else (none)) else (none)) else ((steeplelaw33_awake.f k).bind fun t310 => (if t310 = true then (some (x308000 == x307000 && (x308001 == x307001))) else (none)))
def steeplelaw33_FrobLeast.j1 : Nat → List Bool → List (S37) → Int → Bool → Int → Int → Int → Int → Int → Int → Int → Int → Int → Int → Option (Bool)
 | 0, _, _, _, _, _, _, _, _, _, _, _, _, _, _ => none
 | k + 1, x5, x7, x12, x78, x299000, x299001, x307000, x307001, x308000, x308001, x309000, x309001, x310000, x310001 => if x78 = true then (none) else (if 0 ≤ x12 then (if x12 < (x5.length : Int) then (if rdOf false x5 x12 = true then ((steepleref02_Add.f x308000 x308001 x310000 x310001).bind fun bt318 => ((steepleref02_Product.f k x310000 x310001 x299000 x299001).bind fun bt320 => (steeplelaw33_FrobLeast.l0 k x5 x7 (wrap64 (x12 + 1)) x299000 x299001 x307000 x307001 bt318.1 bt318.2 x309000 x309001 bt320.1 bt320.2))) else ((steepleref02_Product.f k x310000 x310001 x299000 x299001).bind fun bt322 => (steeplelaw33_FrobLeast.l0 k x5 x7 (wrap64 (x12 + 1)) x299000 x299001 x307000 x307001 x308000 x308001 x309000 x309001 bt322.1 bt322.2))) else (none)) else (none))
end
def steeplelaw33_FrobLeast.f (k : Nat) (a0 : Int) (a1_0 : Int) (a1_1 : Int) : Option (Bool) := (frob_Least.f k a0 a1_0 a1_1).bind fun t295 => ((steepleref01_Of.f k a0 a1_0 a1_1).bind fun t299 => (if t299 = true then ((steepleref33_Least.f k a0 a1_0 a1_1).bind fun t301 => (if (t295.length : Int) = (t301.length : Int) then ((steepleref02_Level.f k a1_0 a1_1).bind fun t304 => ((steepleref15_Two.f k t304).bind fun t305 => (if (t295.length : Int) = (wrap64 (t305 + 1)) then (steeplelaw33_FrobLeast.l0 k t295 t301 0 a1_0 a1_1 0 0 0 0 0 1 0 1) else (none)))) else (none))) else ((steeplelaw33_awake.f k).bind fun t300 => (if t300 = true then (some ((t295.length : Int) == 0)) else (none)))))
theorem steeplelaw33_FrobLeast.mono_l : ∀ k, (∀ y0 y1 y2 y3 y4 y5 y6 y7 y8 y9 y10 y11 y12, LeO (steeplelaw33_FrobLeast.l0 k y0 y1 y2 y3 y4 y5 y6 y7 y8 y9 y10 y11 y12) (steeplelaw33_FrobLeast.l0 (k + 1) y0 y1 y2 y3 y4 y5 y6 y7 y8 y9 y10 y11 y12)) ∧ (∀ y0 y1 y2 y3 y4 y5 y6 y7 y8 y9 y10 y11 y12 y13, LeO (steeplelaw33_FrobLeast.j1 k y0 y1 y2 y3 y4 y5 y6 y7 y8 y9 y10 y11 y12 y13) (steeplelaw33_FrobLeast.j1 (k + 1) y0 y1 y2 y3 y4 y5 y6 y7 y8 y9 y10 y11 y12 y13))
 | 0 => ⟨fun _ _ _ _ _ _ _ _ _ _ _ _ _ r h => by simp [steeplelaw33_FrobLeast.l0] at h, fun _ _ _ _ _ _ _ _ _ _ _ _ _ _ r h => by simp [steeplelaw33_FrobLeast.j1] at h⟩
 | k + 1 => by
  obtain ⟨ih0, ih1⟩ := steeplelaw33_FrobLeast.mono_l k
  refine ⟨?_, ?_⟩
  ·intro y0 y1 y2 y3 y4 y5 y6 y7 y8 y9 y10 y11 y12
   unfold steeplelaw33_FrobLeast.l0
   repeat' first
   | (with_reducible exact ih0 _ _ _ _ _ _ _ _ _ _ _ _ _)
   | (with_reducible exact ih1 _ _ _ _ _ _ _ _ _ _ _ _ _ _)
   | (with_reducible exact frob_Least.mono _ _ _ _)
   | (with_reducible exact steeplelaw33_awake.mono _)
   | (with_reducible exact steepleref01_Of.mono _ _ _ _)
   | (with_reducible exact steepleref02_Level.mono _ _ _)
   | (with_reducible exact steepleref02_Product.mono _ _ _ _ _)
   | (with_reducible exact steepleref15_Two.mono _ _)
   | (with_reducible exact steepleref33_Least.mono _ _ _ _)
   | (with_reducible exact LeO.refl _)
   | (with_reducible exact LeO.none _)
   | (with_reducible refine LeO.ite ?_ ?_)
   | (with_reducible refine LeO.bind ?_ (fun _ => ?_))
   | exact ih0 _ _ _ _ _ _ _ _ _ _ _ _ _
   | exact ih1 _ _ _ _ _ _ _ _ _ _ _ _ _ _
   | exact frob_Least.mono _ _ _ _
   | exact steeplelaw33_awake.mono _
   | exact steepleref01_Of.mono _ _ _ _
   | exact steepleref02_Level.mono _ _ _
   | exact steepleref02_Product.mono _ _ _ _ _
   | exact steepleref15_Two.mono _ _
   | exact steepleref33_Least.mono _ _ _ _
   | exact LeO.none _
   | refine LeO.ite ?_ ?_
   | refine LeO.bind ?_ (fun _ => ?_)
  ·intro y0 y1 y2 y3 y4 y5 y6 y7 y8 y9 y10 y11 y12 y13
   unfold steeplelaw33_FrobLeast.j1
   repeat' first
   | (with_reducible exact ih0 _ _ _ _ _ _ _ _ _ _ _ _ _)
   | (with_reducible exact ih1 _ _ _ _ _ _ _ _ _ _ _ _ _ _)
   | (with_reducible exact frob_Least.mono _ _ _ _)
   | (with_reducible exact steeplelaw33_awake.mono _)
   | (with_reducible exact steepleref01_Of.mono _ _ _ _)
   | (with_reducible exact steepleref02_Level.mono _ _ _)
   | (with_reducible exact steepleref02_Product.mono _ _ _ _ _)
   | (with_reducible exact steepleref15_Two.mono _ _)
   | (with_reducible exact steepleref33_Least.mono _ _ _ _)
   | (with_reducible exact LeO.refl _)
   | (with_reducible exact LeO.none _)
   | (with_reducible refine LeO.ite ?_ ?_)
   | (with_reducible refine LeO.bind ?_ (fun _ => ?_))
   | exact ih0 _ _ _ _ _ _ _ _ _ _ _ _ _
   | exact ih1 _ _ _ _ _ _ _ _ _ _ _ _ _ _
   | exact frob_Least.mono _ _ _ _
   | exact steeplelaw33_awake.mono _
   | exact steepleref01_Of.mono _ _ _ _
   | exact steepleref02_Level.mono _ _ _
   | exact steepleref02_Product.mono _ _ _ _ _
   | exact steepleref15_Two.mono _ _
   | exact steepleref33_Least.mono _ _ _ _
   | exact LeO.none _
   | refine LeO.ite ?_ ?_
   | refine LeO.bind ?_ (fun _ => ?_)
theorem steeplelaw33_FrobLeast.mono : ∀ a0 a1 a2 k, LeO (steeplelaw33_FrobLeast.f k a0 a1 a2) (steeplelaw33_FrobLeast.f (k + 1) a0 a1 a2) := by
 intro a0 a1 a2 k
 obtain ⟨ih0, ih1⟩ := steeplelaw33_FrobLeast.mono_l k
 unfold steeplelaw33_FrobLeast.f
 repeat' first
   | (with_reducible exact ih0 _ _ _ _ _ _ _ _ _ _ _ _ _)
   | (with_reducible exact ih1 _ _ _ _ _ _ _ _ _ _ _ _ _ _)
   | (with_reducible exact frob_Least.mono _ _ _ _)
   | (with_reducible exact steeplelaw33_awake.mono _)
   | (with_reducible exact steepleref01_Of.mono _ _ _ _)
   | (with_reducible exact steepleref02_Level.mono _ _ _)
   | (with_reducible exact steepleref02_Product.mono _ _ _ _ _)
   | (with_reducible exact steepleref15_Two.mono _ _)
   | (with_reducible exact steepleref33_Least.mono _ _ _ _)
   | (with_reducible exact LeO.refl _)
   | (with_reducible exact LeO.none _)
   | (with_reducible refine LeO.ite ?_ ?_)
   | (with_reducible refine LeO.bind ?_ (fun _ => ?_))
   | exact ih0 _ _ _ _ _ _ _ _ _ _ _ _ _
   | exact ih1 _ _ _ _ _ _ _ _ _ _ _ _ _ _
   | exact frob_Least.mono _ _ _ _
   | exact steeplelaw33_awake.mono _
   | exact steepleref01_Of.mono _ _ _ _
   | exact steepleref02_Level.mono _ _ _
   | exact steepleref02_Product.mono _ _ _ _ _
   | exact steepleref15_Two.mono _ _
   | exact steepleref33_Least.mono _ _ _ _
   | exact LeO.none _
   | refine LeO.ite ?_ ?_
   | refine LeO.bind ?_ (fun _ => ?_)
set_option maxHeartbeats 8000000 in
set_option maxRecDepth 100000 in
theorem steeplelaw33_FrobLeast.calls (k : Nat) (a0 : Int) (a1_0 : Int) (a1_1 : Int) (r : Bool) (w : World) (h : steeplelaw33_FrobLeast.f k a0 a1_0 a1_1 = some r) :
  Calls Try.prog 5 #[.int .i64 a0, .agg #[.int .u64 a1_0, .int .u64 a1_1]] w fun e w' => e = .returned (.bool r) ∧ Below w.heap.size w w' := by
 have hu24 := Try.underlying24
 have hu37 := Try.underlying37
 have HB := Aside0.mk (Below.refl w.heap.size w)
 have H : ((frob_Least.f k a0 a1_0 a1_1).bind fun t295 => ((steepleref01_Of.f k a0 a1_0 a1_1).bind fun t299 => (if t299 = true then ((steepleref33_Least.f k a0 a1_0 a1_1).bind fun t301 => (if (t295.length : Int) = (t301.length : Int) then ((steepleref02_Level.f k a1_0 a1_1).bind fun t304 => ((steepleref15_Two.f k t304).bind fun t305 => (if (t295.length : Int) = (wrap64 (t305 + 1)) then (steeplelaw33_FrobLeast.l0 k t295 t301 0 a1_0 a1_1 0 0 0 0 0 1 0 1) else (none)))) else (none))) else ((steeplelaw33_awake.f k).bind fun t300 => (if t300 = true then (some ((t295.length : Int) == 0)) else (none)))))) = some r := h
 clear h
 replace H := Option.bind_eq_some_iff.mp H
 obtain ⟨t295, A30, H⟩ := H
 replace H : ((steepleref01_Of.f k a0 a1_0 a1_1).bind fun t299 => (if t299 = true then ((steepleref33_Least.f k a0 a1_0 a1_1).bind fun t301 => (if (t295.length : Int) = (t301.length : Int) then ((steepleref02_Level.f k a1_0 a1_1).bind fun t304 => ((steepleref15_Two.f k t304).bind fun t305 => (if (t295.length : Int) = (wrap64 (t305 + 1)) then (steeplelaw33_FrobLeast.l0 k t295 t301 0 a1_0 a1_1 0 0 0 0 0 1 0 1) else (none)))) else (none))) else ((steeplelaw33_awake.f k).bind fun t300 => (if t300 = true then (some ((t295.length : Int) == 0)) else (none))))) = some r := H
 have A3 := Aside0.mk A30
 clear A30
 replace H := Option.bind_eq_some_iff.mp H
 obtain ⟨t299, A40, H⟩ := H
 replace H : (if t299 = true then ((steepleref33_Least.f k a0 a1_0 a1_1).bind fun t301 => (if (t295.length : Int) = (t301.length : Int) then ((steepleref02_Level.f k a1_0 a1_1).bind fun t304 => ((steepleref15_Two.f k t304).bind fun t305 => (if (t295.length : Int) = (wrap64 (t305 + 1)) then (steeplelaw33_FrobLeast.l0 k t295 t301 0 a1_0 a1_1 0 0 0 0 0 1 0 1) else (none)))) else (none))) else ((steeplelaw33_awake.f k).bind fun t300 => (if t300 = true then (some ((t295.length : Int) == 0)) else (none)))) = some r := H
 have A4 := Aside0.mk A40
 clear A40
 by_cases c5 : t299 = true
 ·subst c5
  have H1 : ((steepleref33_Least.f k a0 a1_0 a1_1).bind fun t301 => (if (t295.length : Int) = (t301.length : Int) then ((steepleref02_Level.f k a1_0 a1_1).bind fun t304 => ((steepleref15_Two.f k t304).bind fun t305 => (if (t295.length : Int) = (wrap64 (t305 + 1)) then (steeplelaw33_FrobLeast.l0 k t295 t301 0 a1_0 a1_1 0 0 0 0 0 1 0 1) else (none)))) else (none))) = some r := by rw [if_pos rfl] at H; exact H
  clear H
  have H := H1
  clear H1
  replace H := Option.bind_eq_some_iff.mp H
  obtain ⟨t301, A60, H⟩ := H
  replace H : (if (t295.length : Int) = (t301.length : Int) then ((steepleref02_Level.f k a1_0 a1_1).bind fun t304 => ((steepleref15_Two.f k t304).bind fun t305 => (if (t295.length : Int) = (wrap64 (t305 + 1)) then (steeplelaw33_FrobLeast.l0 k t295 t301 0 a1_0 a1_1 0 0 0 0 0 1 0 1) else (none)))) else (none)) = some r := H
  have A6 := Aside0.mk A60
  clear A60
  by_cases c7 : (t295.length : Int) = (t301.length : Int)
  ·rw [if_pos c7] at H
   have c7b0 : ((t295.length : Int) == (t301.length : Int)) = true := beq_iff_eq.mpr c7
   have c7b1 : ((t295.length : Int) != (t301.length : Int)) = false := bne_eq_false_iff_eq.mpr c7
   have c7b2 : (t295.length == t301.length) = true := by first | simpa using c7 | (simp at c7 ⊢; omega)
   clear c7
   replace H := Option.bind_eq_some_iff.mp H
   obtain ⟨t304, A80, H⟩ := H
   replace H : ((steepleref15_Two.f k t304).bind fun t305 => (if (t295.length : Int) = (wrap64 (t305 + 1)) then (steeplelaw33_FrobLeast.l0 k t295 t301 0 a1_0 a1_1 0 0 0 0 0 1 0 1) else (none))) = some r := H
   have A8 := Aside0.mk A80
   clear A80
   replace H := Option.bind_eq_some_iff.mp H
   obtain ⟨t305, A90, H⟩ := H
   replace H : (if (t295.length : Int) = (wrap64 (t305 + 1)) then (steeplelaw33_FrobLeast.l0 k t295 t301 0 a1_0 a1_1 0 0 0 0 0 1 0 1) else (none)) = some r := H
   have A9 := Aside0.mk A90
   clear A90
   by_cases c10 : (t295.length : Int) = (wrap64 (t305 + 1))
   ·rw [if_pos c10] at H
    have c10b0 : ((t295.length : Int) == (wrap64 (t305 + 1))) = true := beq_iff_eq.mpr c10
    have c10b1 : ((t295.length : Int) != (wrap64 (t305 + 1))) = false := bne_eq_false_iff_eq.mpr c10
    clear c10
    have H' := Aside0.mk H
    clear H
    go_enter Try.func5, Try.ntmps5
    go_wp2_with (first | ((with_reducible refine gate_dst (N := 3) rfl ?_); (try (refine gate_guard (by rfl) ?_; dsimp only)); refine box_event ?hg (N := 3) ?hd (cs := #[.int .u64 a1_0, .int .u64 a1_1]) (t := 24) ?hr ?_; (case hd => rfl); (case hg => rfl); (case hr => first | (go_simp; done) | (go_simp; rfl)); intro gb294 hg w11 hbox hb; have BK294 := Aside0.mk hbox; have GW294 := ge hg HB; have GE294 := ge hg HB; replace HB := bh HB hb; clear hb hbox hg; obtain ⟨hcz12_0, hcz12_1⟩ := zc2 BK294; obtain ⟨hfz12_0, hfz12_1⟩ := zf2 BK294) | (go_at_call 16; (with_reducible refine (frob_Least.calls k a0 a1_0 a1_1 t295 _ A3.out).mono ?_); rintro e w13 ⟨v296, rfl, ho0, hb⟩; have HO297 := kw ho0 HB; replace BK294 := bb BK294 hb; replace HB := bh HB hb; (try clear hb); (try clear hb2); (try clear hk); (try clear hi); (try clear ho0); obtain ⟨hcz14_0, hcz14_1⟩ := zc2 BK294; obtain ⟨hfz14_0, hfz14_1⟩ := zf2 BK294) | ((with_reducible refine gate_dst (N := 6) rfl ?_); (try (refine gate_guard (by rfl) ?_; dsimp only)); refine box_event ?hg (N := 6) ?hd (cs := #[.int .u64 0, .int .u64 0]) (t := 37) ?hr ?_; (case hd => rfl); (case hg => rfl); (case hr => first | (go_simp; done) | (go_simp; rfl)); intro gb298 hg w15 hbox hb; have BK298 := Aside0.mk hbox; have GW298 := ge hg HB; have GE298 := ge hg HB; have NB294_298 := nl hg BK294; have NB298_294 := ng hg BK294; replace HO297 := kb HO297 hb; replace BK294 := bb BK294 hb; replace HB := bh HB hb; clear hb hbox hg; have hnb16 := NB298_294.out; have hnc16 := NB294_298.out; obtain ⟨hcz17_0, hcz17_1⟩ := zc2 BK298; obtain ⟨hfz17_0, hfz17_1⟩ := zf2 BK298) | (go_at_call 17; (with_reducible refine (steepleref01_Of.calls k a0 a1_0 a1_1 true _ A4.out).mono ?_); rintro e w18 ⟨rfl, hb⟩; replace HO297 := Aside0.mk (Kd.R_below (by (with_reducible repeat refine kl ?_); exact (Kd.R_mono (Kd.R_far (p := ⟨gb298, 1, none⟩) (Kd.R_far (p := ⟨gb298, 0, none⟩) (Kd.R_types HO297.out BK298.out (by decide)) (fun _ hk => hk.2) (.int .u64 a1_0)) (fun _ hk => hk.2) (.int .u64 a1_1)) (fun _ h_ => h_.1))) hb); replace BK294 := Aside0.mk (blk_below (g := gb294) (o := .cells #[.int .u64 a1_0, .int .u64 a1_1] 24 (0, 0)) (by (with_reducible repeat refine bl ?_); refine blk_far ?_ NB294_298.out _; (with_reducible repeat refine bl ?_); refine blk_far ?_ NB294_298.out _; (with_reducible repeat refine bl ?_); exact BK294.out) hb); replace BK298 := Aside0.mk (blk_below (g := gb298) (o := .cells #[.int .u64 a1_0, .int .u64 a1_1] 37 (0, 0)) (by (with_reducible repeat refine bl ?_); refine blk_put (cs := #[.int .u64 a1_0, .int .u64 0]) ?_ 1 _ rfl; (with_reducible repeat refine bl ?_); refine blk_put (cs := #[.int .u64 0, .int .u64 0]) ?_ 0 _ rfl; (with_reducible repeat refine bl ?_); exact BK298.out) hb); replace HB := bh HB hb; (try clear hb); (try clear hb2); (try clear hk); (try clear hi); obtain ⟨hcz19_0, hcz19_1⟩ := zc2 BK298; obtain ⟨hfz19_0, hfz19_1⟩ := zf2 BK298) | (go_at_call 18; (with_reducible refine (steepleref33_Least.calls k a0 a1_0 a1_1 t301 _ A6.out).mono ?_); rintro e w20 ⟨v302, rfl, ho0, hb⟩; have HO303 := Aside0.mk (Kd.R_lower (Kd.R_newB ho0 (g := gb298) (o := .cells #[.int .u64 a1_0, .int .u64 a1_1] 37 (0, 0)) (bk BK298.out)) (below_size (bq HB.out))); replace HO297 := kb HO297 hb; replace BK294 := bb BK294 hb; replace BK298 := bb BK298 hb; replace HB := bh HB hb; (try clear hb); (try clear hb2); (try clear hk); (try clear hi); (try clear ho0); obtain ⟨Ao21, co21, eo21⟩ := Kd.R_slice HO297.out; subst eo21; obtain ⟨Ao22, co22, eo22⟩ := Kd.R_slice HO303.out; subst eo22; obtain ⟨hcz23_0, hcz23_1⟩ := zc2 BK298; obtain ⟨hfz23_0, hfz23_1⟩ := zf2 BK298) | (go_at_call 20; (with_reducible refine (steepleref02_Level.calls k a1_0 a1_1 t304 _ A8.out).mono ?_); rintro e w24 ⟨rfl, hb⟩; replace HO297 := kb HO297 hb; replace HO303 := kb HO303 hb; replace BK294 := bb BK294 hb; replace BK298 := bb BK298 hb; replace HB := bh HB hb; (try clear hb); (try clear hb2); (try clear hk); (try clear hi)) | (go_at_call 19; (with_reducible refine (steepleref15_Two.calls k t304 t305 _ A9.out).mono ?_); rintro e w' ⟨rfl, ⟨nd, rfl⟩⟩; (try first | exact ⟨rfl, _, World.drewN_drewN _ _ _⟩ | exact ⟨rfl, _, Eq.trans (World.drewN_drewN _ _ _) (congrArg (World.drewN _) (Nat.add_assoc _ _ _))⟩)) | ((with_reducible refine gate_dst (N := 8) rfl ?_); (try (refine gate_guard (by rfl) ?_; dsimp only)); refine box_event ?hg (N := 8) ?hd (cs := #[.int .u64 0, .int .u64 0]) (t := 37) ?hr ?_; (case hd => rfl); (case hg => rfl); (case hr => first | (go_simp; done) | (go_simp; rfl)); intro gb306 hg w25 hbox hb; have BK306 := Aside0.mk hbox; have GW306 := ge hg HB; have GE306 := ge hg HB; have NB294_306 := nl hg BK294; have NB306_294 := ng hg BK294; have NB298_306 := nl hg BK298; have NB306_298 := ng hg BK298; replace HO297 := kb HO297 hb; replace HO303 := Aside0.mk (Kd.R_below (Kd.R_elderB (kr HO303.out) gb306 (Nat.le_of_eq hg.symm)) hb); replace BK294 := bb BK294 hb; replace BK298 := bb BK298 hb; replace HB := bh HB hb; clear hb hbox hg) | ((with_reducible refine gate_dst (N := 9) rfl ?_); (try (refine gate_guard (by rfl) ?_; dsimp only)); refine box_event ?hg (N := 9) ?hd (cs := #[.int .u64 0, .int .u64 0]) (t := 37) ?hr ?_; (case hd => rfl); (case hg => rfl); (case hr => first | (go_simp; done) | (go_simp; rfl)); intro gb307 hg w26 hbox hb; have BK307 := Aside0.mk hbox; have GW307 := ge hg HB; have GE307 := ge hg HB; have NB294_307 := nl hg BK294; have NB307_294 := ng hg BK294; have NB298_307 := nl hg BK298; have NB307_298 := ng hg BK298; have NB306_307 := nl hg BK306; have NB307_306 := ng hg BK306; replace HO297 := kb HO297 hb; replace HO303 := Aside0.mk (Kd.R_below (Kd.R_elderB (kr HO303.out) gb307 (Nat.le_of_eq hg.symm)) hb); replace BK294 := bb BK294 hb; replace BK298 := bb BK298 hb; replace BK306 := bb BK306 hb; replace HB := bh HB hb; clear hb hbox hg) | ((with_reducible refine gate_dst (N := 10) rfl ?_); (try (refine gate_guard (by rfl) ?_; dsimp only)); refine box_event ?hg (N := 10) ?hd (cs := #[.int .u64 0, .int .u64 0]) (t := 37) ?hr ?_; (case hd => rfl); (case hg => rfl); (case hr => first | (go_simp; done) | (go_simp; rfl)); intro gb308 hg w27 hbox hb; have BK308 := Aside0.mk hbox; have GW308 := ge hg HB; have GE308 := ge hg HB; have NB294_308 := nl hg BK294; have NB308_294 := ng hg BK294; have NB298_308 := nl hg BK298; have NB308_298 := ng hg BK298; have NB306_308 := nl hg BK306; have NB308_306 := ng hg BK306; have NB307_308 := nl hg BK307; have NB308_307 := ng hg BK307; replace HO297 := kb HO297 hb; replace HO303 := Aside0.mk (Kd.R_below (Kd.R_elderB (kr HO303.out) gb308 (Nat.le_of_eq hg.symm)) hb); replace BK294 := bb BK294 hb; replace BK298 := bb BK298 hb; replace BK306 := bb BK306 hb; replace BK307 := bb BK307 hb; replace HB := bh HB hb; clear hb hbox hg; have hnb28 := NB308_294.out; have hnc28 := NB294_308.out; have hnb29 := NB308_298.out; have hnc29 := NB298_308.out; have hnb30 := NB308_306.out; have hnc30 := NB306_308.out; have hnb31 := NB308_307.out; have hnc31 := NB307_308.out; obtain ⟨hcz32_0, hcz32_1⟩ := zc2 BK308; obtain ⟨hfz32_0, hfz32_1⟩ := zf2 BK308) | ((with_reducible refine gate_dst (N := 11) rfl ?_); (try (refine gate_guard (by rfl) ?_; dsimp only)); refine box_event ?hg (N := 11) ?hd (cs := #[.int .u64 0, .int .u64 0]) (t := 37) ?hr ?_; (case hd => rfl); (case hg => rfl); (case hr => first | (go_simp; done) | (go_simp; rfl)); intro gb309 hg w33 hbox hb; have BK309 := Aside0.mk hbox; have GW309 := ge hg HB; have GE309 := ge hg HB; have NB294_309 := Aside0.mk ((by rw [hg]; exact Nat.ne_of_lt (blk_lt (g := gb294) (o := .cells #[.int .u64 a1_0, .int .u64 a1_1] 24 (0, 0)) (by (with_reducible repeat refine bl ?_); refine blk_far ?_ NB294_308.out _; (with_reducible repeat refine bl ?_); refine blk_far ?_ NB294_308.out _; (with_reducible repeat refine bl ?_); exact BK294.out)) : gb294 ≠ gb309)); have NB309_294 := Aside0.mk ((by rw [hg]; exact Nat.ne_of_gt (blk_lt (g := gb294) (o := .cells #[.int .u64 a1_0, .int .u64 a1_1] 24 (0, 0)) (by (with_reducible repeat refine bl ?_); refine blk_far ?_ NB294_308.out _; (with_reducible repeat refine bl ?_); refine blk_far ?_ NB294_308.out _; (with_reducible repeat refine bl ?_); exact BK294.out)) : gb309 ≠ gb294)); have NB298_309 := Aside0.mk ((by rw [hg]; exact Nat.ne_of_lt (blk_lt (g := gb298) (o := .cells #[.int .u64 a1_0, .int .u64 a1_1] 37 (0, 0)) (by (with_reducible repeat refine bl ?_); refine blk_far ?_ NB298_308.out _; (with_reducible repeat refine bl ?_); refine blk_far ?_ NB298_308.out _; (with_reducible repeat refine bl ?_); exact BK298.out)) : gb298 ≠ gb309)); have NB309_298 := Aside0.mk ((by rw [hg]; exact Nat.ne_of_gt (blk_lt (g := gb298) (o := .cells #[.int .u64 a1_0, .int .u64 a1_1] 37 (0, 0)) (by (with_reducible repeat refine bl ?_); refine blk_far ?_ NB298_308.out _; (with_reducible repeat refine bl ?_); refine blk_far ?_ NB298_308.out _; (with_reducible repeat refine bl ?_); exact BK298.out)) : gb309 ≠ gb298)); have NB306_309 := Aside0.mk ((by rw [hg]; exact Nat.ne_of_lt (blk_lt (g := gb306) (o := .cells #[.int .u64 0, .int .u64 0] 37 (0, 0)) (by (with_reducible repeat refine bl ?_); refine blk_far ?_ NB306_308.out _; (with_reducible repeat refine bl ?_); refine blk_far ?_ NB306_308.out _; (with_reducible repeat refine bl ?_); exact BK306.out)) : gb306 ≠ gb309)); have NB309_306 := Aside0.mk ((by rw [hg]; exact Nat.ne_of_gt (blk_lt (g := gb306) (o := .cells #[.int .u64 0, .int .u64 0] 37 (0, 0)) (by (with_reducible repeat refine bl ?_); refine blk_far ?_ NB306_308.out _; (with_reducible repeat refine bl ?_); refine blk_far ?_ NB306_308.out _; (with_reducible repeat refine bl ?_); exact BK306.out)) : gb309 ≠ gb306)); have NB307_309 := Aside0.mk ((by rw [hg]; exact Nat.ne_of_lt (blk_lt (g := gb307) (o := .cells #[.int .u64 0, .int .u64 0] 37 (0, 0)) (by (with_reducible repeat refine bl ?_); refine blk_far ?_ NB307_308.out _; (with_reducible repeat refine bl ?_); refine blk_far ?_ NB307_308.out _; (with_reducible repeat refine bl ?_); exact BK307.out)) : gb307 ≠ gb309)); have NB309_307 := Aside0.mk ((by rw [hg]; exact Nat.ne_of_gt (blk_lt (g := gb307) (o := .cells #[.int .u64 0, .int .u64 0] 37 (0, 0)) (by (with_reducible repeat refine bl ?_); refine blk_far ?_ NB307_308.out _; (with_reducible repeat refine bl ?_); refine blk_far ?_ NB307_308.out _; (with_reducible repeat refine bl ?_); exact BK307.out)) : gb309 ≠ gb307)); have NB308_309 := Aside0.mk ((by rw [hg]; exact Nat.ne_of_lt (blk_lt (g := gb308) (o := .cells #[.int .u64 0, .int .u64 1] 37 (0, 0)) (by (with_reducible repeat refine bl ?_); refine blk_put (cs := #[.int .u64 0, .int .u64 0]) ?_ 1 _ rfl; (with_reducible repeat refine bl ?_); refine blk_put (cs := #[.int .u64 0, .int .u64 0]) ?_ 0 _ rfl; (with_reducible repeat refine bl ?_); exact BK308.out)) : gb308 ≠ gb309)); have NB309_308 := Aside0.mk ((by rw [hg]; exact Nat.ne_of_gt (blk_lt (g := gb308) (o := .cells #[.int .u64 0, .int .u64 1] 37 (0, 0)) (by (with_reducible repeat refine bl ?_); refine blk_put (cs := #[.int .u64 0, .int .u64 0]) ?_ 1 _ rfl; (with_reducible repeat refine bl ?_); refine blk_put (cs := #[.int .u64 0, .int .u64 0]) ?_ 0 _ rfl; (with_reducible repeat refine bl ?_); exact BK308.out)) : gb309 ≠ gb308)); replace HO297 := Aside0.mk (Kd.R_below (by (with_reducible repeat refine kl ?_); exact (Kd.R_mono (Kd.R_far (p := ⟨gb308, 1, none⟩) (Kd.R_far (p := ⟨gb308, 0, none⟩) (Kd.R_types HO297.out BK308.out (by decide)) (fun _ hk => hk.2) (.int .u64 0)) (fun _ hk => hk.2) (.int .u64 1)) (fun _ h_ => h_.1))) hb); replace HO303 := Aside0.mk (Kd.R_below (Kd.R_elderB (by (with_reducible repeat refine kl ?_); exact (Kd.R_mono (Kd.R_far (p := ⟨gb308, 1, none⟩) (Kd.R_far (p := ⟨gb308, 0, none⟩) (Kd.R_mono HO303.out (fun k_ hk => (⟨hk, hk.2⟩ : _ ∧ k_ ≠ gb308))) (fun _ hk => hk.2) (.int .u64 0)) (fun _ hk => hk.2) (.int .u64 1)) (fun _ h_ => h_.1))) gb309 (Nat.le_of_eq hg.symm)) hb); replace BK294 := Aside0.mk (blk_below (g := gb294) (o := .cells #[.int .u64 a1_0, .int .u64 a1_1] 24 (0, 0)) (by (with_reducible repeat refine bl ?_); refine blk_far ?_ NB294_308.out _; (with_reducible repeat refine bl ?_); refine blk_far ?_ NB294_308.out _; (with_reducible repeat refine bl ?_); exact BK294.out) hb); replace BK298 := Aside0.mk (blk_below (g := gb298) (o := .cells #[.int .u64 a1_0, .int .u64 a1_1] 37 (0, 0)) (by (with_reducible repeat refine bl ?_); refine blk_far ?_ NB298_308.out _; (with_reducible repeat refine bl ?_); refine blk_far ?_ NB298_308.out _; (with_reducible repeat refine bl ?_); exact BK298.out) hb); replace BK306 := Aside0.mk (blk_below (g := gb306) (o := .cells #[.int .u64 0, .int .u64 0] 37 (0, 0)) (by (with_reducible repeat refine bl ?_); refine blk_far ?_ NB306_308.out _; (with_reducible repeat refine bl ?_); refine blk_far ?_ NB306_308.out _; (with_reducible repeat refine bl ?_); exact BK306.out) hb); replace BK307 := Aside0.mk (blk_below (g := gb307) (o := .cells #[.int .u64 0, .int .u64 0] 37 (0, 0)) (by (with_reducible repeat refine bl ?_); refine blk_far ?_ NB307_308.out _; (with_reducible repeat refine bl ?_); refine blk_far ?_ NB307_308.out _; (with_reducible repeat refine bl ?_); exact BK307.out) hb); replace BK308 := Aside0.mk (blk_below (g := gb308) (o := .cells #[.int .u64 0, .int .u64 1] 37 (0, 0)) (by (with_reducible repeat refine bl ?_); refine blk_put (cs := #[.int .u64 0, .int .u64 0]) ?_ 1 _ rfl; (with_reducible repeat refine bl ?_); refine blk_put (cs := #[.int .u64 0, .int .u64 0]) ?_ 0 _ rfl; (with_reducible repeat refine bl ?_); exact BK308.out) hb); replace HB := bh HB hb; clear hb hbox hg; have hnb34 := NB309_294.out; have hnc34 := NB294_309.out; have hnb35 := NB309_298.out; have hnc35 := NB298_309.out; have hnb36 := NB309_306.out; have hnc36 := NB306_309.out; have hnb37 := NB309_307.out; have hnc37 := NB307_309.out; have hnb38 := NB309_308.out; have hnc38 := NB308_309.out; obtain ⟨hcz39_0, hcz39_1⟩ := zc2 BK309; obtain ⟨hfz39_0, hfz39_1⟩ := zf2 BK309))
    repeat (go_quiet (first | ((with_reducible refine gate_dst (N := 3) rfl ?_); (try (refine gate_guard (by rfl) ?_; dsimp only)); refine box_event ?hg (N := 3) ?hd (cs := #[.int .u64 a1_0, .int .u64 a1_1]) (t := 24) ?hr ?_; (case hd => rfl); (case hg => rfl); (case hr => first | (go_simp; done) | (go_simp; rfl)); intro gb294 hg w11 hbox hb; have BK294 := Aside0.mk hbox; have GW294 := ge hg HB; have GE294 := ge hg HB; replace HB := bh HB hb; clear hb hbox hg; obtain ⟨hcz12_0, hcz12_1⟩ := zc2 BK294; obtain ⟨hfz12_0, hfz12_1⟩ := zf2 BK294) | (go_at_call 16; (with_reducible refine (frob_Least.calls k a0 a1_0 a1_1 t295 _ A3.out).mono ?_); rintro e w13 ⟨v296, rfl, ho0, hb⟩; have HO297 := kw ho0 HB; replace BK294 := bb BK294 hb; replace HB := bh HB hb; (try clear hb); (try clear hb2); (try clear hk); (try clear hi); (try clear ho0); obtain ⟨hcz14_0, hcz14_1⟩ := zc2 BK294; obtain ⟨hfz14_0, hfz14_1⟩ := zf2 BK294) | ((with_reducible refine gate_dst (N := 6) rfl ?_); (try (refine gate_guard (by rfl) ?_; dsimp only)); refine box_event ?hg (N := 6) ?hd (cs := #[.int .u64 0, .int .u64 0]) (t := 37) ?hr ?_; (case hd => rfl); (case hg => rfl); (case hr => first | (go_simp; done) | (go_simp; rfl)); intro gb298 hg w15 hbox hb; have BK298 := Aside0.mk hbox; have GW298 := ge hg HB; have GE298 := ge hg HB; have NB294_298 := nl hg BK294; have NB298_294 := ng hg BK294; replace HO297 := kb HO297 hb; replace BK294 := bb BK294 hb; replace HB := bh HB hb; clear hb hbox hg; have hnb16 := NB298_294.out; have hnc16 := NB294_298.out; obtain ⟨hcz17_0, hcz17_1⟩ := zc2 BK298; obtain ⟨hfz17_0, hfz17_1⟩ := zf2 BK298) | (go_at_call 17; (with_reducible refine (steepleref01_Of.calls k a0 a1_0 a1_1 true _ A4.out).mono ?_); rintro e w18 ⟨rfl, hb⟩; replace HO297 := Aside0.mk (Kd.R_below (by (with_reducible repeat refine kl ?_); exact (Kd.R_mono (Kd.R_far (p := ⟨gb298, 1, none⟩) (Kd.R_far (p := ⟨gb298, 0, none⟩) (Kd.R_types HO297.out BK298.out (by decide)) (fun _ hk => hk.2) (.int .u64 a1_0)) (fun _ hk => hk.2) (.int .u64 a1_1)) (fun _ h_ => h_.1))) hb); replace BK294 := Aside0.mk (blk_below (g := gb294) (o := .cells #[.int .u64 a1_0, .int .u64 a1_1] 24 (0, 0)) (by (with_reducible repeat refine bl ?_); refine blk_far ?_ NB294_298.out _; (with_reducible repeat refine bl ?_); refine blk_far ?_ NB294_298.out _; (with_reducible repeat refine bl ?_); exact BK294.out) hb); replace BK298 := Aside0.mk (blk_below (g := gb298) (o := .cells #[.int .u64 a1_0, .int .u64 a1_1] 37 (0, 0)) (by (with_reducible repeat refine bl ?_); refine blk_put (cs := #[.int .u64 a1_0, .int .u64 0]) ?_ 1 _ rfl; (with_reducible repeat refine bl ?_); refine blk_put (cs := #[.int .u64 0, .int .u64 0]) ?_ 0 _ rfl; (with_reducible repeat refine bl ?_); exact BK298.out) hb); replace HB := bh HB hb; (try clear hb); (try clear hb2); (try clear hk); (try clear hi); obtain ⟨hcz19_0, hcz19_1⟩ := zc2 BK298; obtain ⟨hfz19_0, hfz19_1⟩ := zf2 BK298) | (go_at_call 18; (with_reducible refine (steepleref33_Least.calls k a0 a1_0 a1_1 t301 _ A6.out).mono ?_); rintro e w20 ⟨v302, rfl, ho0, hb⟩; have HO303 := Aside0.mk (Kd.R_lower (Kd.R_newB ho0 (g := gb298) (o := .cells #[.int .u64 a1_0, .int .u64 a1_1] 37 (0, 0)) (bk BK298.out)) (below_size (bq HB.out))); replace HO297 := kb HO297 hb; replace BK294 := bb BK294 hb; replace BK298 := bb BK298 hb; replace HB := bh HB hb; (try clear hb); (try clear hb2); (try clear hk); (try clear hi); (try clear ho0); obtain ⟨Ao21, co21, eo21⟩ := Kd.R_slice HO297.out; subst eo21; obtain ⟨Ao22, co22, eo22⟩ := Kd.R_slice HO303.out; subst eo22; obtain ⟨hcz23_0, hcz23_1⟩ := zc2 BK298; obtain ⟨hfz23_0, hfz23_1⟩ := zf2 BK298) | (go_at_call 20; (with_reducible refine (steepleref02_Level.calls k a1_0 a1_1 t304 _ A8.out).mono ?_); rintro e w24 ⟨rfl, hb⟩; replace HO297 := kb HO297 hb; replace HO303 := kb HO303 hb; replace BK294 := bb BK294 hb; replace BK298 := bb BK298 hb; replace HB := bh HB hb; (try clear hb); (try clear hb2); (try clear hk); (try clear hi)) | (go_at_call 19; (with_reducible refine (steepleref15_Two.calls k t304 t305 _ A9.out).mono ?_); rintro e w' ⟨rfl, ⟨nd, rfl⟩⟩; (try first | exact ⟨rfl, _, World.drewN_drewN _ _ _⟩ | exact ⟨rfl, _, Eq.trans (World.drewN_drewN _ _ _) (congrArg (World.drewN _) (Nat.add_assoc _ _ _))⟩)) | ((with_reducible refine gate_dst (N := 8) rfl ?_); (try (refine gate_guard (by rfl) ?_; dsimp only)); refine box_event ?hg (N := 8) ?hd (cs := #[.int .u64 0, .int .u64 0]) (t := 37) ?hr ?_; (case hd => rfl); (case hg => rfl); (case hr => first | (go_simp; done) | (go_simp; rfl)); intro gb306 hg w25 hbox hb; have BK306 := Aside0.mk hbox; have GW306 := ge hg HB; have GE306 := ge hg HB; have NB294_306 := nl hg BK294; have NB306_294 := ng hg BK294; have NB298_306 := nl hg BK298; have NB306_298 := ng hg BK298; replace HO297 := kb HO297 hb; replace HO303 := Aside0.mk (Kd.R_below (Kd.R_elderB (kr HO303.out) gb306 (Nat.le_of_eq hg.symm)) hb); replace BK294 := bb BK294 hb; replace BK298 := bb BK298 hb; replace HB := bh HB hb; clear hb hbox hg) | ((with_reducible refine gate_dst (N := 9) rfl ?_); (try (refine gate_guard (by rfl) ?_; dsimp only)); refine box_event ?hg (N := 9) ?hd (cs := #[.int .u64 0, .int .u64 0]) (t := 37) ?hr ?_; (case hd => rfl); (case hg => rfl); (case hr => first | (go_simp; done) | (go_simp; rfl)); intro gb307 hg w26 hbox hb; have BK307 := Aside0.mk hbox; have GW307 := ge hg HB; have GE307 := ge hg HB; have NB294_307 := nl hg BK294; have NB307_294 := ng hg BK294; have NB298_307 := nl hg BK298; have NB307_298 := ng hg BK298; have NB306_307 := nl hg BK306; have NB307_306 := ng hg BK306; replace HO297 := kb HO297 hb; replace HO303 := Aside0.mk (Kd.R_below (Kd.R_elderB (kr HO303.out) gb307 (Nat.le_of_eq hg.symm)) hb); replace BK294 := bb BK294 hb; replace BK298 := bb BK298 hb; replace BK306 := bb BK306 hb; replace HB := bh HB hb; clear hb hbox hg) | ((with_reducible refine gate_dst (N := 10) rfl ?_); (try (refine gate_guard (by rfl) ?_; dsimp only)); refine box_event ?hg (N := 10) ?hd (cs := #[.int .u64 0, .int .u64 0]) (t := 37) ?hr ?_; (case hd => rfl); (case hg => rfl); (case hr => first | (go_simp; done) | (go_simp; rfl)); intro gb308 hg w27 hbox hb; have BK308 := Aside0.mk hbox; have GW308 := ge hg HB; have GE308 := ge hg HB; have NB294_308 := nl hg BK294; have NB308_294 := ng hg BK294; have NB298_308 := nl hg BK298; have NB308_298 := ng hg BK298; have NB306_308 := nl hg BK306; have NB308_306 := ng hg BK306; have NB307_308 := nl hg BK307; have NB308_307 := ng hg BK307; replace HO297 := kb HO297 hb; replace HO303 := Aside0.mk (Kd.R_below (Kd.R_elderB (kr HO303.out) gb308 (Nat.le_of_eq hg.symm)) hb); replace BK294 := bb BK294 hb; replace BK298 := bb BK298 hb; replace BK306 := bb BK306 hb; replace BK307 := bb BK307 hb; replace HB := bh HB hb; clear hb hbox hg; have hnb28 := NB308_294.out; have hnc28 := NB294_308.out; have hnb29 := NB308_298.out; have hnc29 := NB298_308.out; have hnb30 := NB308_306.out; have hnc30 := NB306_308.out; have hnb31 := NB308_307.out; have hnc31 := NB307_308.out; obtain ⟨hcz32_0, hcz32_1⟩ := zc2 BK308; obtain ⟨hfz32_0, hfz32_1⟩ := zf2 BK308) | ((with_reducible refine gate_dst (N := 11) rfl ?_); (try (refine gate_guard (by rfl) ?_; dsimp only)); refine box_event ?hg (N := 11) ?hd (cs := #[.int .u64 0, .int .u64 0]) (t := 37) ?hr ?_; (case hd => rfl); (case hg => rfl); (case hr => first | (go_simp; done) | (go_simp; rfl)); intro gb309 hg w33 hbox hb; have BK309 := Aside0.mk hbox; have GW309 := ge hg HB; have GE309 := ge hg HB; have NB294_309 := Aside0.mk ((by rw [hg]; exact Nat.ne_of_lt (blk_lt (g := gb294) (o := .cells #[.int .u64 a1_0, .int .u64 a1_1] 24 (0, 0)) (by (with_reducible repeat refine bl ?_); refine blk_far ?_ NB294_308.out _; (with_reducible repeat refine bl ?_); refine blk_far ?_ NB294_308.out _; (with_reducible repeat refine bl ?_); exact BK294.out)) : gb294 ≠ gb309)); have NB309_294 := Aside0.mk ((by rw [hg]; exact Nat.ne_of_gt (blk_lt (g := gb294) (o := .cells #[.int .u64 a1_0, .int .u64 a1_1] 24 (0, 0)) (by (with_reducible repeat refine bl ?_); refine blk_far ?_ NB294_308.out _; (with_reducible repeat refine bl ?_); refine blk_far ?_ NB294_308.out _; (with_reducible repeat refine bl ?_); exact BK294.out)) : gb309 ≠ gb294)); have NB298_309 := Aside0.mk ((by rw [hg]; exact Nat.ne_of_lt (blk_lt (g := gb298) (o := .cells #[.int .u64 a1_0, .int .u64 a1_1] 37 (0, 0)) (by (with_reducible repeat refine bl ?_); refine blk_far ?_ NB298_308.out _; (with_reducible repeat refine bl ?_); refine blk_far ?_ NB298_308.out _; (with_reducible repeat refine bl ?_); exact BK298.out)) : gb298 ≠ gb309)); have NB309_298 := Aside0.mk ((by rw [hg]; exact Nat.ne_of_gt (blk_lt (g := gb298) (o := .cells #[.int .u64 a1_0, .int .u64 a1_1] 37 (0, 0)) (by (with_reducible repeat refine bl ?_); refine blk_far ?_ NB298_308.out _; (with_reducible repeat refine bl ?_); refine blk_far ?_ NB298_308.out _; (with_reducible repeat refine bl ?_); exact BK298.out)) : gb309 ≠ gb298)); have NB306_309 := Aside0.mk ((by rw [hg]; exact Nat.ne_of_lt (blk_lt (g := gb306) (o := .cells #[.int .u64 0, .int .u64 0] 37 (0, 0)) (by (with_reducible repeat refine bl ?_); refine blk_far ?_ NB306_308.out _; (with_reducible repeat refine bl ?_); refine blk_far ?_ NB306_308.out _; (with_reducible repeat refine bl ?_); exact BK306.out)) : gb306 ≠ gb309)); have NB309_306 := Aside0.mk ((by rw [hg]; exact Nat.ne_of_gt (blk_lt (g := gb306) (o := .cells #[.int .u64 0, .int .u64 0] 37 (0, 0)) (by (with_reducible repeat refine bl ?_); refine blk_far ?_ NB306_308.out _; (with_reducible repeat refine bl ?_); refine blk_far ?_ NB306_308.out _; (with_reducible repeat refine bl ?_); exact BK306.out)) : gb309 ≠ gb306)); have NB307_309 := Aside0.mk ((by rw [hg]; exact Nat.ne_of_lt (blk_lt (g := gb307) (o := .cells #[.int .u64 0, .int .u64 0] 37 (0, 0)) (by (with_reducible repeat refine bl ?_); refine blk_far ?_ NB307_308.out _; (with_reducible repeat refine bl ?_); refine blk_far ?_ NB307_308.out _; (with_reducible repeat refine bl ?_); exact BK307.out)) : gb307 ≠ gb309)); have NB309_307 := Aside0.mk ((by rw [hg]; exact Nat.ne_of_gt (blk_lt (g := gb307) (o := .cells #[.int .u64 0, .int .u64 0] 37 (0, 0)) (by (with_reducible repeat refine bl ?_); refine blk_far ?_ NB307_308.out _; (with_reducible repeat refine bl ?_); refine blk_far ?_ NB307_308.out _; (with_reducible repeat refine bl ?_); exact BK307.out)) : gb309 ≠ gb307)); have NB308_309 := Aside0.mk ((by rw [hg]; exact Nat.ne_of_lt (blk_lt (g := gb308) (o := .cells #[.int .u64 0, .int .u64 1] 37 (0, 0)) (by (with_reducible repeat refine bl ?_); refine blk_put (cs := #[.int .u64 0, .int .u64 0]) ?_ 1 _ rfl; (with_reducible repeat refine bl ?_); refine blk_put (cs := #[.int .u64 0, .int .u64 0]) ?_ 0 _ rfl; (with_reducible repeat refine bl ?_); exact BK308.out)) : gb308 ≠ gb309)); have NB309_308 := Aside0.mk ((by rw [hg]; exact Nat.ne_of_gt (blk_lt (g := gb308) (o := .cells #[.int .u64 0, .int .u64 1] 37 (0, 0)) (by (with_reducible repeat refine bl ?_); refine blk_put (cs := #[.int .u64 0, .int .u64 0]) ?_ 1 _ rfl; (with_reducible repeat refine bl ?_); refine blk_put (cs := #[.int .u64 0, .int .u64 0]) ?_ 0 _ rfl; (with_reducible repeat refine bl ?_); exact BK308.out)) : gb309 ≠ gb308)); replace HO297 := Aside0.mk (Kd.R_below (by (with_reducible repeat refine kl ?_); exact (Kd.R_mono (Kd.R_far (p := ⟨gb308, 1, none⟩) (Kd.R_far (p := ⟨gb308, 0, none⟩) (Kd.R_types HO297.out BK308.out (by decide)) (fun _ hk => hk.2) (.int .u64 0)) (fun _ hk => hk.2) (.int .u64 1)) (fun _ h_ => h_.1))) hb); replace HO303 := Aside0.mk (Kd.R_below (Kd.R_elderB (by (with_reducible repeat refine kl ?_); exact (Kd.R_mono (Kd.R_far (p := ⟨gb308, 1, none⟩) (Kd.R_far (p := ⟨gb308, 0, none⟩) (Kd.R_mono HO303.out (fun k_ hk => (⟨hk, hk.2⟩ : _ ∧ k_ ≠ gb308))) (fun _ hk => hk.2) (.int .u64 0)) (fun _ hk => hk.2) (.int .u64 1)) (fun _ h_ => h_.1))) gb309 (Nat.le_of_eq hg.symm)) hb); replace BK294 := Aside0.mk (blk_below (g := gb294) (o := .cells #[.int .u64 a1_0, .int .u64 a1_1] 24 (0, 0)) (by (with_reducible repeat refine bl ?_); refine blk_far ?_ NB294_308.out _; (with_reducible repeat refine bl ?_); refine blk_far ?_ NB294_308.out _; (with_reducible repeat refine bl ?_); exact BK294.out) hb); replace BK298 := Aside0.mk (blk_below (g := gb298) (o := .cells #[.int .u64 a1_0, .int .u64 a1_1] 37 (0, 0)) (by (with_reducible repeat refine bl ?_); refine blk_far ?_ NB298_308.out _; (with_reducible repeat refine bl ?_); refine blk_far ?_ NB298_308.out _; (with_reducible repeat refine bl ?_); exact BK298.out) hb); replace BK306 := Aside0.mk (blk_below (g := gb306) (o := .cells #[.int .u64 0, .int .u64 0] 37 (0, 0)) (by (with_reducible repeat refine bl ?_); refine blk_far ?_ NB306_308.out _; (with_reducible repeat refine bl ?_); refine blk_far ?_ NB306_308.out _; (with_reducible repeat refine bl ?_); exact BK306.out) hb); replace BK307 := Aside0.mk (blk_below (g := gb307) (o := .cells #[.int .u64 0, .int .u64 0] 37 (0, 0)) (by (with_reducible repeat refine bl ?_); refine blk_far ?_ NB307_308.out _; (with_reducible repeat refine bl ?_); refine blk_far ?_ NB307_308.out _; (with_reducible repeat refine bl ?_); exact BK307.out) hb); replace BK308 := Aside0.mk (blk_below (g := gb308) (o := .cells #[.int .u64 0, .int .u64 1] 37 (0, 0)) (by (with_reducible repeat refine bl ?_); refine blk_put (cs := #[.int .u64 0, .int .u64 0]) ?_ 1 _ rfl; (with_reducible repeat refine bl ?_); refine blk_put (cs := #[.int .u64 0, .int .u64 0]) ?_ 0 _ rfl; (with_reducible repeat refine bl ?_); exact BK308.out) hb); replace HB := bh HB hb; clear hb hbox hg; have hnb34 := NB309_294.out; have hnc34 := NB294_309.out; have hnb35 := NB309_298.out; have hnc35 := NB298_309.out; have hnb36 := NB309_306.out; have hnc36 := NB306_309.out; have hnb37 := NB309_307.out; have hnc37 := NB307_309.out; have hnb38 := NB309_308.out; have hnc38 := NB308_309.out; obtain ⟨hcz39_0, hcz39_1⟩ := zc2 BK309; obtain ⟨hfz39_0, hfz39_1⟩ := zf2 BK309)); try go_wp2_with (first | ((with_reducible refine gate_dst (N := 3) rfl ?_); (try (refine gate_guard (by rfl) ?_; dsimp only)); refine box_event ?hg (N := 3) ?hd (cs := #[.int .u64 a1_0, .int .u64 a1_1]) (t := 24) ?hr ?_; (case hd => rfl); (case hg => rfl); (case hr => first | (go_simp; done) | (go_simp; rfl)); intro gb294 hg w11 hbox hb; have BK294 := Aside0.mk hbox; have GW294 := ge hg HB; have GE294 := ge hg HB; replace HB := bh HB hb; clear hb hbox hg; obtain ⟨hcz12_0, hcz12_1⟩ := zc2 BK294; obtain ⟨hfz12_0, hfz12_1⟩ := zf2 BK294) | (go_at_call 16; (with_reducible refine (frob_Least.calls k a0 a1_0 a1_1 t295 _ A3.out).mono ?_); rintro e w13 ⟨v296, rfl, ho0, hb⟩; have HO297 := kw ho0 HB; replace BK294 := bb BK294 hb; replace HB := bh HB hb; (try clear hb); (try clear hb2); (try clear hk); (try clear hi); (try clear ho0); obtain ⟨hcz14_0, hcz14_1⟩ := zc2 BK294; obtain ⟨hfz14_0, hfz14_1⟩ := zf2 BK294) | ((with_reducible refine gate_dst (N := 6) rfl ?_); (try (refine gate_guard (by rfl) ?_; dsimp only)); refine box_event ?hg (N := 6) ?hd (cs := #[.int .u64 0, .int .u64 0]) (t := 37) ?hr ?_; (case hd => rfl); (case hg => rfl); (case hr => first | (go_simp; done) | (go_simp; rfl)); intro gb298 hg w15 hbox hb; have BK298 := Aside0.mk hbox; have GW298 := ge hg HB; have GE298 := ge hg HB; have NB294_298 := nl hg BK294; have NB298_294 := ng hg BK294; replace HO297 := kb HO297 hb; replace BK294 := bb BK294 hb; replace HB := bh HB hb; clear hb hbox hg; have hnb16 := NB298_294.out; have hnc16 := NB294_298.out; obtain ⟨hcz17_0, hcz17_1⟩ := zc2 BK298; obtain ⟨hfz17_0, hfz17_1⟩ := zf2 BK298) | (go_at_call 17; (with_reducible refine (steepleref01_Of.calls k a0 a1_0 a1_1 true _ A4.out).mono ?_); rintro e w18 ⟨rfl, hb⟩; replace HO297 := Aside0.mk (Kd.R_below (by (with_reducible repeat refine kl ?_); exact (Kd.R_mono (Kd.R_far (p := ⟨gb298, 1, none⟩) (Kd.R_far (p := ⟨gb298, 0, none⟩) (Kd.R_types HO297.out BK298.out (by decide)) (fun _ hk => hk.2) (.int .u64 a1_0)) (fun _ hk => hk.2) (.int .u64 a1_1)) (fun _ h_ => h_.1))) hb); replace BK294 := Aside0.mk (blk_below (g := gb294) (o := .cells #[.int .u64 a1_0, .int .u64 a1_1] 24 (0, 0)) (by (with_reducible repeat refine bl ?_); refine blk_far ?_ NB294_298.out _; (with_reducible repeat refine bl ?_); refine blk_far ?_ NB294_298.out _; (with_reducible repeat refine bl ?_); exact BK294.out) hb); replace BK298 := Aside0.mk (blk_below (g := gb298) (o := .cells #[.int .u64 a1_0, .int .u64 a1_1] 37 (0, 0)) (by (with_reducible repeat refine bl ?_); refine blk_put (cs := #[.int .u64 a1_0, .int .u64 0]) ?_ 1 _ rfl; (with_reducible repeat refine bl ?_); refine blk_put (cs := #[.int .u64 0, .int .u64 0]) ?_ 0 _ rfl; (with_reducible repeat refine bl ?_); exact BK298.out) hb); replace HB := bh HB hb; (try clear hb); (try clear hb2); (try clear hk); (try clear hi); obtain ⟨hcz19_0, hcz19_1⟩ := zc2 BK298; obtain ⟨hfz19_0, hfz19_1⟩ := zf2 BK298) | (go_at_call 18; (with_reducible refine (steepleref33_Least.calls k a0 a1_0 a1_1 t301 _ A6.out).mono ?_); rintro e w20 ⟨v302, rfl, ho0, hb⟩; have HO303 := Aside0.mk (Kd.R_lower (Kd.R_newB ho0 (g := gb298) (o := .cells #[.int .u64 a1_0, .int .u64 a1_1] 37 (0, 0)) (bk BK298.out)) (below_size (bq HB.out))); replace HO297 := kb HO297 hb; replace BK294 := bb BK294 hb; replace BK298 := bb BK298 hb; replace HB := bh HB hb; (try clear hb); (try clear hb2); (try clear hk); (try clear hi); (try clear ho0); obtain ⟨Ao21, co21, eo21⟩ := Kd.R_slice HO297.out; subst eo21; obtain ⟨Ao22, co22, eo22⟩ := Kd.R_slice HO303.out; subst eo22; obtain ⟨hcz23_0, hcz23_1⟩ := zc2 BK298; obtain ⟨hfz23_0, hfz23_1⟩ := zf2 BK298) | (go_at_call 20; (with_reducible refine (steepleref02_Level.calls k a1_0 a1_1 t304 _ A8.out).mono ?_); rintro e w24 ⟨rfl, hb⟩; replace HO297 := kb HO297 hb; replace HO303 := kb HO303 hb; replace BK294 := bb BK294 hb; replace BK298 := bb BK298 hb; replace HB := bh HB hb; (try clear hb); (try clear hb2); (try clear hk); (try clear hi)) | (go_at_call 19; (with_reducible refine (steepleref15_Two.calls k t304 t305 _ A9.out).mono ?_); rintro e w' ⟨rfl, ⟨nd, rfl⟩⟩; (try first | exact ⟨rfl, _, World.drewN_drewN _ _ _⟩ | exact ⟨rfl, _, Eq.trans (World.drewN_drewN _ _ _) (congrArg (World.drewN _) (Nat.add_assoc _ _ _))⟩)) | ((with_reducible refine gate_dst (N := 8) rfl ?_); (try (refine gate_guard (by rfl) ?_; dsimp only)); refine box_event ?hg (N := 8) ?hd (cs := #[.int .u64 0, .int .u64 0]) (t := 37) ?hr ?_; (case hd => rfl); (case hg => rfl); (case hr => first | (go_simp; done) | (go_simp; rfl)); intro gb306 hg w25 hbox hb; have BK306 := Aside0.mk hbox; have GW306 := ge hg HB; have GE306 := ge hg HB; have NB294_306 := nl hg BK294; have NB306_294 := ng hg BK294; have NB298_306 := nl hg BK298; have NB306_298 := ng hg BK298; replace HO297 := kb HO297 hb; replace HO303 := Aside0.mk (Kd.R_below (Kd.R_elderB (kr HO303.out) gb306 (Nat.le_of_eq hg.symm)) hb); replace BK294 := bb BK294 hb; replace BK298 := bb BK298 hb; replace HB := bh HB hb; clear hb hbox hg) | ((with_reducible refine gate_dst (N := 9) rfl ?_); (try (refine gate_guard (by rfl) ?_; dsimp only)); refine box_event ?hg (N := 9) ?hd (cs := #[.int .u64 0, .int .u64 0]) (t := 37) ?hr ?_; (case hd => rfl); (case hg => rfl); (case hr => first | (go_simp; done) | (go_simp; rfl)); intro gb307 hg w26 hbox hb; have BK307 := Aside0.mk hbox; have GW307 := ge hg HB; have GE307 := ge hg HB; have NB294_307 := nl hg BK294; have NB307_294 := ng hg BK294; have NB298_307 := nl hg BK298; have NB307_298 := ng hg BK298; have NB306_307 := nl hg BK306; have NB307_306 := ng hg BK306; replace HO297 := kb HO297 hb; replace HO303 := Aside0.mk (Kd.R_below (Kd.R_elderB (kr HO303.out) gb307 (Nat.le_of_eq hg.symm)) hb); replace BK294 := bb BK294 hb; replace BK298 := bb BK298 hb; replace BK306 := bb BK306 hb; replace HB := bh HB hb; clear hb hbox hg) | ((with_reducible refine gate_dst (N := 10) rfl ?_); (try (refine gate_guard (by rfl) ?_; dsimp only)); refine box_event ?hg (N := 10) ?hd (cs := #[.int .u64 0, .int .u64 0]) (t := 37) ?hr ?_; (case hd => rfl); (case hg => rfl); (case hr => first | (go_simp; done) | (go_simp; rfl)); intro gb308 hg w27 hbox hb; have BK308 := Aside0.mk hbox; have GW308 := ge hg HB; have GE308 := ge hg HB; have NB294_308 := nl hg BK294; have NB308_294 := ng hg BK294; have NB298_308 := nl hg BK298; have NB308_298 := ng hg BK298; have NB306_308 := nl hg BK306; have NB308_306 := ng hg BK306; have NB307_308 := nl hg BK307; have NB308_307 := ng hg BK307; replace HO297 := kb HO297 hb; replace HO303 := Aside0.mk (Kd.R_below (Kd.R_elderB (kr HO303.out) gb308 (Nat.le_of_eq hg.symm)) hb); replace BK294 := bb BK294 hb; replace BK298 := bb BK298 hb; replace BK306 := bb BK306 hb; replace BK307 := bb BK307 hb; replace HB := bh HB hb; clear hb hbox hg; have hnb28 := NB308_294.out; have hnc28 := NB294_308.out; have hnb29 := NB308_298.out; have hnc29 := NB298_308.out; have hnb30 := NB308_306.out; have hnc30 := NB306_308.out; have hnb31 := NB308_307.out; have hnc31 := NB307_308.out; obtain ⟨hcz32_0, hcz32_1⟩ := zc2 BK308; obtain ⟨hfz32_0, hfz32_1⟩ := zf2 BK308) | ((with_reducible refine gate_dst (N := 11) rfl ?_); (try (refine gate_guard (by rfl) ?_; dsimp only)); refine box_event ?hg (N := 11) ?hd (cs := #[.int .u64 0, .int .u64 0]) (t := 37) ?hr ?_; (case hd => rfl); (case hg => rfl); (case hr => first | (go_simp; done) | (go_simp; rfl)); intro gb309 hg w33 hbox hb; have BK309 := Aside0.mk hbox; have GW309 := ge hg HB; have GE309 := ge hg HB; have NB294_309 := Aside0.mk ((by rw [hg]; exact Nat.ne_of_lt (blk_lt (g := gb294) (o := .cells #[.int .u64 a1_0, .int .u64 a1_1] 24 (0, 0)) (by (with_reducible repeat refine bl ?_); refine blk_far ?_ NB294_308.out _; (with_reducible repeat refine bl ?_); refine blk_far ?_ NB294_308.out _; (with_reducible repeat refine bl ?_); exact BK294.out)) : gb294 ≠ gb309)); have NB309_294 := Aside0.mk ((by rw [hg]; exact Nat.ne_of_gt (blk_lt (g := gb294) (o := .cells #[.int .u64 a1_0, .int .u64 a1_1] 24 (0, 0)) (by (with_reducible repeat refine bl ?_); refine blk_far ?_ NB294_308.out _; (with_reducible repeat refine bl ?_); refine blk_far ?_ NB294_308.out _; (with_reducible repeat refine bl ?_); exact BK294.out)) : gb309 ≠ gb294)); have NB298_309 := Aside0.mk ((by rw [hg]; exact Nat.ne_of_lt (blk_lt (g := gb298) (o := .cells #[.int .u64 a1_0, .int .u64 a1_1] 37 (0, 0)) (by (with_reducible repeat refine bl ?_); refine blk_far ?_ NB298_308.out _; (with_reducible repeat refine bl ?_); refine blk_far ?_ NB298_308.out _; (with_reducible repeat refine bl ?_); exact BK298.out)) : gb298 ≠ gb309)); have NB309_298 := Aside0.mk ((by rw [hg]; exact Nat.ne_of_gt (blk_lt (g := gb298) (o := .cells #[.int .u64 a1_0, .int .u64 a1_1] 37 (0, 0)) (by (with_reducible repeat refine bl ?_); refine blk_far ?_ NB298_308.out _; (with_reducible repeat refine bl ?_); refine blk_far ?_ NB298_308.out _; (with_reducible repeat refine bl ?_); exact BK298.out)) : gb309 ≠ gb298)); have NB306_309 := Aside0.mk ((by rw [hg]; exact Nat.ne_of_lt (blk_lt (g := gb306) (o := .cells #[.int .u64 0, .int .u64 0] 37 (0, 0)) (by (with_reducible repeat refine bl ?_); refine blk_far ?_ NB306_308.out _; (with_reducible repeat refine bl ?_); refine blk_far ?_ NB306_308.out _; (with_reducible repeat refine bl ?_); exact BK306.out)) : gb306 ≠ gb309)); have NB309_306 := Aside0.mk ((by rw [hg]; exact Nat.ne_of_gt (blk_lt (g := gb306) (o := .cells #[.int .u64 0, .int .u64 0] 37 (0, 0)) (by (with_reducible repeat refine bl ?_); refine blk_far ?_ NB306_308.out _; (with_reducible repeat refine bl ?_); refine blk_far ?_ NB306_308.out _; (with_reducible repeat refine bl ?_); exact BK306.out)) : gb309 ≠ gb306)); have NB307_309 := Aside0.mk ((by rw [hg]; exact Nat.ne_of_lt (blk_lt (g := gb307) (o := .cells #[.int .u64 0, .int .u64 0] 37 (0, 0)) (by (with_reducible repeat refine bl ?_); refine blk_far ?_ NB307_308.out _; (with_reducible repeat refine bl ?_); refine blk_far ?_ NB307_308.out _; (with_reducible repeat refine bl ?_); exact BK307.out)) : gb307 ≠ gb309)); have NB309_307 := Aside0.mk ((by rw [hg]; exact Nat.ne_of_gt (blk_lt (g := gb307) (o := .cells #[.int .u64 0, .int .u64 0] 37 (0, 0)) (by (with_reducible repeat refine bl ?_); refine blk_far ?_ NB307_308.out _; (with_reducible repeat refine bl ?_); refine blk_far ?_ NB307_308.out _; (with_reducible repeat refine bl ?_); exact BK307.out)) : gb309 ≠ gb307)); have NB308_309 := Aside0.mk ((by rw [hg]; exact Nat.ne_of_lt (blk_lt (g := gb308) (o := .cells #[.int .u64 0, .int .u64 1] 37 (0, 0)) (by (with_reducible repeat refine bl ?_); refine blk_put (cs := #[.int .u64 0, .int .u64 0]) ?_ 1 _ rfl; (with_reducible repeat refine bl ?_); refine blk_put (cs := #[.int .u64 0, .int .u64 0]) ?_ 0 _ rfl; (with_reducible repeat refine bl ?_); exact BK308.out)) : gb308 ≠ gb309)); have NB309_308 := Aside0.mk ((by rw [hg]; exact Nat.ne_of_gt (blk_lt (g := gb308) (o := .cells #[.int .u64 0, .int .u64 1] 37 (0, 0)) (by (with_reducible repeat refine bl ?_); refine blk_put (cs := #[.int .u64 0, .int .u64 0]) ?_ 1 _ rfl; (with_reducible repeat refine bl ?_); refine blk_put (cs := #[.int .u64 0, .int .u64 0]) ?_ 0 _ rfl; (with_reducible repeat refine bl ?_); exact BK308.out)) : gb309 ≠ gb308)); replace HO297 := Aside0.mk (Kd.R_below (by (with_reducible repeat refine kl ?_); exact (Kd.R_mono (Kd.R_far (p := ⟨gb308, 1, none⟩) (Kd.R_far (p := ⟨gb308, 0, none⟩) (Kd.R_types HO297.out BK308.out (by decide)) (fun _ hk => hk.2) (.int .u64 0)) (fun _ hk => hk.2) (.int .u64 1)) (fun _ h_ => h_.1))) hb); replace HO303 := Aside0.mk (Kd.R_below (Kd.R_elderB (by (with_reducible repeat refine kl ?_); exact (Kd.R_mono (Kd.R_far (p := ⟨gb308, 1, none⟩) (Kd.R_far (p := ⟨gb308, 0, none⟩) (Kd.R_mono HO303.out (fun k_ hk => (⟨hk, hk.2⟩ : _ ∧ k_ ≠ gb308))) (fun _ hk => hk.2) (.int .u64 0)) (fun _ hk => hk.2) (.int .u64 1)) (fun _ h_ => h_.1))) gb309 (Nat.le_of_eq hg.symm)) hb); replace BK294 := Aside0.mk (blk_below (g := gb294) (o := .cells #[.int .u64 a1_0, .int .u64 a1_1] 24 (0, 0)) (by (with_reducible repeat refine bl ?_); refine blk_far ?_ NB294_308.out _; (with_reducible repeat refine bl ?_); refine blk_far ?_ NB294_308.out _; (with_reducible repeat refine bl ?_); exact BK294.out) hb); replace BK298 := Aside0.mk (blk_below (g := gb298) (o := .cells #[.int .u64 a1_0, .int .u64 a1_1] 37 (0, 0)) (by (with_reducible repeat refine bl ?_); refine blk_far ?_ NB298_308.out _; (with_reducible repeat refine bl ?_); refine blk_far ?_ NB298_308.out _; (with_reducible repeat refine bl ?_); exact BK298.out) hb); replace BK306 := Aside0.mk (blk_below (g := gb306) (o := .cells #[.int .u64 0, .int .u64 0] 37 (0, 0)) (by (with_reducible repeat refine bl ?_); refine blk_far ?_ NB306_308.out _; (with_reducible repeat refine bl ?_); refine blk_far ?_ NB306_308.out _; (with_reducible repeat refine bl ?_); exact BK306.out) hb); replace BK307 := Aside0.mk (blk_below (g := gb307) (o := .cells #[.int .u64 0, .int .u64 0] 37 (0, 0)) (by (with_reducible repeat refine bl ?_); refine blk_far ?_ NB307_308.out _; (with_reducible repeat refine bl ?_); refine blk_far ?_ NB307_308.out _; (with_reducible repeat refine bl ?_); exact BK307.out) hb); replace BK308 := Aside0.mk (blk_below (g := gb308) (o := .cells #[.int .u64 0, .int .u64 1] 37 (0, 0)) (by (with_reducible repeat refine bl ?_); refine blk_put (cs := #[.int .u64 0, .int .u64 0]) ?_ 1 _ rfl; (with_reducible repeat refine bl ?_); refine blk_put (cs := #[.int .u64 0, .int .u64 0]) ?_ 0 _ rfl; (with_reducible repeat refine bl ?_); exact BK308.out) hb); replace HB := bh HB hb; clear hb hbox hg; have hnb34 := NB309_294.out; have hnc34 := NB294_309.out; have hnb35 := NB309_298.out; have hnc35 := NB298_309.out; have hnb36 := NB309_306.out; have hnc36 := NB306_309.out; have hnb37 := NB309_307.out; have hnc37 := NB307_309.out; have hnb38 := NB309_308.out; have hnc38 := NB308_309.out; obtain ⟨hcz39_0, hcz39_1⟩ := zc2 BK309; obtain ⟨hfz39_0, hfz39_1⟩ := zf2 BK309)))
    go_loopg [12] k (fun kq v12 w' => ∃ (x12_1 : Int) (x308000_1 : Int) (x308001_1 : Int) (x310000_1 : Int) (x310001_1 : Int), v12 = .int .i64 x12_1 ∧ Aside0 (steeplelaw33_FrobLeast.l0 kq t295 t301 x12_1 a1_0 a1_1 0 0 x308000_1 x308001_1 0 1 x310000_1 x310001_1 = some r) ∧ Aside0 (kq ≤ k) ∧ Aside0 (Kd.R Kd.bool 4 w' w.heap.size (fun _ => True) (.slice Ao21 t295.length co21) t295) ∧ Aside0 (Kd.R k37 37 w' w.heap.size (fun k_ => k_ ≠ gb298 ∧ k_ ≠ gb306 ∧ k_ ≠ gb307 ∧ k_ ≠ gb308 ∧ k_ ≠ gb309) (.slice Ao22 t301.length co22) t301) ∧ Aside0 (w'.heap[gb294]? = some (.cells #[.int .u64 a1_0, .int .u64 a1_1] 24 (0, 0))) ∧ Aside0 (w'.heap[gb298]? = some (.cells #[.int .u64 a1_0, .int .u64 a1_1] 37 (0, 0))) ∧ Aside0 (w'.heap[gb306]? = some (.cells #[.int .u64 0, .int .u64 0] 37 (0, 0))) ∧ Aside0 (w'.heap[gb307]? = some (.cells #[.int .u64 x308000_1, .int .u64 x308001_1] 37 (0, 0))) ∧ Aside0 (w'.heap[gb308]? = some (.cells #[.int .u64 0, .int .u64 1] 37 (0, 0))) ∧ Aside0 (w'.heap[gb309]? = some (.cells #[.int .u64 x310000_1, .int .u64 x310001_1] 37 (0, 0))) ∧ Aside0 (Below w.heap.size w w'))
    case atStart => exact ⟨(0), (0), (0), (0), (1), (by first | rfl | (simp; done) | (simp [*]; done)), H', ⟨Nat.le_refl _⟩, ⟨by (with_reducible repeat refine kl ?_); exact Kd.R_mono (Kd.R_far (p := ⟨gb309, 1, none⟩) (Kd.R_far (p := ⟨gb309, 0, none⟩) (Kd.R_types HO297.out BK309.out (by decide)) (fun _ hk => hk.2) (.int .u64 0)) (fun _ hk => hk.2) (.int .u64 1)) (fun _ hk => trivial)⟩, ⟨by (with_reducible repeat refine kl ?_); exact Kd.R_mono (Kd.R_far (p := ⟨gb309, 1, none⟩) (Kd.R_far (p := ⟨gb309, 0, none⟩) (Kd.R_mono HO303.out (fun k_ hk => (⟨hk, hk.2⟩ : _ ∧ k_ ≠ gb309))) (fun _ hk => hk.2) (.int .u64 0)) (fun _ hk => hk.2) (.int .u64 1)) (fun _ hk => ⟨hk.1.1.1.1.1.2, ⟨hk.1.1.1.1.2, ⟨hk.1.1.1.2, ⟨hk.1.1.2, hk.1.2⟩⟩⟩⟩)⟩, ⟨by (with_reducible repeat refine bl ?_); refine blk_far ?_ NB294_309.out _; (with_reducible repeat refine bl ?_); refine blk_far ?_ NB294_309.out _; (with_reducible repeat refine bl ?_); exact BK294.out⟩, ⟨by (with_reducible repeat refine bl ?_); refine blk_far ?_ NB298_309.out _; (with_reducible repeat refine bl ?_); refine blk_far ?_ NB298_309.out _; (with_reducible repeat refine bl ?_); exact BK298.out⟩, ⟨by (with_reducible repeat refine bl ?_); refine blk_far ?_ NB306_309.out _; (with_reducible repeat refine bl ?_); refine blk_far ?_ NB306_309.out _; (with_reducible repeat refine bl ?_); exact BK306.out⟩, ⟨by (with_reducible repeat refine bl ?_); refine blk_far ?_ NB307_309.out _; (with_reducible repeat refine bl ?_); refine blk_far ?_ NB307_309.out _; (with_reducible repeat refine bl ?_); exact BK307.out⟩, ⟨by (with_reducible repeat refine bl ?_); refine blk_far ?_ NB308_309.out _; (with_reducible repeat refine bl ?_); refine blk_far ?_ NB308_309.out _; (with_reducible repeat refine bl ?_); exact BK308.out⟩, ⟨by (with_reducible repeat refine bl ?_); refine blk_put (cs := #[.int .u64 0, .int .u64 0]) ?_ 1 _ rfl; (with_reducible repeat refine bl ?_); refine blk_put (cs := #[.int .u64 0, .int .u64 0]) ?_ 0 _ rfl; (with_reducible repeat refine bl ?_); exact BK309.out⟩, ⟨bq HB.out⟩⟩
    case round =>
     clear H'
     try clear c1
     try clear c2
     try clear p2
     try clear c3
     try clear c5
     try clear p6
     try clear c7
     try clear c7b0
     try clear c7b1
     try clear c7b2
     try clear c10
     try clear c10b0
     try clear c10b1
     try clear c16
     try clear c28
     try clear c29
     try clear c30
     try clear c31
     try clear c34
     try clear c35
     try clear c36
     try clear c37
     try clear c38
     try clear hcz12_0
     try clear hcz12_1
     try clear hcz14_0
     try clear hcz14_1
     try clear hcz17_0
     try clear hcz17_1
     try clear hcz19_0
     try clear hcz19_1
     try clear hcz23_0
     try clear hcz23_1
     try clear hcz32_0
     try clear hcz32_1
     try clear hcz39_0
     try clear hcz39_1
     try clear hfz12_0
     try clear hfz12_1
     try clear hfz14_0
     try clear hfz14_1
     try clear hfz17_0
     try clear hfz17_1
     try clear hfz19_0
     try clear hfz19_1
     try clear hfz23_0
     try clear hfz23_1
     try clear hfz32_0
     try clear hfz32_1
     try clear hfz39_0
     try clear hfz39_1
     obtain ⟨x12_1, x308000_1, x308001_1, x310000_1, x310001_1, rfl, HA, HK1, HO_5, HO_7, BK294, BK298, BK306, BK307, BK308, BK309, HB⟩ := hrel
     cases gk with
     | zero => exact absurd HA.out (by simp [steeplelaw33_FrobLeast.l0])
     | succ k1 =>
      have H := HA.out
      clear HA
      simp only [steeplelaw33_FrobLeast.l0] at H
      by_cases c40 : x12_1 < (t295.length : Int)
      ·rw [if_pos c40] at H
       have c40b0 : decide (x12_1 < (t295.length : Int)) = true := decide_eq_true c40
       clear c40
       have HC41 := Aside0.mk H
       clear H
       go_upto_region 14 with (fail)
       repeat (go_quiet (fail); go_upto_region 14 with (fail))
       go_cut [78] (fun v78 wc => ∃ (kq : Nat) (x78_40 : Bool), v78 = .bool x78_40 ∧ Aside0 (steeplelaw33_FrobLeast.j1 kq t295 t301 x12_1 x78_40 a1_0 a1_1 0 0 x308000_1 x308001_1 0 1 x310000_1 x310001_1 = some r) ∧ Aside0 (kq ≤ k1) ∧ Aside0 (Kd.R Kd.bool 4 wc w.heap.size (fun _ => True) (.slice Ao21 t295.length co21) t295) ∧ Aside0 (Kd.R k37 37 wc w.heap.size (fun k_ => k_ ≠ gb298 ∧ k_ ≠ gb306 ∧ k_ ≠ gb307 ∧ k_ ≠ gb308 ∧ k_ ≠ gb309) (.slice Ao22 t301.length co22) t301) ∧ Aside0 (wc.heap[gb294]? = some (.cells #[.int .u64 a1_0, .int .u64 a1_1] 24 (0, 0))) ∧ Aside0 (wc.heap[gb298]? = some (.cells #[.int .u64 a1_0, .int .u64 a1_1] 37 (0, 0))) ∧ Aside0 (wc.heap[gb306]? = some (.cells #[.int .u64 0, .int .u64 0] 37 (0, 0))) ∧ Aside0 (wc.heap[gb307]? = some (.cells #[.int .u64 x308000_1, .int .u64 x308001_1] 37 (0, 0))) ∧ Aside0 (wc.heap[gb308]? = some (.cells #[.int .u64 0, .int .u64 1] 37 (0, 0))) ∧ Aside0 (wc.heap[gb309]? = some (.cells #[.int .u64 x310000_1, .int .u64 x310001_1] 37 (0, 0))) ∧ Aside0 (Below w.heap.size w wc))
       case first =>
        have H := HC41.out
        clear HC41
        by_cases c42 : 0 ≤ x12_1
        ·rw [if_pos c42] at H
         have c42b0 : decide (0 ≤ x12_1) = true := decide_eq_true c42
         clear c42
         (first | rw [c42b0] | (simp only [i64_w, i32_w]; rw [c42b0]) | skip)
         by_cases c43 : x12_1 < (t301.length : Int)
         ·rw [if_pos c43] at H
          have c43b0 : decide (x12_1 < (t301.length : Int)) = true := decide_eq_true c43
          clear c43
          by_cases c44 : (!(((rd_T37 t301 x12_1).f0) == 0) || (!(((rd_T37 t301 x12_1).f1) == 0))) = true
          ·rw [if_pos c44] at H
           have c44b0 : (!(((rd_T37 t301 x12_1).f0) == 0) || (!(((rd_T37 t301 x12_1).f1) == 0))) = true := c44
           clear c44
           by_cases c45 : (!(((rd_T37 t301 x12_1).f0) == 0) || (!(((rd_T37 t301 x12_1).f1) == 1))) = true
           ·rw [if_pos c45] at H
            exact absurd H (by simp)
           ·rw [if_neg c45] at H
            have c45b0 : (!(((rd_T37 t301 x12_1).f0) == 0) || (!(((rd_T37 t301 x12_1).f1) == 1))) = false := by simpa using c45
            clear c45
            have H' := Aside0.mk H
            clear H
            have p311 : 0 ≤ (x12_1 : Int) := of_decide_eq_true (by first | (with_reducible assumption) | assumption)
            have q311 : x12_1 < (t301.length : Int) := of_decide_eq_true (by first | (with_reducible assumption) | assumption)
            (try (obtain ⟨Ap_, cp_, ep_⟩ := Kd.R_slice HO_7.out; subst ep_))
            obtain ⟨ad311, e311, hx311_0, hx311_1⟩ := at_T37 (Kd.R_reads' HO_7.out).2.2 x12_1 p311 q311
            cases e311
            replace p311 := eq_true p311
            replace q311 := eq_true q311
            have hnb46 := NB306_294.out
            have hnc46 := NB294_306.out
            have hnb47 := NB306_298.out
            have hnc47 := NB298_306.out
            have hnb48 := NB306_307.out
            have hnc48 := NB307_306.out
            have hnb49 := NB306_308.out
            have hnc49 := NB308_306.out
            have hnb50 := NB306_309.out
            have hnc50 := NB309_306.out
            obtain ⟨hcz51_0, hcz51_1⟩ := zc2 BK306
            obtain ⟨hfz51_0, hfz51_1⟩ := zf2 BK306
            have p312 : 0 ≤ (x12_1 : Int) := of_decide_eq_true (by first | (with_reducible assumption) | assumption)
            have q312 : x12_1 < (t301.length : Int) := of_decide_eq_true (by first | (with_reducible assumption) | assumption)
            (try (obtain ⟨Ap_, cp_, ep_⟩ := Kd.R_slice HO_7.out; subst ep_))
            obtain ⟨ad312, e312, hx312_0, hx312_1⟩ := at_T37 (Kd.R_reads' HO_7.out).2.2 x12_1 p312 q312
            obtain rfl : ad311 = ad312 := (by injection e312)
            replace p312 := eq_true p312
            replace q312 := eq_true q312
            have hnb52 := NB308_294.out
            have hnc52 := NB294_308.out
            have hnb53 := NB308_298.out
            have hnc53 := NB298_308.out
            have hnb54 := NB308_307.out
            have hnc54 := NB307_308.out
            have hnb55 := NB308_309.out
            have hnc55 := NB309_308.out
            obtain ⟨hcz56_0, hcz56_1⟩ := zc2 BK308
            obtain ⟨hfz56_0, hfz56_1⟩ := zf2 BK308
            have p313 : 0 ≤ (x12_1 : Int) := of_decide_eq_true (by first | (with_reducible assumption) | assumption)
            have q313 : x12_1 < (t295.length : Int) := of_decide_eq_true (by first | (with_reducible assumption) | assumption)
            (try (obtain ⟨Ap_, cp_, ep_⟩ := Kd.R_slice HO_5.out; subst ep_))
            obtain ⟨ad313, e313, hx313_0⟩ := Kd.at_bool (Kd.R_reads' HO_5.out).2.2 x12_1 p313 q313
            cases e313
            replace p313 := eq_true p313
            replace q313 := eq_true q313
            have p314 : 0 ≤ (x12_1 : Int) := of_decide_eq_true (by first | (with_reducible assumption) | assumption)
            have q314 : x12_1 < (t301.length : Int) := of_decide_eq_true (by first | (with_reducible assumption) | assumption)
            (try (obtain ⟨Ap_, cp_, ep_⟩ := Kd.R_slice HO_7.out; subst ep_))
            obtain ⟨ad314, e314, hx314_0, hx314_1⟩ := at_T37 (Kd.R_reads' HO_7.out).2.2 x12_1 p314 q314
            obtain rfl : ad311 = ad314 := (by injection e314)
            replace p314 := eq_true p314
            replace q314 := eq_true q314
            go_wp2
            repeat (go_quiet (fail); try go_wp2)
            go_meet
            case rel => exact ⟨_, (((rdOf false t295 x12_1) != (((rd_T37 t301 x12_1).f0) == 0 && (((rd_T37 t301 x12_1).f1) == 1)))), (by first | rfl | (simp; done) | (simp [*]; done)), H', ⟨by have := HK1.out; first | omega | exact Nat.le_refl _⟩, ⟨kr HO_5.out⟩, ⟨kr HO_7.out⟩, ⟨bk BK294.out⟩, ⟨bk BK298.out⟩, ⟨bk BK306.out⟩, ⟨bk BK307.out⟩, ⟨bk BK308.out⟩, ⟨bk BK309.out⟩, ⟨bq HB.out⟩⟩
          ·rw [if_neg c44] at H
           have c44b0 : (!(((rd_T37 t301 x12_1).f0) == 0) || (!(((rd_T37 t301 x12_1).f1) == 0))) = false := by simpa using c44
           clear c44
           have H' := Aside0.mk H
           clear H
           have p311 : 0 ≤ (x12_1 : Int) := of_decide_eq_true (by first | (with_reducible assumption) | assumption)
           have q311 : x12_1 < (t301.length : Int) := of_decide_eq_true (by first | (with_reducible assumption) | assumption)
           (try (obtain ⟨Ap_, cp_, ep_⟩ := Kd.R_slice HO_7.out; subst ep_))
           obtain ⟨ad311, e311, hx311_0, hx311_1⟩ := at_T37 (Kd.R_reads' HO_7.out).2.2 x12_1 p311 q311
           cases e311
           replace p311 := eq_true p311
           replace q311 := eq_true q311
           have hnb57 := NB306_294.out
           have hnc57 := NB294_306.out
           have hnb58 := NB306_298.out
           have hnc58 := NB298_306.out
           have hnb59 := NB306_307.out
           have hnc59 := NB307_306.out
           have hnb60 := NB306_308.out
           have hnc60 := NB308_306.out
           have hnb61 := NB306_309.out
           have hnc61 := NB309_306.out
           obtain ⟨hcz62_0, hcz62_1⟩ := zc2 BK306
           obtain ⟨hfz62_0, hfz62_1⟩ := zf2 BK306
           have p315 : 0 ≤ (x12_1 : Int) := of_decide_eq_true (by first | (with_reducible assumption) | assumption)
           have q315 : x12_1 < (t295.length : Int) := of_decide_eq_true (by first | (with_reducible assumption) | assumption)
           (try (obtain ⟨Ap_, cp_, ep_⟩ := Kd.R_slice HO_5.out; subst ep_))
           obtain ⟨ad315, e315, hx315_0⟩ := Kd.at_bool (Kd.R_reads' HO_5.out).2.2 x12_1 p315 q315
           cases e315
           replace p315 := eq_true p315
           replace q315 := eq_true q315
           have p316 : 0 ≤ (x12_1 : Int) := of_decide_eq_true (by first | (with_reducible assumption) | assumption)
           have q316 : x12_1 < (t301.length : Int) := of_decide_eq_true (by first | (with_reducible assumption) | assumption)
           (try (obtain ⟨Ap_, cp_, ep_⟩ := Kd.R_slice HO_7.out; subst ep_))
           obtain ⟨ad316, e316, hx316_0, hx316_1⟩ := at_T37 (Kd.R_reads' HO_7.out).2.2 x12_1 p316 q316
           obtain rfl : ad311 = ad316 := (by injection e316)
           replace p316 := eq_true p316
           replace q316 := eq_true q316
           have hnb63 := NB308_294.out
           have hnc63 := NB294_308.out
           have hnb64 := NB308_298.out
           have hnc64 := NB298_308.out
           have hnb65 := NB308_307.out
           have hnc65 := NB307_308.out
           have hnb66 := NB308_309.out
           have hnc66 := NB309_308.out
           obtain ⟨hcz67_0, hcz67_1⟩ := zc2 BK308
           obtain ⟨hfz67_0, hfz67_1⟩ := zf2 BK308
           go_wp2
           repeat (go_quiet (fail); try go_wp2)
           go_meet
           case rel => exact ⟨_, (((rdOf false t295 x12_1) != (((rd_T37 t301 x12_1).f0) == 0 && (((rd_T37 t301 x12_1).f1) == 1)))), (by first | rfl | (simp; done) | (simp [*]; done)), H', ⟨by have := HK1.out; first | omega | exact Nat.le_refl _⟩, ⟨kr HO_5.out⟩, ⟨kr HO_7.out⟩, ⟨bk BK294.out⟩, ⟨bk BK298.out⟩, ⟨bk BK306.out⟩, ⟨bk BK307.out⟩, ⟨bk BK308.out⟩, ⟨bk BK309.out⟩, ⟨bq HB.out⟩⟩
         ·rw [if_neg c43] at H
          exact absurd H (by simp)
        ·rw [if_neg c42] at H
         exact absurd H (by simp)
       case rest =>
        clear HC41
        try clear c1
        try clear c2
        try clear p2
        try clear c3
        try clear p3
        try clear q3
        try clear hx3
        try clear c4
        try clear c5
        try clear c6
        try clear p6
        try clear c7
        try clear c7b0
        try clear c7b1
        try clear c7b2
        try clear c10
        try clear c10b0
        try clear c10b1
        try clear c16
        try clear c28
        try clear c29
        try clear c30
        try clear c31
        try clear p31
        try clear q31
        try clear hx31
        try clear c34
        try clear c35
        try clear c36
        try clear c37
        try clear c38
        try clear c40
        try clear c40b0
        try clear c42
        try clear c42b0
        try clear c43
        try clear c43b0
        try clear c44
        try clear c44b0
        try clear c45
        try clear c45b0
        try clear c46
        try clear c47
        try clear c48
        try clear c49
        try clear c50
        try clear c52
        try clear c53
        try clear c54
        try clear c55
        try clear c57
        try clear c58
        try clear c59
        try clear c60
        try clear c61
        try clear c63
        try clear c64
        try clear p64
        try clear c65
        try clear c66
        try clear hcz12_0
        try clear hcz12_1
        try clear hcz14_0
        try clear hcz14_1
        try clear hcz17_0
        try clear hcz17_1
        try clear hcz19_0
        try clear hcz19_1
        try clear hcz23_0
        try clear hcz23_1
        try clear hcz32_0
        try clear hcz32_1
        try clear hcz39_0
        try clear hcz39_1
        try clear hcz51_0
        try clear hcz51_1
        try clear hcz56_0
        try clear hcz56_1
        try clear hcz62_0
        try clear hcz62_1
        try clear hcz67_0
        try clear hcz67_1
        try clear hfz12_0
        try clear hfz12_1
        try clear hfz14_0
        try clear hfz14_1
        try clear hfz17_0
        try clear hfz17_1
        try clear hfz19_0
        try clear hfz19_1
        try clear hfz23_0
        try clear hfz23_1
        try clear hfz32_0
        try clear hfz32_1
        try clear hfz39_0
        try clear hfz39_1
        try clear hfz51_0
        try clear hfz51_1
        try clear hfz56_0
        try clear hfz56_1
        try clear hfz62_0
        try clear hfz62_1
        try clear hfz67_0
        try clear hfz67_1
        try clear hx311_0
        try clear hx311_1
        try clear hx312_0
        try clear hx312_1
        try clear hx313_0
        try clear hx314_0
        try clear hx314_1
        try clear hx315_0
        try clear hx316_0
        try clear hx316_1
        try clear p2
        try clear p311
        try clear p312
        try clear p313
        try clear p314
        try clear p315
        try clear p316
        try clear p6
        try clear q311
        try clear q312
        try clear q313
        try clear q314
        try clear q315
        try clear q316
        obtain ⟨kq, x78_40, rfl, HA, HJ40, HO_5, HO_7, BK294, BK298, BK306, BK307, BK308, BK309, HB⟩ := hcut
        cases kq with
        | zero => exact absurd HA.out (by simp [steeplelaw33_FrobLeast.j1])
        | succ kj40 =>
         have H := HA.out
         clear HA
         simp only [steeplelaw33_FrobLeast.j1] at H
         by_cases c68 : x78_40 = true
         ·subst c68
          have H1 : (none) = some r := by rw [if_pos rfl] at H; exact H
          clear H
          have H := H1
          clear H1
          exact absurd H (by simp)
         ·replace c68 := Bool.eq_false_iff.mpr c68
          subst c68
          have H1 : (if 0 ≤ x12_1 then (if x12_1 < (t295.length : Int) then (if rdOf false t295 x12_1 = true then ((steepleref02_Add.f x308000_1 x308001_1 x310000_1 x310001_1).bind fun bt318 => ((steepleref02_Product.f kj40 x310000_1 x310001_1 a1_0 a1_1).bind fun bt320 => (steeplelaw33_FrobLeast.l0 kj40 t295 t301 (wrap64 (x12_1 + 1)) a1_0 a1_1 0 0 bt318.1 bt318.2 0 1 bt320.1 bt320.2))) else ((steepleref02_Product.f kj40 x310000_1 x310001_1 a1_0 a1_1).bind fun bt322 => (steeplelaw33_FrobLeast.l0 kj40 t295 t301 (wrap64 (x12_1 + 1)) a1_0 a1_1 0 0 x308000_1 x308001_1 0 1 bt322.1 bt322.2))) else (none)) else (none)) = some r := by rw [if_neg (show ¬ (false = true) by decide)] at H; exact H
          clear H
          have H := H1
          clear H1
          by_cases c69 : 0 ≤ x12_1
          ·rw [if_pos c69] at H
           have c69b0 : decide (0 ≤ x12_1) = true := decide_eq_true c69
           clear c69
           by_cases c70 : x12_1 < (t295.length : Int)
           ·rw [if_pos c70] at H
            have c70b0 : decide (x12_1 < (t295.length : Int)) = true := decide_eq_true c70
            clear c70
            obtain ⟨bq71, hbq71⟩ : ∃ b_ : Bool, b_ = (rdOf false t295 x12_1) := ⟨_, rfl⟩
            replace H : (if bq71 = true then ((steepleref02_Add.f x308000_1 x308001_1 x310000_1 x310001_1).bind fun bt318 => ((steepleref02_Product.f kj40 x310000_1 x310001_1 a1_0 a1_1).bind fun bt320 => (steeplelaw33_FrobLeast.l0 kj40 t295 t301 (wrap64 (x12_1 + 1)) a1_0 a1_1 0 0 bt318.1 bt318.2 0 1 bt320.1 bt320.2))) else ((steepleref02_Product.f kj40 x310000_1 x310001_1 a1_0 a1_1).bind fun bt322 => (steeplelaw33_FrobLeast.l0 kj40 t295 t301 (wrap64 (x12_1 + 1)) a1_0 a1_1 0 0 x308000_1 x308001_1 0 1 bt322.1 bt322.2))) = some r := by rw [← hbq71] at H; exact H
            have Nbq71 := Aside0.mk hbq71
            clear hbq71
            by_cases c72 : bq71 = true
            ·subst c72
             have H1 : ((steepleref02_Add.f x308000_1 x308001_1 x310000_1 x310001_1).bind fun bt318 => ((steepleref02_Product.f kj40 x310000_1 x310001_1 a1_0 a1_1).bind fun bt320 => (steeplelaw33_FrobLeast.l0 kj40 t295 t301 (wrap64 (x12_1 + 1)) a1_0 a1_1 0 0 bt318.1 bt318.2 0 1 bt320.1 bt320.2))) = some r := by rw [if_pos rfl] at H; exact H
             clear H
             have H := H1
             clear H1
             replace H := Option.bind_eq_some_iff.mp H
             obtain ⟨⟨t318, t319⟩, A730, H⟩ := H
             replace H : ((steepleref02_Product.f kj40 x310000_1 x310001_1 a1_0 a1_1).bind fun bt320 => (steeplelaw33_FrobLeast.l0 kj40 t295 t301 (wrap64 (x12_1 + 1)) a1_0 a1_1 0 0 t318 t319 0 1 bt320.1 bt320.2)) = some r := H
             have A73 := Aside0.mk A730
             clear A730
             replace H := Option.bind_eq_some_iff.mp H
             obtain ⟨⟨t320, t321⟩, A740, H⟩ := H
             replace H : (steeplelaw33_FrobLeast.l0 kj40 t295 t301 (wrap64 (x12_1 + 1)) a1_0 a1_1 0 0 t318 t319 0 1 t320 t321) = some r := H
             have A74 := Aside0.mk A740
             clear A740
             have H' := Aside0.mk H
             clear H
             have p317 : 0 ≤ (x12_1 : Int) := of_decide_eq_true (by first | (with_reducible assumption) | assumption)
             have q317 : x12_1 < (t295.length : Int) := of_decide_eq_true (by first | (with_reducible assumption) | assumption)
             (try (obtain ⟨Ap_, cp_, ep_⟩ := Kd.R_slice HO_5.out; subst ep_))
             obtain ⟨ad317, e317, hx317_0⟩ := Kd.at_bool (Kd.R_reads' HO_5.out).2.2 x12_1 p317 q317
             (try rw [← Nbq71.out] at hx317_0)
             cases e317
             replace p317 := eq_true p317
             replace q317 := eq_true q317
             have hnb75 := NB307_294.out
             have hnc75 := NB294_307.out
             have hnb76 := NB307_298.out
             have hnc76 := NB298_307.out
             have hnb77 := NB307_306.out
             have hnc77 := NB306_307.out
             have hnb78 := NB307_308.out
             have hnc78 := NB308_307.out
             have hnb79 := NB307_309.out
             have hnc79 := NB309_307.out
             obtain ⟨hcz80_0, hcz80_1⟩ := zc2 BK307
             obtain ⟨hfz80_0, hfz80_1⟩ := zf2 BK307
             have hnb81 := NB309_294.out
             have hnc81 := NB294_309.out
             have hnb82 := NB309_298.out
             have hnc82 := NB298_309.out
             have hnb83 := NB309_306.out
             have hnc83 := NB306_309.out
             have hnb84 := NB309_308.out
             have hnc84 := NB308_309.out
             obtain ⟨hcz85_0, hcz85_1⟩ := zc2 BK309
             obtain ⟨hfz85_0, hfz85_1⟩ := zf2 BK309
             go_wp2_with (first | (go_at_call 21; (with_reducible refine (steepleref02_Add.calls x308000_1 x308001_1 x310000_1 x310001_1 t318 t319 _ A73.out).mono ?_); rintro e w86 ⟨rfl, hb⟩; replace HO_5 := kb HO_5 hb; replace HO_7 := kb HO_7 hb; replace BK294 := bb BK294 hb; replace BK298 := bb BK298 hb; replace BK306 := bb BK306 hb; replace BK307 := bb BK307 hb; replace BK308 := bb BK308 hb; replace BK309 := bb BK309 hb; replace HB := bh HB hb; (try clear hb); (try clear hb2); (try clear hk); (try clear hi); obtain ⟨hcz87_0, hcz87_1⟩ := zc2 BK307; obtain ⟨hfz87_0, hfz87_1⟩ := zf2 BK307; obtain ⟨hcz88_0, hcz88_1⟩ := zc2 BK309; obtain ⟨hfz88_0, hfz88_1⟩ := zf2 BK309; have hnb89 := NB298_294.out; have hnc89 := NB294_298.out; have hnb90 := NB298_306.out; have hnc90 := NB306_298.out; have hnb91 := NB298_308.out; have hnc91 := NB308_298.out; obtain ⟨hcz92_0, hcz92_1⟩ := zc2 BK298; obtain ⟨hfz92_0, hfz92_1⟩ := zf2 BK298) | (go_at_call 22; (with_reducible refine (steepleref02_Product.calls kj40 x310000_1 x310001_1 a1_0 a1_1 t320 t321 _ A74.out).mono ?_); rintro e w93 ⟨rfl, hb⟩; replace HO_5 := Aside0.mk (Kd.R_below (by (with_reducible repeat refine kl ?_); exact (Kd.R_mono (Kd.R_far (p := ⟨gb307, 1, none⟩) (Kd.R_far (p := ⟨gb307, 0, none⟩) (Kd.R_types HO_5.out BK307.out (by decide)) (fun _ hk => hk.2) (.int .u64 t318)) (fun _ hk => hk.2) (.int .u64 t319)) (fun _ h_ => h_.1))) hb); replace HO_7 := Aside0.mk (Kd.R_below (by (with_reducible repeat refine kl ?_); exact (Kd.R_mono (Kd.R_far (p := ⟨gb307, 1, none⟩) (Kd.R_far (p := ⟨gb307, 0, none⟩) (Kd.R_mono HO_7.out (fun k_ hk => (⟨hk, hk.2.2.1⟩ : _ ∧ k_ ≠ gb307))) (fun _ hk => hk.2) (.int .u64 t318)) (fun _ hk => hk.2) (.int .u64 t319)) (fun _ h_ => h_.1))) hb); replace BK294 := Aside0.mk (blk_below (g := gb294) (o := .cells #[.int .u64 a1_0, .int .u64 a1_1] 24 (0, 0)) (by (with_reducible repeat refine bl ?_); refine blk_far ?_ NB294_307.out _; (with_reducible repeat refine bl ?_); refine blk_far ?_ NB294_307.out _; (with_reducible repeat refine bl ?_); exact BK294.out) hb); replace BK298 := Aside0.mk (blk_below (g := gb298) (o := .cells #[.int .u64 a1_0, .int .u64 a1_1] 37 (0, 0)) (by (with_reducible repeat refine bl ?_); refine blk_far ?_ NB298_307.out _; (with_reducible repeat refine bl ?_); refine blk_far ?_ NB298_307.out _; (with_reducible repeat refine bl ?_); exact BK298.out) hb); replace BK306 := Aside0.mk (blk_below (g := gb306) (o := .cells #[.int .u64 0, .int .u64 0] 37 (0, 0)) (by (with_reducible repeat refine bl ?_); refine blk_far ?_ NB306_307.out _; (with_reducible repeat refine bl ?_); refine blk_far ?_ NB306_307.out _; (with_reducible repeat refine bl ?_); exact BK306.out) hb); replace BK307 := Aside0.mk (blk_below (g := gb307) (o := .cells #[.int .u64 t318, .int .u64 t319] 37 (0, 0)) (by (with_reducible repeat refine bl ?_); refine blk_put (cs := #[.int .u64 t318, .int .u64 x308001_1]) ?_ 1 _ rfl; (with_reducible repeat refine bl ?_); refine blk_put (cs := #[.int .u64 x308000_1, .int .u64 x308001_1]) ?_ 0 _ rfl; (with_reducible repeat refine bl ?_); exact BK307.out) hb); replace BK308 := Aside0.mk (blk_below (g := gb308) (o := .cells #[.int .u64 0, .int .u64 1] 37 (0, 0)) (by (with_reducible repeat refine bl ?_); refine blk_far ?_ NB308_307.out _; (with_reducible repeat refine bl ?_); refine blk_far ?_ NB308_307.out _; (with_reducible repeat refine bl ?_); exact BK308.out) hb); replace BK309 := Aside0.mk (blk_below (g := gb309) (o := .cells #[.int .u64 x310000_1, .int .u64 x310001_1] 37 (0, 0)) (by (with_reducible repeat refine bl ?_); refine blk_far ?_ NB309_307.out _; (with_reducible repeat refine bl ?_); refine blk_far ?_ NB309_307.out _; (with_reducible repeat refine bl ?_); exact BK309.out) hb); replace HB := bh HB hb; (try clear hb); (try clear hb2); (try clear hk); (try clear hi); obtain ⟨hcz94_0, hcz94_1⟩ := zc2 BK309; obtain ⟨hfz94_0, hfz94_1⟩ := zf2 BK309))
             repeat (go_quiet (first | (go_at_call 21; (with_reducible refine (steepleref02_Add.calls x308000_1 x308001_1 x310000_1 x310001_1 t318 t319 _ A73.out).mono ?_); rintro e w86 ⟨rfl, hb⟩; replace HO_5 := kb HO_5 hb; replace HO_7 := kb HO_7 hb; replace BK294 := bb BK294 hb; replace BK298 := bb BK298 hb; replace BK306 := bb BK306 hb; replace BK307 := bb BK307 hb; replace BK308 := bb BK308 hb; replace BK309 := bb BK309 hb; replace HB := bh HB hb; (try clear hb); (try clear hb2); (try clear hk); (try clear hi); obtain ⟨hcz87_0, hcz87_1⟩ := zc2 BK307; obtain ⟨hfz87_0, hfz87_1⟩ := zf2 BK307; obtain ⟨hcz88_0, hcz88_1⟩ := zc2 BK309; obtain ⟨hfz88_0, hfz88_1⟩ := zf2 BK309; have hnb89 := NB298_294.out; have hnc89 := NB294_298.out; have hnb90 := NB298_306.out; have hnc90 := NB306_298.out; have hnb91 := NB298_308.out; have hnc91 := NB308_298.out; obtain ⟨hcz92_0, hcz92_1⟩ := zc2 BK298; obtain ⟨hfz92_0, hfz92_1⟩ := zf2 BK298) | (go_at_call 22; (with_reducible refine (steepleref02_Product.calls kj40 x310000_1 x310001_1 a1_0 a1_1 t320 t321 _ A74.out).mono ?_); rintro e w93 ⟨rfl, hb⟩; replace HO_5 := Aside0.mk (Kd.R_below (by (with_reducible repeat refine kl ?_); exact (Kd.R_mono (Kd.R_far (p := ⟨gb307, 1, none⟩) (Kd.R_far (p := ⟨gb307, 0, none⟩) (Kd.R_types HO_5.out BK307.out (by decide)) (fun _ hk => hk.2) (.int .u64 t318)) (fun _ hk => hk.2) (.int .u64 t319)) (fun _ h_ => h_.1))) hb); replace HO_7 := Aside0.mk (Kd.R_below (by (with_reducible repeat refine kl ?_); exact (Kd.R_mono (Kd.R_far (p := ⟨gb307, 1, none⟩) (Kd.R_far (p := ⟨gb307, 0, none⟩) (Kd.R_mono HO_7.out (fun k_ hk => (⟨hk, hk.2.2.1⟩ : _ ∧ k_ ≠ gb307))) (fun _ hk => hk.2) (.int .u64 t318)) (fun _ hk => hk.2) (.int .u64 t319)) (fun _ h_ => h_.1))) hb); replace BK294 := Aside0.mk (blk_below (g := gb294) (o := .cells #[.int .u64 a1_0, .int .u64 a1_1] 24 (0, 0)) (by (with_reducible repeat refine bl ?_); refine blk_far ?_ NB294_307.out _; (with_reducible repeat refine bl ?_); refine blk_far ?_ NB294_307.out _; (with_reducible repeat refine bl ?_); exact BK294.out) hb); replace BK298 := Aside0.mk (blk_below (g := gb298) (o := .cells #[.int .u64 a1_0, .int .u64 a1_1] 37 (0, 0)) (by (with_reducible repeat refine bl ?_); refine blk_far ?_ NB298_307.out _; (with_reducible repeat refine bl ?_); refine blk_far ?_ NB298_307.out _; (with_reducible repeat refine bl ?_); exact BK298.out) hb); replace BK306 := Aside0.mk (blk_below (g := gb306) (o := .cells #[.int .u64 0, .int .u64 0] 37 (0, 0)) (by (with_reducible repeat refine bl ?_); refine blk_far ?_ NB306_307.out _; (with_reducible repeat refine bl ?_); refine blk_far ?_ NB306_307.out _; (with_reducible repeat refine bl ?_); exact BK306.out) hb); replace BK307 := Aside0.mk (blk_below (g := gb307) (o := .cells #[.int .u64 t318, .int .u64 t319] 37 (0, 0)) (by (with_reducible repeat refine bl ?_); refine blk_put (cs := #[.int .u64 t318, .int .u64 x308001_1]) ?_ 1 _ rfl; (with_reducible repeat refine bl ?_); refine blk_put (cs := #[.int .u64 x308000_1, .int .u64 x308001_1]) ?_ 0 _ rfl; (with_reducible repeat refine bl ?_); exact BK307.out) hb); replace BK308 := Aside0.mk (blk_below (g := gb308) (o := .cells #[.int .u64 0, .int .u64 1] 37 (0, 0)) (by (with_reducible repeat refine bl ?_); refine blk_far ?_ NB308_307.out _; (with_reducible repeat refine bl ?_); refine blk_far ?_ NB308_307.out _; (with_reducible repeat refine bl ?_); exact BK308.out) hb); replace BK309 := Aside0.mk (blk_below (g := gb309) (o := .cells #[.int .u64 x310000_1, .int .u64 x310001_1] 37 (0, 0)) (by (with_reducible repeat refine bl ?_); refine blk_far ?_ NB309_307.out _; (with_reducible repeat refine bl ?_); refine blk_far ?_ NB309_307.out _; (with_reducible repeat refine bl ?_); exact BK309.out) hb); replace HB := bh HB hb; (try clear hb); (try clear hb2); (try clear hk); (try clear hi); obtain ⟨hcz94_0, hcz94_1⟩ := zc2 BK309; obtain ⟨hfz94_0, hfz94_1⟩ := zf2 BK309)); try go_wp2_with (first | (go_at_call 21; (with_reducible refine (steepleref02_Add.calls x308000_1 x308001_1 x310000_1 x310001_1 t318 t319 _ A73.out).mono ?_); rintro e w86 ⟨rfl, hb⟩; replace HO_5 := kb HO_5 hb; replace HO_7 := kb HO_7 hb; replace BK294 := bb BK294 hb; replace BK298 := bb BK298 hb; replace BK306 := bb BK306 hb; replace BK307 := bb BK307 hb; replace BK308 := bb BK308 hb; replace BK309 := bb BK309 hb; replace HB := bh HB hb; (try clear hb); (try clear hb2); (try clear hk); (try clear hi); obtain ⟨hcz87_0, hcz87_1⟩ := zc2 BK307; obtain ⟨hfz87_0, hfz87_1⟩ := zf2 BK307; obtain ⟨hcz88_0, hcz88_1⟩ := zc2 BK309; obtain ⟨hfz88_0, hfz88_1⟩ := zf2 BK309; have hnb89 := NB298_294.out; have hnc89 := NB294_298.out; have hnb90 := NB298_306.out; have hnc90 := NB306_298.out; have hnb91 := NB298_308.out; have hnc91 := NB308_298.out; obtain ⟨hcz92_0, hcz92_1⟩ := zc2 BK298; obtain ⟨hfz92_0, hfz92_1⟩ := zf2 BK298) | (go_at_call 22; (with_reducible refine (steepleref02_Product.calls kj40 x310000_1 x310001_1 a1_0 a1_1 t320 t321 _ A74.out).mono ?_); rintro e w93 ⟨rfl, hb⟩; replace HO_5 := Aside0.mk (Kd.R_below (by (with_reducible repeat refine kl ?_); exact (Kd.R_mono (Kd.R_far (p := ⟨gb307, 1, none⟩) (Kd.R_far (p := ⟨gb307, 0, none⟩) (Kd.R_types HO_5.out BK307.out (by decide)) (fun _ hk => hk.2) (.int .u64 t318)) (fun _ hk => hk.2) (.int .u64 t319)) (fun _ h_ => h_.1))) hb); replace HO_7 := Aside0.mk (Kd.R_below (by (with_reducible repeat refine kl ?_); exact (Kd.R_mono (Kd.R_far (p := ⟨gb307, 1, none⟩) (Kd.R_far (p := ⟨gb307, 0, none⟩) (Kd.R_mono HO_7.out (fun k_ hk => (⟨hk, hk.2.2.1⟩ : _ ∧ k_ ≠ gb307))) (fun _ hk => hk.2) (.int .u64 t318)) (fun _ hk => hk.2) (.int .u64 t319)) (fun _ h_ => h_.1))) hb); replace BK294 := Aside0.mk (blk_below (g := gb294) (o := .cells #[.int .u64 a1_0, .int .u64 a1_1] 24 (0, 0)) (by (with_reducible repeat refine bl ?_); refine blk_far ?_ NB294_307.out _; (with_reducible repeat refine bl ?_); refine blk_far ?_ NB294_307.out _; (with_reducible repeat refine bl ?_); exact BK294.out) hb); replace BK298 := Aside0.mk (blk_below (g := gb298) (o := .cells #[.int .u64 a1_0, .int .u64 a1_1] 37 (0, 0)) (by (with_reducible repeat refine bl ?_); refine blk_far ?_ NB298_307.out _; (with_reducible repeat refine bl ?_); refine blk_far ?_ NB298_307.out _; (with_reducible repeat refine bl ?_); exact BK298.out) hb); replace BK306 := Aside0.mk (blk_below (g := gb306) (o := .cells #[.int .u64 0, .int .u64 0] 37 (0, 0)) (by (with_reducible repeat refine bl ?_); refine blk_far ?_ NB306_307.out _; (with_reducible repeat refine bl ?_); refine blk_far ?_ NB306_307.out _; (with_reducible repeat refine bl ?_); exact BK306.out) hb); replace BK307 := Aside0.mk (blk_below (g := gb307) (o := .cells #[.int .u64 t318, .int .u64 t319] 37 (0, 0)) (by (with_reducible repeat refine bl ?_); refine blk_put (cs := #[.int .u64 t318, .int .u64 x308001_1]) ?_ 1 _ rfl; (with_reducible repeat refine bl ?_); refine blk_put (cs := #[.int .u64 x308000_1, .int .u64 x308001_1]) ?_ 0 _ rfl; (with_reducible repeat refine bl ?_); exact BK307.out) hb); replace BK308 := Aside0.mk (blk_below (g := gb308) (o := .cells #[.int .u64 0, .int .u64 1] 37 (0, 0)) (by (with_reducible repeat refine bl ?_); refine blk_far ?_ NB308_307.out _; (with_reducible repeat refine bl ?_); refine blk_far ?_ NB308_307.out _; (with_reducible repeat refine bl ?_); exact BK308.out) hb); replace BK309 := Aside0.mk (blk_below (g := gb309) (o := .cells #[.int .u64 x310000_1, .int .u64 x310001_1] 37 (0, 0)) (by (with_reducible repeat refine bl ?_); refine blk_far ?_ NB309_307.out _; (with_reducible repeat refine bl ?_); refine blk_far ?_ NB309_307.out _; (with_reducible repeat refine bl ?_); exact BK309.out) hb); replace HB := bh HB hb; (try clear hb); (try clear hb2); (try clear hk); (try clear hi); obtain ⟨hcz94_0, hcz94_1⟩ := zc2 BK309; obtain ⟨hfz94_0, hfz94_1⟩ := zf2 BK309)))
             go_roundg kj40
             case measure => have := HK1.out; have := HJ40.out; omega
             case rel => exact ⟨(wrap64 (x12_1 + 1)), (t318), (t319), (t320), (t321), (by first | rfl | (simp; done) | (simp [*]; done)), H', ⟨by have := HK1.out; have := HJ40.out; omega⟩, ⟨by (with_reducible repeat refine kl ?_); exact Kd.R_mono (Kd.R_far (p := ⟨gb309, 1, none⟩) (Kd.R_far (p := ⟨gb309, 0, none⟩) (Kd.R_types HO_5.out BK309.out (by decide)) (fun _ hk => hk.2) (.int .u64 t320)) (fun _ hk => hk.2) (.int .u64 t321)) (fun _ hk => trivial)⟩, ⟨by (with_reducible repeat refine kl ?_); exact Kd.R_mono (Kd.R_far (p := ⟨gb309, 1, none⟩) (Kd.R_far (p := ⟨gb309, 0, none⟩) (Kd.R_mono HO_7.out (fun k_ hk => (⟨hk, hk.2.2.2.2⟩ : _ ∧ k_ ≠ gb309))) (fun _ hk => hk.2) (.int .u64 t320)) (fun _ hk => hk.2) (.int .u64 t321)) (fun _ hk => ⟨hk.1.1, ⟨hk.1.2.1, ⟨hk.1.2.2.1, ⟨hk.1.2.2.2.1, hk.1.2.2.2.2⟩⟩⟩⟩)⟩, ⟨by (with_reducible repeat refine bl ?_); refine blk_far ?_ NB294_309.out _; (with_reducible repeat refine bl ?_); refine blk_far ?_ NB294_309.out _; (with_reducible repeat refine bl ?_); exact BK294.out⟩, ⟨by (with_reducible repeat refine bl ?_); refine blk_far ?_ NB298_309.out _; (with_reducible repeat refine bl ?_); refine blk_far ?_ NB298_309.out _; (with_reducible repeat refine bl ?_); exact BK298.out⟩, ⟨by (with_reducible repeat refine bl ?_); refine blk_far ?_ NB306_309.out _; (with_reducible repeat refine bl ?_); refine blk_far ?_ NB306_309.out _; (with_reducible repeat refine bl ?_); exact BK306.out⟩, ⟨by (with_reducible repeat refine bl ?_); refine blk_far ?_ NB307_309.out _; (with_reducible repeat refine bl ?_); refine blk_far ?_ NB307_309.out _; (with_reducible repeat refine bl ?_); exact BK307.out⟩, ⟨by (with_reducible repeat refine bl ?_); refine blk_far ?_ NB308_309.out _; (with_reducible repeat refine bl ?_); refine blk_far ?_ NB308_309.out _; (with_reducible repeat refine bl ?_); exact BK308.out⟩, ⟨by (with_reducible repeat refine bl ?_); refine blk_put (cs := #[.int .u64 t320, .int .u64 x310001_1]) ?_ 1 _ rfl; (with_reducible repeat refine bl ?_); refine blk_put (cs := #[.int .u64 x310000_1, .int .u64 x310001_1]) ?_ 0 _ rfl; (with_reducible repeat refine bl ?_); exact BK309.out⟩, ⟨bq HB.out⟩⟩
            ·replace c72 := Bool.eq_false_iff.mpr c72
             subst c72
             have H1 : ((steepleref02_Product.f kj40 x310000_1 x310001_1 a1_0 a1_1).bind fun bt322 => (steeplelaw33_FrobLeast.l0 kj40 t295 t301 (wrap64 (x12_1 + 1)) a1_0 a1_1 0 0 x308000_1 x308001_1 0 1 bt322.1 bt322.2)) = some r := by rw [if_neg (show ¬ (false = true) by decide)] at H; exact H
             clear H
             have H := H1
             clear H1
             replace H := Option.bind_eq_some_iff.mp H
             obtain ⟨⟨t322, t323⟩, A950, H⟩ := H
             replace H : (steeplelaw33_FrobLeast.l0 kj40 t295 t301 (wrap64 (x12_1 + 1)) a1_0 a1_1 0 0 x308000_1 x308001_1 0 1 t322 t323) = some r := H
             have A95 := Aside0.mk A950
             clear A950
             have H' := Aside0.mk H
             clear H
             have p317 : 0 ≤ (x12_1 : Int) := of_decide_eq_true (by first | (with_reducible assumption) | assumption)
             have q317 : x12_1 < (t295.length : Int) := of_decide_eq_true (by first | (with_reducible assumption) | assumption)
             (try (obtain ⟨Ap_, cp_, ep_⟩ := Kd.R_slice HO_5.out; subst ep_))
             obtain ⟨ad317, e317, hx317_0⟩ := Kd.at_bool (Kd.R_reads' HO_5.out).2.2 x12_1 p317 q317
             (try rw [← Nbq71.out] at hx317_0)
             cases e317
             replace p317 := eq_true p317
             replace q317 := eq_true q317
             have hnb96 := NB309_294.out
             have hnc96 := NB294_309.out
             have hnb97 := NB309_298.out
             have hnc97 := NB298_309.out
             have hnb98 := NB309_306.out
             have hnc98 := NB306_309.out
             have hnb99 := NB309_307.out
             have hnc99 := NB307_309.out
             have hnb100 := NB309_308.out
             have hnc100 := NB308_309.out
             obtain ⟨hcz101_0, hcz101_1⟩ := zc2 BK309
             obtain ⟨hfz101_0, hfz101_1⟩ := zf2 BK309
             have hnb102 := NB298_294.out
             have hnc102 := NB294_298.out
             have hnb103 := NB298_306.out
             have hnc103 := NB306_298.out
             have hnb104 := NB298_307.out
             have hnc104 := NB307_298.out
             have hnb105 := NB298_308.out
             have hnc105 := NB308_298.out
             obtain ⟨hcz106_0, hcz106_1⟩ := zc2 BK298
             obtain ⟨hfz106_0, hfz106_1⟩ := zf2 BK298
             go_wp2_with (first | (go_at_call 22; (with_reducible refine (steepleref02_Product.calls kj40 x310000_1 x310001_1 a1_0 a1_1 t322 t323 _ A95.out).mono ?_); rintro e w107 ⟨rfl, hb⟩; replace HO_5 := kb HO_5 hb; replace HO_7 := kb HO_7 hb; replace BK294 := bb BK294 hb; replace BK298 := bb BK298 hb; replace BK306 := bb BK306 hb; replace BK307 := bb BK307 hb; replace BK308 := bb BK308 hb; replace BK309 := bb BK309 hb; replace HB := bh HB hb; (try clear hb); (try clear hb2); (try clear hk); (try clear hi); obtain ⟨hcz108_0, hcz108_1⟩ := zc2 BK309; obtain ⟨hfz108_0, hfz108_1⟩ := zf2 BK309))
             repeat (go_quiet (first | (go_at_call 22; (with_reducible refine (steepleref02_Product.calls kj40 x310000_1 x310001_1 a1_0 a1_1 t322 t323 _ A95.out).mono ?_); rintro e w107 ⟨rfl, hb⟩; replace HO_5 := kb HO_5 hb; replace HO_7 := kb HO_7 hb; replace BK294 := bb BK294 hb; replace BK298 := bb BK298 hb; replace BK306 := bb BK306 hb; replace BK307 := bb BK307 hb; replace BK308 := bb BK308 hb; replace BK309 := bb BK309 hb; replace HB := bh HB hb; (try clear hb); (try clear hb2); (try clear hk); (try clear hi); obtain ⟨hcz108_0, hcz108_1⟩ := zc2 BK309; obtain ⟨hfz108_0, hfz108_1⟩ := zf2 BK309)); try go_wp2_with (first | (go_at_call 22; (with_reducible refine (steepleref02_Product.calls kj40 x310000_1 x310001_1 a1_0 a1_1 t322 t323 _ A95.out).mono ?_); rintro e w107 ⟨rfl, hb⟩; replace HO_5 := kb HO_5 hb; replace HO_7 := kb HO_7 hb; replace BK294 := bb BK294 hb; replace BK298 := bb BK298 hb; replace BK306 := bb BK306 hb; replace BK307 := bb BK307 hb; replace BK308 := bb BK308 hb; replace BK309 := bb BK309 hb; replace HB := bh HB hb; (try clear hb); (try clear hb2); (try clear hk); (try clear hi); obtain ⟨hcz108_0, hcz108_1⟩ := zc2 BK309; obtain ⟨hfz108_0, hfz108_1⟩ := zf2 BK309)))
             go_roundg kj40
             case measure => have := HK1.out; have := HJ40.out; omega
             case rel => exact ⟨(wrap64 (x12_1 + 1)), (x308000_1), (x308001_1), (t322), (t323), (by first | rfl | (simp; done) | (simp [*]; done)), H', ⟨by have := HK1.out; have := HJ40.out; omega⟩, ⟨by (with_reducible repeat refine kl ?_); exact Kd.R_mono (Kd.R_far (p := ⟨gb309, 1, none⟩) (Kd.R_far (p := ⟨gb309, 0, none⟩) (Kd.R_types HO_5.out BK309.out (by decide)) (fun _ hk => hk.2) (.int .u64 t322)) (fun _ hk => hk.2) (.int .u64 t323)) (fun _ hk => trivial)⟩, ⟨by (with_reducible repeat refine kl ?_); exact Kd.R_mono (Kd.R_far (p := ⟨gb309, 1, none⟩) (Kd.R_far (p := ⟨gb309, 0, none⟩) (Kd.R_mono HO_7.out (fun k_ hk => (⟨hk, hk.2.2.2.2⟩ : _ ∧ k_ ≠ gb309))) (fun _ hk => hk.2) (.int .u64 t322)) (fun _ hk => hk.2) (.int .u64 t323)) (fun _ hk => ⟨hk.1.1, ⟨hk.1.2.1, ⟨hk.1.2.2.1, ⟨hk.1.2.2.2.1, hk.1.2.2.2.2⟩⟩⟩⟩)⟩, ⟨by (with_reducible repeat refine bl ?_); refine blk_far ?_ NB294_309.out _; (with_reducible repeat refine bl ?_); refine blk_far ?_ NB294_309.out _; (with_reducible repeat refine bl ?_); exact BK294.out⟩, ⟨by (with_reducible repeat refine bl ?_); refine blk_far ?_ NB298_309.out _; (with_reducible repeat refine bl ?_); refine blk_far ?_ NB298_309.out _; (with_reducible repeat refine bl ?_); exact BK298.out⟩, ⟨by (with_reducible repeat refine bl ?_); refine blk_far ?_ NB306_309.out _; (with_reducible repeat refine bl ?_); refine blk_far ?_ NB306_309.out _; (with_reducible repeat refine bl ?_); exact BK306.out⟩, ⟨by (with_reducible repeat refine bl ?_); refine blk_far ?_ NB307_309.out _; (with_reducible repeat refine bl ?_); refine blk_far ?_ NB307_309.out _; (with_reducible repeat refine bl ?_); exact BK307.out⟩, ⟨by (with_reducible repeat refine bl ?_); refine blk_far ?_ NB308_309.out _; (with_reducible repeat refine bl ?_); refine blk_far ?_ NB308_309.out _; (with_reducible repeat refine bl ?_); exact BK308.out⟩, ⟨by (with_reducible repeat refine bl ?_); refine blk_put (cs := #[.int .u64 t322, .int .u64 x310001_1]) ?_ 1 _ rfl; (with_reducible repeat refine bl ?_); refine blk_put (cs := #[.int .u64 x310000_1, .int .u64 x310001_1]) ?_ 0 _ rfl; (with_reducible repeat refine bl ?_); exact BK309.out⟩, ⟨bq HB.out⟩⟩
           ·rw [if_neg c70] at H
            exact absurd H (by simp)
          ·rw [if_neg c69] at H
           exact absurd H (by simp)
      ·rw [if_neg c40] at H
       have c40b0 : decide (x12_1 < (t295.length : Int)) = false := decide_eq_false c40
       clear c40
       replace H := Option.bind_eq_some_iff.mp H
       obtain ⟨t310, A1090, H⟩ := H
       replace H : (if t310 = true then (some (x308000_1 == 0 && (x308001_1 == 0))) else (none)) = some r := H
       have A109 := Aside0.mk A1090
       clear A1090
       by_cases c110 : t310 = true
       ·subst c110
        have H1 : (some (x308000_1 == 0 && (x308001_1 == 0))) = some r := by rw [if_pos rfl] at H; exact H
        clear H
        have H := H1
        clear H1
        obtain rfl := Option.some.inj H
        go_wp2_with (first | (go_at_call 14; (with_reducible refine (steeplelaw33_awake.calls k1  true _ A109.out).mono ?_); rintro e w111 ⟨rfl, hb⟩; replace HO_5 := kb HO_5 hb; replace HO_7 := kb HO_7 hb; replace BK294 := bb BK294 hb; replace BK298 := bb BK298 hb; replace BK306 := bb BK306 hb; replace BK307 := bb BK307 hb; replace BK308 := bb BK308 hb; replace BK309 := bb BK309 hb; replace HB := bh HB hb; (try clear hb); (try clear hb2); (try clear hk); (try clear hi); have hnb112 := NB307_294.out; have hnc112 := NB294_307.out; have hnb113 := NB307_298.out; have hnc113 := NB298_307.out; have hnb114 := NB307_306.out; have hnc114 := NB306_307.out; have hnb115 := NB307_308.out; have hnc115 := NB308_307.out; have hnb116 := NB307_309.out; have hnc116 := NB309_307.out; obtain ⟨hcz117_0, hcz117_1⟩ := zc2 BK307; obtain ⟨hfz117_0, hfz117_1⟩ := zf2 BK307; have hnb118 := NB306_294.out; have hnc118 := NB294_306.out; have hnb119 := NB306_298.out; have hnc119 := NB298_306.out; have hnb120 := NB306_308.out; have hnc120 := NB308_306.out; have hnb121 := NB306_309.out; have hnc121 := NB309_306.out; obtain ⟨hcz122_0, hcz122_1⟩ := zc2 BK306; obtain ⟨hfz122_0, hfz122_1⟩ := zf2 BK306))
        repeat (go_quiet (first | (go_at_call 14; (with_reducible refine (steeplelaw33_awake.calls k1  true _ A109.out).mono ?_); rintro e w111 ⟨rfl, hb⟩; replace HO_5 := kb HO_5 hb; replace HO_7 := kb HO_7 hb; replace BK294 := bb BK294 hb; replace BK298 := bb BK298 hb; replace BK306 := bb BK306 hb; replace BK307 := bb BK307 hb; replace BK308 := bb BK308 hb; replace BK309 := bb BK309 hb; replace HB := bh HB hb; (try clear hb); (try clear hb2); (try clear hk); (try clear hi); have hnb112 := NB307_294.out; have hnc112 := NB294_307.out; have hnb113 := NB307_298.out; have hnc113 := NB298_307.out; have hnb114 := NB307_306.out; have hnc114 := NB306_307.out; have hnb115 := NB307_308.out; have hnc115 := NB308_307.out; have hnb116 := NB307_309.out; have hnc116 := NB309_307.out; obtain ⟨hcz117_0, hcz117_1⟩ := zc2 BK307; obtain ⟨hfz117_0, hfz117_1⟩ := zf2 BK307; have hnb118 := NB306_294.out; have hnc118 := NB294_306.out; have hnb119 := NB306_298.out; have hnc119 := NB298_306.out; have hnb120 := NB306_308.out; have hnc120 := NB308_306.out; have hnb121 := NB306_309.out; have hnc121 := NB309_306.out; obtain ⟨hcz122_0, hcz122_1⟩ := zc2 BK306; obtain ⟨hfz122_0, hfz122_1⟩ := zf2 BK306)); try go_wp2_with (first | (go_at_call 14; (with_reducible refine (steeplelaw33_awake.calls k1  true _ A109.out).mono ?_); rintro e w111 ⟨rfl, hb⟩; replace HO_5 := kb HO_5 hb; replace HO_7 := kb HO_7 hb; replace BK294 := bb BK294 hb; replace BK298 := bb BK298 hb; replace BK306 := bb BK306 hb; replace BK307 := bb BK307 hb; replace BK308 := bb BK308 hb; replace BK309 := bb BK309 hb; replace HB := bh HB hb; (try clear hb); (try clear hb2); (try clear hk); (try clear hi); have hnb112 := NB307_294.out; have hnc112 := NB294_307.out; have hnb113 := NB307_298.out; have hnc113 := NB298_307.out; have hnb114 := NB307_306.out; have hnc114 := NB306_307.out; have hnb115 := NB307_308.out; have hnc115 := NB308_307.out; have hnb116 := NB307_309.out; have hnc116 := NB309_307.out; obtain ⟨hcz117_0, hcz117_1⟩ := zc2 BK307; obtain ⟨hfz117_0, hfz117_1⟩ := zf2 BK307; have hnb118 := NB306_294.out; have hnc118 := NB294_306.out; have hnb119 := NB306_298.out; have hnc119 := NB298_306.out; have hnb120 := NB306_308.out; have hnc120 := NB308_306.out; have hnb121 := NB306_309.out; have hnc121 := NB309_306.out; obtain ⟨hcz122_0, hcz122_1⟩ := zc2 BK306; obtain ⟨hfz122_0, hfz122_1⟩ := zf2 BK306)))
        go_ret
        exact ⟨by first | rfl | (simp [errW_none, errW_some] <;> rfl) | (simp [*, errW_none, errW_some] <;> rfl), bq HB.out⟩
       ·replace c110 := Bool.eq_false_iff.mpr c110
        subst c110
        have H1 : (none) = some r := by rw [if_neg (show ¬ (false = true) by decide)] at H; exact H
        clear H
        have H := H1
        clear H1
        exact absurd H (by simp)
   ·rw [if_neg c10] at H
    exact absurd H (by simp)
  ·rw [if_neg c7] at H
   exact absurd H (by simp)
 ·replace c5 := Bool.eq_false_iff.mpr c5
  subst c5
  have H1 : ((steeplelaw33_awake.f k).bind fun t300 => (if t300 = true then (some ((t295.length : Int) == 0)) else (none))) = some r := by rw [if_neg (show ¬ (false = true) by decide)] at H; exact H
  clear H
  have H := H1
  clear H1
  replace H := Option.bind_eq_some_iff.mp H
  obtain ⟨t300, A1230, H⟩ := H
  replace H : (if t300 = true then (some ((t295.length : Int) == 0)) else (none)) = some r := H
  have A123 := Aside0.mk A1230
  clear A1230
  by_cases c124 : t300 = true
  ·subst c124
   have H1 : (some ((t295.length : Int) == 0)) = some r := by rw [if_pos rfl] at H; exact H
   clear H
   have H := H1
   clear H1
   obtain rfl := Option.some.inj H
   go_enter Try.func5, Try.ntmps5
   go_wp2_with (first | ((with_reducible refine gate_dst (N := 3) rfl ?_); (try (refine gate_guard (by rfl) ?_; dsimp only)); refine box_event ?hg (N := 3) ?hd (cs := #[.int .u64 a1_0, .int .u64 a1_1]) (t := 24) ?hr ?_; (case hd => rfl); (case hg => rfl); (case hr => first | (go_simp; done) | (go_simp; rfl)); intro gb294 hg w125 hbox hb; have BK294 := Aside0.mk hbox; have GW294 := ge hg HB; have GE294 := ge hg HB; replace HB := bh HB hb; clear hb hbox hg; obtain ⟨hcz126_0, hcz126_1⟩ := zc2 BK294; obtain ⟨hfz126_0, hfz126_1⟩ := zf2 BK294) | (go_at_call 16; (with_reducible refine (frob_Least.calls k a0 a1_0 a1_1 t295 _ A3.out).mono ?_); rintro e w127 ⟨v296, rfl, ho0, hb⟩; have HO297 := kw ho0 HB; replace BK294 := bb BK294 hb; replace HB := bh HB hb; (try clear hb); (try clear hb2); (try clear hk); (try clear hi); (try clear ho0); obtain ⟨hcz128_0, hcz128_1⟩ := zc2 BK294; obtain ⟨hfz128_0, hfz128_1⟩ := zf2 BK294) | ((with_reducible refine gate_dst (N := 6) rfl ?_); (try (refine gate_guard (by rfl) ?_; dsimp only)); refine box_event ?hg (N := 6) ?hd (cs := #[.int .u64 0, .int .u64 0]) (t := 37) ?hr ?_; (case hd => rfl); (case hg => rfl); (case hr => first | (go_simp; done) | (go_simp; rfl)); intro gb298 hg w129 hbox hb; have BK298 := Aside0.mk hbox; have GW298 := ge hg HB; have GE298 := ge hg HB; have NB294_298 := nl hg BK294; have NB298_294 := ng hg BK294; replace HO297 := kb HO297 hb; replace BK294 := bb BK294 hb; replace HB := bh HB hb; clear hb hbox hg; have hnb130 := NB298_294.out; have hnc130 := NB294_298.out; obtain ⟨hcz131_0, hcz131_1⟩ := zc2 BK298; obtain ⟨hfz131_0, hfz131_1⟩ := zf2 BK298) | (go_at_call 17; (with_reducible refine (steepleref01_Of.calls k a0 a1_0 a1_1 false _ A4.out).mono ?_); rintro e w132 ⟨rfl, hb⟩; replace HO297 := Aside0.mk (Kd.R_below (by (with_reducible repeat refine kl ?_); exact (Kd.R_mono (Kd.R_far (p := ⟨gb298, 1, none⟩) (Kd.R_far (p := ⟨gb298, 0, none⟩) (Kd.R_types HO297.out BK298.out (by decide)) (fun _ hk => hk.2) (.int .u64 a1_0)) (fun _ hk => hk.2) (.int .u64 a1_1)) (fun _ h_ => h_.1))) hb); replace BK294 := Aside0.mk (blk_below (g := gb294) (o := .cells #[.int .u64 a1_0, .int .u64 a1_1] 24 (0, 0)) (by (with_reducible repeat refine bl ?_); refine blk_far ?_ NB294_298.out _; (with_reducible repeat refine bl ?_); refine blk_far ?_ NB294_298.out _; (with_reducible repeat refine bl ?_); exact BK294.out) hb); replace BK298 := Aside0.mk (blk_below (g := gb298) (o := .cells #[.int .u64 a1_0, .int .u64 a1_1] 37 (0, 0)) (by (with_reducible repeat refine bl ?_); refine blk_put (cs := #[.int .u64 a1_0, .int .u64 0]) ?_ 1 _ rfl; (with_reducible repeat refine bl ?_); refine blk_put (cs := #[.int .u64 0, .int .u64 0]) ?_ 0 _ rfl; (with_reducible repeat refine bl ?_); exact BK298.out) hb); replace HB := bh HB hb; (try clear hb); (try clear hb2); (try clear hk); (try clear hi)) | (go_at_call 14; (with_reducible refine (steeplelaw33_awake.calls k  true _ A123.out).mono ?_); rintro e w133 ⟨rfl, hb⟩; replace HO297 := kb HO297 hb; replace BK294 := bb BK294 hb; replace BK298 := bb BK298 hb; replace HB := bh HB hb; (try clear hb); (try clear hb2); (try clear hk); (try clear hi); obtain ⟨Ao134, co134, eo134⟩ := Kd.R_slice HO297.out; subst eo134))
   repeat (go_quiet (first | ((with_reducible refine gate_dst (N := 3) rfl ?_); (try (refine gate_guard (by rfl) ?_; dsimp only)); refine box_event ?hg (N := 3) ?hd (cs := #[.int .u64 a1_0, .int .u64 a1_1]) (t := 24) ?hr ?_; (case hd => rfl); (case hg => rfl); (case hr => first | (go_simp; done) | (go_simp; rfl)); intro gb294 hg w125 hbox hb; have BK294 := Aside0.mk hbox; have GW294 := ge hg HB; have GE294 := ge hg HB; replace HB := bh HB hb; clear hb hbox hg; obtain ⟨hcz126_0, hcz126_1⟩ := zc2 BK294; obtain ⟨hfz126_0, hfz126_1⟩ := zf2 BK294) | (go_at_call 16; (with_reducible refine (frob_Least.calls k a0 a1_0 a1_1 t295 _ A3.out).mono ?_); rintro e w127 ⟨v296, rfl, ho0, hb⟩; have HO297 := kw ho0 HB; replace BK294 := bb BK294 hb; replace HB := bh HB hb; (try clear hb); (try clear hb2); (try clear hk); (try clear hi); (try clear ho0); obtain ⟨hcz128_0, hcz128_1⟩ := zc2 BK294; obtain ⟨hfz128_0, hfz128_1⟩ := zf2 BK294) | ((with_reducible refine gate_dst (N := 6) rfl ?_); (try (refine gate_guard (by rfl) ?_; dsimp only)); refine box_event ?hg (N := 6) ?hd (cs := #[.int .u64 0, .int .u64 0]) (t := 37) ?hr ?_; (case hd => rfl); (case hg => rfl); (case hr => first | (go_simp; done) | (go_simp; rfl)); intro gb298 hg w129 hbox hb; have BK298 := Aside0.mk hbox; have GW298 := ge hg HB; have GE298 := ge hg HB; have NB294_298 := nl hg BK294; have NB298_294 := ng hg BK294; replace HO297 := kb HO297 hb; replace BK294 := bb BK294 hb; replace HB := bh HB hb; clear hb hbox hg; have hnb130 := NB298_294.out; have hnc130 := NB294_298.out; obtain ⟨hcz131_0, hcz131_1⟩ := zc2 BK298; obtain ⟨hfz131_0, hfz131_1⟩ := zf2 BK298) | (go_at_call 17; (with_reducible refine (steepleref01_Of.calls k a0 a1_0 a1_1 false _ A4.out).mono ?_); rintro e w132 ⟨rfl, hb⟩; replace HO297 := Aside0.mk (Kd.R_below (by (with_reducible repeat refine kl ?_); exact (Kd.R_mono (Kd.R_far (p := ⟨gb298, 1, none⟩) (Kd.R_far (p := ⟨gb298, 0, none⟩) (Kd.R_types HO297.out BK298.out (by decide)) (fun _ hk => hk.2) (.int .u64 a1_0)) (fun _ hk => hk.2) (.int .u64 a1_1)) (fun _ h_ => h_.1))) hb); replace BK294 := Aside0.mk (blk_below (g := gb294) (o := .cells #[.int .u64 a1_0, .int .u64 a1_1] 24 (0, 0)) (by (with_reducible repeat refine bl ?_); refine blk_far ?_ NB294_298.out _; (with_reducible repeat refine bl ?_); refine blk_far ?_ NB294_298.out _; (with_reducible repeat refine bl ?_); exact BK294.out) hb); replace BK298 := Aside0.mk (blk_below (g := gb298) (o := .cells #[.int .u64 a1_0, .int .u64 a1_1] 37 (0, 0)) (by (with_reducible repeat refine bl ?_); refine blk_put (cs := #[.int .u64 a1_0, .int .u64 0]) ?_ 1 _ rfl; (with_reducible repeat refine bl ?_); refine blk_put (cs := #[.int .u64 0, .int .u64 0]) ?_ 0 _ rfl; (with_reducible repeat refine bl ?_); exact BK298.out) hb); replace HB := bh HB hb; (try clear hb); (try clear hb2); (try clear hk); (try clear hi)) | (go_at_call 14; (with_reducible refine (steeplelaw33_awake.calls k  true _ A123.out).mono ?_); rintro e w133 ⟨rfl, hb⟩; replace HO297 := kb HO297 hb; replace BK294 := bb BK294 hb; replace BK298 := bb BK298 hb; replace HB := bh HB hb; (try clear hb); (try clear hb2); (try clear hk); (try clear hi); obtain ⟨Ao134, co134, eo134⟩ := Kd.R_slice HO297.out; subst eo134)); try go_wp2_with (first | ((with_reducible refine gate_dst (N := 3) rfl ?_); (try (refine gate_guard (by rfl) ?_; dsimp only)); refine box_event ?hg (N := 3) ?hd (cs := #[.int .u64 a1_0, .int .u64 a1_1]) (t := 24) ?hr ?_; (case hd => rfl); (case hg => rfl); (case hr => first | (go_simp; done) | (go_simp; rfl)); intro gb294 hg w125 hbox hb; have BK294 := Aside0.mk hbox; have GW294 := ge hg HB; have GE294 := ge hg HB; replace HB := bh HB hb; clear hb hbox hg; obtain ⟨hcz126_0, hcz126_1⟩ := zc2 BK294; obtain ⟨hfz126_0, hfz126_1⟩ := zf2 BK294) | (go_at_call 16; (with_reducible refine (frob_Least.calls k a0 a1_0 a1_1 t295 _ A3.out).mono ?_); rintro e w127 ⟨v296, rfl, ho0, hb⟩; have HO297 := kw ho0 HB; replace BK294 := bb BK294 hb; replace HB := bh HB hb; (try clear hb); (try clear hb2); (try clear hk); (try clear hi); (try clear ho0); obtain ⟨hcz128_0, hcz128_1⟩ := zc2 BK294; obtain ⟨hfz128_0, hfz128_1⟩ := zf2 BK294) | ((with_reducible refine gate_dst (N := 6) rfl ?_); (try (refine gate_guard (by rfl) ?_; dsimp only)); refine box_event ?hg (N := 6) ?hd (cs := #[.int .u64 0, .int .u64 0]) (t := 37) ?hr ?_; (case hd => rfl); (case hg => rfl); (case hr => first | (go_simp; done) | (go_simp; rfl)); intro gb298 hg w129 hbox hb; have BK298 := Aside0.mk hbox; have GW298 := ge hg HB; have GE298 := ge hg HB; have NB294_298 := nl hg BK294; have NB298_294 := ng hg BK294; replace HO297 := kb HO297 hb; replace BK294 := bb BK294 hb; replace HB := bh HB hb; clear hb hbox hg; have hnb130 := NB298_294.out; have hnc130 := NB294_298.out; obtain ⟨hcz131_0, hcz131_1⟩ := zc2 BK298; obtain ⟨hfz131_0, hfz131_1⟩ := zf2 BK298) | (go_at_call 17; (with_reducible refine (steepleref01_Of.calls k a0 a1_0 a1_1 false _ A4.out).mono ?_); rintro e w132 ⟨rfl, hb⟩; replace HO297 := Aside0.mk (Kd.R_below (by (with_reducible repeat refine kl ?_); exact (Kd.R_mono (Kd.R_far (p := ⟨gb298, 1, none⟩) (Kd.R_far (p := ⟨gb298, 0, none⟩) (Kd.R_types HO297.out BK298.out (by decide)) (fun _ hk => hk.2) (.int .u64 a1_0)) (fun _ hk => hk.2) (.int .u64 a1_1)) (fun _ h_ => h_.1))) hb); replace BK294 := Aside0.mk (blk_below (g := gb294) (o := .cells #[.int .u64 a1_0, .int .u64 a1_1] 24 (0, 0)) (by (with_reducible repeat refine bl ?_); refine blk_far ?_ NB294_298.out _; (with_reducible repeat refine bl ?_); refine blk_far ?_ NB294_298.out _; (with_reducible repeat refine bl ?_); exact BK294.out) hb); replace BK298 := Aside0.mk (blk_below (g := gb298) (o := .cells #[.int .u64 a1_0, .int .u64 a1_1] 37 (0, 0)) (by (with_reducible repeat refine bl ?_); refine blk_put (cs := #[.int .u64 a1_0, .int .u64 0]) ?_ 1 _ rfl; (with_reducible repeat refine bl ?_); refine blk_put (cs := #[.int .u64 0, .int .u64 0]) ?_ 0 _ rfl; (with_reducible repeat refine bl ?_); exact BK298.out) hb); replace HB := bh HB hb; (try clear hb); (try clear hb2); (try clear hk); (try clear hi)) | (go_at_call 14; (with_reducible refine (steeplelaw33_awake.calls k  true _ A123.out).mono ?_); rintro e w133 ⟨rfl, hb⟩; replace HO297 := kb HO297 hb; replace BK294 := bb BK294 hb; replace BK298 := bb BK298 hb; replace HB := bh HB hb; (try clear hb); (try clear hb2); (try clear hk); (try clear hi); obtain ⟨Ao134, co134, eo134⟩ := Kd.R_slice HO297.out; subst eo134)))
   go_ret
   exact ⟨by first | rfl | (simp [errW_none, errW_some] <;> rfl) | (simp [*, errW_none, errW_some] <;> rfl), bq HB.out⟩
  ·replace c124 := Bool.eq_false_iff.mpr c124
   subst c124
   have H1 : (none) = some r := by rw [if_neg (show ¬ (false = true) by decide)] at H; exact H
   clear H
   have H := H1
   clear H1
   exact absurd H (by simp)

/-- THE ONE PURE STATEMENT of steeplelaw33_FrobLeast. -/
def steeplelaw33_FrobLeast.Pure : Prop := ∀ (x0 : Int) (x1 : S24), (Lit.int .i64 x0).wf = true → ((Lit.int .u64 x1.f0).wf = true ∧ (Lit.int .u64 x1.f1).wf = true) → ∃ k, steeplelaw33_FrobLeast.f k x0 x1.f0 x1.f1 = some true

end Go.Proofs.Ytlegcabfgkccmaa.P
