/- Written by a program of this session: functions that the law reaches, as Lean functions, and that the code comes to their answers. Conditions: those that each theorem names. -/
import Derived.Test.YtceneggampgboaaPx0
import Derived.Test.YtceneggampgboaaPx1
import Derived.Test.YtceneggampgboaaPx3
import Derived.Test.YtceneggampgboaaPx4
import Derived.Test.YtceneggampgboaaPx5
import Derived.Test.YtceneggampgboaaPx6
import Derived.Test.YtceneggampgboaaHRepeat
namespace Go.Proofs.Ytceneggampgboaa.P
open Go.RowKit Go.Proofs.YtceneggampgboaaX Go.Proofs.YtceneggampgboaaW.PrintWords Go.Proofs.YtceneggampgboaaW.PrintLast Go.Proofs.YtceneggampgboaaW.PrintMore
attribute [local go_sem] max2_int min2_int max_two min_two max_three min_three max_four min_four   -- for this text's walks alone
set_option linter.unusedVariables false
set_option linter.unusedSimpArgs false

attribute [local go_sem high] eqA25
/-! ### pack_Fill: function 24 -/
def pack_Fill.f (k : Nat) (a0 : Int) (a1 : Int) (a2_0 : Int) (a2_1 : Int) : Option (Int × Int × List Int × Int) := (pack_ask.f k a0 a1).bind fun t541 => (if t541 = 0 then ((api_Elem.f k (([(⟨a2_0, a2_1⟩ : S25)] : List (S25))) a1).bind fun t545 => ((pack_Make.f k a0 t545).bind fun bt548 => (some (bt548.1, bt548.2.1, bt548.2.2.1, bt548.2.2.2)))) else (some (0, 0, ([] : List Int), t541)))
theorem pack_Fill.mono : ∀ a0 a1 a2 a3 k, LeO (pack_Fill.f k a0 a1 a2 a3) (pack_Fill.f (k + 1) a0 a1 a2 a3) := by
 intro a0 a1 a2 a3 k
 unfold pack_Fill.f
 repeat' first
   | (with_reducible exact api_Elem.mono _ _ _)
   | (with_reducible exact pack_Make.mono _ _ _)
   | (with_reducible exact pack_ask.mono _ _ _)
   | (with_reducible exact LeO.refl _)
   | (with_reducible exact LeO.none _)
   | (with_reducible refine LeO.ite ?_ ?_)
   | (with_reducible refine LeO.bind ?_ (fun _ => ?_))
   | exact api_Elem.mono _ _ _
   | exact pack_Make.mono _ _ _
   | exact pack_ask.mono _ _ _
   | exact LeO.none _
   | refine LeO.ite ?_ ?_
   | refine LeO.bind ?_ (fun _ => ?_)
set_option maxHeartbeats 8000000 in
set_option maxRecDepth 100000 in
theorem pack_Fill.calls (k : Nat) (a0 : Int) (a1 : Int) (a2_0 : Int) (a2_1 : Int) (r1 : Int) (r2 : Int) (r3 : List Int) (r4 : Int) (w : World) (h : pack_Fill.f k a0 a1 a2_0 a2_1 = some (r1, r2, r3, r4)) :
  Calls Try.prog 24 #[.int .i64 a0, .int .i64 a1, .agg #[.int .u64 a2_0, .int .u64 a2_1]] w fun e w' => ∃ v2_ : Value, e = .returned (.tuple #[.agg #[.int .i64 r1, .int .i64 r2, v2_], .int .i64 r4]) ∧ Kd.R (Kd.int .u64) 23 w' w.heap.size (fun _ => True) v2_ r3 ∧ Below w.heap.size w w' := by
 have hu25 := Try.underlying25
 have hu31 := Try.underlying31
 have HB := Aside0.mk (Below.refl w.heap.size w)
 have H : ((pack_ask.f k a0 a1).bind fun t541 => (if t541 = 0 then ((api_Elem.f k (([(⟨a2_0, a2_1⟩ : S25)] : List (S25))) a1).bind fun t545 => ((pack_Make.f k a0 t545).bind fun bt548 => (some (bt548.1, bt548.2.1, bt548.2.2.1, bt548.2.2.2)))) else (some (0, 0, ([] : List Int), t541)))) = some (r1, r2, r3, r4) := h
 clear h
 replace H := Option.bind_eq_some_iff.mp H
 obtain ⟨t541, A40, H⟩ := H
 replace H : (if t541 = 0 then ((api_Elem.f k (([(⟨a2_0, a2_1⟩ : S25)] : List (S25))) a1).bind fun t545 => ((pack_Make.f k a0 t545).bind fun bt548 => (some (bt548.1, bt548.2.1, bt548.2.2.1, bt548.2.2.2)))) else (some (0, 0, ([] : List Int), t541))) = some (r1, r2, r3, r4) := H
 have A4 := Aside0.mk A40
 clear A40
 by_cases c5 : t541 = 0
 ·rw [if_pos c5] at H
  have c5b0 : (t541 == 0) = true := beq_iff_eq.mpr c5
  have c5b1 : (t541 != 0) = false := bne_eq_false_iff_eq.mpr c5
  clear c5
  obtain ⟨y542, hy542⟩ : ∃ y_ : List (S25), y_ = (([(⟨a2_0, a2_1⟩ : S25)] : List (S25))) := ⟨_, rfl⟩
  replace H : ((api_Elem.f k y542 a1).bind fun t545 => ((pack_Make.f k a0 t545).bind fun bt548 => (some (bt548.1, bt548.2.1, bt548.2.2.1, bt548.2.2.2)))) = some (r1, r2, r3, r4) := by first | (rw [hy542]; with_reducible exact H) | (have H2_ := (Option.bind_some _ _).symm.trans H; rw [hy542]; with_reducible exact H2_) | (have H2_ := (Option.bind_some _ _).symm.trans H; with_reducible exact H2_) | with_reducible exact H | (rw [hy542]; exact H) | exact H
  have Ny542 := Aside0.mk hy542
  clear hy542
  replace H := Option.bind_eq_some_iff.mp H
  obtain ⟨t545, A60, H⟩ := H
  replace H : ((pack_Make.f k a0 t545).bind fun bt548 => (some (bt548.1, bt548.2.1, bt548.2.2.1, bt548.2.2.2))) = some (r1, r2, r3, r4) := H
  have A6 := Aside0.mk A60
  clear A60
  replace H := Option.bind_eq_some_iff.mp H
  obtain ⟨⟨t548, t549, t550, t553⟩, A70, H⟩ := H
  replace H : (some (t548, t549, t550, t553)) = some (r1, r2, r3, r4) := H
  have A7 := Aside0.mk A70
  clear A70
  simp only [Option.some.injEq, Prod.mk.injEq] at H
  obtain ⟨rfl, rfl, rfl, rfl⟩ := H
  go_enter Try.func24, Try.ntmps24
  go_wp2_with (first | ((with_reducible refine gate_dst (N := 5) rfl ?_); refine box_event ?hg (N := 5) ?hd (cs := #[.int .u64 a2_0, .int .u64 a2_1]) (t := 25) ?hr ?_; (case hd => rfl); (case hg => rfl); (case hr => first | (go_simp; done) | (go_simp; rfl)); intro gb539 hg w8 hbox hb; have BK539 := Aside0.mk hbox; have GW539 := ge hg HB; have GE539 := ge hg HB; replace HB := bh HB hb; clear hb hbox hg) | ((with_reducible refine gate_dst (N := 6) rfl ?_); refine box_event ?hg (N := 6) ?hd (cs := #[.int .i64 0, .int .i64 0, .slice none 0 0]) (t := 31) ?hr ?_; (case hd => rfl); (case hg => rfl); (case hr => first | (go_simp; done) | (go_simp; rfl)); intro gb540 hg w9 hbox hb; have BK540 := Aside0.mk hbox; have GW540 := ge hg HB; have GE540 := ge hg HB; have NB539_540 := nl hg BK539; have NB540_539 := ng hg BK539; replace BK539 := bb BK539 hb; replace HB := bh HB hb; clear hb hbox hg) | ((with_reducible refine gate_callee (f := 36) rfl ?_); refine goesL_ (some 11) rfl rfl Try.func36 (by kernel_rfl) rfl #[.int .i64 a0, .int .i64 a1] rfl (by (try simp only [List.map_toArray, List.map_cons, List.map_nil]); first | done | rfl | (simp only [List.length_drop, List.length_take]; rfl)) ?_; (with_reducible refine (pack_ask.calls k a0 a1 t541 _ A4.out).mono ?_); rintro e w' ⟨rfl, ⟨nd, rfl⟩⟩; refine ⟨_, rfl, ?_⟩; (try (rw [drewN_self w9]; generalize hq_ : World.drewN w9 _ = w9; have n0_ : Aside0 (w9.heap[gb539]? = some (.cells #[.int .u64 a2_0, .int .u64 a2_1] 25 (0, 0))) := ⟨by rw [← hq_]; exact (bk BK539.out)⟩; have n1_ : Aside0 (w9.heap[gb540]? = some (.cells #[.int .i64 0, .int .i64 0, .slice none 0 0] 31 (0, 0))) := ⟨by rw [← hq_]; exact (bk BK540.out)⟩; have n2_ : Aside0 (Below w.heap.size w w9) := ⟨by rw [← hq_]; exact (bq HB.out)⟩; clear BK539 BK540 HB hq_; have BK539 := n0_; have BK540 := n1_; have HB := n2_; clear n0_ n1_ n2_)); have hnb10 := NB539_540.out; have hnc10 := NB540_539.out; obtain ⟨hcz11_0, hcz11_1⟩ := zc2 BK539; obtain ⟨hfz11_0, hfz11_1⟩ := zf2 BK539) | ((with_reducible refine gate_dst (N := 18) rfl ?_); refine Kd.R_lit k25 _ 25 ?hg (N := 18) ?hd (xs := ([(⟨a2_0, a2_1⟩ : S25)] : List (S25))) (inner := [.int .u64 a2_0, .int .u64 a2_1]) (ok := fun _ => True) (okp := fun _ => True) ?hr ?hp (fun _ hk => hk) trivial (Below.refl _ _) (Nat.le_refl _) (by simp) ?_; (case hd => rfl); (case hg => rfl); (case hr => first | (go_simp; done) | (go_simp; rfl)); (case hp => exact (Reps.c2 (show Kd.M k25 _ _ _ (⟨a2_0, a2_1⟩ : S25) [.int .u64 a2_0, .int .u64 a2_1] from (k25_mkM _ _ _ (⟨a2_0, a2_1⟩ : S25) )) (Reps.none _ _))); intro v543 w12 ho13 hb hg_ hnew_; clear hg_ hnew_; (first | rw [← Ny542.out] at ho13 | (simp only [Int.reduceToNat] at ho13; rw [← Ny542.out] at ho13)); have HO544 := Aside0.mk (Kd.R_lower (Kd.R_newB ho13 (g := gb539) (o := .cells #[.int .u64 a2_0, .int .u64 a2_1] 25 (0, 0)) (bk BK539.out)) (below_size (bq HB.out))); replace BK539 := bb BK539 hb; replace BK540 := bb BK540 hb; replace HB := bh HB hb; clear hb ho13; obtain ⟨Ao14, co14, eo14⟩ := Kd.R_slice HO544.out; subst eo14) | ((with_reducible refine gate_callee (f := 49) rfl ?_); refine goesL_ (some 20) rfl rfl Try.func49 (by kernel_rfl) rfl #[.slice Ao14 y542.length co14, .int .i64 a1] rfl (by (try simp only [List.map_toArray, List.map_cons, List.map_nil]); first | done | rfl | (simp only [List.length_drop, List.length_take]; rfl)) ?_; (with_reducible refine (api_Elem.calls k _ _ y542 a1 t545 _ ?side1 ?side2 A6.out).mono ?_); (case side1 => repeat (first | exact (Kd.R_reads' HO544.out).2.2 | (with_reducible refine Kd.C_alloc ?_ _) | (with_reducible refine Kd.C_drewN ?_ _) | (with_reducible refine Kd.C_drew ?_))); (case side2 => exact (Kd.R_reads' HO544.out).2.1); rintro e w15 ⟨v546, rfl, ho0, hb⟩; refine ⟨_, rfl, ?_⟩; have HO547 := Aside0.mk (Kd.R_lower (Kd.R_newB (Kd.R_new' ho0 (Kd.R_lt (kr HO544.out))) (g := gb539) (o := .cells #[.int .u64 a2_0, .int .u64 a2_1] 25 (0, 0)) (bk BK539.out)) (below_size (bq HB.out))); replace HO544 := Aside0.mk (Kd.R_elder' (kr HO544.out) (Kd.R_base ho0) hb); replace BK539 := bb BK539 hb; replace BK540 := bb BK540 hb; replace HB := bh HB hb; (try clear hb); (try clear hb2); (try clear hk); (try clear hi); (try clear ho0); obtain ⟨Ao16, co16, eo16⟩ := Kd.R_slice HO547.out; subst eo16) | ((with_reducible refine gate_callee (f := 9) rfl ?_); refine goesL_ (some 21) rfl rfl Try.func9 (by kernel_rfl) rfl #[.int .i64 a0, .slice Ao16 t545.length co16] rfl (by (try simp only [List.map_toArray, List.map_cons, List.map_nil]); first | done | rfl | (simp only [List.length_drop, List.length_take]; rfl)) ?_; (with_reducible refine (pack_Make.calls k a0 _ _ t545 t548 t549 t550 t553 _ ?side1 ?side2 A7.out).mono ?_); (case side1 => repeat (first | exact (Kd.R_reads' HO547.out).2.2 | (with_reducible refine Kd.C_alloc ?_ _) | (with_reducible refine Kd.C_drewN ?_ _) | (with_reducible refine Kd.C_drew ?_))); (case side2 => exact (Kd.R_reads' HO547.out).2.1); rintro e w17 ⟨v551, rfl, ho0, hb⟩; refine ⟨_, rfl, ?_⟩; have HO552 := kw ho0 HB; replace HO544 := kb HO544 hb; replace HO547 := kb HO547 hb; replace BK539 := bb BK539 hb; replace BK540 := bb BK540 hb; replace HB := bh HB hb; (try clear hb); (try clear hb2); (try clear hk); (try clear hi); (try clear ho0); obtain ⟨hcz18_0, hcz18_1, hcz18_2⟩ := zc3 BK540; obtain ⟨hfz18_0, hfz18_1, hfz18_2⟩ := zf3 BK540; obtain ⟨Ao19, co19, eo19⟩ := Kd.R_slice HO552.out; subst eo19))
  refine bodyPost_ret (results_ct rfl _ _ gb540 31 #[.int .i64 t548, .int .i64 t549, .slice Ao19 t550.length co19] (0, 0) _ rfl (by (with_reducible repeat refine bl ?_); refine blk_put (cs := #[.int .i64 t548, .int .i64 t549, .slice none 0 0]) ?_ 2 _ rfl; (with_reducible repeat refine bl ?_); refine blk_put (cs := #[.int .i64 t548, .int .i64 0, .slice none 0 0]) ?_ 1 _ rfl; (with_reducible repeat refine bl ?_); refine blk_put (cs := #[.int .i64 0, .int .i64 0, .slice none 0 0]) ?_ 0 _ rfl; (with_reducible repeat refine bl ?_); exact BK540.out) Try.underlying31 rfl (by kernel_rfl)) rfl ?_
  exact ⟨_, by first | rfl | (simp [errW_none, errW_some] <;> rfl) | (simp [*, errW_none, errW_some] <;> rfl), by (with_reducible repeat refine kl ?_); exact Kd.R_mono (Kd.R_far (p := ⟨gb540, 2, none⟩) (Kd.R_far (p := ⟨gb540, 1, none⟩) (Kd.R_far (p := ⟨gb540, 0, none⟩) (Kd.R_types HO552.out BK540.out (by decide)) (fun _ hk => hk.2) (.int .i64 t548)) (fun _ hk => hk.2) (.int .i64 t549)) (fun _ hk => hk.2) (.slice Ao19 t550.length co19)) (fun _ hk => trivial), bq HB.out⟩
 ·rw [if_neg c5] at H
  have c5b0 : (t541 == 0) = false := beq_eq_false_iff_ne.mpr c5
  have c5b1 : (t541 != 0) = true := bne_iff_ne.mpr c5
  simp only [Option.some.injEq, Prod.mk.injEq] at H
  obtain ⟨rfl, rfl, rfl, rfl⟩ := H
  go_enter Try.func24, Try.ntmps24
  go_wp2_with (first | ((with_reducible refine gate_dst (N := 5) rfl ?_); refine box_event ?hg (N := 5) ?hd (cs := #[.int .u64 a2_0, .int .u64 a2_1]) (t := 25) ?hr ?_; (case hd => rfl); (case hg => rfl); (case hr => first | (go_simp; done) | (go_simp; rfl)); intro gb539 hg w20 hbox hb; have BK539 := Aside0.mk hbox; have GW539 := ge hg HB; have GE539 := ge hg HB; replace HB := bh HB hb; clear hb hbox hg) | ((with_reducible refine gate_dst (N := 6) rfl ?_); refine box_event ?hg (N := 6) ?hd (cs := #[.int .i64 0, .int .i64 0, .slice none 0 0]) (t := 31) ?hr ?_; (case hd => rfl); (case hg => rfl); (case hr => first | (go_simp; done) | (go_simp; rfl)); intro gb540 hg w21 hbox hb; have BK540 := Aside0.mk hbox; have GW540 := ge hg HB; have GE540 := ge hg HB; have NB539_540 := nl hg BK539; have NB540_539 := ng hg BK539; replace BK539 := bb BK539 hb; replace HB := bh HB hb; clear hb hbox hg) | ((with_reducible refine gate_callee (f := 36) rfl ?_); refine goesL_ (some 11) rfl rfl Try.func36 (by kernel_rfl) rfl #[.int .i64 a0, .int .i64 a1] rfl (by (try simp only [List.map_toArray, List.map_cons, List.map_nil]); first | done | rfl | (simp only [List.length_drop, List.length_take]; rfl)) ?_; (with_reducible refine (pack_ask.calls k a0 a1 t541 _ A4.out).mono ?_); rintro e w' ⟨rfl, ⟨nd, rfl⟩⟩; refine ⟨_, rfl, ?_⟩; (try (rw [drewN_self w21]; generalize hq_ : World.drewN w21 _ = w21; have n0_ : Aside0 (w21.heap[gb539]? = some (.cells #[.int .u64 a2_0, .int .u64 a2_1] 25 (0, 0))) := ⟨by rw [← hq_]; exact (bk BK539.out)⟩; have n1_ : Aside0 (w21.heap[gb540]? = some (.cells #[.int .i64 0, .int .i64 0, .slice none 0 0] 31 (0, 0))) := ⟨by rw [← hq_]; exact (bk BK540.out)⟩; have n2_ : Aside0 (Below w.heap.size w w21) := ⟨by rw [← hq_]; exact (bq HB.out)⟩; clear BK539 BK540 HB hq_; have BK539 := n0_; have BK540 := n1_; have HB := n2_; clear n0_ n1_ n2_)); have hnb22 := NB540_539.out; have hnc22 := NB539_540.out; obtain ⟨hcz23_0, hcz23_1, hcz23_2⟩ := zc3 BK540; obtain ⟨hfz23_0, hfz23_1, hfz23_2⟩ := zf3 BK540))
  refine bodyPost_ret (results_ct rfl _ _ gb540 31 #[.int .i64 0, .int .i64 0, .slice none 0 0] (0, 0) _ rfl (by (with_reducible repeat refine bl ?_); refine blk_put (cs := #[.int .i64 0, .int .i64 0, .slice none 0 0]) ?_ 2 _ rfl; (with_reducible repeat refine bl ?_); refine blk_put (cs := #[.int .i64 0, .int .i64 0, .slice none 0 0]) ?_ 1 _ rfl; (with_reducible repeat refine bl ?_); refine blk_put (cs := #[.int .i64 0, .int .i64 0, .slice none 0 0]) ?_ 0 _ rfl; (with_reducible repeat refine bl ?_); exact BK540.out) Try.underlying31 rfl (by kernel_rfl)) rfl ?_
  exact ⟨_, by first | rfl | (simp [errW_none, errW_some] <;> rfl) | (simp [*, errW_none, errW_some] <;> rfl), by first | exact Kd.R_nil _ _ _ _ _ | exact Kd.N_nil _ _ _ _ _ | exact Kd.V_nil _ _ _ _ _ | exact Kd.Q_nil _ _ _ _ _ | exact Kd.S_nil _ _ _ _ _, bq HB.out⟩

/-! ### steeplelaw03_PackFills: function 5 -/
mutual
def steeplelaw03_PackFills.j0 : Nat → Int → Int → Bool → Int → Int → Option (Bool)
 | 0, _, _, _, _, _ => none
 | k + 1, x0, x1, x18, x555000, x555001 => if x18 = true then ((steeplelaw03_awake.f k).bind fun t555 => (some t555)) else ((pack_Fill.f k x0 x1 x555000 x555001).bind fun bt556 => (if x0 < 0 then (steeplelaw03_PackFills.j1 k x0 x1 bt556.2.2.2 0 true x555000 x555001 bt556.1 bt556.2.1 bt556.2.2.1) else (if x0 > 6 then (steeplelaw03_PackFills.j1 k x0 x1 bt556.2.2.2 0 true x555000 x555001 bt556.1 bt556.2.1 bt556.2.2.1) else (steeplelaw03_PackFills.j1 k x0 x1 bt556.2.2.2 0 (decide (x1 < 0)) x555000 x555001 bt556.1 bt556.2.1 bt556.2.2.1))))
def steeplelaw03_PackFills.j1 : Nat → Int → Int → Int → Int → Bool → Int → Int → Int → Int → List Int → Option (Bool)
 | 0, _, _, _, _, _, _, _, _, _, _ => none
 | k + 1, x0, x1, x8, x9, x36, x555000, x555001, x563000, x563001, x563002 => if x36 = true then (steeplelaw03_PackFills.j2 k x0 x1 x8 1 x555000 x555001 x563000 x563001 x563002) else (if x1 > 65536 then (steeplelaw03_PackFills.j2 k x0 x1 x8 2 x555000 x555001 x563000 x563001 x563002) else (if x1 > 0 then ((steepleref01_Of.f k x0 x555000 x555001).bind fun t563 => (if t563 = true then (steeplelaw03_PackFills.j2 k x0 x1 x8 x9 x555000 x555001 x563000 x563001 x563002) else (steeplelaw03_PackFills.j2 k x0 x1 x8 5 x555000 x555001 x563000 x563001 x563002))) else (steeplelaw03_PackFills.j2 k x0 x1 x8 x9 x555000 x555001 x563000 x563001 x563002)))
def steeplelaw03_PackFills.j2 : Nat → Int → Int → Int → Int → Int → Int → Int → Int → List Int → Option (Bool)
 | 0, _, _, _, _, _, _, _, _, _ => none
 | k + 1, x0, x1, x8, x9, x555000, x555001, x563000, x563001, x563002 => if x8 = x9 then (if x9 = 0 then (steeplelaw03_PackFills.l0 k x0 x1 0 x555000 x555001 x563000 x563001 x563002) else ((steeplelaw03_awake.f k).bind fun t564 => (if t564 = true then ((pack_Vec_Len.f x563000 x563001 x563002).bind fun t565 => (some (t565 == 0))) else (none)))) else (none)
def steeplelaw03_PackFills.l0 : Nat → Int → Int → Int → Int → Int → Int → Int → List Int → Option (Bool)
 | 0, _, _, _, _, _, _, _, _ => none
 | k + 1, x0, x1, x10, x555000, x555001, x563000, x563001, x563002 => if x10 < x1 then ((pack_Vec_Get.f k x563000 x563001 x563002 x10).bind fun bt566 => (if bt566.2.2 = true then (if (!(bt566.1 == x555000) || (!(bt566.2.1 == x555001))) = true then (none) else (steeplelaw03_PackFills.l0 k x0 x1 (wrap64 (x10 + 1)) x555000 x555001 x563000 x563001 x563002)) else (none))) else ((steeplelaw03_awake.f k).bind fun t570 => (if t570 = true then ((pack_Vec_Len.f x563000 x563001 x563002).bind fun t571 => (if t571 = x1 then ((pack_Vec_Level.f x563000 x563001 x563002).bind fun t572 => (some (t572 == x0))) else (none))) else (none)))
end
def steeplelaw03_PackFills.f (k : Nat) (a0 : Int) (a1 : Int) (a2_0 : Int) (a2_1 : Int) : Option (Bool) := if a1 > 200 then (steeplelaw03_PackFills.j0 k a0 a1 (decide (a1 ≤ 65536)) a2_0 a2_1) else (steeplelaw03_PackFills.j0 k a0 a1 false a2_0 a2_1)
theorem steeplelaw03_PackFills.mono_l : ∀ k, (∀ y0 y1 y2 y3 y4, LeO (steeplelaw03_PackFills.j0 k y0 y1 y2 y3 y4) (steeplelaw03_PackFills.j0 (k + 1) y0 y1 y2 y3 y4)) ∧ (∀ y0 y1 y2 y3 y4 y5 y6 y7 y8 y9, LeO (steeplelaw03_PackFills.j1 k y0 y1 y2 y3 y4 y5 y6 y7 y8 y9) (steeplelaw03_PackFills.j1 (k + 1) y0 y1 y2 y3 y4 y5 y6 y7 y8 y9)) ∧ (∀ y0 y1 y2 y3 y4 y5 y6 y7 y8, LeO (steeplelaw03_PackFills.j2 k y0 y1 y2 y3 y4 y5 y6 y7 y8) (steeplelaw03_PackFills.j2 (k + 1) y0 y1 y2 y3 y4 y5 y6 y7 y8)) ∧ (∀ y0 y1 y2 y3 y4 y5 y6 y7, LeO (steeplelaw03_PackFills.l0 k y0 y1 y2 y3 y4 y5 y6 y7) (steeplelaw03_PackFills.l0 (k + 1) y0 y1 y2 y3 y4 y5 y6 y7))
 | 0 => ⟨fun _ _ _ _ _ r h => by simp [steeplelaw03_PackFills.j0] at h, fun _ _ _ _ _ _ _ _ _ _ r h => by simp [steeplelaw03_PackFills.j1] at h, fun _ _ _ _ _ _ _ _ _ r h => by simp [steeplelaw03_PackFills.j2] at h, fun _ _ _ _ _ _ _ _ r h => by simp [steeplelaw03_PackFills.l0] at h⟩
 | k + 1 => by
  obtain ⟨ih0, ih1, ih2, ih3⟩ := steeplelaw03_PackFills.mono_l k
  refine ⟨?_, ?_, ?_, ?_⟩
  ·intro y0 y1 y2 y3 y4
   unfold steeplelaw03_PackFills.j0
   repeat' first
   | (with_reducible exact ih0 _ _ _ _ _)
   | (with_reducible exact ih1 _ _ _ _ _ _ _ _ _ _)
   | (with_reducible exact ih2 _ _ _ _ _ _ _ _ _)
   | (with_reducible exact ih3 _ _ _ _ _ _ _ _)
   | (with_reducible exact pack_Fill.mono _ _ _ _ _)
   | (with_reducible exact pack_Vec_Get.mono _ _ _ _ _)
   | (with_reducible exact steeplelaw03_awake.mono _)
   | (with_reducible exact steepleref01_Of.mono _ _ _ _)
   | (with_reducible exact LeO.refl _)
   | (with_reducible exact LeO.none _)
   | (with_reducible refine LeO.ite ?_ ?_)
   | (with_reducible refine LeO.bind ?_ (fun _ => ?_))
   | exact ih0 _ _ _ _ _
   | exact ih1 _ _ _ _ _ _ _ _ _ _
   | exact ih2 _ _ _ _ _ _ _ _ _
   | exact ih3 _ _ _ _ _ _ _ _
   | exact pack_Fill.mono _ _ _ _ _
   | exact pack_Vec_Get.mono _ _ _ _ _
   | exact steeplelaw03_awake.mono _
   | exact steepleref01_Of.mono _ _ _ _
   | exact LeO.none _
   | refine LeO.ite ?_ ?_
   | refine LeO.bind ?_ (fun _ => ?_)
  ·intro y0 y1 y2 y3 y4 y5 y6 y7 y8 y9
   unfold steeplelaw03_PackFills.j1
   repeat' first
   | (with_reducible exact ih0 _ _ _ _ _)
   | (with_reducible exact ih1 _ _ _ _ _ _ _ _ _ _)
   | (with_reducible exact ih2 _ _ _ _ _ _ _ _ _)
   | (with_reducible exact ih3 _ _ _ _ _ _ _ _)
   | (with_reducible exact pack_Fill.mono _ _ _ _ _)
   | (with_reducible exact pack_Vec_Get.mono _ _ _ _ _)
   | (with_reducible exact steeplelaw03_awake.mono _)
   | (with_reducible exact steepleref01_Of.mono _ _ _ _)
   | (with_reducible exact LeO.refl _)
   | (with_reducible exact LeO.none _)
   | (with_reducible refine LeO.ite ?_ ?_)
   | (with_reducible refine LeO.bind ?_ (fun _ => ?_))
   | exact ih0 _ _ _ _ _
   | exact ih1 _ _ _ _ _ _ _ _ _ _
   | exact ih2 _ _ _ _ _ _ _ _ _
   | exact ih3 _ _ _ _ _ _ _ _
   | exact pack_Fill.mono _ _ _ _ _
   | exact pack_Vec_Get.mono _ _ _ _ _
   | exact steeplelaw03_awake.mono _
   | exact steepleref01_Of.mono _ _ _ _
   | exact LeO.none _
   | refine LeO.ite ?_ ?_
   | refine LeO.bind ?_ (fun _ => ?_)
  ·intro y0 y1 y2 y3 y4 y5 y6 y7 y8
   unfold steeplelaw03_PackFills.j2
   repeat' first
   | (with_reducible exact ih0 _ _ _ _ _)
   | (with_reducible exact ih1 _ _ _ _ _ _ _ _ _ _)
   | (with_reducible exact ih2 _ _ _ _ _ _ _ _ _)
   | (with_reducible exact ih3 _ _ _ _ _ _ _ _)
   | (with_reducible exact pack_Fill.mono _ _ _ _ _)
   | (with_reducible exact pack_Vec_Get.mono _ _ _ _ _)
   | (with_reducible exact steeplelaw03_awake.mono _)
   | (with_reducible exact steepleref01_Of.mono _ _ _ _)
   | (with_reducible exact LeO.refl _)
   | (with_reducible exact LeO.none _)
   | (with_reducible refine LeO.ite ?_ ?_)
   | (with_reducible refine LeO.bind ?_ (fun _ => ?_))
   | exact ih0 _ _ _ _ _
   | exact ih1 _ _ _ _ _ _ _ _ _ _
   | exact ih2 _ _ _ _ _ _ _ _ _
   | exact ih3 _ _ _ _ _ _ _ _
   | exact pack_Fill.mono _ _ _ _ _
   | exact pack_Vec_Get.mono _ _ _ _ _
   | exact steeplelaw03_awake.mono _
   | exact steepleref01_Of.mono _ _ _ _
   | exact LeO.none _
   | refine LeO.ite ?_ ?_
   | refine LeO.bind ?_ (fun _ => ?_)
  ·intro y0 y1 y2 y3 y4 y5 y6 y7
   unfold steeplelaw03_PackFills.l0
   repeat' first
   | (with_reducible exact ih0 _ _ _ _ _)
   | (with_reducible exact ih1 _ _ _ _ _ _ _ _ _ _)
   | (with_reducible exact ih2 _ _ _ _ _ _ _ _ _)
   | (with_reducible exact ih3 _ _ _ _ _ _ _ _)
   | (with_reducible exact pack_Fill.mono _ _ _ _ _)
   | (with_reducible exact pack_Vec_Get.mono _ _ _ _ _)
   | (with_reducible exact steeplelaw03_awake.mono _)
   | (with_reducible exact steepleref01_Of.mono _ _ _ _)
   | (with_reducible exact LeO.refl _)
   | (with_reducible exact LeO.none _)
   | (with_reducible refine LeO.ite ?_ ?_)
   | (with_reducible refine LeO.bind ?_ (fun _ => ?_))
   | exact ih0 _ _ _ _ _
   | exact ih1 _ _ _ _ _ _ _ _ _ _
   | exact ih2 _ _ _ _ _ _ _ _ _
   | exact ih3 _ _ _ _ _ _ _ _
   | exact pack_Fill.mono _ _ _ _ _
   | exact pack_Vec_Get.mono _ _ _ _ _
   | exact steeplelaw03_awake.mono _
   | exact steepleref01_Of.mono _ _ _ _
   | exact LeO.none _
   | refine LeO.ite ?_ ?_
   | refine LeO.bind ?_ (fun _ => ?_)
theorem steeplelaw03_PackFills.mono : ∀ a0 a1 a2 a3 k, LeO (steeplelaw03_PackFills.f k a0 a1 a2 a3) (steeplelaw03_PackFills.f (k + 1) a0 a1 a2 a3) := by
 intro a0 a1 a2 a3 k
 obtain ⟨ih0, ih1, ih2, ih3⟩ := steeplelaw03_PackFills.mono_l k
 unfold steeplelaw03_PackFills.f
 repeat' first
   | (with_reducible exact ih0 _ _ _ _ _)
   | (with_reducible exact ih1 _ _ _ _ _ _ _ _ _ _)
   | (with_reducible exact ih2 _ _ _ _ _ _ _ _ _)
   | (with_reducible exact ih3 _ _ _ _ _ _ _ _)
   | (with_reducible exact pack_Fill.mono _ _ _ _ _)
   | (with_reducible exact pack_Vec_Get.mono _ _ _ _ _)
   | (with_reducible exact steeplelaw03_awake.mono _)
   | (with_reducible exact steepleref01_Of.mono _ _ _ _)
   | (with_reducible exact LeO.refl _)
   | (with_reducible exact LeO.none _)
   | (with_reducible refine LeO.ite ?_ ?_)
   | (with_reducible refine LeO.bind ?_ (fun _ => ?_))
   | exact ih0 _ _ _ _ _
   | exact ih1 _ _ _ _ _ _ _ _ _ _
   | exact ih2 _ _ _ _ _ _ _ _ _
   | exact ih3 _ _ _ _ _ _ _ _
   | exact pack_Fill.mono _ _ _ _ _
   | exact pack_Vec_Get.mono _ _ _ _ _
   | exact steeplelaw03_awake.mono _
   | exact steepleref01_Of.mono _ _ _ _
   | exact LeO.none _
   | refine LeO.ite ?_ ?_
   | refine LeO.bind ?_ (fun _ => ?_)
set_option maxHeartbeats 8000000 in
set_option maxRecDepth 100000 in
theorem steeplelaw03_PackFills.calls (k : Nat) (a0 : Int) (a1 : Int) (a2_0 : Int) (a2_1 : Int) (r : Bool) (w : World) (h : steeplelaw03_PackFills.f k a0 a1 a2_0 a2_1 = some r) :
  Calls Try.prog 5 #[.int .i64 a0, .int .i64 a1, .agg #[.int .u64 a2_0, .int .u64 a2_1]] w fun e w' => e = .returned (.bool r) ∧ Below w.heap.size w w' := by
 have hu25 := Try.underlying25
 have hu31 := Try.underlying31
 have HB := Aside0.mk (Below.refl w.heap.size w)
 have H : (if a1 > 200 then (steeplelaw03_PackFills.j0 k a0 a1 (decide (a1 ≤ 65536)) a2_0 a2_1) else (steeplelaw03_PackFills.j0 k a0 a1 false a2_0 a2_1)) = some r := h
 clear h
 have HC4 := Aside0.mk H
 clear H
 go_enter Try.func5, Try.ntmps5
 go_upto_region 1 with (first | ((with_reducible refine gate_dst (N := 5) rfl ?_); refine box_event ?hg (N := 5) ?hd (cs := #[.int .u64 a2_0, .int .u64 a2_1]) (t := 25) ?hr ?_; (case hd => rfl); (case hg => rfl); (case hr => first | (go_simp; done) | (go_simp; rfl)); intro gb554 hg w5 hbox hb; have BK554 := Aside0.mk hbox; have GW554 := ge hg HB; have GE554 := ge hg HB; replace HB := bh HB hb; clear hb hbox hg))
 (try simp only [Act.put, List.setIfInBounds_toArray, List.set_cons_zero, List.set_cons_succ])
 go_cut [18] (fun v18 wc => ∃ (kq : Nat) (x18_3 : Bool), v18 = .bool x18_3 ∧ Aside0 (steeplelaw03_PackFills.j0 kq a0 a1 x18_3 a2_0 a2_1 = some r) ∧ Aside0 (kq ≤ k) ∧ Aside0 (wc.heap[gb554]? = some (.cells #[.int .u64 a2_0, .int .u64 a2_1] 25 (0, 0))) ∧ Aside0 (Below w.heap.size w wc))
 case first =>
  have H := HC4.out
  clear HC4
  by_cases c6 : a1 > 200
  ·rw [if_pos c6] at H
   have c6b0 : decide (200 < a1) = true := decide_eq_true c6
   clear c6
   (first | rw [c6b0] | (simp only [i64_w, i32_w]; rw [c6b0]) | skip)
   have H' := Aside0.mk H
   clear H
   go_wp2
   go_meet
   case rel => exact ⟨_, (decide (a1 ≤ 65536)), (by first | rfl | (simp; done) | (simp [*]; done)), H', ⟨by first | omega | exact Nat.le_refl _⟩, ⟨bk BK554.out⟩, ⟨bq HB.out⟩⟩
  ·rw [if_neg c6] at H
   have c6b0 : decide (200 < a1) = false := decide_eq_false c6
   clear c6
   (first | rw [c6b0] | (simp only [i64_w, i32_w]; rw [c6b0]) | skip)
   have H' := Aside0.mk H
   clear H
   go_wp2
   go_meet
   case rel => exact ⟨_, (false), (by first | rfl | (simp; done) | (simp [*]; done)), H', ⟨by first | omega | exact Nat.le_refl _⟩, ⟨bk BK554.out⟩, ⟨bq HB.out⟩⟩
 case rest =>
  clear HC4
  try clear p2
  try clear c5
  try clear c6
  try clear c6b0
  obtain ⟨kq, x18_3, rfl, HA, HJ3, BK554, HB⟩ := hcut
  cases kq with
  | zero => exact absurd HA.out (by simp [steeplelaw03_PackFills.j0])
  | succ kj3 =>
   have H := HA.out
   clear HA
   simp only [steeplelaw03_PackFills.j0] at H
   by_cases c7 : x18_3 = true
   ·subst c7
    have H1 : ((steeplelaw03_awake.f kj3).bind fun t555 => (some t555)) = some r := by rw [if_pos rfl] at H; exact H
    clear H
    have H := H1
    clear H1
    replace H := Option.bind_eq_some_iff.mp H
    obtain ⟨t555, A80, H⟩ := H
    replace H : (some t555) = some r := H
    have A8 := Aside0.mk A80
    clear A80
    obtain rfl := Option.some.inj H
    go_wp2_with (first | ((with_reducible refine gate_callee (f := 8) rfl ?_); refine goesL_ (some 19) rfl rfl Try.func8 (by kernel_rfl) rfl #[] rfl (by (try simp only [List.map_toArray, List.map_cons, List.map_nil]); first | done | rfl | (simp only [List.length_drop, List.length_take]; rfl)) ?_; (with_reducible refine (steeplelaw03_awake.calls kj3  t555 _ A8.out).mono ?_); rintro e w9 ⟨rfl, hb⟩; refine ⟨_, rfl, ?_⟩; replace BK554 := bb BK554 hb; replace HB := bh HB hb; (try clear hb); (try clear hb2); (try clear hk); (try clear hi)))
    go_ret
    exact ⟨by first | rfl | (simp [errW_none, errW_some] <;> rfl) | (simp [*, errW_none, errW_some] <;> rfl), bq HB.out⟩
   ·replace c7 := Bool.eq_false_iff.mpr c7
    subst c7
    have H1 : ((pack_Fill.f kj3 a0 a1 a2_0 a2_1).bind fun bt556 => (if a0 < 0 then (steeplelaw03_PackFills.j1 kj3 a0 a1 bt556.2.2.2 0 true a2_0 a2_1 bt556.1 bt556.2.1 bt556.2.2.1) else (if a0 > 6 then (steeplelaw03_PackFills.j1 kj3 a0 a1 bt556.2.2.2 0 true a2_0 a2_1 bt556.1 bt556.2.1 bt556.2.2.1) else (steeplelaw03_PackFills.j1 kj3 a0 a1 bt556.2.2.2 0 (decide (a1 < 0)) a2_0 a2_1 bt556.1 bt556.2.1 bt556.2.2.1)))) = some r := by rw [if_neg (show ¬ (false = true) by decide)] at H; exact H
    clear H
    have H := H1
    clear H1
    replace H := Option.bind_eq_some_iff.mp H
    obtain ⟨⟨t556, t557, t558, t561⟩, A100, H⟩ := H
    replace H : (if a0 < 0 then (steeplelaw03_PackFills.j1 kj3 a0 a1 t561 0 true a2_0 a2_1 t556 t557 t558) else (if a0 > 6 then (steeplelaw03_PackFills.j1 kj3 a0 a1 t561 0 true a2_0 a2_1 t556 t557 t558) else (steeplelaw03_PackFills.j1 kj3 a0 a1 t561 0 (decide (a1 < 0)) a2_0 a2_1 t556 t557 t558))) = some r := H
    have A10 := Aside0.mk A100
    clear A100
    have HC11 := Aside0.mk H
    clear H
    obtain ⟨hcz12_0, hcz12_1⟩ := zc2 BK554
    obtain ⟨hfz12_0, hfz12_1⟩ := zf2 BK554
    go_upto_region 5 with (first | ((with_reducible refine gate_callee (f := 24) rfl ?_); refine goesL_ (some 24) rfl rfl Try.func24 (by kernel_rfl) rfl #[.int .i64 a0, .int .i64 a1, .agg #[.int .u64 a2_0, .int .u64 a2_1]] rfl (by (try simp only [List.map_toArray, List.map_cons, List.map_nil]); first | done | rfl | (simp only [List.length_drop, List.length_take]; rfl)) ?_; (with_reducible refine (pack_Fill.calls kj3 a0 a1 a2_0 a2_1 t556 t557 t558 t561 _ A10.out).mono ?_); rintro e w13 ⟨v559, rfl, ho0, hb⟩; refine ⟨_, rfl, ?_⟩; have HO560 := kw ho0 HB; replace BK554 := bb BK554 hb; replace HB := bh HB hb; (try clear hb); (try clear hb2); (try clear hk); (try clear hi); (try clear ho0)) | ((with_reducible refine gate_dst (N := 7) rfl ?_); refine box_event ?hg (N := 7) ?hd (cs := #[.int .i64 0, .int .i64 0, .slice none 0 0]) (t := 31) ?hr ?_; (case hd => rfl); (case hg => rfl); (case hr => first | (go_simp; done) | (go_simp; rfl)); intro gb562 hg w14 hbox hb; have BK562 := Aside0.mk hbox; have GW562 := ge hg HB; have GE562 := ge hg HB; have NB554_562 := nl hg BK554; have NB562_554 := ng hg BK554; replace HO560 := kb HO560 hb; replace BK554 := bb BK554 hb; replace HB := bh HB hb; clear hb hbox hg; have hnb15 := NB562_554.out; have hnc15 := NB554_562.out; obtain ⟨hcz16_0, hcz16_1, hcz16_2⟩ := zc3 BK562; obtain ⟨hfz16_0, hfz16_1, hfz16_2⟩ := zf3 BK562; obtain ⟨Ao17, co17, eo17⟩ := Kd.R_slice HO560.out; subst eo17))
    (try simp only [Act.put, List.setIfInBounds_toArray, List.set_cons_zero, List.set_cons_succ])
    go_cut [36] (fun v36 wc => ∃ (kq : Nat) (x36_10 : Bool), v36 = .bool x36_10 ∧ Aside0 (steeplelaw03_PackFills.j1 kq a0 a1 t561 0 x36_10 a2_0 a2_1 t556 t557 t558 = some r) ∧ Aside0 (kq ≤ kj3) ∧ Aside0 (Kd.R (Kd.int .u64) 23 wc w.heap.size (fun _ => True) (.slice Ao17 t558.length co17) t558) ∧ Aside0 (wc.heap[gb554]? = some (.cells #[.int .u64 a2_0, .int .u64 a2_1] 25 (0, 0))) ∧ Aside0 (wc.heap[gb562]? = some (.cells #[.int .i64 t556, .int .i64 t557, (.slice Ao17 t558.length co17)] 31 (0, 0))) ∧ Aside0 (Below w.heap.size w wc))
    case first =>
     have H := HC11.out
     clear HC11
     by_cases c18 : a0 < 0
     ·rw [if_pos c18] at H
      have c18b0 : decide (a0 < 0) = true := decide_eq_true c18
      clear c18
      (first | rw [c18b0] | (simp only [i64_w, i32_w]; rw [c18b0]) | skip)
      have H' := Aside0.mk H
      clear H
      go_wp2
      go_meet
      case rel => exact ⟨_, (true), (by first | rfl | (simp; done) | (simp [*]; done)), H', ⟨by have := HJ3.out; first | omega | exact Nat.le_refl _⟩, ⟨by (with_reducible repeat refine kl ?_); exact Kd.R_mono (Kd.R_far (p := ⟨gb562, 2, none⟩) (Kd.R_far (p := ⟨gb562, 1, none⟩) (Kd.R_far (p := ⟨gb562, 0, none⟩) (Kd.R_types HO560.out BK562.out (by decide)) (fun _ hk => hk.2) (.int .i64 t556)) (fun _ hk => hk.2) (.int .i64 t557)) (fun _ hk => hk.2) (.slice Ao17 t558.length co17)) (fun _ hk => trivial)⟩, ⟨by (with_reducible repeat refine bl ?_); refine blk_far ?_ NB554_562.out _; (with_reducible repeat refine bl ?_); refine blk_far ?_ NB554_562.out _; (with_reducible repeat refine bl ?_); refine blk_far ?_ NB554_562.out _; (with_reducible repeat refine bl ?_); exact BK554.out⟩, ⟨by (with_reducible repeat refine bl ?_); refine blk_put (cs := #[.int .i64 t556, .int .i64 t557, .slice none 0 0]) ?_ 2 _ rfl; (with_reducible repeat refine bl ?_); refine blk_put (cs := #[.int .i64 t556, .int .i64 0, .slice none 0 0]) ?_ 1 _ rfl; (with_reducible repeat refine bl ?_); refine blk_put (cs := #[.int .i64 0, .int .i64 0, .slice none 0 0]) ?_ 0 _ rfl; (with_reducible repeat refine bl ?_); exact BK562.out⟩, ⟨bq HB.out⟩⟩
     ·rw [if_neg c18] at H
      have c18b0 : decide (a0 < 0) = false := decide_eq_false c18
      clear c18
      (first | rw [c18b0] | (simp only [i64_w, i32_w]; rw [c18b0]) | skip)
      by_cases c19 : a0 > 6
      ·rw [if_pos c19] at H
       have c19b0 : decide (6 < a0) = true := decide_eq_true c19
       clear c19
       have H' := Aside0.mk H
       clear H
       go_wp2
       go_meet
       case rel => exact ⟨_, (true), (by first | rfl | (simp; done) | (simp [*]; done)), H', ⟨by have := HJ3.out; first | omega | exact Nat.le_refl _⟩, ⟨by (with_reducible repeat refine kl ?_); exact Kd.R_mono (Kd.R_far (p := ⟨gb562, 2, none⟩) (Kd.R_far (p := ⟨gb562, 1, none⟩) (Kd.R_far (p := ⟨gb562, 0, none⟩) (Kd.R_types HO560.out BK562.out (by decide)) (fun _ hk => hk.2) (.int .i64 t556)) (fun _ hk => hk.2) (.int .i64 t557)) (fun _ hk => hk.2) (.slice Ao17 t558.length co17)) (fun _ hk => trivial)⟩, ⟨by (with_reducible repeat refine bl ?_); refine blk_far ?_ NB554_562.out _; (with_reducible repeat refine bl ?_); refine blk_far ?_ NB554_562.out _; (with_reducible repeat refine bl ?_); refine blk_far ?_ NB554_562.out _; (with_reducible repeat refine bl ?_); exact BK554.out⟩, ⟨by (with_reducible repeat refine bl ?_); refine blk_put (cs := #[.int .i64 t556, .int .i64 t557, .slice none 0 0]) ?_ 2 _ rfl; (with_reducible repeat refine bl ?_); refine blk_put (cs := #[.int .i64 t556, .int .i64 0, .slice none 0 0]) ?_ 1 _ rfl; (with_reducible repeat refine bl ?_); refine blk_put (cs := #[.int .i64 0, .int .i64 0, .slice none 0 0]) ?_ 0 _ rfl; (with_reducible repeat refine bl ?_); exact BK562.out⟩, ⟨bq HB.out⟩⟩
      ·rw [if_neg c19] at H
       have c19b0 : decide (6 < a0) = false := decide_eq_false c19
       clear c19
       have H' := Aside0.mk H
       clear H
       go_wp2
       go_meet
       case rel => exact ⟨_, (decide (a1 < 0)), (by first | rfl | (simp; done) | (simp [*]; done)), H', ⟨by have := HJ3.out; first | omega | exact Nat.le_refl _⟩, ⟨by (with_reducible repeat refine kl ?_); exact Kd.R_mono (Kd.R_far (p := ⟨gb562, 2, none⟩) (Kd.R_far (p := ⟨gb562, 1, none⟩) (Kd.R_far (p := ⟨gb562, 0, none⟩) (Kd.R_types HO560.out BK562.out (by decide)) (fun _ hk => hk.2) (.int .i64 t556)) (fun _ hk => hk.2) (.int .i64 t557)) (fun _ hk => hk.2) (.slice Ao17 t558.length co17)) (fun _ hk => trivial)⟩, ⟨by (with_reducible repeat refine bl ?_); refine blk_far ?_ NB554_562.out _; (with_reducible repeat refine bl ?_); refine blk_far ?_ NB554_562.out _; (with_reducible repeat refine bl ?_); refine blk_far ?_ NB554_562.out _; (with_reducible repeat refine bl ?_); exact BK554.out⟩, ⟨by (with_reducible repeat refine bl ?_); refine blk_put (cs := #[.int .i64 t556, .int .i64 t557, .slice none 0 0]) ?_ 2 _ rfl; (with_reducible repeat refine bl ?_); refine blk_put (cs := #[.int .i64 t556, .int .i64 0, .slice none 0 0]) ?_ 1 _ rfl; (with_reducible repeat refine bl ?_); refine blk_put (cs := #[.int .i64 0, .int .i64 0, .slice none 0 0]) ?_ 0 _ rfl; (with_reducible repeat refine bl ?_); exact BK562.out⟩, ⟨bq HB.out⟩⟩
    case rest =>
     clear HC11
     try clear c1
     try clear c2
     try clear p2
     try clear c5
     try clear c6
     try clear c6b0
     try clear c7
     try clear c8
     try clear c15
     try clear c18
     try clear c18b0
     try clear c19
     try clear c19b0
     try clear hcz12_0
     try clear hcz12_1
     try clear hcz16_0
     try clear hcz16_1
     try clear hcz16_2
     try clear hfz12_0
     try clear hfz12_1
     try clear hfz16_0
     try clear hfz16_1
     try clear hfz16_2
     try clear p2
     obtain ⟨kq, x36_10, rfl, HA, HJ10, HO_563002, BK554, BK562, HB⟩ := hcut
     cases kq with
     | zero => exact absurd HA.out (by simp [steeplelaw03_PackFills.j1])
     | succ kj10 =>
      have H := HA.out
      clear HA
      simp only [steeplelaw03_PackFills.j1] at H
      have HC20 := Aside0.mk H
      clear H
      go_upto_if 36 with (fail)
      go_cut [9] (fun v9 wc => ∃ (kq : Nat) (x9_19 : Int), v9 = .int .i64 x9_19 ∧ Aside0 (steeplelaw03_PackFills.j2 kq a0 a1 t561 x9_19 a2_0 a2_1 t556 t557 t558 = some r) ∧ Aside0 (kq ≤ kj10) ∧ Aside0 (Kd.R (Kd.int .u64) 23 wc w.heap.size (fun _ => True) (.slice Ao17 t558.length co17) t558) ∧ Aside0 (wc.heap[gb554]? = some (.cells #[.int .u64 a2_0, .int .u64 a2_1] 25 (0, 0))) ∧ Aside0 (wc.heap[gb562]? = some (.cells #[.int .i64 t556, .int .i64 t557, (.slice Ao17 t558.length co17)] 31 (0, 0))) ∧ Aside0 (Below w.heap.size w wc))
      case first =>
       have H := HC20.out
       clear HC20
       by_cases c21 : x36_10 = true
       ·subst c21
        have H1 : (steeplelaw03_PackFills.j2 kj10 a0 a1 t561 1 a2_0 a2_1 t556 t557 t558) = some r := by rw [if_pos rfl] at H; exact H
        clear H
        have H := H1
        clear H1
        have H' := Aside0.mk H
        clear H
        go_wp2
        go_meet
        case rel => exact ⟨_, (1), (by first | rfl | (simp; done) | (simp [*]; done)), H', ⟨by have := HJ3.out; have := HJ10.out; first | omega | exact Nat.le_refl _⟩, ⟨kr HO_563002.out⟩, ⟨bk BK554.out⟩, ⟨bk BK562.out⟩, ⟨bq HB.out⟩⟩
       ·replace c21 := Bool.eq_false_iff.mpr c21
        subst c21
        have H1 : (if a1 > 65536 then (steeplelaw03_PackFills.j2 kj10 a0 a1 t561 2 a2_0 a2_1 t556 t557 t558) else (if a1 > 0 then ((steepleref01_Of.f kj10 a0 a2_0 a2_1).bind fun t563 => (if t563 = true then (steeplelaw03_PackFills.j2 kj10 a0 a1 t561 0 a2_0 a2_1 t556 t557 t558) else (steeplelaw03_PackFills.j2 kj10 a0 a1 t561 5 a2_0 a2_1 t556 t557 t558))) else (steeplelaw03_PackFills.j2 kj10 a0 a1 t561 0 a2_0 a2_1 t556 t557 t558))) = some r := by rw [if_neg (show ¬ (false = true) by decide)] at H; exact H
        clear H
        have H := H1
        clear H1
        by_cases c22 : a1 > 65536
        ·rw [if_pos c22] at H
         have c22b0 : decide (65536 < a1) = true := decide_eq_true c22
         clear c22
         (first | rw [c22b0] | (simp only [i64_w, i32_w]; rw [c22b0]) | skip)
         have H' := Aside0.mk H
         clear H
         go_wp2
         go_meet
         case rel => exact ⟨_, (2), (by first | rfl | (simp; done) | (simp [*]; done)), H', ⟨by have := HJ3.out; have := HJ10.out; first | omega | exact Nat.le_refl _⟩, ⟨kr HO_563002.out⟩, ⟨bk BK554.out⟩, ⟨bk BK562.out⟩, ⟨bq HB.out⟩⟩
        ·rw [if_neg c22] at H
         have c22b0 : decide (65536 < a1) = false := decide_eq_false c22
         clear c22
         (first | rw [c22b0] | (simp only [i64_w, i32_w]; rw [c22b0]) | skip)
         by_cases c23 : a1 > 0
         ·rw [if_pos c23] at H
          have c23b0 : decide (0 < a1) = true := decide_eq_true c23
          clear c23
          replace H := Option.bind_eq_some_iff.mp H
          obtain ⟨t563, A240, H⟩ := H
          replace H : (if t563 = true then (steeplelaw03_PackFills.j2 kj10 a0 a1 t561 0 a2_0 a2_1 t556 t557 t558) else (steeplelaw03_PackFills.j2 kj10 a0 a1 t561 5 a2_0 a2_1 t556 t557 t558)) = some r := H
          have A24 := Aside0.mk A240
          clear A240
          by_cases c25 : t563 = true
          ·subst c25
           have H1 : (steeplelaw03_PackFills.j2 kj10 a0 a1 t561 0 a2_0 a2_1 t556 t557 t558) = some r := by rw [if_pos rfl] at H; exact H
           clear H
           have H := H1
           clear H1
           have H' := Aside0.mk H
           clear H
           have hnb26 := NB554_562.out
           have hnc26 := NB562_554.out
           obtain ⟨hcz27_0, hcz27_1⟩ := zc2 BK554
           obtain ⟨hfz27_0, hfz27_1⟩ := zf2 BK554
           go_wp2_with (first | (go_at_call 25; (with_reducible refine (steepleref01_Of.calls kj10 a0 a2_0 a2_1 true _ A24.out).mono ?_); rintro e w28 ⟨rfl, hb⟩; replace HO_563002 := kb HO_563002 hb; replace BK554 := bb BK554 hb; replace BK562 := bb BK562 hb; replace HB := bh HB hb; (try clear hb); (try clear hb2); (try clear hk); (try clear hi)))
           go_meet
           case rel => exact ⟨_, (0), (by first | rfl | (simp; done) | (simp [*]; done)), H', ⟨by have := HJ3.out; have := HJ10.out; first | omega | exact Nat.le_refl _⟩, ⟨kr HO_563002.out⟩, ⟨bk BK554.out⟩, ⟨bk BK562.out⟩, ⟨bq HB.out⟩⟩
          ·replace c25 := Bool.eq_false_iff.mpr c25
           subst c25
           have H1 : (steeplelaw03_PackFills.j2 kj10 a0 a1 t561 5 a2_0 a2_1 t556 t557 t558) = some r := by rw [if_neg (show ¬ (false = true) by decide)] at H; exact H
           clear H
           have H := H1
           clear H1
           have H' := Aside0.mk H
           clear H
           have hnb29 := NB554_562.out
           have hnc29 := NB562_554.out
           obtain ⟨hcz30_0, hcz30_1⟩ := zc2 BK554
           obtain ⟨hfz30_0, hfz30_1⟩ := zf2 BK554
           go_wp2_with (first | (go_at_call 25; (with_reducible refine (steepleref01_Of.calls kj10 a0 a2_0 a2_1 false _ A24.out).mono ?_); rintro e w31 ⟨rfl, hb⟩; replace HO_563002 := kb HO_563002 hb; replace BK554 := bb BK554 hb; replace BK562 := bb BK562 hb; replace HB := bh HB hb; (try clear hb); (try clear hb2); (try clear hk); (try clear hi)))
           go_meet
           case rel => exact ⟨_, (5), (by first | rfl | (simp; done) | (simp [*]; done)), H', ⟨by have := HJ3.out; have := HJ10.out; first | omega | exact Nat.le_refl _⟩, ⟨kr HO_563002.out⟩, ⟨bk BK554.out⟩, ⟨bk BK562.out⟩, ⟨bq HB.out⟩⟩
         ·rw [if_neg c23] at H
          have c23b0 : decide (0 < a1) = false := decide_eq_false c23
          clear c23
          have H' := Aside0.mk H
          clear H
          go_wp2
          go_meet
          case rel => exact ⟨_, (0), (by first | rfl | (simp; done) | (simp [*]; done)), H', ⟨by have := HJ3.out; have := HJ10.out; first | omega | exact Nat.le_refl _⟩, ⟨kr HO_563002.out⟩, ⟨bk BK554.out⟩, ⟨bk BK562.out⟩, ⟨bq HB.out⟩⟩
      case rest =>
       clear HC20
       try clear c1
       try clear c2
       try clear p2
       try clear c5
       try clear c6
       try clear c6b0
       try clear c7
       try clear c8
       try clear c15
       try clear c18
       try clear c18b0
       try clear c19
       try clear c19b0
       try clear c21
       try clear c22
       try clear c22b0
       try clear c23
       try clear c23b0
       try clear c24
       try clear c25
       try clear c26
       try clear c29
       try clear hcz12_0
       try clear hcz12_1
       try clear hcz16_0
       try clear hcz16_1
       try clear hcz16_2
       try clear hcz27_0
       try clear hcz27_1
       try clear hcz30_0
       try clear hcz30_1
       try clear hfz12_0
       try clear hfz12_1
       try clear hfz16_0
       try clear hfz16_1
       try clear hfz16_2
       try clear hfz27_0
       try clear hfz27_1
       try clear hfz30_0
       try clear hfz30_1
       try clear p2
       obtain ⟨kq, x9_19, rfl, HA, HJ19, HO_563002, BK554, BK562, HB⟩ := hcut
       cases kq with
       | zero => exact absurd HA.out (by simp [steeplelaw03_PackFills.j2])
       | succ kj19 =>
        have H := HA.out
        clear HA
        simp only [steeplelaw03_PackFills.j2] at H
        by_cases c32 : t561 = x9_19
        ·rw [if_pos c32] at H
         have c32b0 : (t561 == x9_19) = true := beq_iff_eq.mpr c32
         have c32b1 : (t561 != x9_19) = false := bne_eq_false_iff_eq.mpr c32
         clear c32
         by_cases c33 : x9_19 = 0
         ·rw [if_pos c33] at H
          have c33b0 : (x9_19 == 0) = true := beq_iff_eq.mpr c33
          have c33b1 : (x9_19 != 0) = false := bne_eq_false_iff_eq.mpr c33
          clear c33
          have H' := Aside0.mk H
          clear H
          go_wp2
          go_loopg [10] kj19 (fun kq v10 w' => ∃ (x10_4 : Int), v10 = .int .i64 x10_4 ∧ Aside0 (steeplelaw03_PackFills.l0 kq a0 a1 x10_4 a2_0 a2_1 t556 t557 t558 = some r) ∧ Aside0 (kq ≤ kj19) ∧ Aside0 (Kd.R (Kd.int .u64) 23 w' w.heap.size (fun _ => True) (.slice Ao17 t558.length co17) t558) ∧ Aside0 (w'.heap[gb554]? = some (.cells #[.int .u64 a2_0, .int .u64 a2_1] 25 (0, 0))) ∧ Aside0 (w'.heap[gb562]? = some (.cells #[.int .i64 t556, .int .i64 t557, (.slice Ao17 t558.length co17)] 31 (0, 0))) ∧ Aside0 (Below w.heap.size w w'))
          case atStart => exact ⟨(0), (by first | rfl | (simp; done) | (simp [*]; done)), H', ⟨Nat.le_refl _⟩, ⟨kr HO_563002.out⟩, ⟨bk BK554.out⟩, ⟨bk BK562.out⟩, ⟨bq HB.out⟩⟩
          case round =>
           clear H'
           try clear c1
           try clear c2
           try clear p2
           try clear c3
           try clear c5
           try clear c6
           try clear c6b0
           try clear c7
           try clear c8
           try clear c15
           try clear c18
           try clear c18b0
           try clear c19
           try clear c19b0
           try clear c21
           try clear c22
           try clear c22b0
           try clear c23
           try clear c23b0
           try clear c24
           try clear c25
           try clear c26
           try clear c29
           try clear c32
           try clear c32b0
           try clear c32b1
           try clear c33
           try clear c33b0
           try clear c33b1
           try clear hcz12_0
           try clear hcz12_1
           try clear hcz16_0
           try clear hcz16_1
           try clear hcz16_2
           try clear hcz27_0
           try clear hcz27_1
           try clear hcz30_0
           try clear hcz30_1
           try clear hfz12_0
           try clear hfz12_1
           try clear hfz16_0
           try clear hfz16_1
           try clear hfz16_2
           try clear hfz27_0
           try clear hfz27_1
           try clear hfz30_0
           try clear hfz30_1
           try clear p2
           obtain ⟨x10_4, rfl, HA, HK4, HO_563002, BK554, BK562, HB⟩ := hrel
           cases gk with
           | zero => exact absurd HA.out (by simp [steeplelaw03_PackFills.l0])
           | succ k4 =>
            have H := HA.out
            clear HA
            simp only [steeplelaw03_PackFills.l0] at H
            by_cases c34 : x10_4 < a1
            ·rw [if_pos c34] at H
             have c34b0 : decide (x10_4 < a1) = true := decide_eq_true c34
             clear c34
             replace H := Option.bind_eq_some_iff.mp H
             obtain ⟨⟨t566, t567, t568⟩, A350, H⟩ := H
             replace H : (if t568 = true then (if (!(t566 == a2_0) || (!(t567 == a2_1))) = true then (none) else (steeplelaw03_PackFills.l0 k4 a0 a1 (wrap64 (x10_4 + 1)) a2_0 a2_1 t556 t557 t558)) else (none)) = some r := H
             have A35 := Aside0.mk A350
             clear A350
             by_cases c36 : t568 = true
             ·subst c36
              have H1 : (if (!(t566 == a2_0) || (!(t567 == a2_1))) = true then (none) else (steeplelaw03_PackFills.l0 k4 a0 a1 (wrap64 (x10_4 + 1)) a2_0 a2_1 t556 t557 t558)) = some r := by rw [if_pos rfl] at H; exact H
              clear H
              have H := H1
              clear H1
              by_cases c37 : (!(t566 == a2_0) || (!(t567 == a2_1))) = true
              ·rw [if_pos c37] at H
               exact absurd H (by simp)
              ·rw [if_neg c37] at H
               have c37b0 : (!(t566 == a2_0) || (!(t567 == a2_1))) = false := by simpa using c37
               clear c37
               have H' := Aside0.mk H
               clear H
               have hnb38 := NB562_554.out
               have hnc38 := NB554_562.out
               obtain ⟨hcz39_0, hcz39_1, hcz39_2⟩ := zc3 BK562
               obtain ⟨hfz39_0, hfz39_1, hfz39_2⟩ := zf3 BK562
               go_wp2_with (first | ((with_reducible refine gate_callee (f := 13) rfl ?_); refine goesL_ (some 73) rfl rfl Try.func13 (by kernel_rfl) rfl #[.agg #[.int .i64 t556, .int .i64 t557, .slice Ao17 t558.length co17], .int .i64 x10_4] rfl (by (try simp only [List.map_toArray, List.map_cons, List.map_nil]); first | done | rfl | (simp only [List.length_drop, List.length_take]; rfl)) ?_; (with_reducible refine (pack_Vec_Get.calls k4 t556 t557 _ _ t558 x10_4 t566 t567 true _ ?side1 ?side2 A35.out).mono ?_); (case side1 => repeat (first | exact (Kd.R_reads' HO_563002.out).2.2 | (with_reducible refine Kd.C_alloc ?_ _) | (with_reducible refine Kd.C_drewN ?_ _) | (with_reducible refine Kd.C_drew ?_))); (case side2 => exact (Kd.R_reads' HO_563002.out).2.1); rintro e w40 ⟨rfl, hb⟩; refine ⟨_, rfl, ?_⟩; replace HO_563002 := kb HO_563002 hb; replace BK554 := bb BK554 hb; replace BK562 := bb BK562 hb; replace HB := bh HB hb; (try clear hb); (try clear hb2); (try clear hk); (try clear hi)) | ((with_reducible refine gate_dst (N := 11) rfl ?_); refine box_event ?hg (N := 11) ?hd (cs := #[.int .u64 0, .int .u64 0]) (t := 25) ?hr ?_; (case hd => rfl); (case hg => rfl); (case hr => first | (go_simp; done) | (go_simp; rfl)); intro gb569 hg w41 hbox hb; have BK569 := Aside0.mk hbox; have GW569 := ge hg HB; have GE569 := ge hg HB; have NB554_569 := nl hg BK554; have NB569_554 := ng hg BK554; have NB562_569 := nl hg BK562; have NB569_562 := ng hg BK562; replace HO_563002 := kb HO_563002 hb; replace BK554 := bb BK554 hb; replace BK562 := bb BK562 hb; replace HB := bh HB hb; clear hb hbox hg; have hnb42 := NB569_554.out; have hnc42 := NB554_569.out; have hnb43 := NB569_562.out; have hnc43 := NB562_569.out; obtain ⟨hcz44_0, hcz44_1⟩ := zc2 BK569; obtain ⟨hfz44_0, hfz44_1⟩ := zf2 BK569; obtain ⟨hcz45_0, hcz45_1⟩ := zc2 BK554; obtain ⟨hfz45_0, hfz45_1⟩ := zf2 BK554))
               go_roundg k4
               case measure => have := HJ3.out; have := HJ10.out; have := HJ19.out; have := HK4.out; omega
               case rel => exact ⟨(wrap64 (x10_4 + 1)), (by first | rfl | (simp; done) | (simp [*]; done)), H', ⟨by have := HJ3.out; have := HJ10.out; have := HJ19.out; have := HK4.out; omega⟩, ⟨by (with_reducible repeat refine kl ?_); exact Kd.R_mono (Kd.R_far (p := ⟨gb569, 1, none⟩) (Kd.R_far (p := ⟨gb569, 0, none⟩) (Kd.R_types HO_563002.out BK569.out (by decide)) (fun _ hk => hk.2) (.int .u64 t566)) (fun _ hk => hk.2) (.int .u64 t567)) (fun _ hk => trivial)⟩, ⟨by (with_reducible repeat refine bl ?_); refine blk_far ?_ NB554_569.out _; (with_reducible repeat refine bl ?_); refine blk_far ?_ NB554_569.out _; (with_reducible repeat refine bl ?_); exact BK554.out⟩, ⟨by (with_reducible repeat refine bl ?_); refine blk_far ?_ NB562_569.out _; (with_reducible repeat refine bl ?_); refine blk_far ?_ NB562_569.out _; (with_reducible repeat refine bl ?_); exact BK562.out⟩, ⟨bq HB.out⟩⟩
             ·replace c36 := Bool.eq_false_iff.mpr c36
              subst c36
              have H1 : (none) = some r := by rw [if_neg (show ¬ (false = true) by decide)] at H; exact H
              clear H
              have H := H1
              clear H1
              exact absurd H (by simp)
            ·rw [if_neg c34] at H
             have c34b0 : decide (x10_4 < a1) = false := decide_eq_false c34
             clear c34
             replace H := Option.bind_eq_some_iff.mp H
             obtain ⟨t570, A460, H⟩ := H
             replace H : (if t570 = true then ((pack_Vec_Len.f t556 t557 t558).bind fun t571 => (if t571 = a1 then ((pack_Vec_Level.f t556 t557 t558).bind fun t572 => (some (t572 == a0))) else (none))) else (none)) = some r := H
             have A46 := Aside0.mk A460
             clear A460
             by_cases c47 : t570 = true
             ·subst c47
              have H1 : ((pack_Vec_Len.f t556 t557 t558).bind fun t571 => (if t571 = a1 then ((pack_Vec_Level.f t556 t557 t558).bind fun t572 => (some (t572 == a0))) else (none))) = some r := by rw [if_pos rfl] at H; exact H
              clear H
              have H := H1
              clear H1
              replace H := Option.bind_eq_some_iff.mp H
              obtain ⟨t571, A480, H⟩ := H
              replace H : (if t571 = a1 then ((pack_Vec_Level.f t556 t557 t558).bind fun t572 => (some (t572 == a0))) else (none)) = some r := H
              have A48 := Aside0.mk A480
              clear A480
              by_cases c49 : t571 = a1
              ·rw [if_pos c49] at H
               have c49b0 : (t571 == a1) = true := beq_iff_eq.mpr c49
               have c49b1 : (t571 != a1) = false := bne_eq_false_iff_eq.mpr c49
               clear c49
               replace H := Option.bind_eq_some_iff.mp H
               obtain ⟨t572, A500, H⟩ := H
               replace H : (some (t572 == a0)) = some r := H
               have A50 := Aside0.mk A500
               clear A500
               obtain rfl := Option.some.inj H
               go_wp2_with (first | ((with_reducible refine gate_callee (f := 8) rfl ?_); refine goesL_ (some 83) rfl rfl Try.func8 (by kernel_rfl) rfl #[] rfl (by (try simp only [List.map_toArray, List.map_cons, List.map_nil]); first | done | rfl | (simp only [List.length_drop, List.length_take]; rfl)) ?_; (with_reducible refine (steeplelaw03_awake.calls k4  true _ A46.out).mono ?_); rintro e w51 ⟨rfl, hb⟩; refine ⟨_, rfl, ?_⟩; replace HO_563002 := kb HO_563002 hb; replace BK554 := bb BK554 hb; replace BK562 := bb BK562 hb; replace HB := bh HB hb; (try clear hb); (try clear hb2); (try clear hk); (try clear hi); have hnb52 := NB562_554.out; have hnc52 := NB554_562.out; obtain ⟨hcz53_0, hcz53_1, hcz53_2⟩ := zc3 BK562; obtain ⟨hfz53_0, hfz53_1, hfz53_2⟩ := zf3 BK562) | (go_at_call 26; (with_reducible refine (pack_Vec_Len.calls t556 t557 _ _ t558 t571 _ ?side1 ?side2 A48.out).mono ?_); (case side1 => repeat (first | exact (Kd.R_reads' HO_563002.out).2.2 | (with_reducible refine Kd.C_alloc ?_ _) | (with_reducible refine Kd.C_drewN ?_ _) | (with_reducible refine Kd.C_drew ?_))); (case side2 => exact (Kd.R_reads' HO_563002.out).2.1); rintro e w54 ⟨rfl, hb⟩; replace HO_563002 := kb HO_563002 hb; replace BK554 := bb BK554 hb; replace BK562 := bb BK562 hb; replace HB := bh HB hb; (try clear hb); (try clear hb2); (try clear hk); (try clear hi); obtain ⟨hcz55_0, hcz55_1, hcz55_2⟩ := zc3 BK562; obtain ⟨hfz55_0, hfz55_1, hfz55_2⟩ := zf3 BK562) | (go_at_call 27; (with_reducible refine (pack_Vec_Level.calls t556 t557 _ _ t558 t572 _ ?side1 ?side2 A50.out).mono ?_); (case side1 => repeat (first | exact (Kd.R_reads' HO_563002.out).2.2 | (with_reducible refine Kd.C_alloc ?_ _) | (with_reducible refine Kd.C_drewN ?_ _) | (with_reducible refine Kd.C_drew ?_))); (case side2 => exact (Kd.R_reads' HO_563002.out).2.1); rintro e w56 ⟨rfl, hb⟩; replace HO_563002 := kb HO_563002 hb; replace BK554 := bb BK554 hb; replace BK562 := bb BK562 hb; replace HB := bh HB hb; (try clear hb); (try clear hb2); (try clear hk); (try clear hi)))
               go_ret
               exact ⟨by first | rfl | (simp [errW_none, errW_some] <;> rfl) | (simp [*, errW_none, errW_some] <;> rfl), bq HB.out⟩
              ·rw [if_neg c49] at H
               exact absurd H (by simp)
             ·replace c47 := Bool.eq_false_iff.mpr c47
              subst c47
              have H1 : (none) = some r := by rw [if_neg (show ¬ (false = true) by decide)] at H; exact H
              clear H
              have H := H1
              clear H1
              exact absurd H (by simp)
         ·rw [if_neg c33] at H
          have c33b0 : (x9_19 == 0) = false := beq_eq_false_iff_ne.mpr c33
          have c33b1 : (x9_19 != 0) = true := bne_iff_ne.mpr c33
          replace H := Option.bind_eq_some_iff.mp H
          obtain ⟨t564, A570, H⟩ := H
          replace H : (if t564 = true then ((pack_Vec_Len.f t556 t557 t558).bind fun t565 => (some (t565 == 0))) else (none)) = some r := H
          have A57 := Aside0.mk A570
          clear A570
          by_cases c58 : t564 = true
          ·subst c58
           have H1 : ((pack_Vec_Len.f t556 t557 t558).bind fun t565 => (some (t565 == 0))) = some r := by rw [if_pos rfl] at H; exact H
           clear H
           have H := H1
           clear H1
           replace H := Option.bind_eq_some_iff.mp H
           obtain ⟨t565, A590, H⟩ := H
           replace H : (some (t565 == 0)) = some r := H
           have A59 := Aside0.mk A590
           clear A590
           obtain rfl := Option.some.inj H
           go_wp2_with (first | ((with_reducible refine gate_callee (f := 8) rfl ?_); refine goesL_ (some 54) rfl rfl Try.func8 (by kernel_rfl) rfl #[] rfl (by (try simp only [List.map_toArray, List.map_cons, List.map_nil]); first | done | rfl | (simp only [List.length_drop, List.length_take]; rfl)) ?_; (with_reducible refine (steeplelaw03_awake.calls kj19  true _ A57.out).mono ?_); rintro e w60 ⟨rfl, hb⟩; refine ⟨_, rfl, ?_⟩; replace HO_563002 := kb HO_563002 hb; replace BK554 := bb BK554 hb; replace BK562 := bb BK562 hb; replace HB := bh HB hb; (try clear hb); (try clear hb2); (try clear hk); (try clear hi); have hnb61 := NB562_554.out; have hnc61 := NB554_562.out; obtain ⟨hcz62_0, hcz62_1, hcz62_2⟩ := zc3 BK562; obtain ⟨hfz62_0, hfz62_1, hfz62_2⟩ := zf3 BK562) | (go_at_call 26; (with_reducible refine (pack_Vec_Len.calls t556 t557 _ _ t558 t565 _ ?side1 ?side2 A59.out).mono ?_); (case side1 => repeat (first | exact (Kd.R_reads' HO_563002.out).2.2 | (with_reducible refine Kd.C_alloc ?_ _) | (with_reducible refine Kd.C_drewN ?_ _) | (with_reducible refine Kd.C_drew ?_))); (case side2 => exact (Kd.R_reads' HO_563002.out).2.1); rintro e w63 ⟨rfl, hb⟩; replace HO_563002 := kb HO_563002 hb; replace BK554 := bb BK554 hb; replace BK562 := bb BK562 hb; replace HB := bh HB hb; (try clear hb); (try clear hb2); (try clear hk); (try clear hi)))
           go_ret
           exact ⟨by first | rfl | (simp [errW_none, errW_some] <;> rfl) | (simp [*, errW_none, errW_some] <;> rfl), bq HB.out⟩
          ·replace c58 := Bool.eq_false_iff.mpr c58
           subst c58
           have H1 : (none) = some r := by rw [if_neg (show ¬ (false = true) by decide)] at H; exact H
           clear H
           have H := H1
           clear H1
           exact absurd H (by simp)
        ·rw [if_neg c32] at H
         exact absurd H (by simp)

/-- THE ONE PURE STATEMENT of steeplelaw03_PackFills. -/
def steeplelaw03_PackFills.Pure : Prop := ∀ (x0 : Int) (x1 : Int) (x2 : S25), (Lit.int .i64 x0).wf = true → (Lit.int .i64 x1).wf = true → ((Lit.int .u64 x2.f0).wf = true ∧ (Lit.int .u64 x2.f1).wf = true) → ∃ k, steeplelaw03_PackFills.f k x0 x1 x2.f0 x2.f1 = some true

end Go.Proofs.Ytceneggampgboaa.P
