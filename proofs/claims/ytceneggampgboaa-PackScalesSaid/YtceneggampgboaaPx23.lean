/- Written by a program of this session: functions that the law reaches, as Lean functions, and that the code comes to their answers. Conditions: those that each theorem names. -/
import Derived.Test.YtceneggampgboaaPx0
import Derived.Test.YtceneggampgboaaPx3
import Derived.Test.YtceneggampgboaaPx5
import Derived.Test.YtceneggampgboaaPx6
import Derived.Test.YtceneggampgboaaPx8
import Derived.Test.YtceneggampgboaaPx12
import Derived.Test.YtceneggampgboaaPx13
import Derived.Test.YtceneggampgboaaPx19
import Derived.Test.YtceneggampgboaaPx20
namespace Go.Proofs.Ytceneggampgboaa.P
open Go.RowKit Go.Proofs.YtceneggampgboaaX Go.Proofs.YtceneggampgboaaW.PrintWords Go.Proofs.YtceneggampgboaaW.PrintLast Go.Proofs.YtceneggampgboaaW.PrintMore
attribute [local go_sem] max2_int min2_int max_two min_two max_three min_three max_four min_four   -- for this text's walks alone
set_option linter.unusedVariables false
set_option linter.unusedSimpArgs false

/-! ### pack_Scale: function 32 -/
def pack_Scale.f (k : Nat) (a0_0 : Int) (a0_1 : Int) (l0_2 : List Int) (a1_0 : Int) (a1_1 : Int) : Option (Int × Int × List Int × Int) := (octet_Of.f k a0_0 a1_0 a1_1).bind fun t702 => (if t702 = true then ((pack_Fill.f k a0_0 a0_1 a1_0 a1_1).bind fun bt703 => ((pack_Mul.f k a0_0 a0_1 l0_2 bt703.1 bt703.2.1 bt703.2.2.1).bind fun bt710 => (some (bt710.1, bt710.2.1, bt710.2.2.1, bt710.2.2.2)))) else (some (0, 0, ([] : List Int), 5)))
theorem pack_Scale.mono : ∀ a0 a1 a2 a3 a4 k, LeO (pack_Scale.f k a0 a1 a2 a3 a4) (pack_Scale.f (k + 1) a0 a1 a2 a3 a4) := by
 intro a0 a1 a2 a3 a4 k
 unfold pack_Scale.f
 repeat' first
   | (with_reducible exact octet_Of.mono _ _ _ _)
   | (with_reducible exact pack_Fill.mono _ _ _ _ _)
   | (with_reducible exact pack_Mul.mono _ _ _ _ _ _ _)
   | (with_reducible exact LeO.refl _)
   | (with_reducible exact LeO.none _)
   | (with_reducible refine LeO.ite ?_ ?_)
   | (with_reducible refine LeO.bind ?_ (fun _ => ?_))
   | exact octet_Of.mono _ _ _ _
   | exact pack_Fill.mono _ _ _ _ _
   | exact pack_Mul.mono _ _ _ _ _ _ _
   | exact LeO.none _
   | refine LeO.ite ?_ ?_
   | refine LeO.bind ?_ (fun _ => ?_)
set_option maxHeartbeats 8000000 in
set_option maxRecDepth 100000 in
theorem pack_Scale.calls (k : Nat) (a0_0 : Int) (a0_1 : Int) (A0_2 : Option Addr) (c0_2 : Nat) (l0_2 : List Int) (a1_0 : Int) (a1_1 : Int) (r1 : Int) (r2 : Int) (r3 : List Int) (r4 : Int) (w : World) (hr0_2 : Kd.C (Kd.int .u64) w A0_2 l0_2.length l0_2) (hc0_2 : l0_2.length ≤ c0_2) (h : pack_Scale.f k a0_0 a0_1 l0_2 a1_0 a1_1 = some (r1, r2, r3, r4)) :
  Calls Try.prog 32 #[.agg #[.int .i64 a0_0, .int .i64 a0_1, .slice A0_2 l0_2.length c0_2], .agg #[.int .u64 a1_0, .int .u64 a1_1]] w fun e w' => ∃ v2_ : Value, e = .returned (.tuple #[.agg #[.int .i64 r1, .int .i64 r2, v2_], .int .i64 r4]) ∧ Kd.R (Kd.int .u64) 23 w' w.heap.size (fun _ => True) v2_ r3 ∧ Below w.heap.size w w' := by
 have hu31 := Try.underlying31
 have hu25 := Try.underlying25
 have HR0_2 := Aside0.mk hr0_2
 have HC0_2 := Aside0.mk hc0_2
 clear hr0_2 hc0_2
 have HB := Aside0.mk (Below.refl w.heap.size w)
 have H : ((octet_Of.f k a0_0 a1_0 a1_1).bind fun t702 => (if t702 = true then ((pack_Fill.f k a0_0 a0_1 a1_0 a1_1).bind fun bt703 => ((pack_Mul.f k a0_0 a0_1 l0_2 bt703.1 bt703.2.1 bt703.2.2.1).bind fun bt710 => (some (bt710.1, bt710.2.1, bt710.2.2.1, bt710.2.2.2)))) else (some (0, 0, ([] : List Int), 5)))) = some (r1, r2, r3, r4) := h
 clear h
 replace H := Option.bind_eq_some_iff.mp H
 obtain ⟨t702, A30, H⟩ := H
 replace H : (if t702 = true then ((pack_Fill.f k a0_0 a0_1 a1_0 a1_1).bind fun bt703 => ((pack_Mul.f k a0_0 a0_1 l0_2 bt703.1 bt703.2.1 bt703.2.2.1).bind fun bt710 => (some (bt710.1, bt710.2.1, bt710.2.2.1, bt710.2.2.2)))) else (some (0, 0, ([] : List Int), 5))) = some (r1, r2, r3, r4) := H
 have A3 := Aside0.mk A30
 clear A30
 by_cases c4 : t702 = true
 ·subst c4
  have H1 : ((pack_Fill.f k a0_0 a0_1 a1_0 a1_1).bind fun bt703 => ((pack_Mul.f k a0_0 a0_1 l0_2 bt703.1 bt703.2.1 bt703.2.2.1).bind fun bt710 => (some (bt710.1, bt710.2.1, bt710.2.2.1, bt710.2.2.2)))) = some (r1, r2, r3, r4) := by rw [if_pos rfl] at H; exact H
  clear H
  have H := H1
  clear H1
  replace H := Option.bind_eq_some_iff.mp H
  obtain ⟨⟨t703, t704, t705, t708⟩, A50, H⟩ := H
  replace H : ((pack_Mul.f k a0_0 a0_1 l0_2 t703 t704 t705).bind fun bt710 => (some (bt710.1, bt710.2.1, bt710.2.2.1, bt710.2.2.2))) = some (r1, r2, r3, r4) := H
  have A5 := Aside0.mk A50
  clear A50
  replace H := Option.bind_eq_some_iff.mp H
  obtain ⟨⟨t710, t711, t712, t715⟩, A60, H⟩ := H
  replace H : (some (t710, t711, t712, t715)) = some (r1, r2, r3, r4) := H
  have A6 := Aside0.mk A60
  clear A60
  simp only [Option.some.injEq, Prod.mk.injEq] at H
  obtain ⟨rfl, rfl, rfl, rfl⟩ := H
  go_enter Try.func32, Try.ntmps32
  go_wp2_with (first | ((with_reducible refine gate_dst (N := 2) rfl ?_); refine box_event ?hg (N := 2) ?hd (cs := #[.int .i64 a0_0, .int .i64 a0_1, .slice A0_2 l0_2.length c0_2]) (t := 31) ?hr ?_; (case hd => rfl); (case hg => rfl); (case hr => first | (go_simp; done) | (go_simp; rfl)); intro gb699 hg w7 hbox hb; have BK699 := Aside0.mk hbox; have GW699 := ge hg HB; have GE699 := ge hg HB; replace HB := bh HB hb; clear hb hbox hg) | ((with_reducible refine gate_dst (N := 3) rfl ?_); refine box_event ?hg (N := 3) ?hd (cs := #[.int .u64 a1_0, .int .u64 a1_1]) (t := 25) ?hr ?_; (case hd => rfl); (case hg => rfl); (case hr => first | (go_simp; done) | (go_simp; rfl)); intro gb700 hg w8 hbox hb; have BK700 := Aside0.mk hbox; have GW700 := ge hg HB; have GE700 := ge hg HB; have NB699_700 := nl hg BK699; have NB700_699 := ng hg BK699; replace BK699 := bb BK699 hb; replace HB := bh HB hb; clear hb hbox hg) | ((with_reducible refine gate_dst (N := 4) rfl ?_); refine box_event ?hg (N := 4) ?hd (cs := #[.int .i64 0, .int .i64 0, .slice none 0 0]) (t := 31) ?hr ?_; (case hd => rfl); (case hg => rfl); (case hr => first | (go_simp; done) | (go_simp; rfl)); intro gb701 hg w9 hbox hb; have BK701 := Aside0.mk hbox; have GW701 := ge hg HB; have GE701 := ge hg HB; have NB699_701 := nl hg BK699; have NB701_699 := ng hg BK699; have NB700_701 := nl hg BK700; have NB701_700 := ng hg BK700; replace BK699 := bb BK699 hb; replace BK700 := bb BK700 hb; replace HB := bh HB hb; clear hb hbox hg; have hnb10 := NB699_700.out; have hnc10 := NB700_699.out; have hnb11 := NB699_701.out; have hnc11 := NB701_699.out; obtain ⟨hcz12_0, hcz12_1, hcz12_2⟩ := zc3 BK699; obtain ⟨hfz12_0, hfz12_1, hfz12_2⟩ := zf3 BK699; have hnb13 := NB700_701.out; have hnc13 := NB701_700.out; obtain ⟨hcz14_0, hcz14_1⟩ := zc2 BK700; obtain ⟨hfz14_0, hfz14_1⟩ := zf2 BK700) | ((with_reducible refine gate_callee (f := 38) rfl ?_); refine goesL_ (some 11) rfl rfl Try.func38 (by kernel_rfl) rfl #[.int .i64 a0_0, .agg #[.int .u64 a1_0, .int .u64 a1_1]] rfl (by (try simp only [List.map_toArray, List.map_cons, List.map_nil]); first | done | rfl | (simp only [List.length_drop, List.length_take]; rfl)) ?_; (with_reducible refine (octet_Of.calls k a0_0 a1_0 a1_1 true _ A3.out).mono ?_); rintro e w15 ⟨rfl, hb⟩; refine ⟨_, rfl, ?_⟩; replace BK699 := bb BK699 hb; replace BK700 := bb BK700 hb; replace BK701 := bb BK701 hb; replace HB := bh HB hb; (try clear hb); (try clear hb2); (try clear hk); (try clear hi); obtain ⟨hcz16_0, hcz16_1, hcz16_2⟩ := zc3 BK699; obtain ⟨hfz16_0, hfz16_1, hfz16_2⟩ := zf3 BK699; obtain ⟨hcz17_0, hcz17_1⟩ := zc2 BK700; obtain ⟨hfz17_0, hfz17_1⟩ := zf2 BK700) | ((with_reducible refine gate_callee (f := 24) rfl ?_); refine goesL_ (some 20) rfl rfl Try.func24 (by kernel_rfl) rfl #[.int .i64 a0_0, .int .i64 a0_1, .agg #[.int .u64 a1_0, .int .u64 a1_1]] rfl (by (try simp only [List.map_toArray, List.map_cons, List.map_nil]); first | done | rfl | (simp only [List.length_drop, List.length_take]; rfl)) ?_; (with_reducible refine (pack_Fill.calls k a0_0 a0_1 a1_0 a1_1 t703 t704 t705 t708 _ A5.out).mono ?_); rintro e w18 ⟨v706, rfl, ho0, hb⟩; refine ⟨_, rfl, ?_⟩; have HO707 := kw ho0 HB; replace BK699 := bb BK699 hb; replace BK700 := bb BK700 hb; replace BK701 := bb BK701 hb; replace HB := bh HB hb; (try clear hb); (try clear hb2); (try clear hk); (try clear hi); (try clear ho0)) | ((with_reducible refine gate_dst (N := 6) rfl ?_); refine box_event ?hg (N := 6) ?hd (cs := #[.int .i64 0, .int .i64 0, .slice none 0 0]) (t := 31) ?hr ?_; (case hd => rfl); (case hg => rfl); (case hr => first | (go_simp; done) | (go_simp; rfl)); intro gb709 hg w19 hbox hb; have BK709 := Aside0.mk hbox; have GW709 := ge hg HB; have GE709 := ge hg HB; have NB699_709 := nl hg BK699; have NB709_699 := ng hg BK699; have NB700_709 := nl hg BK700; have NB709_700 := ng hg BK700; have NB701_709 := nl hg BK701; have NB709_701 := ng hg BK701; replace HO707 := kb HO707 hb; replace BK699 := bb BK699 hb; replace BK700 := bb BK700 hb; replace BK701 := bb BK701 hb; replace HB := bh HB hb; clear hb hbox hg; have hnb20 := NB709_699.out; have hnc20 := NB699_709.out; have hnb21 := NB709_700.out; have hnc21 := NB700_709.out; have hnb22 := NB709_701.out; have hnc22 := NB701_709.out; obtain ⟨hcz23_0, hcz23_1, hcz23_2⟩ := zc3 BK709; obtain ⟨hfz23_0, hfz23_1, hfz23_2⟩ := zf3 BK709; obtain ⟨Ao24, co24, eo24⟩ := Kd.R_slice HO707.out; subst eo24; obtain ⟨hcz25_0, hcz25_1, hcz25_2⟩ := zc3 BK699; obtain ⟨hfz25_0, hfz25_1, hfz25_2⟩ := zf3 BK699) | ((with_reducible refine gate_callee (f := 28) rfl ?_); refine goesL_ (some 25) rfl rfl Try.func28 (by kernel_rfl) rfl #[.agg #[.int .i64 a0_0, .int .i64 a0_1, .slice A0_2 l0_2.length c0_2], .agg #[.int .i64 t703, .int .i64 t704, .slice Ao24 t705.length co24]] rfl (by (try simp only [List.map_toArray, List.map_cons, List.map_nil]); first | done | rfl | (simp only [List.length_drop, List.length_take]; rfl)) ?_; (with_reducible refine (pack_Mul.calls k a0_0 a0_1 _ _ l0_2 t703 t704 _ _ t705 t710 t711 t712 t715 _ ?side1 ?side2 ?side3 ?side4 A6.out).mono ?_); (case side1 => exact Kd.C_below HR0_2.out (bq HB.out)); (case side2 => exact HC0_2.out); (case side3 => refine (Kd.R_reads' (e := 23) (base := w.heap.size) (ok := fun k_ => True) (n := t705.length) (c := co24) ?_).2.2; exact (by (with_reducible repeat refine kl ?_); exact (Kd.R_mono (Kd.R_far (p := ⟨gb709, 2, none⟩) (Kd.R_far (p := ⟨gb709, 1, none⟩) (Kd.R_far (p := ⟨gb709, 0, none⟩) (Kd.R_types HO707.out BK709.out (by decide)) (fun _ hk => hk.2) (.int .i64 t703)) (fun _ hk => hk.2) (.int .i64 t704)) (fun _ hk => hk.2) (.slice Ao24 t705.length co24)) (fun _ h_ => h_.1)))); (case side4 => exact (Kd.R_reads' HO707.out).2.1); rintro e w26 ⟨v713, rfl, ho0, hb⟩; refine ⟨_, rfl, ?_⟩; have HO714 := Aside0.mk (Kd.R_lower (Kd.R_new' ho0 (Kd.R_lt (by (with_reducible repeat refine kl ?_); exact (Kd.R_mono (Kd.R_far (p := ⟨gb709, 2, none⟩) (Kd.R_far (p := ⟨gb709, 1, none⟩) (Kd.R_far (p := ⟨gb709, 0, none⟩) (Kd.R_types HO707.out BK709.out (by decide)) (fun _ hk => hk.2) (.int .i64 t703)) (fun _ hk => hk.2) (.int .i64 t704)) (fun _ hk => hk.2) (.slice Ao24 t705.length co24)) (fun _ h_ => h_.1))))) (below_size (bq HB.out))); replace HO707 := Aside0.mk (Kd.R_elder' (by (with_reducible repeat refine kl ?_); exact (Kd.R_mono (Kd.R_far (p := ⟨gb709, 2, none⟩) (Kd.R_far (p := ⟨gb709, 1, none⟩) (Kd.R_far (p := ⟨gb709, 0, none⟩) (Kd.R_types HO707.out BK709.out (by decide)) (fun _ hk => hk.2) (.int .i64 t703)) (fun _ hk => hk.2) (.int .i64 t704)) (fun _ hk => hk.2) (.slice Ao24 t705.length co24)) (fun _ h_ => h_.1))) (Kd.R_base ho0) hb); replace BK699 := Aside0.mk (blk_below (g := gb699) (o := .cells #[.int .i64 a0_0, .int .i64 a0_1, .slice A0_2 l0_2.length c0_2] 31 (0, 0)) (by (with_reducible repeat refine bl ?_); refine blk_far ?_ NB699_709.out _; (with_reducible repeat refine bl ?_); refine blk_far ?_ NB699_709.out _; (with_reducible repeat refine bl ?_); refine blk_far ?_ NB699_709.out _; (with_reducible repeat refine bl ?_); exact BK699.out) hb); replace BK700 := Aside0.mk (blk_below (g := gb700) (o := .cells #[.int .u64 a1_0, .int .u64 a1_1] 25 (0, 0)) (by (with_reducible repeat refine bl ?_); refine blk_far ?_ NB700_709.out _; (with_reducible repeat refine bl ?_); refine blk_far ?_ NB700_709.out _; (with_reducible repeat refine bl ?_); refine blk_far ?_ NB700_709.out _; (with_reducible repeat refine bl ?_); exact BK700.out) hb); replace BK701 := Aside0.mk (blk_below (g := gb701) (o := .cells #[.int .i64 0, .int .i64 0, .slice none 0 0] 31 (0, 0)) (by (with_reducible repeat refine bl ?_); refine blk_far ?_ NB701_709.out _; (with_reducible repeat refine bl ?_); refine blk_far ?_ NB701_709.out _; (with_reducible repeat refine bl ?_); refine blk_far ?_ NB701_709.out _; (with_reducible repeat refine bl ?_); exact BK701.out) hb); replace BK709 := Aside0.mk (blk_below (g := gb709) (o := .cells #[.int .i64 t703, .int .i64 t704, .slice Ao24 t705.length co24] 31 (0, 0)) (by (with_reducible repeat refine bl ?_); refine blk_put (cs := #[.int .i64 t703, .int .i64 t704, .slice none 0 0]) ?_ 2 _ rfl; (with_reducible repeat refine bl ?_); refine blk_put (cs := #[.int .i64 t703, .int .i64 0, .slice none 0 0]) ?_ 1 _ rfl; (with_reducible repeat refine bl ?_); refine blk_put (cs := #[.int .i64 0, .int .i64 0, .slice none 0 0]) ?_ 0 _ rfl; (with_reducible repeat refine bl ?_); exact BK709.out) hb); replace HB := bh HB hb; (try clear hb); (try clear hb2); (try clear hk); (try clear hi); (try clear ho0); obtain ⟨hcz27_0, hcz27_1, hcz27_2⟩ := zc3 BK701; obtain ⟨hfz27_0, hfz27_1, hfz27_2⟩ := zf3 BK701; obtain ⟨Ao28, co28, eo28⟩ := Kd.R_slice HO714.out; subst eo28))
  refine bodyPost_ret (results_ct rfl _ _ gb701 31 #[.int .i64 t710, .int .i64 t711, .slice Ao28 t712.length co28] (0, 0) _ rfl (by (with_reducible repeat refine bl ?_); refine blk_put (cs := #[.int .i64 t710, .int .i64 t711, .slice none 0 0]) ?_ 2 _ rfl; (with_reducible repeat refine bl ?_); refine blk_put (cs := #[.int .i64 t710, .int .i64 0, .slice none 0 0]) ?_ 1 _ rfl; (with_reducible repeat refine bl ?_); refine blk_put (cs := #[.int .i64 0, .int .i64 0, .slice none 0 0]) ?_ 0 _ rfl; (with_reducible repeat refine bl ?_); exact BK701.out) Try.underlying31 rfl (by kernel_rfl)) rfl ?_
  exact ⟨_, by first | rfl | (simp [errW_none, errW_some] <;> rfl) | (simp [*, errW_none, errW_some] <;> rfl), by (with_reducible repeat refine kl ?_); exact Kd.R_mono (Kd.R_far (p := ⟨gb701, 2, none⟩) (Kd.R_far (p := ⟨gb701, 1, none⟩) (Kd.R_far (p := ⟨gb701, 0, none⟩) (Kd.R_types HO714.out BK701.out (by decide)) (fun _ hk => hk.2) (.int .i64 t710)) (fun _ hk => hk.2) (.int .i64 t711)) (fun _ hk => hk.2) (.slice Ao28 t712.length co28)) (fun _ hk => trivial), bq HB.out⟩
 ·replace c4 := Bool.eq_false_iff.mpr c4
  subst c4
  have H1 : (some (0, 0, ([] : List Int), 5)) = some (r1, r2, r3, r4) := by rw [if_neg (show ¬ (false = true) by decide)] at H; exact H
  clear H
  have H := H1
  clear H1
  simp only [Option.some.injEq, Prod.mk.injEq] at H
  obtain ⟨rfl, rfl, rfl, rfl⟩ := H
  go_enter Try.func32, Try.ntmps32
  go_wp2_with (first | ((with_reducible refine gate_dst (N := 2) rfl ?_); refine box_event ?hg (N := 2) ?hd (cs := #[.int .i64 a0_0, .int .i64 a0_1, .slice A0_2 l0_2.length c0_2]) (t := 31) ?hr ?_; (case hd => rfl); (case hg => rfl); (case hr => first | (go_simp; done) | (go_simp; rfl)); intro gb699 hg w29 hbox hb; have BK699 := Aside0.mk hbox; have GW699 := ge hg HB; have GE699 := ge hg HB; replace HB := bh HB hb; clear hb hbox hg) | ((with_reducible refine gate_dst (N := 3) rfl ?_); refine box_event ?hg (N := 3) ?hd (cs := #[.int .u64 a1_0, .int .u64 a1_1]) (t := 25) ?hr ?_; (case hd => rfl); (case hg => rfl); (case hr => first | (go_simp; done) | (go_simp; rfl)); intro gb700 hg w30 hbox hb; have BK700 := Aside0.mk hbox; have GW700 := ge hg HB; have GE700 := ge hg HB; have NB699_700 := nl hg BK699; have NB700_699 := ng hg BK699; replace BK699 := bb BK699 hb; replace HB := bh HB hb; clear hb hbox hg) | ((with_reducible refine gate_dst (N := 4) rfl ?_); refine box_event ?hg (N := 4) ?hd (cs := #[.int .i64 0, .int .i64 0, .slice none 0 0]) (t := 31) ?hr ?_; (case hd => rfl); (case hg => rfl); (case hr => first | (go_simp; done) | (go_simp; rfl)); intro gb701 hg w31 hbox hb; have BK701 := Aside0.mk hbox; have GW701 := ge hg HB; have GE701 := ge hg HB; have NB699_701 := nl hg BK699; have NB701_699 := ng hg BK699; have NB700_701 := nl hg BK700; have NB701_700 := ng hg BK700; replace BK699 := bb BK699 hb; replace BK700 := bb BK700 hb; replace HB := bh HB hb; clear hb hbox hg; have hnb32 := NB699_700.out; have hnc32 := NB700_699.out; have hnb33 := NB699_701.out; have hnc33 := NB701_699.out; obtain ⟨hcz34_0, hcz34_1, hcz34_2⟩ := zc3 BK699; obtain ⟨hfz34_0, hfz34_1, hfz34_2⟩ := zf3 BK699; have hnb35 := NB700_701.out; have hnc35 := NB701_700.out; obtain ⟨hcz36_0, hcz36_1⟩ := zc2 BK700; obtain ⟨hfz36_0, hfz36_1⟩ := zf2 BK700) | ((with_reducible refine gate_callee (f := 38) rfl ?_); refine goesL_ (some 11) rfl rfl Try.func38 (by kernel_rfl) rfl #[.int .i64 a0_0, .agg #[.int .u64 a1_0, .int .u64 a1_1]] rfl (by (try simp only [List.map_toArray, List.map_cons, List.map_nil]); first | done | rfl | (simp only [List.length_drop, List.length_take]; rfl)) ?_; (with_reducible refine (octet_Of.calls k a0_0 a1_0 a1_1 false _ A3.out).mono ?_); rintro e w37 ⟨rfl, hb⟩; refine ⟨_, rfl, ?_⟩; replace BK699 := bb BK699 hb; replace BK700 := bb BK700 hb; replace BK701 := bb BK701 hb; replace HB := bh HB hb; (try clear hb); (try clear hb2); (try clear hk); (try clear hi); obtain ⟨hcz38_0, hcz38_1, hcz38_2⟩ := zc3 BK701; obtain ⟨hfz38_0, hfz38_1, hfz38_2⟩ := zf3 BK701))
  refine bodyPost_ret (results_ct rfl _ _ gb701 31 #[.int .i64 0, .int .i64 0, .slice none 0 0] (0, 0) _ rfl (by (with_reducible repeat refine bl ?_); refine blk_put (cs := #[.int .i64 0, .int .i64 0, .slice none 0 0]) ?_ 2 _ rfl; (with_reducible repeat refine bl ?_); refine blk_put (cs := #[.int .i64 0, .int .i64 0, .slice none 0 0]) ?_ 1 _ rfl; (with_reducible repeat refine bl ?_); refine blk_put (cs := #[.int .i64 0, .int .i64 0, .slice none 0 0]) ?_ 0 _ rfl; (with_reducible repeat refine bl ?_); exact BK701.out) Try.underlying31 rfl (by kernel_rfl)) rfl ?_
  exact ⟨_, by first | rfl | (simp [errW_none, errW_some] <;> rfl) | (simp [*, errW_none, errW_some] <;> rfl), by first | exact Kd.R_nil _ _ _ _ _ | exact Kd.N_nil _ _ _ _ _ | exact Kd.V_nil _ _ _ _ _ | exact Kd.Q_nil _ _ _ _ _ | exact Kd.S_nil _ _ _ _ _, bq HB.out⟩

/-! ### steeplelaw03_PackScales: function 7 -/
def steeplelaw03_PackScales.l0 : Nat → Int → List (S44) → Int → Int → Int → List (S25) → List (S25) → Int → Int → Int → Int → List Int → Option (Bool)
 | 0, _, _, _, _, _, _, _, _, _, _, _, _ => none
 | k + 1, x9, x10, x11, x717000, x717001, x717002, x717003, x718000, x718001, x739000, x739001, x739002 => if x11 < (x717002.length : Int) then (if 0 ≤ x11 then ((steepleref02_Product.f k ((rd_T25 x717002 x11).f0) ((rd_T25 x717002 x11).f1) x718000 x718001).bind fun bt743 => (if x10.length < 8796093022208 then (steeplelaw03_PackScales.l0 k x9 (x10 ++ [(⟨bt743.1, bt743.2⟩ : S44)]) (wrap64 (x11 + 1)) x717000 x717001 x717002 x717003 x718000 x718001 x739000 x739001 x739002) else (none))) else (none)) else ((steeplelaw03_awake.f k).bind fun t748 => (if t748 = true then (if x9 = 0 then ((steeplelaw03_same.f k x739000 x739001 x739002 x717000 x10).bind fun t749 => (some t749)) else (none)) else (none)))
def steeplelaw03_PackScales.f (k : Nat) (a0_0 : Int) (a0_1 : Int) (l0_2 : List (S25)) (l0_3 : List (S25)) (a1_0 : Int) (a1_1 : Int) : Option (Bool) := (steeplelaw03_Pair_made.f k a0_0 a0_1 l0_2 l0_3).bind fun bt718 => (if bt718.2.2.2.2.2.2 = true then ((pack_Scale.f k bt718.1 bt718.2.1 bt718.2.2.1 a1_0 a1_1).bind fun bt732 => ((steepleref01_Of.f k a0_0 a1_0 a1_1).bind fun t739 => (if t739 = true then (steeplelaw03_PackScales.l0 k bt732.2.2.2 ([] : List (S44)) 0 a0_0 a0_1 l0_2 l0_3 a1_0 a1_1 bt732.1 bt732.2.1 bt732.2.2.1) else ((steeplelaw03_awake.f k).bind fun t740 => (if t740 = true then (if bt732.2.2.2 = 5 then ((pack_Vec_Len.f bt732.1 bt732.2.1 bt732.2.2.1).bind fun t741 => (some (t741 == 0))) else (none)) else (none)))))) else ((steeplelaw03_awake.f k).bind fun t731 => (some t731)))
theorem steeplelaw03_PackScales.mono_l : ∀ k, (∀ y0 y1 y2 y3 y4 y5 y6 y7 y8 y9 y10 y11, LeO (steeplelaw03_PackScales.l0 k y0 y1 y2 y3 y4 y5 y6 y7 y8 y9 y10 y11) (steeplelaw03_PackScales.l0 (k + 1) y0 y1 y2 y3 y4 y5 y6 y7 y8 y9 y10 y11))
 | 0 => fun _ _ _ _ _ _ _ _ _ _ _ _ r h => by simp [steeplelaw03_PackScales.l0] at h
 | k + 1 => by
  have ih0 := steeplelaw03_PackScales.mono_l k
  ·intro y0 y1 y2 y3 y4 y5 y6 y7 y8 y9 y10 y11
   unfold steeplelaw03_PackScales.l0
   repeat' first
   | (with_reducible exact ih0 _ _ _ _ _ _ _ _ _ _ _ _)
   | (with_reducible exact pack_Scale.mono _ _ _ _ _ _)
   | (with_reducible exact steeplelaw03_Pair_made.mono _ _ _ _ _)
   | (with_reducible exact steeplelaw03_awake.mono _)
   | (with_reducible exact steeplelaw03_same.mono _ _ _ _ _ _)
   | (with_reducible exact steepleref01_Of.mono _ _ _ _)
   | (with_reducible exact steepleref02_Product.mono _ _ _ _ _)
   | (with_reducible exact LeO.refl _)
   | (with_reducible exact LeO.none _)
   | (with_reducible refine LeO.ite ?_ ?_)
   | (with_reducible refine LeO.bind ?_ (fun _ => ?_))
   | exact ih0 _ _ _ _ _ _ _ _ _ _ _ _
   | exact pack_Scale.mono _ _ _ _ _ _
   | exact steeplelaw03_Pair_made.mono _ _ _ _ _
   | exact steeplelaw03_awake.mono _
   | exact steeplelaw03_same.mono _ _ _ _ _ _
   | exact steepleref01_Of.mono _ _ _ _
   | exact steepleref02_Product.mono _ _ _ _ _
   | exact LeO.none _
   | refine LeO.ite ?_ ?_
   | refine LeO.bind ?_ (fun _ => ?_)
theorem steeplelaw03_PackScales.mono : ∀ a0 a1 a2 a3 a4 a5 k, LeO (steeplelaw03_PackScales.f k a0 a1 a2 a3 a4 a5) (steeplelaw03_PackScales.f (k + 1) a0 a1 a2 a3 a4 a5) := by
 intro a0 a1 a2 a3 a4 a5 k
 have ih0 := steeplelaw03_PackScales.mono_l k
 unfold steeplelaw03_PackScales.f
 repeat' first
   | (with_reducible exact ih0 _ _ _ _ _ _ _ _ _ _ _ _)
   | (with_reducible exact pack_Scale.mono _ _ _ _ _ _)
   | (with_reducible exact steeplelaw03_Pair_made.mono _ _ _ _ _)
   | (with_reducible exact steeplelaw03_awake.mono _)
   | (with_reducible exact steeplelaw03_same.mono _ _ _ _ _ _)
   | (with_reducible exact steepleref01_Of.mono _ _ _ _)
   | (with_reducible exact steepleref02_Product.mono _ _ _ _ _)
   | (with_reducible exact LeO.refl _)
   | (with_reducible exact LeO.none _)
   | (with_reducible refine LeO.ite ?_ ?_)
   | (with_reducible refine LeO.bind ?_ (fun _ => ?_))
   | exact ih0 _ _ _ _ _ _ _ _ _ _ _ _
   | exact pack_Scale.mono _ _ _ _ _ _
   | exact steeplelaw03_Pair_made.mono _ _ _ _ _
   | exact steeplelaw03_awake.mono _
   | exact steeplelaw03_same.mono _ _ _ _ _ _
   | exact steepleref01_Of.mono _ _ _ _
   | exact steepleref02_Product.mono _ _ _ _ _
   | exact LeO.none _
   | refine LeO.ite ?_ ?_
   | refine LeO.bind ?_ (fun _ => ?_)
def steeplelaw03_PackScales.T11 : Bool × List (List Nat × List Nat) := (true, [([], []), ([], []), ([1], [1]), ([], []), ([2, 3], [2, 3]), ([4], [4]), ([], []), ([5, 6], [5, 6]), ([7], [7]), ([0, 8, 7], [0, 8]), ([9, 9, 0, 1, 2, 3, 4, 5, 6, 7, 8, 9], [0, 9])])
def steeplelaw03_PackScales.B11 : List Nat := [0, 0, 2, 0, 14, 30, 0, 126, 254, 511, 1023]
theorem steeplelaw03_PackScales.tab11 : rtab .any (opsOf Try.f7 11) = steeplelaw03_PackScales.T11 := by kernel_rfl
theorem steeplelaw03_PackScales.bits11 : waitsOk steeplelaw03_PackScales.T11.2 steeplelaw03_PackScales.B11 = true := by kernel_rfl
set_option maxHeartbeats 8000000 in
set_option maxRecDepth 100000 in
theorem steeplelaw03_PackScales.calls (k : Nat) (a0_0 : Int) (a0_1 : Int) (A0_2 : Option Addr) (c0_2 : Nat) (l0_2 : List (S25)) (A0_3 : Option Addr) (c0_3 : Nat) (l0_3 : List (S25)) (a1_0 : Int) (a1_1 : Int) (r : Bool) (w : World) (hr0_2 : Kd.C k25 w A0_2 l0_2.length l0_2) (hc0_2 : l0_2.length ≤ c0_2) (hr0_3 : Kd.C k25 w A0_3 l0_3.length l0_3) (hc0_3 : l0_3.length ≤ c0_3) (h : steeplelaw03_PackScales.f k a0_0 a0_1 l0_2 l0_3 a1_0 a1_1 = some r) :
  Calls Try.prog 7 #[.agg #[.int .i64 a0_0, .int .i64 a0_1, .slice A0_2 l0_2.length c0_2, .slice A0_3 l0_3.length c0_3], .agg #[.int .u64 a1_0, .int .u64 a1_1]] w fun e w' => e = .returned (.bool r) ∧ Below w.heap.size w w' := by
 have hu49 := Try.underlying49
 have hu25 := Try.underlying25
 have hu31 := Try.underlying31
 have hu37 := Try.underlying37
 have HR0_2 := Aside0.mk hr0_2
 have HC0_2 := Aside0.mk hc0_2
 clear hr0_2 hc0_2
 have HR0_3 := Aside0.mk hr0_3
 have HC0_3 := Aside0.mk hc0_3
 clear hr0_3 hc0_3
 have HB := Aside0.mk (Below.refl w.heap.size w)
 have H : ((steeplelaw03_Pair_made.f k a0_0 a0_1 l0_2 l0_3).bind fun bt718 => (if bt718.2.2.2.2.2.2 = true then ((pack_Scale.f k bt718.1 bt718.2.1 bt718.2.2.1 a1_0 a1_1).bind fun bt732 => ((steepleref01_Of.f k a0_0 a1_0 a1_1).bind fun t739 => (if t739 = true then (steeplelaw03_PackScales.l0 k bt732.2.2.2 ([] : List (S44)) 0 a0_0 a0_1 l0_2 l0_3 a1_0 a1_1 bt732.1 bt732.2.1 bt732.2.2.1) else ((steeplelaw03_awake.f k).bind fun t740 => (if t740 = true then (if bt732.2.2.2 = 5 then ((pack_Vec_Len.f bt732.1 bt732.2.1 bt732.2.2.1).bind fun t741 => (some (t741 == 0))) else (none)) else (none)))))) else ((steeplelaw03_awake.f k).bind fun t731 => (some t731)))) = some r := h
 clear h
 replace H := Option.bind_eq_some_iff.mp H
 obtain ⟨⟨t718, t719, t720, t723, t724, t725, t728⟩, A30, H⟩ := H
 replace H : (if t728 = true then ((pack_Scale.f k t718 t719 t720 a1_0 a1_1).bind fun bt732 => ((steepleref01_Of.f k a0_0 a1_0 a1_1).bind fun t739 => (if t739 = true then (steeplelaw03_PackScales.l0 k bt732.2.2.2 ([] : List (S44)) 0 a0_0 a0_1 l0_2 l0_3 a1_0 a1_1 bt732.1 bt732.2.1 bt732.2.2.1) else ((steeplelaw03_awake.f k).bind fun t740 => (if t740 = true then (if bt732.2.2.2 = 5 then ((pack_Vec_Len.f bt732.1 bt732.2.1 bt732.2.2.1).bind fun t741 => (some (t741 == 0))) else (none)) else (none)))))) else ((steeplelaw03_awake.f k).bind fun t731 => (some t731))) = some r := H
 have A3 := Aside0.mk A30
 clear A30
 by_cases c4 : t728 = true
 ·subst c4
  have H1 : ((pack_Scale.f k t718 t719 t720 a1_0 a1_1).bind fun bt732 => ((steepleref01_Of.f k a0_0 a1_0 a1_1).bind fun t739 => (if t739 = true then (steeplelaw03_PackScales.l0 k bt732.2.2.2 ([] : List (S44)) 0 a0_0 a0_1 l0_2 l0_3 a1_0 a1_1 bt732.1 bt732.2.1 bt732.2.2.1) else ((steeplelaw03_awake.f k).bind fun t740 => (if t740 = true then (if bt732.2.2.2 = 5 then ((pack_Vec_Len.f bt732.1 bt732.2.1 bt732.2.2.1).bind fun t741 => (some (t741 == 0))) else (none)) else (none)))))) = some r := by rw [if_pos rfl] at H; exact H
  clear H
  have H := H1
  clear H1
  replace H := Option.bind_eq_some_iff.mp H
  obtain ⟨⟨t732, t733, t734, t737⟩, A50, H⟩ := H
  replace H : ((steepleref01_Of.f k a0_0 a1_0 a1_1).bind fun t739 => (if t739 = true then (steeplelaw03_PackScales.l0 k t737 ([] : List (S44)) 0 a0_0 a0_1 l0_2 l0_3 a1_0 a1_1 t732 t733 t734) else ((steeplelaw03_awake.f k).bind fun t740 => (if t740 = true then (if t737 = 5 then ((pack_Vec_Len.f t732 t733 t734).bind fun t741 => (some (t741 == 0))) else (none)) else (none))))) = some r := H
  have A5 := Aside0.mk A50
  clear A50
  replace H := Option.bind_eq_some_iff.mp H
  obtain ⟨t739, A60, H⟩ := H
  replace H : (if t739 = true then (steeplelaw03_PackScales.l0 k t737 ([] : List (S44)) 0 a0_0 a0_1 l0_2 l0_3 a1_0 a1_1 t732 t733 t734) else ((steeplelaw03_awake.f k).bind fun t740 => (if t740 = true then (if t737 = 5 then ((pack_Vec_Len.f t732 t733 t734).bind fun t741 => (some (t741 == 0))) else (none)) else (none)))) = some r := H
  have A6 := Aside0.mk A60
  clear A60
  by_cases c7 : t739 = true
  ·subst c7
   have H1 : (steeplelaw03_PackScales.l0 k t737 ([] : List (S44)) 0 a0_0 a0_1 l0_2 l0_3 a1_0 a1_1 t732 t733 t734) = some r := by rw [if_pos rfl] at H; exact H
   clear H
   have H := H1
   clear H1
   have H' := Aside0.mk H
   clear H
   go_enter Try.func7, Try.ntmps7
   go_wp2_with (first | ((with_reducible refine gate_dst (N := 2) rfl ?_); refine box_event ?hg (N := 2) ?hd (cs := #[.int .i64 a0_0, .int .i64 a0_1, .slice A0_2 l0_2.length c0_2, .slice A0_3 l0_3.length c0_3]) (t := 49) ?hr ?_; (case hd => rfl); (case hg => rfl); (case hr => first | (go_simp; done) | (go_simp; rfl)); intro gb716 hg w8 hbox hb; have BK716 := Aside0.mk hbox; have GW716 := ge hg HB; have GE716 := ge hg HB; replace HB := bh HB hb; clear hb hbox hg) | ((with_reducible refine gate_dst (N := 3) rfl ?_); refine box_event ?hg (N := 3) ?hd (cs := #[.int .u64 a1_0, .int .u64 a1_1]) (t := 25) ?hr ?_; (case hd => rfl); (case hg => rfl); (case hr => first | (go_simp; done) | (go_simp; rfl)); intro gb717 hg w9 hbox hb; have BK717 := Aside0.mk hbox; have GW717 := ge hg HB; have GE717 := ge hg HB; have NB716_717 := nl hg BK716; have NB717_716 := ng hg BK716; replace BK716 := bb BK716 hb; replace HB := bh HB hb; clear hb hbox hg; have hnb10 := NB716_717.out; have hnc10 := NB717_716.out; obtain ⟨hcz11_0, hcz11_1, hcz11_2, hcz11_3⟩ := zc4 BK716; obtain ⟨hfz11_0, hfz11_1, hfz11_2, hfz11_3⟩ := zf4 BK716) | ((with_reducible refine gate_callee (f := 16) rfl ?_); refine goesL_ (some 14) rfl rfl Try.func16 (by kernel_rfl) rfl #[.agg #[.int .i64 a0_0, .int .i64 a0_1, .slice A0_2 l0_2.length c0_2, .slice A0_3 l0_3.length c0_3]] rfl (by (try simp only [List.map_toArray, List.map_cons, List.map_nil]); first | done | rfl | (simp only [List.length_drop, List.length_take]; rfl)) ?_; (with_reducible refine (steeplelaw03_Pair_made.calls k a0_0 a0_1 _ _ l0_2 _ _ l0_3 t718 t719 t720 t723 t724 t725 true _ ?side1 ?side2 ?side3 ?side4 A3.out).mono ?_); (case side1 => repeat (first | exact (Kd.C_below HR0_2.out HB.out) | (with_reducible refine Kd.C_alloc ?_ _) | (with_reducible refine Kd.C_drewN ?_ _) | (with_reducible refine Kd.C_drew ?_))); (case side2 => exact HC0_2.out); (case side3 => repeat (first | exact (Kd.C_below HR0_3.out HB.out) | (with_reducible refine Kd.C_alloc ?_ _) | (with_reducible refine Kd.C_drewN ?_ _) | (with_reducible refine Kd.C_drew ?_))); (case side4 => exact HC0_3.out); rintro e w12 ⟨v721, v726, rfl, ho0, ho1, hb⟩; refine ⟨_, rfl, ?_⟩; have HO722 := kw ho0 HB; have HO727 := kw ho1 HB; replace BK716 := bb BK716 hb; replace BK717 := bb BK717 hb; replace HB := bh HB hb; (try clear hb); (try clear hb2); (try clear hk); (try clear hi); (try clear ho0); (try clear ho1)) | ((with_reducible refine gate_dst (N := 5) rfl ?_); refine box_event ?hg (N := 5) ?hd (cs := #[.int .i64 0, .int .i64 0, .slice none 0 0]) (t := 31) ?hr ?_; (case hd => rfl); (case hg => rfl); (case hr => first | (go_simp; done) | (go_simp; rfl)); intro gb729 hg w13 hbox hb; have BK729 := Aside0.mk hbox; have GW729 := ge hg HB; have GE729 := ge hg HB; have NB716_729 := nl hg BK716; have NB729_716 := ng hg BK716; have NB717_729 := nl hg BK717; have NB729_717 := ng hg BK717; replace HO722 := kb HO722 hb; replace HO727 := kb HO727 hb; replace BK716 := bb BK716 hb; replace BK717 := bb BK717 hb; replace HB := bh HB hb; clear hb hbox hg) | ((with_reducible refine gate_dst (N := 6) rfl ?_); refine box_event ?hg (N := 6) ?hd (cs := #[.int .i64 0, .int .i64 0, .slice none 0 0]) (t := 31) ?hr ?_; (case hd => rfl); (case hg => rfl); (case hr => first | (go_simp; done) | (go_simp; rfl)); intro gb730 hg w14 hbox hb; have BK730 := Aside0.mk hbox; have GW730 := ge hg HB; have GE730 := ge hg HB; have NB716_730 := nl hg BK716; have NB730_716 := ng hg BK716; have NB717_730 := nl hg BK717; have NB730_717 := ng hg BK717; have NB729_730 := nl hg BK729; have NB730_729 := ng hg BK729; replace HO722 := kb HO722 hb; replace HO727 := kb HO727 hb; replace BK716 := bb BK716 hb; replace BK717 := bb BK717 hb; replace BK729 := bb BK729 hb; replace HB := bh HB hb; clear hb hbox hg; have hnb15 := NB729_716.out; have hnc15 := NB716_729.out; have hnb16 := NB729_717.out; have hnc16 := NB717_729.out; have hnb17 := NB729_730.out; have hnc17 := NB730_729.out; obtain ⟨hcz18_0, hcz18_1, hcz18_2⟩ := zc3 BK729; obtain ⟨hfz18_0, hfz18_1, hfz18_2⟩ := zf3 BK729; obtain ⟨Ao19, co19, eo19⟩ := Kd.R_slice HO722.out; subst eo19; have hnb20 := NB730_716.out; have hnc20 := NB716_730.out; have hnb21 := NB730_717.out; have hnc21 := NB717_730.out; obtain ⟨hcz22_0, hcz22_1, hcz22_2⟩ := zc3 BK730; obtain ⟨hfz22_0, hfz22_1, hfz22_2⟩ := zf3 BK730; obtain ⟨Ao23, co23, eo23⟩ := Kd.R_slice HO727.out; subst eo23; obtain ⟨hcz24_0, hcz24_1⟩ := zc2 BK717; obtain ⟨hfz24_0, hfz24_1⟩ := zf2 BK717) | ((with_reducible refine gate_callee (f := 32) rfl ?_); refine goesL_ (some 24) rfl rfl Try.func32 (by kernel_rfl) rfl #[.agg #[.int .i64 t718, .int .i64 t719, .slice Ao19 t720.length co19], .agg #[.int .u64 a1_0, .int .u64 a1_1]] rfl (by (try simp only [List.map_toArray, List.map_cons, List.map_nil]); first | done | rfl | (simp only [List.length_drop, List.length_take]; rfl)) ?_; (with_reducible refine (pack_Scale.calls k t718 t719 _ _ t720 a1_0 a1_1 t732 t733 t734 t737 _ ?side1 ?side2 A5.out).mono ?_); (case side1 => refine (Kd.R_reads' (e := 23) (base := w.heap.size) (ok := fun k_ => some k_ ≠ (.slice Ao23 t725.length co23 : Value).ownBlock) (n := t720.length) (c := co19) ?_).2.2; exact (by (with_reducible repeat refine kl ?_); exact (Kd.R_mono (Kd.R_mono (Kd.R_far (p := ⟨gb730, 2, none⟩) (Kd.R_far (p := ⟨gb730, 1, none⟩) (Kd.R_far (p := ⟨gb730, 0, none⟩) (Kd.R_far (p := ⟨gb729, 2, none⟩) (Kd.R_far (p := ⟨gb729, 1, none⟩) (Kd.R_far (p := ⟨gb729, 0, none⟩) (Kd.R_types (Kd.R_types HO722.out BK729.out (by decide)) BK730.out (by decide)) (fun _ hk => hk.1.2) (.int .i64 t718)) (fun _ hk => hk.1.2) (.int .i64 t719)) (fun _ hk => hk.1.2) (.slice Ao19 t720.length co19)) (fun _ hk => hk.2) (.int .i64 t723)) (fun _ hk => hk.2) (.int .i64 t724)) (fun _ hk => hk.2) (.slice Ao23 t725.length co23)) (fun _ h_ => h_.1)) (fun _ h_ => h_.1)))); (case side2 => exact (Kd.R_reads' HO722.out).2.1); rintro e w25 ⟨v735, rfl, ho0, hb⟩; refine ⟨_, rfl, ?_⟩; have HO736 := Aside0.mk (Kd.R_lower (Kd.R_new' (Kd.R_new' ho0 (Kd.R_lt (by (with_reducible repeat refine kl ?_); exact (Kd.R_mono (Kd.R_mono (Kd.R_far (p := ⟨gb730, 2, none⟩) (Kd.R_far (p := ⟨gb730, 1, none⟩) (Kd.R_far (p := ⟨gb730, 0, none⟩) (Kd.R_far (p := ⟨gb729, 2, none⟩) (Kd.R_far (p := ⟨gb729, 1, none⟩) (Kd.R_far (p := ⟨gb729, 0, none⟩) (Kd.R_types (Kd.R_types HO722.out BK729.out (by decide)) BK730.out (by decide)) (fun _ hk => hk.1.2) (.int .i64 t718)) (fun _ hk => hk.1.2) (.int .i64 t719)) (fun _ hk => hk.1.2) (.slice Ao19 t720.length co19)) (fun _ hk => hk.2) (.int .i64 t723)) (fun _ hk => hk.2) (.int .i64 t724)) (fun _ hk => hk.2) (.slice Ao23 t725.length co23)) (fun _ h_ => h_.1)) (fun _ h_ => h_.1))))) (Kd.R_lt (by (with_reducible repeat refine kl ?_); exact (Kd.R_mono (Kd.R_mono (Kd.R_far (p := ⟨gb730, 2, none⟩) (Kd.R_far (p := ⟨gb730, 1, none⟩) (Kd.R_far (p := ⟨gb730, 0, none⟩) (Kd.R_far (p := ⟨gb729, 2, none⟩) (Kd.R_far (p := ⟨gb729, 1, none⟩) (Kd.R_far (p := ⟨gb729, 0, none⟩) (Kd.R_types (Kd.R_types HO727.out BK729.out (by decide)) BK730.out (by decide)) (fun _ hk => hk.1.2) (.int .i64 t718)) (fun _ hk => hk.1.2) (.int .i64 t719)) (fun _ hk => hk.1.2) (.slice Ao19 t720.length co19)) (fun _ hk => hk.2) (.int .i64 t723)) (fun _ hk => hk.2) (.int .i64 t724)) (fun _ hk => hk.2) (.slice Ao23 t725.length co23)) (fun _ h_ => h_.1)) (fun _ h_ => h_.1))))) (below_size (bq HB.out))); replace HO722 := Aside0.mk (Kd.R_elder' (by (with_reducible repeat refine kl ?_); exact (Kd.R_mono (Kd.R_mono (Kd.R_far (p := ⟨gb730, 2, none⟩) (Kd.R_far (p := ⟨gb730, 1, none⟩) (Kd.R_far (p := ⟨gb730, 0, none⟩) (Kd.R_far (p := ⟨gb729, 2, none⟩) (Kd.R_far (p := ⟨gb729, 1, none⟩) (Kd.R_far (p := ⟨gb729, 0, none⟩) (Kd.R_types (Kd.R_types HO722.out BK729.out (by decide)) BK730.out (by decide)) (fun _ hk => hk.1.2) (.int .i64 t718)) (fun _ hk => hk.1.2) (.int .i64 t719)) (fun _ hk => hk.1.2) (.slice Ao19 t720.length co19)) (fun _ hk => hk.2) (.int .i64 t723)) (fun _ hk => hk.2) (.int .i64 t724)) (fun _ hk => hk.2) (.slice Ao23 t725.length co23)) (fun _ h_ => h_.1)) (fun _ h_ => h_.1))) (Kd.R_base ho0) hb); replace HO727 := Aside0.mk (Kd.R_elder' (by (with_reducible repeat refine kl ?_); exact (Kd.R_mono (Kd.R_mono (Kd.R_far (p := ⟨gb730, 2, none⟩) (Kd.R_far (p := ⟨gb730, 1, none⟩) (Kd.R_far (p := ⟨gb730, 0, none⟩) (Kd.R_far (p := ⟨gb729, 2, none⟩) (Kd.R_far (p := ⟨gb729, 1, none⟩) (Kd.R_far (p := ⟨gb729, 0, none⟩) (Kd.R_types (Kd.R_types HO727.out BK729.out (by decide)) BK730.out (by decide)) (fun _ hk => hk.1.2) (.int .i64 t718)) (fun _ hk => hk.1.2) (.int .i64 t719)) (fun _ hk => hk.1.2) (.slice Ao19 t720.length co19)) (fun _ hk => hk.2) (.int .i64 t723)) (fun _ hk => hk.2) (.int .i64 t724)) (fun _ hk => hk.2) (.slice Ao23 t725.length co23)) (fun _ h_ => h_.1)) (fun _ h_ => h_.1))) (Kd.R_base ho0) hb); replace BK716 := Aside0.mk (blk_below (g := gb716) (o := .cells #[.int .i64 a0_0, .int .i64 a0_1, .slice A0_2 l0_2.length c0_2, .slice A0_3 l0_3.length c0_3] 49 (0, 0)) (by (with_reducible repeat refine bl ?_); refine blk_far ?_ NB716_730.out _; (with_reducible repeat refine bl ?_); refine blk_far ?_ NB716_730.out _; (with_reducible repeat refine bl ?_); refine blk_far ?_ NB716_730.out _; (with_reducible repeat refine bl ?_); refine blk_far ?_ NB716_729.out _; (with_reducible repeat refine bl ?_); refine blk_far ?_ NB716_729.out _; (with_reducible repeat refine bl ?_); refine blk_far ?_ NB716_729.out _; (with_reducible repeat refine bl ?_); exact BK716.out) hb); replace BK717 := Aside0.mk (blk_below (g := gb717) (o := .cells #[.int .u64 a1_0, .int .u64 a1_1] 25 (0, 0)) (by (with_reducible repeat refine bl ?_); refine blk_far ?_ NB717_730.out _; (with_reducible repeat refine bl ?_); refine blk_far ?_ NB717_730.out _; (with_reducible repeat refine bl ?_); refine blk_far ?_ NB717_730.out _; (with_reducible repeat refine bl ?_); refine blk_far ?_ NB717_729.out _; (with_reducible repeat refine bl ?_); refine blk_far ?_ NB717_729.out _; (with_reducible repeat refine bl ?_); refine blk_far ?_ NB717_729.out _; (with_reducible repeat refine bl ?_); exact BK717.out) hb); replace BK729 := Aside0.mk (blk_below (g := gb729) (o := .cells #[.int .i64 t718, .int .i64 t719, .slice Ao19 t720.length co19] 31 (0, 0)) (by (with_reducible repeat refine bl ?_); refine blk_far ?_ NB729_730.out _; (with_reducible repeat refine bl ?_); refine blk_far ?_ NB729_730.out _; (with_reducible repeat refine bl ?_); refine blk_far ?_ NB729_730.out _; (with_reducible repeat refine bl ?_); refine blk_put (cs := #[.int .i64 t718, .int .i64 t719, .slice none 0 0]) ?_ 2 _ rfl; (with_reducible repeat refine bl ?_); refine blk_put (cs := #[.int .i64 t718, .int .i64 0, .slice none 0 0]) ?_ 1 _ rfl; (with_reducible repeat refine bl ?_); refine blk_put (cs := #[.int .i64 0, .int .i64 0, .slice none 0 0]) ?_ 0 _ rfl; (with_reducible repeat refine bl ?_); exact BK729.out) hb); replace BK730 := Aside0.mk (blk_below (g := gb730) (o := .cells #[.int .i64 t723, .int .i64 t724, .slice Ao23 t725.length co23] 31 (0, 0)) (by (with_reducible repeat refine bl ?_); refine blk_put (cs := #[.int .i64 t723, .int .i64 t724, .slice none 0 0]) ?_ 2 _ rfl; (with_reducible repeat refine bl ?_); refine blk_put (cs := #[.int .i64 t723, .int .i64 0, .slice none 0 0]) ?_ 1 _ rfl; (with_reducible repeat refine bl ?_); refine blk_put (cs := #[.int .i64 0, .int .i64 0, .slice none 0 0]) ?_ 0 _ rfl; (with_reducible repeat refine bl ?_); refine blk_far ?_ NB730_729.out _; (with_reducible repeat refine bl ?_); refine blk_far ?_ NB730_729.out _; (with_reducible repeat refine bl ?_); refine blk_far ?_ NB730_729.out _; (with_reducible repeat refine bl ?_); exact BK730.out) hb); replace HB := bh HB hb; (try clear hb); (try clear hb2); (try clear hk); (try clear hi); (try clear ho0)) | ((with_reducible refine gate_dst (N := 8) rfl ?_); refine box_event ?hg (N := 8) ?hd (cs := #[.int .i64 0, .int .i64 0, .slice none 0 0]) (t := 31) ?hr ?_; (case hd => rfl); (case hg => rfl); (case hr => first | (go_simp; done) | (go_simp; rfl)); intro gb738 hg w26 hbox hb; have BK738 := Aside0.mk hbox; have GW738 := ge hg HB; have GE738 := ge hg HB; have NB716_738 := nl hg BK716; have NB738_716 := ng hg BK716; have NB717_738 := nl hg BK717; have NB738_717 := ng hg BK717; have NB729_738 := nl hg BK729; have NB738_729 := ng hg BK729; have NB730_738 := nl hg BK730; have NB738_730 := ng hg BK730; replace HO722 := kb HO722 hb; replace HO727 := kb HO727 hb; replace HO736 := kb HO736 hb; replace BK716 := bb BK716 hb; replace BK717 := bb BK717 hb; replace BK729 := bb BK729 hb; replace BK730 := bb BK730 hb; replace HB := bh HB hb; clear hb hbox hg; have hnb27 := NB738_716.out; have hnc27 := NB716_738.out; have hnb28 := NB738_717.out; have hnc28 := NB717_738.out; have hnb29 := NB738_729.out; have hnc29 := NB729_738.out; have hnb30 := NB738_730.out; have hnc30 := NB730_738.out; obtain ⟨hcz31_0, hcz31_1, hcz31_2⟩ := zc3 BK738; obtain ⟨hfz31_0, hfz31_1, hfz31_2⟩ := zf3 BK738; obtain ⟨Ao32, co32, eo32⟩ := Kd.R_slice HO736.out; subst eo32; obtain ⟨hcz33_0, hcz33_1, hcz33_2, hcz33_3⟩ := zc4 BK716; obtain ⟨hfz33_0, hfz33_1, hfz33_2, hfz33_3⟩ := zf4 BK716; obtain ⟨hcz34_0, hcz34_1⟩ := zc2 BK717; obtain ⟨hfz34_0, hfz34_1⟩ := zf2 BK717) | ((with_reducible refine gate_callee (f := 25) rfl ?_); refine goesL_ (some 30) rfl rfl Try.func25 (by kernel_rfl) rfl #[.int .i64 a0_0, .agg #[.int .u64 a1_0, .int .u64 a1_1]] rfl (by (try simp only [List.map_toArray, List.map_cons, List.map_nil]); first | done | rfl | (simp only [List.length_drop, List.length_take]; rfl)) ?_; (with_reducible refine (steepleref01_Of.calls k a0_0 a1_0 a1_1 true _ A6.out).mono ?_); rintro e w35 ⟨rfl, hb⟩; refine ⟨_, rfl, ?_⟩; replace HO722 := Aside0.mk (Kd.R_below (by (with_reducible repeat refine kl ?_); exact (Kd.R_mono (Kd.R_far (p := ⟨gb738, 2, none⟩) (Kd.R_far (p := ⟨gb738, 1, none⟩) (Kd.R_far (p := ⟨gb738, 0, none⟩) (Kd.R_types HO722.out BK738.out (by decide)) (fun _ hk => hk.2) (.int .i64 t732)) (fun _ hk => hk.2) (.int .i64 t733)) (fun _ hk => hk.2) (.slice Ao32 t734.length co32)) (fun _ h_ => h_.1))) hb); replace HO727 := Aside0.mk (Kd.R_below (by (with_reducible repeat refine kl ?_); exact (Kd.R_mono (Kd.R_far (p := ⟨gb738, 2, none⟩) (Kd.R_far (p := ⟨gb738, 1, none⟩) (Kd.R_far (p := ⟨gb738, 0, none⟩) (Kd.R_types HO727.out BK738.out (by decide)) (fun _ hk => hk.2) (.int .i64 t732)) (fun _ hk => hk.2) (.int .i64 t733)) (fun _ hk => hk.2) (.slice Ao32 t734.length co32)) (fun _ h_ => h_.1))) hb); replace HO736 := Aside0.mk (Kd.R_below (by (with_reducible repeat refine kl ?_); exact (Kd.R_mono (Kd.R_far (p := ⟨gb738, 2, none⟩) (Kd.R_far (p := ⟨gb738, 1, none⟩) (Kd.R_far (p := ⟨gb738, 0, none⟩) (Kd.R_types HO736.out BK738.out (by decide)) (fun _ hk => hk.2) (.int .i64 t732)) (fun _ hk => hk.2) (.int .i64 t733)) (fun _ hk => hk.2) (.slice Ao32 t734.length co32)) (fun _ h_ => h_.1))) hb); replace BK716 := Aside0.mk (blk_below (g := gb716) (o := .cells #[.int .i64 a0_0, .int .i64 a0_1, .slice A0_2 l0_2.length c0_2, .slice A0_3 l0_3.length c0_3] 49 (0, 0)) (by (with_reducible repeat refine bl ?_); refine blk_far ?_ NB716_738.out _; (with_reducible repeat refine bl ?_); refine blk_far ?_ NB716_738.out _; (with_reducible repeat refine bl ?_); refine blk_far ?_ NB716_738.out _; (with_reducible repeat refine bl ?_); exact BK716.out) hb); replace BK717 := Aside0.mk (blk_below (g := gb717) (o := .cells #[.int .u64 a1_0, .int .u64 a1_1] 25 (0, 0)) (by (with_reducible repeat refine bl ?_); refine blk_far ?_ NB717_738.out _; (with_reducible repeat refine bl ?_); refine blk_far ?_ NB717_738.out _; (with_reducible repeat refine bl ?_); refine blk_far ?_ NB717_738.out _; (with_reducible repeat refine bl ?_); exact BK717.out) hb); replace BK729 := Aside0.mk (blk_below (g := gb729) (o := .cells #[.int .i64 t718, .int .i64 t719, .slice Ao19 t720.length co19] 31 (0, 0)) (by (with_reducible repeat refine bl ?_); refine blk_far ?_ NB729_738.out _; (with_reducible repeat refine bl ?_); refine blk_far ?_ NB729_738.out _; (with_reducible repeat refine bl ?_); refine blk_far ?_ NB729_738.out _; (with_reducible repeat refine bl ?_); exact BK729.out) hb); replace BK730 := Aside0.mk (blk_below (g := gb730) (o := .cells #[.int .i64 t723, .int .i64 t724, .slice Ao23 t725.length co23] 31 (0, 0)) (by (with_reducible repeat refine bl ?_); refine blk_far ?_ NB730_738.out _; (with_reducible repeat refine bl ?_); refine blk_far ?_ NB730_738.out _; (with_reducible repeat refine bl ?_); refine blk_far ?_ NB730_738.out _; (with_reducible repeat refine bl ?_); exact BK730.out) hb); replace BK738 := Aside0.mk (blk_below (g := gb738) (o := .cells #[.int .i64 t732, .int .i64 t733, .slice Ao32 t734.length co32] 31 (0, 0)) (by (with_reducible repeat refine bl ?_); refine blk_put (cs := #[.int .i64 t732, .int .i64 t733, .slice none 0 0]) ?_ 2 _ rfl; (with_reducible repeat refine bl ?_); refine blk_put (cs := #[.int .i64 t732, .int .i64 0, .slice none 0 0]) ?_ 1 _ rfl; (with_reducible repeat refine bl ?_); refine blk_put (cs := #[.int .i64 0, .int .i64 0, .slice none 0 0]) ?_ 0 _ rfl; (with_reducible repeat refine bl ?_); exact BK738.out) hb); replace HB := bh HB hb; (try clear hb); (try clear hb2); (try clear hk); (try clear hi)))
   go_loopg [10, 11] k (fun kq v10 v11 w' => ∃ (x10_1 : List (S44)) (x11_1 : Int), v11 = .int .i64 x11_1 ∧ Aside0 (steeplelaw03_PackScales.l0 kq t737 x10_1 x11_1 a0_0 a0_1 l0_2 l0_3 a1_0 a1_1 t732 t733 t734 = some r) ∧ Aside0 (kq ≤ k) ∧ Aside0 (Kd.R k44 44 w' w.heap.size (fun _ => True) v10 x10_1) ∧ Aside0 (Kd.R (Kd.int .u64) 23 w' w.heap.size (fun k_ => some k_ ≠ ((.slice Ao23 t725.length co23) : Value).ownBlock ∧ some k_ ≠ ((.slice Ao32 t734.length co32) : Value).ownBlock) (.slice Ao19 t720.length co19) t720) ∧ Aside0 (Kd.R (Kd.int .u64) 23 w' w.heap.size (fun k_ => some k_ ≠ ((.slice Ao19 t720.length co19) : Value).ownBlock ∧ some k_ ≠ ((.slice Ao32 t734.length co32) : Value).ownBlock) (.slice Ao23 t725.length co23) t725) ∧ Aside0 (Kd.R (Kd.int .u64) 23 w' w.heap.size (fun k_ => some k_ ≠ ((.slice Ao19 t720.length co19) : Value).ownBlock ∧ some k_ ≠ ((.slice Ao23 t725.length co23) : Value).ownBlock) (.slice Ao32 t734.length co32) t734) ∧ Aside0 (w'.heap[gb716]? = some (.cells #[.int .i64 a0_0, .int .i64 a0_1, (.slice A0_2 l0_2.length c0_2), (.slice A0_3 l0_3.length c0_3)] 49 (0, 0))) ∧ Aside0 (w'.heap[gb717]? = some (.cells #[.int .u64 a1_0, .int .u64 a1_1] 25 (0, 0))) ∧ Aside0 (w'.heap[gb729]? = some (.cells #[.int .i64 t718, .int .i64 t719, (.slice Ao19 t720.length co19)] 31 (0, 0))) ∧ Aside0 (w'.heap[gb730]? = some (.cells #[.int .i64 t723, .int .i64 t724, (.slice Ao23 t725.length co23)] 31 (0, 0))) ∧ Aside0 (w'.heap[gb738]? = some (.cells #[.int .i64 t732, .int .i64 t733, (.slice Ao32 t734.length co32)] 31 (0, 0))) ∧ Aside0 (Below w.heap.size w w'))
   case atStart => exact ⟨(([] : List (S44))), (0), (by first | rfl | (simp; done) | (simp [*]; done)), H', ⟨Nat.le_refl _⟩, ⟨by first | exact Kd.R_nil _ _ _ _ _ | exact Kd.N_nil _ _ _ _ _ | exact Kd.V_nil _ _ _ _ _ | exact Kd.Q_nil _ _ _ _ _ | exact Kd.S_nil _ _ _ _ _⟩, ⟨kr HO722.out⟩, ⟨kr HO727.out⟩, ⟨by (with_reducible repeat refine kl ?_); exact Kd.R_mono HO736.out (fun _ hk => ⟨hk.1.2, hk.2⟩)⟩, ⟨bk BK716.out⟩, ⟨bk BK717.out⟩, ⟨bk BK729.out⟩, ⟨bk BK730.out⟩, ⟨bk BK738.out⟩, ⟨bq HB.out⟩⟩
   case round =>
    clear H'
    try clear c1
    try clear c2
    try clear p2
    try clear c3
    try clear c4
    try clear c7
    try clear c10
    try clear c15
    try clear c16
    try clear c17
    try clear c20
    try clear c21
    try clear c25
    try clear c27
    try clear c28
    try clear c29
    try clear c30
    try clear c32
    try clear hcz11_0
    try clear hcz11_1
    try clear hcz11_2
    try clear hcz11_3
    try clear hcz18_0
    try clear hcz18_1
    try clear hcz18_2
    try clear hcz22_0
    try clear hcz22_1
    try clear hcz22_2
    try clear hcz24_0
    try clear hcz24_1
    try clear hcz31_0
    try clear hcz31_1
    try clear hcz31_2
    try clear hcz33_0
    try clear hcz33_1
    try clear hcz33_2
    try clear hcz33_3
    try clear hcz34_0
    try clear hcz34_1
    try clear hfz11_0
    try clear hfz11_1
    try clear hfz11_2
    try clear hfz11_3
    try clear hfz18_0
    try clear hfz18_1
    try clear hfz18_2
    try clear hfz22_0
    try clear hfz22_1
    try clear hfz22_2
    try clear hfz24_0
    try clear hfz24_1
    try clear hfz31_0
    try clear hfz31_1
    try clear hfz31_2
    try clear hfz33_0
    try clear hfz33_1
    try clear hfz33_2
    try clear hfz33_3
    try clear hfz34_0
    try clear hfz34_1
    obtain ⟨x10_1, x11_1, rfl, HA, HK1, HO_10, HO_730002, HO_731002, HO_739002, BK716, BK717, BK729, BK730, BK738, HB⟩ := hrel
    cases gk with
    | zero => exact absurd HA.out (by simp [steeplelaw03_PackScales.l0])
    | succ k1 =>
     have H := HA.out
     clear HA
     simp only [steeplelaw03_PackScales.l0] at H
     by_cases c36 : x11_1 < (l0_2.length : Int)
     ·rw [if_pos c36] at H
      have c36b0 : decide (x11_1 < (l0_2.length : Int)) = true := decide_eq_true c36
      clear c36
      by_cases c37 : 0 ≤ x11_1
      ·rw [if_pos c37] at H
       have c37b0 : decide (0 ≤ x11_1) = true := decide_eq_true c37
       clear c37
       replace H := Option.bind_eq_some_iff.mp H
       obtain ⟨⟨t743, t744⟩, A380, H⟩ := H
       replace H : (if x10_1.length < 8796093022208 then (steeplelaw03_PackScales.l0 k1 t737 (x10_1 ++ [(⟨t743, t744⟩ : S44)]) (wrap64 (x11_1 + 1)) a0_0 a0_1 l0_2 l0_3 a1_0 a1_1 t732 t733 t734) else (none)) = some r := H
       have A38 := Aside0.mk A380
       clear A380
       by_cases c39 : x10_1.length < 8796093022208
       ·rw [if_pos c39] at H
        have LMc39 := Aside0.mk c39
        clear c39
        obtain ⟨y745, hy745⟩ : ∃ y_ : List (S44), y_ = (x10_1 ++ [(⟨t743, t744⟩ : S44)]) := ⟨_, rfl⟩
        replace H : (steeplelaw03_PackScales.l0 k1 t737 y745 (wrap64 (x11_1 + 1)) a0_0 a0_1 l0_2 l0_3 a1_0 a1_1 t732 t733 t734) = some r := by first | (rw [hy745]; with_reducible exact H) | (have H2_ := (Option.bind_some _ _).symm.trans H; rw [hy745]; with_reducible exact H2_) | (have H2_ := (Option.bind_some _ _).symm.trans H; with_reducible exact H2_) | with_reducible exact H | (rw [hy745]; exact H) | exact H
        have Ny745 := Aside0.mk hy745
        clear hy745
        have H' := Aside0.mk H
        clear H
        have hnb40 := NB716_717.out
        have hnc40 := NB717_716.out
        have hnb41 := NB716_729.out
        have hnc41 := NB729_716.out
        have hnb42 := NB716_730.out
        have hnc42 := NB730_716.out
        have hnb43 := NB716_738.out
        have hnc43 := NB738_716.out
        obtain ⟨hcz44_0, hcz44_1, hcz44_2, hcz44_3⟩ := zc4 BK716
        obtain ⟨hfz44_0, hfz44_1, hfz44_2, hfz44_3⟩ := zf4 BK716
        try go_wp2
        replace HO_10 := Aside0.mk (Kd.R_drew HO_10.out)
        replace HO_730002 := Aside0.mk (Kd.R_drew HO_730002.out)
        replace HO_731002 := Aside0.mk (Kd.R_drew HO_731002.out)
        replace HO_739002 := Aside0.mk (Kd.R_drew HO_739002.out)
        replace BK716 := Aside0.mk (blk_drew BK716.out)
        replace BK717 := Aside0.mk (blk_drew BK717.out)
        replace BK729 := Aside0.mk (blk_drew BK729.out)
        replace BK730 := Aside0.mk (blk_drew BK730.out)
        replace BK738 := Aside0.mk (blk_drew BK738.out)
        replace HB := Aside0.mk (below_drew1 HB.out)
        have p742 : 0 ≤ (x11_1 : Int) := of_decide_eq_true (by first | (with_reducible assumption) | assumption)
        have q742 : x11_1 < (l0_2.length : Int) := of_decide_eq_true (by first | (with_reducible assumption) | assumption)
        obtain ⟨ad742, e742, hx742_0, hx742_1⟩ := at_T25 HR0_2.out x11_1 p742 q742
        have hw742_1 := hx742_1
        have hw742_0 := hx742_0
        cases e742
        replace hx742_0 := (HB.out.cell (World.block_lt_of_cell? w _ hx742_0)).trans hx742_0
        replace hx742_1 := (HB.out.cell (World.block_lt_of_cell? w _ hx742_1)).trans hx742_1
        replace p742 := eq_true p742
        replace q742 := eq_true q742
        refine start_ (n := 11) (S := fun w' => w'.cell? ⟨gb716, 0, none⟩ = some (.int .i64 a0_0) ∧ w'.cell? ⟨gb716, 1, none⟩ = some (.int .i64 a0_1) ∧ w'.cell? ⟨gb716, 2, none⟩ = some (.slice (some ad742) l0_2.length c0_2) ∧ w'.cell? ⟨gb716, 3, none⟩ = some (.slice A0_3 l0_3.length c0_3) ∧ w'.cell? ⟨gb717, 0, none⟩ = some (.int .u64 a1_0) ∧ w'.cell? ⟨gb717, 1, none⟩ = some (.int .u64 a1_1) ∧ w'.cell? (ad742.add ((x11_1).toNat * 2)) = some (.int .u64 ((rd_T25 l0_2 x11_1).f0)) ∧ w'.cell? ⟨(ad742.add ((x11_1).toNat * 2)).block, (ad742.add ((x11_1).toNat * 2)).off + 1, none⟩ = some (.int .u64 ((rd_T25 l0_2 x11_1).f1))) (ds := []) #[false, false, false, false, false, false, false, false, false, false, false] (by kernel_rfl) rfl rfl ⟨(blk_cell BK716.out 0).trans rfl, (blk_cell BK716.out 1).trans rfl, (blk_cell BK716.out 2).trans rfl, (blk_cell BK716.out 3).trans rfl, (blk_cell BK717.out 0).trans rfl, (blk_cell BK717.out 1).trans rfl, ((HB.out.cell (World.block_lt_of_cell? w _ hw742_0)).trans hw742_0), ((HB.out.cell (World.block_lt_of_cell? w _ hw742_1)).trans hw742_1)⟩ (fun hHeld => ?_); refine with_tabW steeplelaw03_PackScales.tab11 steeplelaw03_PackScales.bits11 (fun HT_ HW_ => ?_)
        generalize wr.drew = w45 at HO_10 HO_730002 HO_731002 HO_739002 BK716 BK717 BK729 BK730 BK738 HB hx742_0 hx742_1 hHeld ⊢
        refine pure_ (i := 0) (N := some 49) (v := ?_) (a' := ?_) #[true, false, false, false, false, false, false, false, false, false, false] rfl rfl (any_of HT_.out (by kernel_rfl)) (fun _ _ _ h => h) (Or.inl ⟨by rfl, ?_⟩) ?_ ?_
        rotate_left
        ·intro w'
         go_simp
         with_reducible rfl
        rotate_left
        ·simp only [Act.put, List.setIfInBounds_toArray, List.set_cons_zero, List.set_cons_succ, i64_w, i32_w]
         rfl
        refine pure_ (i := 1) (N := some 50) (v := ?_) (a' := ?_) #[true, true, false, false, false, false, false, false, false, false, false] rfl rfl (any_of HT_.out (by kernel_rfl)) (fun _ _ _ h => h) (Or.inl ⟨by rfl, ?_⟩) ?_ ?_
        rotate_left
        ·intro w'
         go_simp
         with_reducible rfl
        rotate_left
        ·simp only [Act.put, List.setIfInBounds_toArray, List.set_cons_zero, List.set_cons_succ, i64_w, i32_w]
         rfl
        refine pure_ (i := 3) (N := some 52) (v := ?_) (a' := ?_) #[true, true, false, true, false, false, false, false, false, false, false] rfl rfl (any_of HT_.out (by kernel_rfl)) (fun _ _ _ h => h) (Or.inl ⟨by rfl, ?_⟩) ?_ ?_
        rotate_left
        ·intro w'
         go_simp
         with_reducible rfl
        rotate_left
        ·simp only [Act.put, List.setIfInBounds_toArray, List.set_cons_zero, List.set_cons_succ, i64_w, i32_w]
         rfl
        refine take_ (i := 2) (N := some 51) (v := ?_) (a' := ?_) #[true, true, true, true, false, false, false, false, false, false, false] rfl rfl (take_ofW HT_.out HW_.out (by kernel_rfl)) (fun _ _ _ h => h) (Or.inl ⟨by rfl, ?_⟩) hHeld ?_ ?_
        rotate_left
        ·rintro w' ⟨s0, s1, s2, s3, s4, s5, s6, s7⟩
         go_simp
         with_reducible rfl
        rotate_left
        ·simp only [Act.put, List.setIfInBounds_toArray, List.set_cons_zero, List.set_cons_succ, i64_w, i32_w]
         rfl
        refine pure_ (i := 4) (N := some 53) (v := ?_) (a' := ?_) #[true, true, true, true, true, false, false, false, false, false, false] rfl rfl (any_of HT_.out (by kernel_rfl)) (fun _ _ _ h => h) (Or.inl ⟨by rfl, ?_⟩) ?_ ?_
        rotate_left
        ·intro w'
         go_simp
         with_reducible rfl
        rotate_left
        ·simp only [Act.put, List.setIfInBounds_toArray, List.set_cons_zero, List.set_cons_succ, i64_w, i32_w]
         rfl
        refine take_ (i := 5) (N := some 54) (v := ?_) (a' := ?_) #[true, true, true, true, true, true, false, false, false, false, false] rfl rfl (take_ofW HT_.out HW_.out (by kernel_rfl)) (fun _ _ _ h => h) (Or.inl ⟨by rfl, ?_⟩) hHeld ?_ ?_
        rotate_left
        ·rintro w' ⟨s0, s1, s2, s3, s4, s5, s6, s7⟩
         go_simp
         with_reducible rfl
        rotate_left
        ·simp only [Act.put, List.setIfInBounds_toArray, List.set_cons_zero, List.set_cons_succ, i64_w, i32_w]
         rfl
        refine take_ (i := 6) (N := some 55) (v := ?_) (a' := ?_) #[true, true, true, true, true, true, true, false, false, false, false] rfl rfl (take_ofW HT_.out HW_.out (by kernel_rfl)) (fun _ _ _ h => h) (Or.inl ⟨by rfl, ?_⟩) hHeld ?_ ?_
        rotate_left
        ·rintro w' ⟨s0, s1, s2, s3, s4, s5, s6, s7⟩
         go_simp
         with_reducible rfl
        rotate_left
        ·simp only [Act.put, List.setIfInBounds_toArray, List.set_cons_zero, List.set_cons_succ, i64_w, i32_w]
         rfl
        refine one_ (i := 7) (N := some 56) #[true, true, true, true, true, true, true, true, false, false, false] rfl rfl (one_of HT_.out (by kernel_rfl)) (by decide) (fun K hK => ?_)
        refine goes_ Try.func33 (by kernel_rfl) rfl #[.agg #[.int .u64 ((rd_T25 l0_2 x11_1).f0), .int .u64 ((rd_T25 l0_2 x11_1).f1)], .agg #[.int .u64 a1_0, .int .u64 a1_1]] (by rfl) rfl rfl (by (try simp only [List.map_toArray, List.map_cons, List.map_nil]); first | done | rfl | (simp only [List.length_drop, List.length_take]; rfl)) ?_
        with_reducible refine (steepleref02_Product.calls k1 ((rd_T25 l0_2 x11_1).f0) ((rd_T25 l0_2 x11_1).f1) a1_0 a1_1 t743 t744 _ A38.out).mono ?_
        rintro e w46 ⟨rfl, hb⟩
        refine ⟨_, rfl, ?_⟩
        replace HO_10 := kb HO_10 hb
        replace HO_730002 := kb HO_730002 hb
        replace HO_731002 := kb HO_731002 hb
        replace HO_739002 := kb HO_739002 hb
        replace BK716 := bb BK716 hb
        replace BK717 := bb BK717 hb
        replace BK729 := bb BK729 hb
        replace BK730 := bb BK730 hb
        replace BK738 := bb BK738 hb
        replace HB := bh HB hb
        (try clear hb)
        (try clear hb2)
        (try clear hk)
        (try clear hi)
        refine hK.out _ _ ⟨(blk_cell BK716.out 0).trans rfl, (blk_cell BK716.out 1).trans rfl, (blk_cell BK716.out 2).trans rfl, (blk_cell BK716.out 3).trans rfl, (blk_cell BK717.out 0).trans rfl, (blk_cell BK717.out 1).trans rfl, ((HB.out.cell (World.block_lt_of_cell? w _ hw742_0)).trans hw742_0), ((HB.out.cell (World.block_lt_of_cell? w _ hw742_1)).trans hw742_1)⟩ (fun hHeld => ?_)
        clear hK K
        refine norm_ (a' := ?_) ?_ ?_
        rotate_left
        ·show Act.put _ (some 56) _ = _
         simp only [Act.put, List.setIfInBounds_toArray, List.set_cons_zero, List.set_cons_succ, i64_w, i32_w]
         rfl
        refine one_ (i := 8) (N := some 57) #[true, true, true, true, true, true, true, true, true, false, false] rfl rfl (one_of HT_.out (by kernel_rfl)) (by decide) (fun K hK => ?_)
        refine value_ (w1 := ?_) (v := ?_) (by rfl) rfl ?_ ?_
        rotate_left 2
        ·go_simp
         constructor
         ·rfl
         ·rfl
        refine hK.out _ _ ⟨(blk_cell (blk_alloc BK716.out _) 0).trans rfl, (blk_cell (blk_alloc BK716.out _) 1).trans rfl, (blk_cell (blk_alloc BK716.out _) 2).trans rfl, (blk_cell (blk_alloc BK716.out _) 3).trans rfl, (blk_cell (blk_alloc BK717.out _) 0).trans rfl, (blk_cell (blk_alloc BK717.out _) 1).trans rfl, (World.cell?_alloc_lt _ _ _ (World.block_lt_of_cell? _ _ (((HB.out.cell (World.block_lt_of_cell? w _ hw742_0)).trans hw742_0)))).trans (((HB.out.cell (World.block_lt_of_cell? w _ hw742_0)).trans hw742_0)), (World.cell?_alloc_lt _ _ _ (World.block_lt_of_cell? _ _ (((HB.out.cell (World.block_lt_of_cell? w _ hw742_1)).trans hw742_1)))).trans (((HB.out.cell (World.block_lt_of_cell? w _ hw742_1)).trans hw742_1))⟩ (fun hHeld => ?_)
        clear hK K
        refine norm_ (a' := ?_) ?_ ?_
        rotate_left
        ·show Act.put _ (some 57) _ = _
         simp only [Act.put, List.setIfInBounds_toArray, List.set_cons_zero, List.set_cons_succ, i64_w, i32_w]
         rfl
        refine one_ (i := 9) (N := some 58) #[true, true, true, true, true, true, true, true, true, true, false] rfl rfl (one_of HT_.out (by kernel_rfl)) (by decide) (fun K hK => ?_)
        refine Kd.R_append_step k44 (w0 := w) w.heap.size (by rfl) (.tmp 49) (.tmp 57) 35 44 (.agg #[(.int .u64 0), (.int .u64 0)]) 16 rfl Try.underlying35 info44 rfl (by decide) (by omega) u10 x10_1 (⟨t743, t744⟩ : S44) [.int .u64 t743, .int .u64 t744] (fun _ => True) (fun _ => False) rfl rfl ?aP (fun _ hk => hk.elim) ?aF ?aO ?aB ?aS ?aL ?_
        (case aP => exact k44_mkM _ _ _ (⟨t743, t744⟩ : S44))
        (case aB => exact (bq HB.out))
        (case aF => exact (fun _ _ => trivial))
        (case aO => exact (kr HO_10.out))
        (case aS => exact (below_size (bq HB.out)))
        (case aL => have := LMc39.out; omega)
        intro v746 w47 ho hb hg hat
        rw [← Ny745.out] at ho
        have HO747 := Aside0.mk ho
        replace HO_730002 := Aside0.mk (Kd.R_over' (kr HO_730002.out) (Kd.R_typed (kr HO_10.out)) (by decide) hg)
        replace HO_731002 := Aside0.mk (Kd.R_over' (kr HO_731002.out) (Kd.R_typed (kr HO_10.out)) (by decide) hg)
        replace HO_739002 := Aside0.mk (Kd.R_over' (kr HO_739002.out) (Kd.R_typed (kr HO_10.out)) (by decide) hg)
        replace BK716 := Aside0.mk (blk_grown (g := gb716) (o := .cells #[.int .i64 a0_0, .int .i64 a0_1, .slice (some ad742) l0_2.length c0_2, .slice A0_3 l0_3.length c0_3] 49 (0, 0)) (bk BK716.out) hg (Kd.R_ne HO_10.out BK716.out (by decide)))
        replace BK717 := Aside0.mk (blk_grown (g := gb717) (o := .cells #[.int .u64 a1_0, .int .u64 a1_1] 25 (0, 0)) (bk BK717.out) hg (Kd.R_ne HO_10.out BK717.out (by decide)))
        replace BK729 := Aside0.mk (blk_grown (g := gb729) (o := .cells #[.int .i64 t718, .int .i64 t719, .slice Ao19 t720.length co19] 31 (0, 0)) (bk BK729.out) hg (Kd.R_ne HO_10.out BK729.out (by decide)))
        replace BK730 := Aside0.mk (blk_grown (g := gb730) (o := .cells #[.int .i64 t723, .int .i64 t724, .slice Ao23 t725.length co23] 31 (0, 0)) (bk BK730.out) hg (Kd.R_ne HO_10.out BK730.out (by decide)))
        replace BK738 := Aside0.mk (blk_grown (g := gb738) (o := .cells #[.int .i64 t732, .int .i64 t733, .slice Ao32 t734.length co32] 31 (0, 0)) (bk BK738.out) hg (Kd.R_ne HO_10.out BK738.out (by decide)))
        replace HB := Aside0.mk hb
        clear HO_10
        clear ho hb hg hat
        refine hK.out _ _ ⟨(blk_cell BK716.out 0).trans rfl, (blk_cell BK716.out 1).trans rfl, (blk_cell BK716.out 2).trans rfl, (blk_cell BK716.out 3).trans rfl, (blk_cell BK717.out 0).trans rfl, (blk_cell BK717.out 1).trans rfl, ((HB.out.cell (World.block_lt_of_cell? w _ hw742_0)).trans hw742_0), ((HB.out.cell (World.block_lt_of_cell? w _ hw742_1)).trans hw742_1)⟩ (fun hHeld => ?_)
        clear hK K
        refine norm_ (a' := ?_) ?_ ?_
        rotate_left
        ·show Act.put _ (some 58) _ = _
         simp only [Act.put, List.setIfInBounds_toArray, List.set_cons_zero, List.set_cons_succ, i64_w, i32_w]
         rfl
        refine pure_ (i := 10) (N := some 10) (v := ?_) (a' := ?_) #[true, true, true, true, true, true, true, true, true, true, true] rfl rfl (any_of HT_.out (by kernel_rfl)) (fun _ _ _ h => h) (Or.inl ⟨by rfl, ?_⟩) ?_ ?_
        rotate_left
        ·intro w'
         go_simp
         with_reducible rfl
        rotate_left
        ·simp only [Act.put, List.setIfInBounds_toArray, List.set_cons_zero, List.set_cons_succ, i64_w, i32_w]
         rfl
        refine done_ (done_of HT_.out (by kernel_rfl)) ?_
        try go_wp2
        go_roundg k1
        case measure => have := HK1.out; omega
        case rel => exact ⟨(y745), (wrap64 (x11_1 + 1)), (by first | rfl | (simp; done) | (simp [*]; done)), H', ⟨by have := HK1.out; omega⟩, ⟨kr HO747.out⟩, ⟨kr HO_730002.out⟩, ⟨kr HO_731002.out⟩, ⟨kr HO_739002.out⟩, ⟨bk BK716.out⟩, ⟨bk BK717.out⟩, ⟨bk BK729.out⟩, ⟨bk BK730.out⟩, ⟨bk BK738.out⟩, ⟨bq HB.out⟩⟩
       ·rw [if_neg c39] at H
        exact absurd H (by simp)
      ·rw [if_neg c37] at H
       exact absurd H (by simp)
     ·rw [if_neg c36] at H
      have c36b0 : decide (x11_1 < (l0_2.length : Int)) = false := decide_eq_false c36
      clear c36
      replace H := Option.bind_eq_some_iff.mp H
      obtain ⟨t748, A480, H⟩ := H
      replace H : (if t748 = true then (if t737 = 0 then ((steeplelaw03_same.f k1 t732 t733 t734 a0_0 x10_1).bind fun t749 => (some t749)) else (none)) else (none)) = some r := H
      have A48 := Aside0.mk A480
      clear A480
      by_cases c49 : t748 = true
      ·subst c49
       have H1 : (if t737 = 0 then ((steeplelaw03_same.f k1 t732 t733 t734 a0_0 x10_1).bind fun t749 => (some t749)) else (none)) = some r := by rw [if_pos rfl] at H; exact H
       clear H
       have H := H1
       clear H1
       by_cases c50 : t737 = 0
       ·rw [if_pos c50] at H
        have c50b0 : (t737 == 0) = true := beq_iff_eq.mpr c50
        have c50b1 : (t737 != 0) = false := bne_eq_false_iff_eq.mpr c50
        clear c50
        replace H := Option.bind_eq_some_iff.mp H
        obtain ⟨t749, A510, H⟩ := H
        replace H : (some t749) = some r := H
        have A51 := Aside0.mk A510
        clear A510
        obtain rfl := Option.some.inj H
        have hnb52 := NB716_717.out
        have hnc52 := NB717_716.out
        have hnb53 := NB716_729.out
        have hnc53 := NB729_716.out
        have hnb54 := NB716_730.out
        have hnc54 := NB730_716.out
        have hnb55 := NB716_738.out
        have hnc55 := NB738_716.out
        obtain ⟨hcz56_0, hcz56_1, hcz56_2, hcz56_3⟩ := zc4 BK716
        obtain ⟨hfz56_0, hfz56_1, hfz56_2, hfz56_3⟩ := zf4 BK716
        go_wp2_with (first | ((with_reducible refine gate_callee (f := 8) rfl ?_); refine goesL_ (some 59) rfl rfl Try.func8 (by kernel_rfl) rfl #[] rfl (by (try simp only [List.map_toArray, List.map_cons, List.map_nil]); first | done | rfl | (simp only [List.length_drop, List.length_take]; rfl)) ?_; (with_reducible refine (steeplelaw03_awake.calls k1  true _ A48.out).mono ?_); rintro e w57 ⟨rfl, hb⟩; refine ⟨_, rfl, ?_⟩; replace HO_10 := kb HO_10 hb; replace HO_730002 := kb HO_730002 hb; replace HO_731002 := kb HO_731002 hb; replace HO_739002 := kb HO_739002 hb; replace BK716 := bb BK716 hb; replace BK717 := bb BK717 hb; replace BK729 := bb BK729 hb; replace BK730 := bb BK730 hb; replace BK738 := bb BK738 hb; replace HB := bh HB hb; (try clear hb); (try clear hb2); (try clear hk); (try clear hi); have hnb58 := NB738_717.out; have hnc58 := NB717_738.out; have hnb59 := NB738_729.out; have hnc59 := NB729_738.out; have hnb60 := NB738_730.out; have hnc60 := NB730_738.out; obtain ⟨hcz61_0, hcz61_1, hcz61_2⟩ := zc3 BK738; obtain ⟨hfz61_0, hfz61_1, hfz61_2⟩ := zf3 BK738; obtain ⟨hcz62_0, hcz62_1, hcz62_2, hcz62_3⟩ := zc4 BK716; obtain ⟨hfz62_0, hfz62_1, hfz62_2, hfz62_3⟩ := zf4 BK716; obtain ⟨Ao63, co63, eo63⟩ := Kd.R_slice HO_10.out; subst eo63) | (go_at_call 12; (with_reducible refine (steeplelaw03_same.calls k1 t732 t733 _ _ t734 a0_0 _ _ x10_1 t749 _ ?side1 ?side2 ?side3 ?side4 A51.out).mono ?_); (case side1 => repeat (first | exact (Kd.R_reads' HO_739002.out).2.2 | (with_reducible refine Kd.C_alloc ?_ _) | (with_reducible refine Kd.C_drewN ?_ _) | (with_reducible refine Kd.C_drew ?_))); (case side2 => exact (Kd.R_reads' HO_739002.out).2.1); (case side3 => repeat (first | exact (Kd.R_reads' HO_10.out).2.2 | (with_reducible refine Kd.C_alloc ?_ _) | (with_reducible refine Kd.C_drewN ?_ _) | (with_reducible refine Kd.C_drew ?_))); (case side4 => exact (Kd.R_reads' HO_10.out).2.1); rintro e w64 ⟨rfl, hb⟩; replace HO_10 := kb HO_10 hb; replace HO_730002 := kb HO_730002 hb; replace HO_731002 := kb HO_731002 hb; replace HO_739002 := kb HO_739002 hb; replace BK716 := bb BK716 hb; replace BK717 := bb BK717 hb; replace BK729 := bb BK729 hb; replace BK730 := bb BK730 hb; replace BK738 := bb BK738 hb; replace HB := bh HB hb; (try clear hb); (try clear hb2); (try clear hk); (try clear hi)))
        go_ret
        exact ⟨by first | rfl | (simp [errW_none, errW_some] <;> rfl) | (simp [*, errW_none, errW_some] <;> rfl), bq HB.out⟩
       ·rw [if_neg c50] at H
        exact absurd H (by simp)
      ·replace c49 := Bool.eq_false_iff.mpr c49
       subst c49
       have H1 : (none) = some r := by rw [if_neg (show ¬ (false = true) by decide)] at H; exact H
       clear H
       have H := H1
       clear H1
       exact absurd H (by simp)
  ·replace c7 := Bool.eq_false_iff.mpr c7
   subst c7
   have H1 : ((steeplelaw03_awake.f k).bind fun t740 => (if t740 = true then (if t737 = 5 then ((pack_Vec_Len.f t732 t733 t734).bind fun t741 => (some (t741 == 0))) else (none)) else (none))) = some r := by rw [if_neg (show ¬ (false = true) by decide)] at H; exact H
   clear H
   have H := H1
   clear H1
   replace H := Option.bind_eq_some_iff.mp H
   obtain ⟨t740, A650, H⟩ := H
   replace H : (if t740 = true then (if t737 = 5 then ((pack_Vec_Len.f t732 t733 t734).bind fun t741 => (some (t741 == 0))) else (none)) else (none)) = some r := H
   have A65 := Aside0.mk A650
   clear A650
   by_cases c66 : t740 = true
   ·subst c66
    have H1 : (if t737 = 5 then ((pack_Vec_Len.f t732 t733 t734).bind fun t741 => (some (t741 == 0))) else (none)) = some r := by rw [if_pos rfl] at H; exact H
    clear H
    have H := H1
    clear H1
    by_cases c67 : t737 = 5
    ·rw [if_pos c67] at H
     have c67b0 : (t737 == 5) = true := beq_iff_eq.mpr c67
     have c67b1 : (t737 != 5) = false := bne_eq_false_iff_eq.mpr c67
     clear c67
     replace H := Option.bind_eq_some_iff.mp H
     obtain ⟨t741, A680, H⟩ := H
     replace H : (some (t741 == 0)) = some r := H
     have A68 := Aside0.mk A680
     clear A680
     obtain rfl := Option.some.inj H
     go_enter Try.func7, Try.ntmps7
     go_wp2_with (first | ((with_reducible refine gate_dst (N := 2) rfl ?_); refine box_event ?hg (N := 2) ?hd (cs := #[.int .i64 a0_0, .int .i64 a0_1, .slice A0_2 l0_2.length c0_2, .slice A0_3 l0_3.length c0_3]) (t := 49) ?hr ?_; (case hd => rfl); (case hg => rfl); (case hr => first | (go_simp; done) | (go_simp; rfl)); intro gb716 hg w69 hbox hb; have BK716 := Aside0.mk hbox; have GW716 := ge hg HB; have GE716 := ge hg HB; replace HB := bh HB hb; clear hb hbox hg) | ((with_reducible refine gate_dst (N := 3) rfl ?_); refine box_event ?hg (N := 3) ?hd (cs := #[.int .u64 a1_0, .int .u64 a1_1]) (t := 25) ?hr ?_; (case hd => rfl); (case hg => rfl); (case hr => first | (go_simp; done) | (go_simp; rfl)); intro gb717 hg w70 hbox hb; have BK717 := Aside0.mk hbox; have GW717 := ge hg HB; have GE717 := ge hg HB; have NB716_717 := nl hg BK716; have NB717_716 := ng hg BK716; replace BK716 := bb BK716 hb; replace HB := bh HB hb; clear hb hbox hg; have hnb71 := NB716_717.out; have hnc71 := NB717_716.out; obtain ⟨hcz72_0, hcz72_1, hcz72_2, hcz72_3⟩ := zc4 BK716; obtain ⟨hfz72_0, hfz72_1, hfz72_2, hfz72_3⟩ := zf4 BK716) | ((with_reducible refine gate_callee (f := 16) rfl ?_); refine goesL_ (some 14) rfl rfl Try.func16 (by kernel_rfl) rfl #[.agg #[.int .i64 a0_0, .int .i64 a0_1, .slice A0_2 l0_2.length c0_2, .slice A0_3 l0_3.length c0_3]] rfl (by (try simp only [List.map_toArray, List.map_cons, List.map_nil]); first | done | rfl | (simp only [List.length_drop, List.length_take]; rfl)) ?_; (with_reducible refine (steeplelaw03_Pair_made.calls k a0_0 a0_1 _ _ l0_2 _ _ l0_3 t718 t719 t720 t723 t724 t725 true _ ?side1 ?side2 ?side3 ?side4 A3.out).mono ?_); (case side1 => repeat (first | exact (Kd.C_below HR0_2.out HB.out) | (with_reducible refine Kd.C_alloc ?_ _) | (with_reducible refine Kd.C_drewN ?_ _) | (with_reducible refine Kd.C_drew ?_))); (case side2 => exact HC0_2.out); (case side3 => repeat (first | exact (Kd.C_below HR0_3.out HB.out) | (with_reducible refine Kd.C_alloc ?_ _) | (with_reducible refine Kd.C_drewN ?_ _) | (with_reducible refine Kd.C_drew ?_))); (case side4 => exact HC0_3.out); rintro e w73 ⟨v721, v726, rfl, ho0, ho1, hb⟩; refine ⟨_, rfl, ?_⟩; have HO722 := kw ho0 HB; have HO727 := kw ho1 HB; replace BK716 := bb BK716 hb; replace BK717 := bb BK717 hb; replace HB := bh HB hb; (try clear hb); (try clear hb2); (try clear hk); (try clear hi); (try clear ho0); (try clear ho1)) | ((with_reducible refine gate_dst (N := 5) rfl ?_); refine box_event ?hg (N := 5) ?hd (cs := #[.int .i64 0, .int .i64 0, .slice none 0 0]) (t := 31) ?hr ?_; (case hd => rfl); (case hg => rfl); (case hr => first | (go_simp; done) | (go_simp; rfl)); intro gb729 hg w74 hbox hb; have BK729 := Aside0.mk hbox; have GW729 := ge hg HB; have GE729 := ge hg HB; have NB716_729 := nl hg BK716; have NB729_716 := ng hg BK716; have NB717_729 := nl hg BK717; have NB729_717 := ng hg BK717; replace HO722 := kb HO722 hb; replace HO727 := kb HO727 hb; replace BK716 := bb BK716 hb; replace BK717 := bb BK717 hb; replace HB := bh HB hb; clear hb hbox hg) | ((with_reducible refine gate_dst (N := 6) rfl ?_); refine box_event ?hg (N := 6) ?hd (cs := #[.int .i64 0, .int .i64 0, .slice none 0 0]) (t := 31) ?hr ?_; (case hd => rfl); (case hg => rfl); (case hr => first | (go_simp; done) | (go_simp; rfl)); intro gb730 hg w75 hbox hb; have BK730 := Aside0.mk hbox; have GW730 := ge hg HB; have GE730 := ge hg HB; have NB716_730 := nl hg BK716; have NB730_716 := ng hg BK716; have NB717_730 := nl hg BK717; have NB730_717 := ng hg BK717; have NB729_730 := nl hg BK729; have NB730_729 := ng hg BK729; replace HO722 := kb HO722 hb; replace HO727 := kb HO727 hb; replace BK716 := bb BK716 hb; replace BK717 := bb BK717 hb; replace BK729 := bb BK729 hb; replace HB := bh HB hb; clear hb hbox hg; have hnb76 := NB729_716.out; have hnc76 := NB716_729.out; have hnb77 := NB729_717.out; have hnc77 := NB717_729.out; have hnb78 := NB729_730.out; have hnc78 := NB730_729.out; obtain ⟨hcz79_0, hcz79_1, hcz79_2⟩ := zc3 BK729; obtain ⟨hfz79_0, hfz79_1, hfz79_2⟩ := zf3 BK729; obtain ⟨Ao80, co80, eo80⟩ := Kd.R_slice HO722.out; subst eo80; have hnb81 := NB730_716.out; have hnc81 := NB716_730.out; have hnb82 := NB730_717.out; have hnc82 := NB717_730.out; obtain ⟨hcz83_0, hcz83_1, hcz83_2⟩ := zc3 BK730; obtain ⟨hfz83_0, hfz83_1, hfz83_2⟩ := zf3 BK730; obtain ⟨Ao84, co84, eo84⟩ := Kd.R_slice HO727.out; subst eo84; obtain ⟨hcz85_0, hcz85_1⟩ := zc2 BK717; obtain ⟨hfz85_0, hfz85_1⟩ := zf2 BK717) | ((with_reducible refine gate_callee (f := 32) rfl ?_); refine goesL_ (some 24) rfl rfl Try.func32 (by kernel_rfl) rfl #[.agg #[.int .i64 t718, .int .i64 t719, .slice Ao80 t720.length co80], .agg #[.int .u64 a1_0, .int .u64 a1_1]] rfl (by (try simp only [List.map_toArray, List.map_cons, List.map_nil]); first | done | rfl | (simp only [List.length_drop, List.length_take]; rfl)) ?_; (with_reducible refine (pack_Scale.calls k t718 t719 _ _ t720 a1_0 a1_1 t732 t733 t734 t737 _ ?side1 ?side2 A5.out).mono ?_); (case side1 => refine (Kd.R_reads' (e := 23) (base := w.heap.size) (ok := fun k_ => some k_ ≠ (.slice Ao84 t725.length co84 : Value).ownBlock) (n := t720.length) (c := co80) ?_).2.2; exact (by (with_reducible repeat refine kl ?_); exact (Kd.R_mono (Kd.R_mono (Kd.R_far (p := ⟨gb730, 2, none⟩) (Kd.R_far (p := ⟨gb730, 1, none⟩) (Kd.R_far (p := ⟨gb730, 0, none⟩) (Kd.R_far (p := ⟨gb729, 2, none⟩) (Kd.R_far (p := ⟨gb729, 1, none⟩) (Kd.R_far (p := ⟨gb729, 0, none⟩) (Kd.R_types (Kd.R_types HO722.out BK729.out (by decide)) BK730.out (by decide)) (fun _ hk => hk.1.2) (.int .i64 t718)) (fun _ hk => hk.1.2) (.int .i64 t719)) (fun _ hk => hk.1.2) (.slice Ao80 t720.length co80)) (fun _ hk => hk.2) (.int .i64 t723)) (fun _ hk => hk.2) (.int .i64 t724)) (fun _ hk => hk.2) (.slice Ao84 t725.length co84)) (fun _ h_ => h_.1)) (fun _ h_ => h_.1)))); (case side2 => exact (Kd.R_reads' HO722.out).2.1); rintro e w86 ⟨v735, rfl, ho0, hb⟩; refine ⟨_, rfl, ?_⟩; have HO736 := Aside0.mk (Kd.R_lower (Kd.R_new' (Kd.R_new' ho0 (Kd.R_lt (by (with_reducible repeat refine kl ?_); exact (Kd.R_mono (Kd.R_mono (Kd.R_far (p := ⟨gb730, 2, none⟩) (Kd.R_far (p := ⟨gb730, 1, none⟩) (Kd.R_far (p := ⟨gb730, 0, none⟩) (Kd.R_far (p := ⟨gb729, 2, none⟩) (Kd.R_far (p := ⟨gb729, 1, none⟩) (Kd.R_far (p := ⟨gb729, 0, none⟩) (Kd.R_types (Kd.R_types HO722.out BK729.out (by decide)) BK730.out (by decide)) (fun _ hk => hk.1.2) (.int .i64 t718)) (fun _ hk => hk.1.2) (.int .i64 t719)) (fun _ hk => hk.1.2) (.slice Ao80 t720.length co80)) (fun _ hk => hk.2) (.int .i64 t723)) (fun _ hk => hk.2) (.int .i64 t724)) (fun _ hk => hk.2) (.slice Ao84 t725.length co84)) (fun _ h_ => h_.1)) (fun _ h_ => h_.1))))) (Kd.R_lt (by (with_reducible repeat refine kl ?_); exact (Kd.R_mono (Kd.R_mono (Kd.R_far (p := ⟨gb730, 2, none⟩) (Kd.R_far (p := ⟨gb730, 1, none⟩) (Kd.R_far (p := ⟨gb730, 0, none⟩) (Kd.R_far (p := ⟨gb729, 2, none⟩) (Kd.R_far (p := ⟨gb729, 1, none⟩) (Kd.R_far (p := ⟨gb729, 0, none⟩) (Kd.R_types (Kd.R_types HO727.out BK729.out (by decide)) BK730.out (by decide)) (fun _ hk => hk.1.2) (.int .i64 t718)) (fun _ hk => hk.1.2) (.int .i64 t719)) (fun _ hk => hk.1.2) (.slice Ao80 t720.length co80)) (fun _ hk => hk.2) (.int .i64 t723)) (fun _ hk => hk.2) (.int .i64 t724)) (fun _ hk => hk.2) (.slice Ao84 t725.length co84)) (fun _ h_ => h_.1)) (fun _ h_ => h_.1))))) (below_size (bq HB.out))); replace HO722 := Aside0.mk (Kd.R_elder' (by (with_reducible repeat refine kl ?_); exact (Kd.R_mono (Kd.R_mono (Kd.R_far (p := ⟨gb730, 2, none⟩) (Kd.R_far (p := ⟨gb730, 1, none⟩) (Kd.R_far (p := ⟨gb730, 0, none⟩) (Kd.R_far (p := ⟨gb729, 2, none⟩) (Kd.R_far (p := ⟨gb729, 1, none⟩) (Kd.R_far (p := ⟨gb729, 0, none⟩) (Kd.R_types (Kd.R_types HO722.out BK729.out (by decide)) BK730.out (by decide)) (fun _ hk => hk.1.2) (.int .i64 t718)) (fun _ hk => hk.1.2) (.int .i64 t719)) (fun _ hk => hk.1.2) (.slice Ao80 t720.length co80)) (fun _ hk => hk.2) (.int .i64 t723)) (fun _ hk => hk.2) (.int .i64 t724)) (fun _ hk => hk.2) (.slice Ao84 t725.length co84)) (fun _ h_ => h_.1)) (fun _ h_ => h_.1))) (Kd.R_base ho0) hb); replace HO727 := Aside0.mk (Kd.R_elder' (by (with_reducible repeat refine kl ?_); exact (Kd.R_mono (Kd.R_mono (Kd.R_far (p := ⟨gb730, 2, none⟩) (Kd.R_far (p := ⟨gb730, 1, none⟩) (Kd.R_far (p := ⟨gb730, 0, none⟩) (Kd.R_far (p := ⟨gb729, 2, none⟩) (Kd.R_far (p := ⟨gb729, 1, none⟩) (Kd.R_far (p := ⟨gb729, 0, none⟩) (Kd.R_types (Kd.R_types HO727.out BK729.out (by decide)) BK730.out (by decide)) (fun _ hk => hk.1.2) (.int .i64 t718)) (fun _ hk => hk.1.2) (.int .i64 t719)) (fun _ hk => hk.1.2) (.slice Ao80 t720.length co80)) (fun _ hk => hk.2) (.int .i64 t723)) (fun _ hk => hk.2) (.int .i64 t724)) (fun _ hk => hk.2) (.slice Ao84 t725.length co84)) (fun _ h_ => h_.1)) (fun _ h_ => h_.1))) (Kd.R_base ho0) hb); replace BK716 := Aside0.mk (blk_below (g := gb716) (o := .cells #[.int .i64 a0_0, .int .i64 a0_1, .slice A0_2 l0_2.length c0_2, .slice A0_3 l0_3.length c0_3] 49 (0, 0)) (by (with_reducible repeat refine bl ?_); refine blk_far ?_ NB716_730.out _; (with_reducible repeat refine bl ?_); refine blk_far ?_ NB716_730.out _; (with_reducible repeat refine bl ?_); refine blk_far ?_ NB716_730.out _; (with_reducible repeat refine bl ?_); refine blk_far ?_ NB716_729.out _; (with_reducible repeat refine bl ?_); refine blk_far ?_ NB716_729.out _; (with_reducible repeat refine bl ?_); refine blk_far ?_ NB716_729.out _; (with_reducible repeat refine bl ?_); exact BK716.out) hb); replace BK717 := Aside0.mk (blk_below (g := gb717) (o := .cells #[.int .u64 a1_0, .int .u64 a1_1] 25 (0, 0)) (by (with_reducible repeat refine bl ?_); refine blk_far ?_ NB717_730.out _; (with_reducible repeat refine bl ?_); refine blk_far ?_ NB717_730.out _; (with_reducible repeat refine bl ?_); refine blk_far ?_ NB717_730.out _; (with_reducible repeat refine bl ?_); refine blk_far ?_ NB717_729.out _; (with_reducible repeat refine bl ?_); refine blk_far ?_ NB717_729.out _; (with_reducible repeat refine bl ?_); refine blk_far ?_ NB717_729.out _; (with_reducible repeat refine bl ?_); exact BK717.out) hb); replace BK729 := Aside0.mk (blk_below (g := gb729) (o := .cells #[.int .i64 t718, .int .i64 t719, .slice Ao80 t720.length co80] 31 (0, 0)) (by (with_reducible repeat refine bl ?_); refine blk_far ?_ NB729_730.out _; (with_reducible repeat refine bl ?_); refine blk_far ?_ NB729_730.out _; (with_reducible repeat refine bl ?_); refine blk_far ?_ NB729_730.out _; (with_reducible repeat refine bl ?_); refine blk_put (cs := #[.int .i64 t718, .int .i64 t719, .slice none 0 0]) ?_ 2 _ rfl; (with_reducible repeat refine bl ?_); refine blk_put (cs := #[.int .i64 t718, .int .i64 0, .slice none 0 0]) ?_ 1 _ rfl; (with_reducible repeat refine bl ?_); refine blk_put (cs := #[.int .i64 0, .int .i64 0, .slice none 0 0]) ?_ 0 _ rfl; (with_reducible repeat refine bl ?_); exact BK729.out) hb); replace BK730 := Aside0.mk (blk_below (g := gb730) (o := .cells #[.int .i64 t723, .int .i64 t724, .slice Ao84 t725.length co84] 31 (0, 0)) (by (with_reducible repeat refine bl ?_); refine blk_put (cs := #[.int .i64 t723, .int .i64 t724, .slice none 0 0]) ?_ 2 _ rfl; (with_reducible repeat refine bl ?_); refine blk_put (cs := #[.int .i64 t723, .int .i64 0, .slice none 0 0]) ?_ 1 _ rfl; (with_reducible repeat refine bl ?_); refine blk_put (cs := #[.int .i64 0, .int .i64 0, .slice none 0 0]) ?_ 0 _ rfl; (with_reducible repeat refine bl ?_); refine blk_far ?_ NB730_729.out _; (with_reducible repeat refine bl ?_); refine blk_far ?_ NB730_729.out _; (with_reducible repeat refine bl ?_); refine blk_far ?_ NB730_729.out _; (with_reducible repeat refine bl ?_); exact BK730.out) hb); replace HB := bh HB hb; (try clear hb); (try clear hb2); (try clear hk); (try clear hi); (try clear ho0)) | ((with_reducible refine gate_dst (N := 8) rfl ?_); refine box_event ?hg (N := 8) ?hd (cs := #[.int .i64 0, .int .i64 0, .slice none 0 0]) (t := 31) ?hr ?_; (case hd => rfl); (case hg => rfl); (case hr => first | (go_simp; done) | (go_simp; rfl)); intro gb738 hg w87 hbox hb; have BK738 := Aside0.mk hbox; have GW738 := ge hg HB; have GE738 := ge hg HB; have NB716_738 := nl hg BK716; have NB738_716 := ng hg BK716; have NB717_738 := nl hg BK717; have NB738_717 := ng hg BK717; have NB729_738 := nl hg BK729; have NB738_729 := ng hg BK729; have NB730_738 := nl hg BK730; have NB738_730 := ng hg BK730; replace HO722 := kb HO722 hb; replace HO727 := kb HO727 hb; replace HO736 := kb HO736 hb; replace BK716 := bb BK716 hb; replace BK717 := bb BK717 hb; replace BK729 := bb BK729 hb; replace BK730 := bb BK730 hb; replace HB := bh HB hb; clear hb hbox hg; have hnb88 := NB738_716.out; have hnc88 := NB716_738.out; have hnb89 := NB738_717.out; have hnc89 := NB717_738.out; have hnb90 := NB738_729.out; have hnc90 := NB729_738.out; have hnb91 := NB738_730.out; have hnc91 := NB730_738.out; obtain ⟨hcz92_0, hcz92_1, hcz92_2⟩ := zc3 BK738; obtain ⟨hfz92_0, hfz92_1, hfz92_2⟩ := zf3 BK738; obtain ⟨Ao93, co93, eo93⟩ := Kd.R_slice HO736.out; subst eo93; obtain ⟨hcz94_0, hcz94_1, hcz94_2, hcz94_3⟩ := zc4 BK716; obtain ⟨hfz94_0, hfz94_1, hfz94_2, hfz94_3⟩ := zf4 BK716; obtain ⟨hcz95_0, hcz95_1⟩ := zc2 BK717; obtain ⟨hfz95_0, hfz95_1⟩ := zf2 BK717) | ((with_reducible refine gate_callee (f := 25) rfl ?_); refine goesL_ (some 30) rfl rfl Try.func25 (by kernel_rfl) rfl #[.int .i64 a0_0, .agg #[.int .u64 a1_0, .int .u64 a1_1]] rfl (by (try simp only [List.map_toArray, List.map_cons, List.map_nil]); first | done | rfl | (simp only [List.length_drop, List.length_take]; rfl)) ?_; (with_reducible refine (steepleref01_Of.calls k a0_0 a1_0 a1_1 false _ A6.out).mono ?_); rintro e w96 ⟨rfl, hb⟩; refine ⟨_, rfl, ?_⟩; replace HO722 := Aside0.mk (Kd.R_below (by (with_reducible repeat refine kl ?_); exact (Kd.R_mono (Kd.R_far (p := ⟨gb738, 2, none⟩) (Kd.R_far (p := ⟨gb738, 1, none⟩) (Kd.R_far (p := ⟨gb738, 0, none⟩) (Kd.R_types HO722.out BK738.out (by decide)) (fun _ hk => hk.2) (.int .i64 t732)) (fun _ hk => hk.2) (.int .i64 t733)) (fun _ hk => hk.2) (.slice Ao93 t734.length co93)) (fun _ h_ => h_.1))) hb); replace HO727 := Aside0.mk (Kd.R_below (by (with_reducible repeat refine kl ?_); exact (Kd.R_mono (Kd.R_far (p := ⟨gb738, 2, none⟩) (Kd.R_far (p := ⟨gb738, 1, none⟩) (Kd.R_far (p := ⟨gb738, 0, none⟩) (Kd.R_types HO727.out BK738.out (by decide)) (fun _ hk => hk.2) (.int .i64 t732)) (fun _ hk => hk.2) (.int .i64 t733)) (fun _ hk => hk.2) (.slice Ao93 t734.length co93)) (fun _ h_ => h_.1))) hb); replace HO736 := Aside0.mk (Kd.R_below (by (with_reducible repeat refine kl ?_); exact (Kd.R_mono (Kd.R_far (p := ⟨gb738, 2, none⟩) (Kd.R_far (p := ⟨gb738, 1, none⟩) (Kd.R_far (p := ⟨gb738, 0, none⟩) (Kd.R_types HO736.out BK738.out (by decide)) (fun _ hk => hk.2) (.int .i64 t732)) (fun _ hk => hk.2) (.int .i64 t733)) (fun _ hk => hk.2) (.slice Ao93 t734.length co93)) (fun _ h_ => h_.1))) hb); replace BK716 := Aside0.mk (blk_below (g := gb716) (o := .cells #[.int .i64 a0_0, .int .i64 a0_1, .slice A0_2 l0_2.length c0_2, .slice A0_3 l0_3.length c0_3] 49 (0, 0)) (by (with_reducible repeat refine bl ?_); refine blk_far ?_ NB716_738.out _; (with_reducible repeat refine bl ?_); refine blk_far ?_ NB716_738.out _; (with_reducible repeat refine bl ?_); refine blk_far ?_ NB716_738.out _; (with_reducible repeat refine bl ?_); exact BK716.out) hb); replace BK717 := Aside0.mk (blk_below (g := gb717) (o := .cells #[.int .u64 a1_0, .int .u64 a1_1] 25 (0, 0)) (by (with_reducible repeat refine bl ?_); refine blk_far ?_ NB717_738.out _; (with_reducible repeat refine bl ?_); refine blk_far ?_ NB717_738.out _; (with_reducible repeat refine bl ?_); refine blk_far ?_ NB717_738.out _; (with_reducible repeat refine bl ?_); exact BK717.out) hb); replace BK729 := Aside0.mk (blk_below (g := gb729) (o := .cells #[.int .i64 t718, .int .i64 t719, .slice Ao80 t720.length co80] 31 (0, 0)) (by (with_reducible repeat refine bl ?_); refine blk_far ?_ NB729_738.out _; (with_reducible repeat refine bl ?_); refine blk_far ?_ NB729_738.out _; (with_reducible repeat refine bl ?_); refine blk_far ?_ NB729_738.out _; (with_reducible repeat refine bl ?_); exact BK729.out) hb); replace BK730 := Aside0.mk (blk_below (g := gb730) (o := .cells #[.int .i64 t723, .int .i64 t724, .slice Ao84 t725.length co84] 31 (0, 0)) (by (with_reducible repeat refine bl ?_); refine blk_far ?_ NB730_738.out _; (with_reducible repeat refine bl ?_); refine blk_far ?_ NB730_738.out _; (with_reducible repeat refine bl ?_); refine blk_far ?_ NB730_738.out _; (with_reducible repeat refine bl ?_); exact BK730.out) hb); replace BK738 := Aside0.mk (blk_below (g := gb738) (o := .cells #[.int .i64 t732, .int .i64 t733, .slice Ao93 t734.length co93] 31 (0, 0)) (by (with_reducible repeat refine bl ?_); refine blk_put (cs := #[.int .i64 t732, .int .i64 t733, .slice none 0 0]) ?_ 2 _ rfl; (with_reducible repeat refine bl ?_); refine blk_put (cs := #[.int .i64 t732, .int .i64 0, .slice none 0 0]) ?_ 1 _ rfl; (with_reducible repeat refine bl ?_); refine blk_put (cs := #[.int .i64 0, .int .i64 0, .slice none 0 0]) ?_ 0 _ rfl; (with_reducible repeat refine bl ?_); exact BK738.out) hb); replace HB := bh HB hb; (try clear hb); (try clear hb2); (try clear hk); (try clear hi)) | ((with_reducible refine gate_callee (f := 8) rfl ?_); refine goesL_ (some 32) rfl rfl Try.func8 (by kernel_rfl) rfl #[] rfl (by (try simp only [List.map_toArray, List.map_cons, List.map_nil]); first | done | rfl | (simp only [List.length_drop, List.length_take]; rfl)) ?_; (with_reducible refine (steeplelaw03_awake.calls k  true _ A65.out).mono ?_); rintro e w97 ⟨rfl, hb⟩; refine ⟨_, rfl, ?_⟩; replace HO722 := kb HO722 hb; replace HO727 := kb HO727 hb; replace HO736 := kb HO736 hb; replace BK716 := bb BK716 hb; replace BK717 := bb BK717 hb; replace BK729 := bb BK729 hb; replace BK730 := bb BK730 hb; replace BK738 := bb BK738 hb; replace HB := bh HB hb; (try clear hb); (try clear hb2); (try clear hk); (try clear hi); obtain ⟨hcz98_0, hcz98_1, hcz98_2⟩ := zc3 BK738; obtain ⟨hfz98_0, hfz98_1, hfz98_2⟩ := zf3 BK738) | (go_at_call 26; (with_reducible refine (pack_Vec_Len.calls t732 t733 _ _ t734 t741 _ ?side1 ?side2 A68.out).mono ?_); (case side1 => repeat (first | exact (Kd.R_reads' HO736.out).2.2 | (with_reducible refine Kd.C_alloc ?_ _) | (with_reducible refine Kd.C_drewN ?_ _) | (with_reducible refine Kd.C_drew ?_))); (case side2 => exact (Kd.R_reads' HO736.out).2.1); rintro e w99 ⟨rfl, hb⟩; replace HO722 := kb HO722 hb; replace HO727 := kb HO727 hb; replace HO736 := kb HO736 hb; replace BK716 := bb BK716 hb; replace BK717 := bb BK717 hb; replace BK729 := bb BK729 hb; replace BK730 := bb BK730 hb; replace BK738 := bb BK738 hb; replace HB := bh HB hb; (try clear hb); (try clear hb2); (try clear hk); (try clear hi)))
     go_ret
     exact ⟨by first | rfl | (simp [errW_none, errW_some] <;> rfl) | (simp [*, errW_none, errW_some] <;> rfl), bq HB.out⟩
    ·rw [if_neg c67] at H
     exact absurd H (by simp)
   ·replace c66 := Bool.eq_false_iff.mpr c66
    subst c66
    have H1 : (none) = some r := by rw [if_neg (show ¬ (false = true) by decide)] at H; exact H
    clear H
    have H := H1
    clear H1
    exact absurd H (by simp)
 ·replace c4 := Bool.eq_false_iff.mpr c4
  subst c4
  have H1 : ((steeplelaw03_awake.f k).bind fun t731 => (some t731)) = some r := by rw [if_neg (show ¬ (false = true) by decide)] at H; exact H
  clear H
  have H := H1
  clear H1
  replace H := Option.bind_eq_some_iff.mp H
  obtain ⟨t731, A1000, H⟩ := H
  replace H : (some t731) = some r := H
  have A100 := Aside0.mk A1000
  clear A1000
  obtain rfl := Option.some.inj H
  go_enter Try.func7, Try.ntmps7
  go_wp2_with (first | ((with_reducible refine gate_dst (N := 2) rfl ?_); refine box_event ?hg (N := 2) ?hd (cs := #[.int .i64 a0_0, .int .i64 a0_1, .slice A0_2 l0_2.length c0_2, .slice A0_3 l0_3.length c0_3]) (t := 49) ?hr ?_; (case hd => rfl); (case hg => rfl); (case hr => first | (go_simp; done) | (go_simp; rfl)); intro gb716 hg w101 hbox hb; have BK716 := Aside0.mk hbox; have GW716 := ge hg HB; have GE716 := ge hg HB; replace HB := bh HB hb; clear hb hbox hg) | ((with_reducible refine gate_dst (N := 3) rfl ?_); refine box_event ?hg (N := 3) ?hd (cs := #[.int .u64 a1_0, .int .u64 a1_1]) (t := 25) ?hr ?_; (case hd => rfl); (case hg => rfl); (case hr => first | (go_simp; done) | (go_simp; rfl)); intro gb717 hg w102 hbox hb; have BK717 := Aside0.mk hbox; have GW717 := ge hg HB; have GE717 := ge hg HB; have NB716_717 := nl hg BK716; have NB717_716 := ng hg BK716; replace BK716 := bb BK716 hb; replace HB := bh HB hb; clear hb hbox hg; have hnb103 := NB716_717.out; have hnc103 := NB717_716.out; obtain ⟨hcz104_0, hcz104_1, hcz104_2, hcz104_3⟩ := zc4 BK716; obtain ⟨hfz104_0, hfz104_1, hfz104_2, hfz104_3⟩ := zf4 BK716) | ((with_reducible refine gate_callee (f := 16) rfl ?_); refine goesL_ (some 14) rfl rfl Try.func16 (by kernel_rfl) rfl #[.agg #[.int .i64 a0_0, .int .i64 a0_1, .slice A0_2 l0_2.length c0_2, .slice A0_3 l0_3.length c0_3]] rfl (by (try simp only [List.map_toArray, List.map_cons, List.map_nil]); first | done | rfl | (simp only [List.length_drop, List.length_take]; rfl)) ?_; (with_reducible refine (steeplelaw03_Pair_made.calls k a0_0 a0_1 _ _ l0_2 _ _ l0_3 t718 t719 t720 t723 t724 t725 false _ ?side1 ?side2 ?side3 ?side4 A3.out).mono ?_); (case side1 => repeat (first | exact (Kd.C_below HR0_2.out HB.out) | (with_reducible refine Kd.C_alloc ?_ _) | (with_reducible refine Kd.C_drewN ?_ _) | (with_reducible refine Kd.C_drew ?_))); (case side2 => exact HC0_2.out); (case side3 => repeat (first | exact (Kd.C_below HR0_3.out HB.out) | (with_reducible refine Kd.C_alloc ?_ _) | (with_reducible refine Kd.C_drewN ?_ _) | (with_reducible refine Kd.C_drew ?_))); (case side4 => exact HC0_3.out); rintro e w105 ⟨v721, v726, rfl, ho0, ho1, hb⟩; refine ⟨_, rfl, ?_⟩; have HO722 := kw ho0 HB; have HO727 := kw ho1 HB; replace BK716 := bb BK716 hb; replace BK717 := bb BK717 hb; replace HB := bh HB hb; (try clear hb); (try clear hb2); (try clear hk); (try clear hi); (try clear ho0); (try clear ho1)) | ((with_reducible refine gate_dst (N := 5) rfl ?_); refine box_event ?hg (N := 5) ?hd (cs := #[.int .i64 0, .int .i64 0, .slice none 0 0]) (t := 31) ?hr ?_; (case hd => rfl); (case hg => rfl); (case hr => first | (go_simp; done) | (go_simp; rfl)); intro gb729 hg w106 hbox hb; have BK729 := Aside0.mk hbox; have GW729 := ge hg HB; have GE729 := ge hg HB; have NB716_729 := nl hg BK716; have NB729_716 := ng hg BK716; have NB717_729 := nl hg BK717; have NB729_717 := ng hg BK717; replace HO722 := kb HO722 hb; replace HO727 := kb HO727 hb; replace BK716 := bb BK716 hb; replace BK717 := bb BK717 hb; replace HB := bh HB hb; clear hb hbox hg) | ((with_reducible refine gate_dst (N := 6) rfl ?_); refine box_event ?hg (N := 6) ?hd (cs := #[.int .i64 0, .int .i64 0, .slice none 0 0]) (t := 31) ?hr ?_; (case hd => rfl); (case hg => rfl); (case hr => first | (go_simp; done) | (go_simp; rfl)); intro gb730 hg w107 hbox hb; have BK730 := Aside0.mk hbox; have GW730 := ge hg HB; have GE730 := ge hg HB; have NB716_730 := nl hg BK716; have NB730_716 := ng hg BK716; have NB717_730 := nl hg BK717; have NB730_717 := ng hg BK717; have NB729_730 := nl hg BK729; have NB730_729 := ng hg BK729; replace HO722 := kb HO722 hb; replace HO727 := kb HO727 hb; replace BK716 := bb BK716 hb; replace BK717 := bb BK717 hb; replace BK729 := bb BK729 hb; replace HB := bh HB hb; clear hb hbox hg; have hnb108 := NB729_716.out; have hnc108 := NB716_729.out; have hnb109 := NB729_717.out; have hnc109 := NB717_729.out; have hnb110 := NB729_730.out; have hnc110 := NB730_729.out; obtain ⟨hcz111_0, hcz111_1, hcz111_2⟩ := zc3 BK729; obtain ⟨hfz111_0, hfz111_1, hfz111_2⟩ := zf3 BK729; obtain ⟨Ao112, co112, eo112⟩ := Kd.R_slice HO722.out; subst eo112; have hnb113 := NB730_716.out; have hnc113 := NB716_730.out; have hnb114 := NB730_717.out; have hnc114 := NB717_730.out; obtain ⟨hcz115_0, hcz115_1, hcz115_2⟩ := zc3 BK730; obtain ⟨hfz115_0, hfz115_1, hfz115_2⟩ := zf3 BK730; obtain ⟨Ao116, co116, eo116⟩ := Kd.R_slice HO727.out; subst eo116) | ((with_reducible refine gate_callee (f := 8) rfl ?_); refine goesL_ (some 20) rfl rfl Try.func8 (by kernel_rfl) rfl #[] rfl (by (try simp only [List.map_toArray, List.map_cons, List.map_nil]); first | done | rfl | (simp only [List.length_drop, List.length_take]; rfl)) ?_; (with_reducible refine (steeplelaw03_awake.calls k  t731 _ A100.out).mono ?_); rintro e w117 ⟨rfl, hb⟩; refine ⟨_, rfl, ?_⟩; replace HO722 := Aside0.mk (Kd.R_below (by (with_reducible repeat refine kl ?_); exact (Kd.R_mono (Kd.R_mono (Kd.R_far (p := ⟨gb730, 2, none⟩) (Kd.R_far (p := ⟨gb730, 1, none⟩) (Kd.R_far (p := ⟨gb730, 0, none⟩) (Kd.R_far (p := ⟨gb729, 2, none⟩) (Kd.R_far (p := ⟨gb729, 1, none⟩) (Kd.R_far (p := ⟨gb729, 0, none⟩) (Kd.R_types (Kd.R_types HO722.out BK729.out (by decide)) BK730.out (by decide)) (fun _ hk => hk.1.2) (.int .i64 t718)) (fun _ hk => hk.1.2) (.int .i64 t719)) (fun _ hk => hk.1.2) (.slice Ao112 t720.length co112)) (fun _ hk => hk.2) (.int .i64 t723)) (fun _ hk => hk.2) (.int .i64 t724)) (fun _ hk => hk.2) (.slice Ao116 t725.length co116)) (fun _ h_ => h_.1)) (fun _ h_ => h_.1))) hb); replace HO727 := Aside0.mk (Kd.R_below (by (with_reducible repeat refine kl ?_); exact (Kd.R_mono (Kd.R_mono (Kd.R_far (p := ⟨gb730, 2, none⟩) (Kd.R_far (p := ⟨gb730, 1, none⟩) (Kd.R_far (p := ⟨gb730, 0, none⟩) (Kd.R_far (p := ⟨gb729, 2, none⟩) (Kd.R_far (p := ⟨gb729, 1, none⟩) (Kd.R_far (p := ⟨gb729, 0, none⟩) (Kd.R_types (Kd.R_types HO727.out BK729.out (by decide)) BK730.out (by decide)) (fun _ hk => hk.1.2) (.int .i64 t718)) (fun _ hk => hk.1.2) (.int .i64 t719)) (fun _ hk => hk.1.2) (.slice Ao112 t720.length co112)) (fun _ hk => hk.2) (.int .i64 t723)) (fun _ hk => hk.2) (.int .i64 t724)) (fun _ hk => hk.2) (.slice Ao116 t725.length co116)) (fun _ h_ => h_.1)) (fun _ h_ => h_.1))) hb); replace BK716 := Aside0.mk (blk_below (g := gb716) (o := .cells #[.int .i64 a0_0, .int .i64 a0_1, .slice A0_2 l0_2.length c0_2, .slice A0_3 l0_3.length c0_3] 49 (0, 0)) (by (with_reducible repeat refine bl ?_); refine blk_far ?_ NB716_730.out _; (with_reducible repeat refine bl ?_); refine blk_far ?_ NB716_730.out _; (with_reducible repeat refine bl ?_); refine blk_far ?_ NB716_730.out _; (with_reducible repeat refine bl ?_); refine blk_far ?_ NB716_729.out _; (with_reducible repeat refine bl ?_); refine blk_far ?_ NB716_729.out _; (with_reducible repeat refine bl ?_); refine blk_far ?_ NB716_729.out _; (with_reducible repeat refine bl ?_); exact BK716.out) hb); replace BK717 := Aside0.mk (blk_below (g := gb717) (o := .cells #[.int .u64 a1_0, .int .u64 a1_1] 25 (0, 0)) (by (with_reducible repeat refine bl ?_); refine blk_far ?_ NB717_730.out _; (with_reducible repeat refine bl ?_); refine blk_far ?_ NB717_730.out _; (with_reducible repeat refine bl ?_); refine blk_far ?_ NB717_730.out _; (with_reducible repeat refine bl ?_); refine blk_far ?_ NB717_729.out _; (with_reducible repeat refine bl ?_); refine blk_far ?_ NB717_729.out _; (with_reducible repeat refine bl ?_); refine blk_far ?_ NB717_729.out _; (with_reducible repeat refine bl ?_); exact BK717.out) hb); replace BK729 := Aside0.mk (blk_below (g := gb729) (o := .cells #[.int .i64 t718, .int .i64 t719, .slice Ao112 t720.length co112] 31 (0, 0)) (by (with_reducible repeat refine bl ?_); refine blk_far ?_ NB729_730.out _; (with_reducible repeat refine bl ?_); refine blk_far ?_ NB729_730.out _; (with_reducible repeat refine bl ?_); refine blk_far ?_ NB729_730.out _; (with_reducible repeat refine bl ?_); refine blk_put (cs := #[.int .i64 t718, .int .i64 t719, .slice none 0 0]) ?_ 2 _ rfl; (with_reducible repeat refine bl ?_); refine blk_put (cs := #[.int .i64 t718, .int .i64 0, .slice none 0 0]) ?_ 1 _ rfl; (with_reducible repeat refine bl ?_); refine blk_put (cs := #[.int .i64 0, .int .i64 0, .slice none 0 0]) ?_ 0 _ rfl; (with_reducible repeat refine bl ?_); exact BK729.out) hb); replace BK730 := Aside0.mk (blk_below (g := gb730) (o := .cells #[.int .i64 t723, .int .i64 t724, .slice Ao116 t725.length co116] 31 (0, 0)) (by (with_reducible repeat refine bl ?_); refine blk_put (cs := #[.int .i64 t723, .int .i64 t724, .slice none 0 0]) ?_ 2 _ rfl; (with_reducible repeat refine bl ?_); refine blk_put (cs := #[.int .i64 t723, .int .i64 0, .slice none 0 0]) ?_ 1 _ rfl; (with_reducible repeat refine bl ?_); refine blk_put (cs := #[.int .i64 0, .int .i64 0, .slice none 0 0]) ?_ 0 _ rfl; (with_reducible repeat refine bl ?_); refine blk_far ?_ NB730_729.out _; (with_reducible repeat refine bl ?_); refine blk_far ?_ NB730_729.out _; (with_reducible repeat refine bl ?_); refine blk_far ?_ NB730_729.out _; (with_reducible repeat refine bl ?_); exact BK730.out) hb); replace HB := bh HB hb; (try clear hb); (try clear hb2); (try clear hk); (try clear hi)))
  go_ret
  exact ⟨by first | rfl | (simp [errW_none, errW_some] <;> rfl) | (simp [*, errW_none, errW_some] <;> rfl), bq HB.out⟩

/-- THE ONE PURE STATEMENT of steeplelaw03_PackScales. -/
def steeplelaw03_PackScales.Pure : Prop := ∀ (x0 : S49) (x1 : S25), ((Lit.int .i64 x0.f0).wf = true ∧ (Lit.int .i64 x0.f1).wf = true ∧ (x0.f2.length ≤ maxLen ∧ x0.f2.length * 16 ≤ 140737488351232 ∧ ∀ y0 ∈ x0.f2, ((Lit.int .u64 y0.f0).wf = true ∧ (Lit.int .u64 y0.f1).wf = true)) ∧ (x0.f3.length ≤ maxLen ∧ x0.f3.length * 16 ≤ 140737488351232 ∧ ∀ y0 ∈ x0.f3, ((Lit.int .u64 y0.f0).wf = true ∧ (Lit.int .u64 y0.f1).wf = true))) → ((Lit.int .u64 x1.f0).wf = true ∧ (Lit.int .u64 x1.f1).wf = true) → ∃ k, steeplelaw03_PackScales.f k x0.f0 x0.f1 x0.f2 x0.f3 x1.f0 x1.f1 = some true

end Go.Proofs.Ytceneggampgboaa.P
