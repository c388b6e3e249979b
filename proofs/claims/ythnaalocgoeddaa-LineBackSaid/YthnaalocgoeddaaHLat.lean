/- The value at an element of the polynomial that has given values (line.At): by an array of weights. Conditions: none but that the list is one that is read. -/
import Derived.Test.YthnaalocgoeddaaHLw
import Derived.Test.YthnaalocgoeddaaPx4
import Derived.Test.YthnaalocgoeddaaPx5
import Derived.Test.YthnaalocgoeddaaPx6
set_option linter.unusedVariables false
set_option linter.unusedSimpArgs false
namespace Go.Proofs.Ythnaalocgoeddaa.P
open Go.RowKit Go.Proofs.YthnaalocgoeddaaX Go.Proofs.YthnaalocgoeddaaW.PrintWords Go.Proofs.YthnaalocgoeddaaW.PrintLast Go.Proofs.YthnaalocgoeddaaW.PrintMore
attribute [local go_sem] max2_int min2_int max_two min_two max_three min_three max_four min_four   -- for this text's walks alone
/-- A part of the array, as a row that is read. -/
theorem arr_row {w : World} {g : Nat} {t : TypeId} {ws : List S28} {n : Nat} (h : w.heap[g]? = some (.cells (arrC ws) t (0, 0))) (hn : n ≤ ws.length) (hm : n ≤ 9223372036854775807) : Kd.C k28 w (some ⟨g, 0, none⟩) n (ws.take n) := by
  refine ⟨by rw [List.length_take]; omega, hm, fun _ => ⟨_, rfl, fun j p hj => ⟨[.int .u64 p.f0, .int .u64 p.f1], rfl, k28.K_of_M (k28_mkM w 0 (fun _ => True) p), fun i u hu => ?_⟩⟩⟩
  rw [List.getElem?_take] at hj
  split at hj
  · obtain ⟨hl, rfl⟩ := List.getElem?_eq_some_iff.1 hj
    have hc := arr_at h hl
    have hadd : ∀ q, (⟨g, 0, none⟩ : Addr).add q = ⟨g, q, none⟩ := fun q => by unfold Addr.add; split <;> simp_all
    rw [hadd]
    match i, hu with
    | 0, hu =>
      obtain rfl := Option.some.inj hu
      exact hc.1
    | 1, hu =>
      obtain rfl := Option.some.inj hu
      exact hc.2
  · cases hj
/-! ### line_At: function 10 -/
def line_At.f (k : Nat) (a0 : Int) (l1 : List (S28)) (a2_0 : Int) (a2_1 : Int) : Option (Int × Int × Int) := (line_ask.f k a0 (wrap64 ((l1.length : Int) - 1)) l1).bind fun t230 => (if t230 = 0 then ((octet_Of.f k a0 a2_0 a2_1).bind fun t231 => (if t231 = true then ((line_weights.f k a0 (wrap64 ((l1.length : Int) - 1)) a2_0 a2_1).bind fun ws => (if l1.length ≤ 9 then ((tower_Dot.f k a0 l1 (ws.take l1.length)).bind fun bt239 => (some (bt239.1, bt239.2, 0))) else (none))) else (some (0, 0, 5)))) else (some (0, 0, t230)))
theorem line_At.mono : ∀ a0 a1 a2 a3 k, LeO (line_At.f k a0 a1 a2 a3) (line_At.f (k + 1) a0 a1 a2 a3) := by
 intro a0 a1 a2 a3 k
 unfold line_At.f
 repeat' first
   | (with_reducible exact line_ask.mono _ _ _ _)
   | (with_reducible exact line_weights.mono _ _ _ _ _)
   | (with_reducible exact octet_Of.mono _ _ _ _)
   | (with_reducible exact tower_Dot.mono _ _ _ _)
   | (with_reducible exact LeO.refl _)
   | (with_reducible exact LeO.none _)
   | (with_reducible refine LeO.ite ?_ ?_)
   | (with_reducible refine LeO.bind ?_ (fun _ => ?_))
   | exact line_ask.mono _ _ _ _
   | exact line_weights.mono _ _ _ _ _
   | exact octet_Of.mono _ _ _ _
   | exact tower_Dot.mono _ _ _ _
   | exact LeO.none _
   | refine LeO.ite ?_ ?_
   | refine LeO.bind ?_ (fun _ => ?_)
set_option maxHeartbeats 8000000 in
set_option maxRecDepth 100000 in
theorem line_At.calls (k : Nat) (a0 : Int) (A1 : Option Addr) (c1 : Nat) (l1 : List (S28)) (a2_0 : Int) (a2_1 : Int) (r1 : Int) (r2 : Int) (r3 : Int) (w : World) (hr1 : Kd.C k28 w A1 l1.length l1) (hc1 : l1.length ≤ c1) (h : line_At.f k a0 l1 a2_0 a2_1 = some (r1, r2, r3)) :
  Calls Try.prog 10 #[.int .i64 a0, .slice A1 l1.length c1, .agg #[.int .u64 a2_0, .int .u64 a2_1]] w fun e w' => e = .returned (.tuple #[.agg #[.int .u64 r1, .int .u64 r2], .int .i64 r3]) ∧ Below w.heap.size w w' := by
 have hu28 := Try.underlying28
 have HR1 := Aside0.mk hr1
 have HC1 := Aside0.mk hc1
 clear hr1 hc1
 have HB := Aside0.mk (Below.refl w.heap.size w)
 have H : ((line_ask.f k a0 (wrap64 ((l1.length : Int) - 1)) l1).bind fun t230 => (if t230 = 0 then ((octet_Of.f k a0 a2_0 a2_1).bind fun t231 => (if t231 = true then ((line_weights.f k a0 (wrap64 ((l1.length : Int) - 1)) a2_0 a2_1).bind fun ws => (if l1.length ≤ 9 then ((tower_Dot.f k a0 l1 (ws.take l1.length)).bind fun bt239 => (some (bt239.1, bt239.2, 0))) else (none))) else (some (0, 0, 5)))) else (some (0, 0, t230)))) = some (r1, r2, r3) := h
 clear h
 replace H := Option.bind_eq_some_iff.mp H
 obtain ⟨t230, A40, H⟩ := H
 replace H : (if t230 = 0 then ((octet_Of.f k a0 a2_0 a2_1).bind fun t231 => (if t231 = true then ((line_weights.f k a0 (wrap64 ((l1.length : Int) - 1)) a2_0 a2_1).bind fun ws => (if l1.length ≤ 9 then ((tower_Dot.f k a0 l1 (ws.take l1.length)).bind fun bt239 => (some (bt239.1, bt239.2, 0))) else (none))) else (some (0, 0, 5)))) else (some (0, 0, t230))) = some (r1, r2, r3) := H
 have A4 := Aside0.mk A40
 clear A40
 by_cases c5 : t230 = 0
 ·rw [if_pos c5] at H
  have c5b0 : (t230 == 0) = true := beq_iff_eq.mpr c5
  have c5b1 : (t230 != 0) = false := bne_eq_false_iff_eq.mpr c5
  clear c5
  replace H := Option.bind_eq_some_iff.mp H
  obtain ⟨t231, A60, H⟩ := H
  replace H : (if t231 = true then ((line_weights.f k a0 (wrap64 ((l1.length : Int) - 1)) a2_0 a2_1).bind fun ws => (if l1.length ≤ 9 then ((tower_Dot.f k a0 l1 (ws.take l1.length)).bind fun bt239 => (some (bt239.1, bt239.2, 0))) else (none))) else (some (0, 0, 5))) = some (r1, r2, r3) := H
  have A6 := Aside0.mk A60
  clear A60
  by_cases c7 : t231 = true
  ·subst c7
   have H1 : ((line_weights.f k a0 (wrap64 ((l1.length : Int) - 1)) a2_0 a2_1).bind fun ws => (if l1.length ≤ 9 then ((tower_Dot.f k a0 l1 (ws.take l1.length)).bind fun bt239 => (some (bt239.1, bt239.2, 0))) else (none))) = some (r1, r2, r3) := by rw [if_pos rfl] at H; exact H
   clear H
   have H := H1
   clear H1
   replace H := Option.bind_eq_some_iff.mp H
   obtain ⟨ws, A80, H⟩ := H
   replace H : (if l1.length ≤ 9 then ((tower_Dot.f k a0 l1 (ws.take l1.length)).bind fun bt239 => (some (bt239.1, bt239.2, 0))) else (none)) = some (r1, r2, r3) := H
   have A8 := Aside0.mk A80
   clear A80
   by_cases c9 : l1.length ≤ 9
   ·rw [if_pos c9] at H
    ·skip
     have H9 := Aside0.mk c9
     have p9 := eq_true (show (0 : Int) ≤ (l1.length : Int) by omega)
     have q9 := eq_true (show (l1.length : Int) ≤ 9 by omega)
     have p9b : decide ((0 : Int) ≤ (l1.length : Int)) = true := decide_eq_true (by omega)
     have q9b : decide ((l1.length : Int) ≤ 9) = true := decide_eq_true (by omega)
     clear c9
     obtain ⟨y235, hy235⟩ : ∃ y_ : List (S28), y_ = ws.take l1.length := ⟨_, rfl⟩
     rw [← hy235] at H
     have Ny235 := Aside0.mk hy235
     clear hy235
     replace H := Option.bind_eq_some_iff.mp H
     obtain ⟨⟨t239, t240⟩, A110, H⟩ := H
     replace H : (some (t239, t240, 0)) = some (r1, r2, r3) := H
     have A11 := Aside0.mk A110
     clear A110
     simp only [Option.some.injEq, Prod.mk.injEq] at H
     obtain ⟨rfl, rfl, rfl⟩ := H
     go_enter Try.func10, Try.ntmps10
     go_wp2_with (first | ((with_reducible refine gate_dst (N := 5) rfl ?_); refine box_event ?hg (N := 5) ?hd (cs := #[.int .u64 a2_0, .int .u64 a2_1]) (t := 28) ?hr ?_; (case hd => rfl); (case hg => rfl); (case hr => first | (go_simp; done) | (go_simp; rfl)); intro gb228 hg w12 hbox hb; have BK228 := Aside0.mk hbox; have GW228 := ge hg HB; have GE228 := ge hg HB; replace HB := bh HB hb; clear hb hbox hg) | ((with_reducible refine gate_dst (N := 6) rfl ?_); refine box_event ?hg (N := 6) ?hd (cs := #[.int .u64 0, .int .u64 0]) (t := 28) ?hr ?_; (case hd => rfl); (case hg => rfl); (case hr => first | (go_simp; done) | (go_simp; rfl)); intro gb229 hg w13 hbox hb; have BK229 := Aside0.mk hbox; have GW229 := ge hg HB; have GE229 := ge hg HB; have NB228_229 := nl hg BK228; have NB229_228 := ng hg BK228; replace BK228 := bb BK228 hb; replace HB := bh HB hb; clear hb hbox hg) | ((with_reducible refine gate_callee (f := 25) rfl ?_); refine goesL_ (some 15) rfl rfl Try.func25 (by kernel_rfl) rfl #[.int .i64 a0, .int .i64 (wrap64 ((l1.length : Int) - 1)), .slice A1 l1.length c1] rfl (by (try simp only [List.map_toArray, List.map_cons, List.map_nil]); first | done | rfl | (simp only [List.length_drop, List.length_take]; rfl)) ?_; (with_reducible refine (line_ask.calls k a0 (wrap64 ((l1.length : Int) - 1)) _ _ l1 t230 _ ?side1 ?side2 A4.out).mono ?_); (case side1 => repeat (first | exact (Kd.C_below HR1.out HB.out) | (with_reducible refine Kd.C_alloc ?_ _) | (with_reducible refine Kd.C_drewN ?_ _) | (with_reducible refine Kd.C_drew ?_))); (case side2 => exact HC1.out); rintro e w14 ⟨rfl, hb⟩; refine ⟨_, rfl, ?_⟩; replace BK228 := bb BK228 hb; replace BK229 := bb BK229 hb; replace HB := bh HB hb; (try clear hb); (try clear hb2); (try clear hk); (try clear hi); have hnb15 := NB228_229.out; have hnc15 := NB229_228.out; obtain ⟨hcz16_0, hcz16_1⟩ := zc2 BK228; obtain ⟨hfz16_0, hfz16_1⟩ := zf2 BK228) | ((with_reducible refine gate_callee (f := 26) rfl ?_); refine goesL_ (some 22) rfl rfl Try.func26 (by kernel_rfl) rfl #[.int .i64 a0, .agg #[.int .u64 a2_0, .int .u64 a2_1]] rfl (by (try simp only [List.map_toArray, List.map_cons, List.map_nil]); first | done | rfl | (simp only [List.length_drop, List.length_take]; rfl)) ?_; (with_reducible refine (octet_Of.calls k a0 a2_0 a2_1 true _ A6.out).mono ?_); rintro e w17 ⟨rfl, hb⟩; refine ⟨_, rfl, ?_⟩; replace BK228 := bb BK228 hb; replace BK229 := bb BK229 hb; replace HB := bh HB hb; (try clear hb); (try clear hb2); (try clear hk); (try clear hi); obtain ⟨hcz18_0, hcz18_1⟩ := zc2 BK228; obtain ⟨hfz18_0, hfz18_1⟩ := zf2 BK228) | ((with_reducible refine gate_callee (f := 27) rfl ?_); refine goesL_ (some 30) rfl rfl Try.func27 (by kernel_rfl) rfl #[.int .i64 a0, .int .i64 (wrap64 ((l1.length : Int) - 1)), .agg #[.int .u64 a2_0, .int .u64 a2_1]] rfl (by (try simp only [List.map_toArray, List.map_cons, List.map_nil]); first | done | rfl | (simp only [List.length_drop, List.length_take]; rfl)) ?_; (with_reducible refine (line_weights.calls k a0 (wrap64 ((l1.length : Int) - 1)) a2_0 a2_1 ws _ A8.out).mono ?_); rintro e w19 ⟨rfl, hlen, hb⟩; refine ⟨_, rfl, ?_⟩; have HL := Aside0.mk hlen; clear hlen; replace BK228 := bb BK228 hb; replace BK229 := bb BK229 hb; replace HB := bh HB hb; (try clear hb); (try clear hb2); (try clear hk); (try clear hi)) | ((with_reducible refine gate_dst (N := 9) rfl ?_); refine box_event ?hg (N := 9) ?hd (cs := #[.int .u64 0, .int .u64 0, .int .u64 0, .int .u64 0, .int .u64 0, .int .u64 0, .int .u64 0, .int .u64 0, .int .u64 0, .int .u64 0, .int .u64 0, .int .u64 0, .int .u64 0, .int .u64 0, .int .u64 0, .int .u64 0, .int .u64 0, .int .u64 0]) (t := 58) ?hr ?_; (case hd => rfl); (case hg => rfl); (case hr => first | (go_simp; done) | (go_simp; rfl)); intro gb234 hg w20 hbox hb; have BK234 := Aside0.mk hbox; have GW234 := ge hg HB; have GE234 := ge hg HB; have NB228_234 := nl hg BK228; have NB234_228 := ng hg BK228; have NB229_234 := nl hg BK229; have NB234_229 := ng hg BK229; replace BK228 := bb BK228 hb; replace BK229 := bb BK229 hb; replace HB := bh HB hb; clear hb hbox hg; have hnb21 := NB234_228.out; have hnc21 := NB228_234.out; have hnb22 := NB234_229.out; have hnc22 := NB229_234.out) | ((with_reducible refine gate_store (t := 58) (p := 9) rfl ?_); refine wpList_store_row rfl 58 (.tmp 9) (.tmp 30) rfl gb234 (arrC ws) (by rfl) (by rfl) 58 _ BK234.out (by rw [arrC_size, HL.out]; exact arr_info) (by rw [arrC_size, HL.out]; rfl) (arrC_one ws) ?_; obtain ⟨w24, hw⟩ : ∃ w_, w_ = w20.setRow gb234 (arrC ws) := ⟨_, rfl⟩; rw [← hw]; have n0_ : Aside0 (w24.heap[gb228]? = some (.cells #[.int .u64 a2_0, .int .u64 a2_1] 28 (0, 0))) := ⟨(by rw [hw]; exact (setRow_other _ _ _ _ NB228_234.out).trans BK228.out)⟩; have n1_ : Aside0 (w24.heap[gb229]? = some (.cells #[.int .u64 0, .int .u64 0] 28 (0, 0))) := ⟨(by rw [hw]; exact (setRow_other _ _ _ _ NB229_234.out).trans BK229.out)⟩; have n2_ : Aside0 (w24.heap[gb234]? = some (.cells (arrC ws) 58 (0, 0))) := ⟨(by rw [hw]; exact setRow_heap _ _ _ _ _ _ BK234.out)⟩; have n3_ : Aside0 (Below w.heap.size w w24) := ⟨(by rw [hw]; exact below_setRow HB.out GE234.out _)⟩; clear hw; clear BK228; clear BK229; clear BK234; clear HB; have BK228 := n0_; have BK229 := n1_; have BK234 := n2_; have HB := n3_; clear n0_ n1_ n2_ n3_; have HRw := Aside0.mk (arr_row (n := l1.length) BK234.out (by have := HL.out; have := H9.out; omega) (by have := H9.out; omega)); rw [← Ny235.out] at HRw; have KY := Aside0.mk (show y235.length = l1.length from (by rw [Ny235.out, List.length_take]; have := HL.out; have := H9.out; omega))) | ((with_reducible refine gate_callee (f := 28) rfl ?_); refine goesL_ (some 36) rfl rfl Try.func28 (by kernel_rfl) rfl #[.int .i64 a0, .slice A1 l1.length c1, .slice (some ⟨gb234, 0, none⟩) l1.length 9] rfl (by (try simp only [List.map_toArray, List.map_cons, List.map_nil]); first | done | rfl | (simp only [List.length_drop, List.length_take]; rfl)) ?_; have hcall := tower_Dot.calls k a0 A1 c1 l1 (some ⟨gb234, 0, none⟩) 9 y235 t239 t240 w24 (Kd.C_below HR1.out HB.out) HC1.out (by rw [KY.out]; exact HRw.out) (by rw [KY.out]; exact H9.out) A11.out; rw [KY.out] at hcall; refine hcall.mono ?_; clear hcall; rintro e w26 ⟨rfl, hb⟩; refine ⟨_, rfl, ?_⟩; replace BK228 := bb BK228 hb; replace BK229 := bb BK229 hb; replace BK234 := bb BK234 hb; replace HB := bh HB hb; (try clear hb); (try clear hb2); (try clear hk); (try clear hi); obtain ⟨hcz27_0, hcz27_1⟩ := zc2 BK229; obtain ⟨hfz27_0, hfz27_1⟩ := zf2 BK229))
     refine bodyPost_ret (results_ct rfl _ _ gb229 28 #[.int .u64 t239, .int .u64 t240] (0, 0) _ rfl (by (with_reducible repeat refine bl ?_); refine blk_put (cs := #[.int .u64 t239, .int .u64 0]) ?_ 1 _ rfl; (with_reducible repeat refine bl ?_); refine blk_put (cs := #[.int .u64 0, .int .u64 0]) ?_ 0 _ rfl; (with_reducible repeat refine bl ?_); exact BK229.out) Try.underlying28 rfl (by kernel_rfl)) rfl ?_
     exact ⟨by first | rfl | (simp [errW_none, errW_some] <;> rfl) | (simp [*, errW_none, errW_some] <;> rfl), bq HB.out⟩
   ·rw [if_neg c9] at H
    exact absurd H (by simp)
  ·replace c7 := Bool.eq_false_iff.mpr c7
   subst c7
   have H1 : (some (0, 0, 5)) = some (r1, r2, r3) := by rw [if_neg (show ¬ (false = true) by decide)] at H; exact H
   clear H
   have H := H1
   clear H1
   simp only [Option.some.injEq, Prod.mk.injEq] at H
   obtain ⟨rfl, rfl, rfl⟩ := H
   go_enter Try.func10, Try.ntmps10
   go_wp2_with (first | ((with_reducible refine gate_dst (N := 5) rfl ?_); refine box_event ?hg (N := 5) ?hd (cs := #[.int .u64 a2_0, .int .u64 a2_1]) (t := 28) ?hr ?_; (case hd => rfl); (case hg => rfl); (case hr => first | (go_simp; done) | (go_simp; rfl)); intro gb228 hg w28 hbox hb; have BK228 := Aside0.mk hbox; have GW228 := ge hg HB; have GE228 := ge hg HB; replace HB := bh HB hb; clear hb hbox hg) | ((with_reducible refine gate_dst (N := 6) rfl ?_); refine box_event ?hg (N := 6) ?hd (cs := #[.int .u64 0, .int .u64 0]) (t := 28) ?hr ?_; (case hd => rfl); (case hg => rfl); (case hr => first | (go_simp; done) | (go_simp; rfl)); intro gb229 hg w29 hbox hb; have BK229 := Aside0.mk hbox; have GW229 := ge hg HB; have GE229 := ge hg HB; have NB228_229 := nl hg BK228; have NB229_228 := ng hg BK228; replace BK228 := bb BK228 hb; replace HB := bh HB hb; clear hb hbox hg) | ((with_reducible refine gate_callee (f := 25) rfl ?_); refine goesL_ (some 15) rfl rfl Try.func25 (by kernel_rfl) rfl #[.int .i64 a0, .int .i64 (wrap64 ((l1.length : Int) - 1)), .slice A1 l1.length c1] rfl (by (try simp only [List.map_toArray, List.map_cons, List.map_nil]); first | done | rfl | (simp only [List.length_drop, List.length_take]; rfl)) ?_; (with_reducible refine (line_ask.calls k a0 (wrap64 ((l1.length : Int) - 1)) _ _ l1 t230 _ ?side1 ?side2 A4.out).mono ?_); (case side1 => repeat (first | exact (Kd.C_below HR1.out HB.out) | (with_reducible refine Kd.C_alloc ?_ _) | (with_reducible refine Kd.C_drewN ?_ _) | (with_reducible refine Kd.C_drew ?_))); (case side2 => exact HC1.out); rintro e w30 ⟨rfl, hb⟩; refine ⟨_, rfl, ?_⟩; replace BK228 := bb BK228 hb; replace BK229 := bb BK229 hb; replace HB := bh HB hb; (try clear hb); (try clear hb2); (try clear hk); (try clear hi); have hnb31 := NB228_229.out; have hnc31 := NB229_228.out; obtain ⟨hcz32_0, hcz32_1⟩ := zc2 BK228; obtain ⟨hfz32_0, hfz32_1⟩ := zf2 BK228) | ((with_reducible refine gate_callee (f := 26) rfl ?_); refine goesL_ (some 22) rfl rfl Try.func26 (by kernel_rfl) rfl #[.int .i64 a0, .agg #[.int .u64 a2_0, .int .u64 a2_1]] rfl (by (try simp only [List.map_toArray, List.map_cons, List.map_nil]); first | done | rfl | (simp only [List.length_drop, List.length_take]; rfl)) ?_; (with_reducible refine (octet_Of.calls k a0 a2_0 a2_1 false _ A6.out).mono ?_); rintro e w33 ⟨rfl, hb⟩; refine ⟨_, rfl, ?_⟩; replace BK228 := bb BK228 hb; replace BK229 := bb BK229 hb; replace HB := bh HB hb; (try clear hb); (try clear hb2); (try clear hk); (try clear hi); obtain ⟨hcz34_0, hcz34_1⟩ := zc2 BK229; obtain ⟨hfz34_0, hfz34_1⟩ := zf2 BK229))
   refine bodyPost_ret (results_ct rfl _ _ gb229 28 #[.int .u64 0, .int .u64 0] (0, 0) _ rfl (by (with_reducible repeat refine bl ?_); refine blk_put (cs := #[.int .u64 0, .int .u64 0]) ?_ 1 _ rfl; (with_reducible repeat refine bl ?_); refine blk_put (cs := #[.int .u64 0, .int .u64 0]) ?_ 0 _ rfl; (with_reducible repeat refine bl ?_); exact BK229.out) Try.underlying28 rfl (by kernel_rfl)) rfl ?_
   exact ⟨by first | rfl | (simp [errW_none, errW_some] <;> rfl) | (simp [*, errW_none, errW_some] <;> rfl), bq HB.out⟩
 ·rw [if_neg c5] at H
  have c5b0 : (t230 == 0) = false := beq_eq_false_iff_ne.mpr c5
  have c5b1 : (t230 != 0) = true := bne_iff_ne.mpr c5
  simp only [Option.some.injEq, Prod.mk.injEq] at H
  obtain ⟨rfl, rfl, rfl⟩ := H
  go_enter Try.func10, Try.ntmps10
  go_wp2_with (first | ((with_reducible refine gate_dst (N := 5) rfl ?_); refine box_event ?hg (N := 5) ?hd (cs := #[.int .u64 a2_0, .int .u64 a2_1]) (t := 28) ?hr ?_; (case hd => rfl); (case hg => rfl); (case hr => first | (go_simp; done) | (go_simp; rfl)); intro gb228 hg w35 hbox hb; have BK228 := Aside0.mk hbox; have GW228 := ge hg HB; have GE228 := ge hg HB; replace HB := bh HB hb; clear hb hbox hg) | ((with_reducible refine gate_dst (N := 6) rfl ?_); refine box_event ?hg (N := 6) ?hd (cs := #[.int .u64 0, .int .u64 0]) (t := 28) ?hr ?_; (case hd => rfl); (case hg => rfl); (case hr => first | (go_simp; done) | (go_simp; rfl)); intro gb229 hg w36 hbox hb; have BK229 := Aside0.mk hbox; have GW229 := ge hg HB; have GE229 := ge hg HB; have NB228_229 := nl hg BK228; have NB229_228 := ng hg BK228; replace BK228 := bb BK228 hb; replace HB := bh HB hb; clear hb hbox hg) | ((with_reducible refine gate_callee (f := 25) rfl ?_); refine goesL_ (some 15) rfl rfl Try.func25 (by kernel_rfl) rfl #[.int .i64 a0, .int .i64 (wrap64 ((l1.length : Int) - 1)), .slice A1 l1.length c1] rfl (by (try simp only [List.map_toArray, List.map_cons, List.map_nil]); first | done | rfl | (simp only [List.length_drop, List.length_take]; rfl)) ?_; (with_reducible refine (line_ask.calls k a0 (wrap64 ((l1.length : Int) - 1)) _ _ l1 t230 _ ?side1 ?side2 A4.out).mono ?_); (case side1 => repeat (first | exact (Kd.C_below HR1.out HB.out) | (with_reducible refine Kd.C_alloc ?_ _) | (with_reducible refine Kd.C_drewN ?_ _) | (with_reducible refine Kd.C_drew ?_))); (case side2 => exact HC1.out); rintro e w37 ⟨rfl, hb⟩; refine ⟨_, rfl, ?_⟩; replace BK228 := bb BK228 hb; replace BK229 := bb BK229 hb; replace HB := bh HB hb; (try clear hb); (try clear hb2); (try clear hk); (try clear hi); have hnb38 := NB229_228.out; have hnc38 := NB228_229.out; obtain ⟨hcz39_0, hcz39_1⟩ := zc2 BK229; obtain ⟨hfz39_0, hfz39_1⟩ := zf2 BK229))
  refine bodyPost_ret (results_ct rfl _ _ gb229 28 #[.int .u64 0, .int .u64 0] (0, 0) _ rfl (by (with_reducible repeat refine bl ?_); refine blk_put (cs := #[.int .u64 0, .int .u64 0]) ?_ 1 _ rfl; (with_reducible repeat refine bl ?_); refine blk_put (cs := #[.int .u64 0, .int .u64 0]) ?_ 0 _ rfl; (with_reducible repeat refine bl ?_); exact BK229.out) Try.underlying28 rfl (by kernel_rfl)) rfl ?_
  exact ⟨by first | rfl | (simp [errW_none, errW_some] <;> rfl) | (simp [*, errW_none, errW_some] <;> rfl), bq HB.out⟩
end Go.Proofs.Ythnaalocgoeddaa.P
