/- Written by a program of this session: functions that the law reaches, as Lean functions, and that the code comes to their answers. Conditions: those that each theorem names. -/
import Derived.Test.YthnaalocgoeddaaPx0
import Derived.Test.YthnaalocgoeddaaPx3
import Derived.Test.YthnaalocgoeddaaPx9
namespace Go.Proofs.Ythnaalocgoeddaa.P
open Go.RowKit Go.Proofs.YthnaalocgoeddaaX Go.Proofs.YthnaalocgoeddaaW.PrintWords Go.Proofs.YthnaalocgoeddaaW.PrintLast Go.Proofs.YthnaalocgoeddaaW.PrintMore
attribute [local go_sem] max2_int min2_int max_two min_two max_three min_three max_four min_four   -- for this text's walks alone
set_option linter.unusedVariables false
set_option linter.unusedSimpArgs false

/-! ### steepleref02_Product: function 35 -/
mutual
def steepleref02_Product.l0 : Nat → Int → Int → Int → Int → Int → Int → Int → Option (Int × Int)
 | 0, _, _, _, _, _, _, _ => none
 | k + 1, x6, x286000, x286001, x287000, x287001, x289000, x289001 => if x6 < 128 then ((steepleref02_Has.f k x287000 x287001 x6).bind fun t289 => (if t289 = true then (steepleref02_Product.l1 k x6 0 x286000 x286001 x287000 x287001 x289000 x289001 x286000 x286001) else (steepleref02_Product.l0 k (wrap64 (x6 + 1)) x286000 x286001 x287000 x287001 x289000 x289001))) else (some (x289000, x289001))
def steepleref02_Product.l1 : Nat → Int → Int → Int → Int → Int → Int → Int → Int → Int → Int → Option (Int × Int)
 | 0, _, _, _, _, _, _, _, _, _, _ => none
 | k + 1, x6, x8, x286000, x286001, x287000, x287001, x289000, x289001, x291000, x291001 => if x8 < 7 then (if 0 ≤ (IntKind.u64.wrap (x8)) then (if (Go.bits .and .i64 (shr .i64 x6 (IntKind.u64.wrap (x8))) 1) = 1 then ((steepleref02_Times.f k x8 x291000 x291001).bind fun bt291 => (steepleref02_Product.l1 k x6 (wrap64 (x8 + 1)) x286000 x286001 x287000 x287001 x289000 x289001 bt291.1 bt291.2)) else (steepleref02_Product.l1 k x6 (wrap64 (x8 + 1)) x286000 x286001 x287000 x287001 x289000 x289001 x291000 x291001)) else (none)) else ((steepleref02_Add.f x289000 x289001 x291000 x291001).bind fun bt293 => (steepleref02_Product.l0 k (wrap64 (x6 + 1)) x286000 x286001 x287000 x287001 bt293.1 bt293.2))
end
def steepleref02_Product.f (k : Nat) (a0_0 : Int) (a0_1 : Int) (a1_0 : Int) (a1_1 : Int) : Option (Int × Int) := steepleref02_Product.l0 k 0 a0_0 a0_1 a1_0 a1_1 0 0
theorem steepleref02_Product.mono_l : ∀ k, (∀ y0 y1 y2 y3 y4 y5 y6, LeO (steepleref02_Product.l0 k y0 y1 y2 y3 y4 y5 y6) (steepleref02_Product.l0 (k + 1) y0 y1 y2 y3 y4 y5 y6)) ∧ (∀ y0 y1 y2 y3 y4 y5 y6 y7 y8 y9, LeO (steepleref02_Product.l1 k y0 y1 y2 y3 y4 y5 y6 y7 y8 y9) (steepleref02_Product.l1 (k + 1) y0 y1 y2 y3 y4 y5 y6 y7 y8 y9))
 | 0 => ⟨fun _ _ _ _ _ _ _ r h => by simp [steepleref02_Product.l0] at h, fun _ _ _ _ _ _ _ _ _ _ r h => by simp [steepleref02_Product.l1] at h⟩
 | k + 1 => by
  obtain ⟨ih0, ih1⟩ := steepleref02_Product.mono_l k
  refine ⟨?_, ?_⟩
  ·intro y0 y1 y2 y3 y4 y5 y6
   unfold steepleref02_Product.l0
   repeat' first
   | (with_reducible exact ih0 _ _ _ _ _ _ _)
   | (with_reducible exact ih1 _ _ _ _ _ _ _ _ _ _)
   | (with_reducible exact steepleref02_Has.mono _ _ _ _)
   | (with_reducible exact steepleref02_Times.mono _ _ _ _)
   | (with_reducible exact LeO.refl _)
   | (with_reducible exact LeO.none _)
   | (with_reducible refine LeO.ite ?_ ?_)
   | (with_reducible refine LeO.bind ?_ (fun _ => ?_))
   | exact ih0 _ _ _ _ _ _ _
   | exact ih1 _ _ _ _ _ _ _ _ _ _
   | exact steepleref02_Has.mono _ _ _ _
   | exact steepleref02_Times.mono _ _ _ _
   | exact LeO.none _
   | refine LeO.ite ?_ ?_
   | refine LeO.bind ?_ (fun _ => ?_)
  ·intro y0 y1 y2 y3 y4 y5 y6 y7 y8 y9
   unfold steepleref02_Product.l1
   repeat' first
   | (with_reducible exact ih0 _ _ _ _ _ _ _)
   | (with_reducible exact ih1 _ _ _ _ _ _ _ _ _ _)
   | (with_reducible exact steepleref02_Has.mono _ _ _ _)
   | (with_reducible exact steepleref02_Times.mono _ _ _ _)
   | (with_reducible exact LeO.refl _)
   | (with_reducible exact LeO.none _)
   | (with_reducible refine LeO.ite ?_ ?_)
   | (with_reducible refine LeO.bind ?_ (fun _ => ?_))
   | exact ih0 _ _ _ _ _ _ _
   | exact ih1 _ _ _ _ _ _ _ _ _ _
   | exact steepleref02_Has.mono _ _ _ _
   | exact steepleref02_Times.mono _ _ _ _
   | exact LeO.none _
   | refine LeO.ite ?_ ?_
   | refine LeO.bind ?_ (fun _ => ?_)
theorem steepleref02_Product.mono : ∀ a0 a1 a2 a3 k, LeO (steepleref02_Product.f k a0 a1 a2 a3) (steepleref02_Product.f (k + 1) a0 a1 a2 a3) := by
 intro a0 a1 a2 a3 k
 obtain ⟨ih0, ih1⟩ := steepleref02_Product.mono_l k
 unfold steepleref02_Product.f
 repeat' first
   | (with_reducible exact ih0 _ _ _ _ _ _ _)
   | (with_reducible exact ih1 _ _ _ _ _ _ _ _ _ _)
   | (with_reducible exact steepleref02_Has.mono _ _ _ _)
   | (with_reducible exact steepleref02_Times.mono _ _ _ _)
   | (with_reducible exact LeO.refl _)
   | (with_reducible exact LeO.none _)
   | (with_reducible refine LeO.ite ?_ ?_)
   | (with_reducible refine LeO.bind ?_ (fun _ => ?_))
   | exact ih0 _ _ _ _ _ _ _
   | exact ih1 _ _ _ _ _ _ _ _ _ _
   | exact steepleref02_Has.mono _ _ _ _
   | exact steepleref02_Times.mono _ _ _ _
   | exact LeO.none _
   | refine LeO.ite ?_ ?_
   | refine LeO.bind ?_ (fun _ => ?_)
set_option maxHeartbeats 8000000 in
set_option maxRecDepth 100000 in
theorem steepleref02_Product.calls (k : Nat) (a0_0 : Int) (a0_1 : Int) (a1_0 : Int) (a1_1 : Int) (r1 : Int) (r2 : Int) (w : World) (h : steepleref02_Product.f k a0_0 a0_1 a1_0 a1_1 = some (r1, r2)) :
  Calls Try.prog 35 #[.agg #[.int .u64 a0_0, .int .u64 a0_1], .agg #[.int .u64 a1_0, .int .u64 a1_1]] w fun e w' => e = .returned (.agg #[.int .u64 r1, .int .u64 r2]) ∧ Below w.heap.size w w' := by
 have hu37 := Try.underlying37
 have HB := Aside0.mk (Below.refl w.heap.size w)
 have H : (steepleref02_Product.l0 k 0 a0_0 a0_1 a1_0 a1_1 0 0) = some (r1, r2) := h
 clear h
 have H' := Aside0.mk H
 clear H
 go_enter Try.func35, Try.ntmps35
 go_wp2_with (first | ((with_reducible refine gate_dst (N := 2) rfl ?_); refine box_event ?hg (N := 2) ?hd (cs := #[.int .u64 a0_0, .int .u64 a0_1]) (t := 37) ?hr ?_; (case hd => rfl); (case hg => rfl); (case hr => first | (go_simp; done) | (go_simp; rfl)); intro gb285 hg w3 hbox hb; have BK285 := Aside0.mk hbox; have GW285 := ge hg HB; have GE285 := ge hg HB; replace HB := bh HB hb; clear hb hbox hg) | ((with_reducible refine gate_dst (N := 3) rfl ?_); refine box_event ?hg (N := 3) ?hd (cs := #[.int .u64 a1_0, .int .u64 a1_1]) (t := 37) ?hr ?_; (case hd => rfl); (case hg => rfl); (case hr => first | (go_simp; done) | (go_simp; rfl)); intro gb286 hg w4 hbox hb; have BK286 := Aside0.mk hbox; have GW286 := ge hg HB; have GE286 := ge hg HB; have NB285_286 := nl hg BK285; have NB286_285 := ng hg BK285; replace BK285 := bb BK285 hb; replace HB := bh HB hb; clear hb hbox hg) | ((with_reducible refine gate_dst (N := 4) rfl ?_); refine box_event ?hg (N := 4) ?hd (cs := #[.int .u64 0, .int .u64 0]) (t := 37) ?hr ?_; (case hd => rfl); (case hg => rfl); (case hr => first | (go_simp; done) | (go_simp; rfl)); intro gb287 hg w5 hbox hb; have BK287 := Aside0.mk hbox; have GW287 := ge hg HB; have GE287 := ge hg HB; have NB285_287 := nl hg BK285; have NB287_285 := ng hg BK285; have NB286_287 := nl hg BK286; have NB287_286 := ng hg BK286; replace BK285 := bb BK285 hb; replace BK286 := bb BK286 hb; replace HB := bh HB hb; clear hb hbox hg) | ((with_reducible refine gate_dst (N := 5) rfl ?_); refine box_event ?hg (N := 5) ?hd (cs := #[.int .u64 0, .int .u64 0]) (t := 37) ?hr ?_; (case hd => rfl); (case hg => rfl); (case hr => first | (go_simp; done) | (go_simp; rfl)); intro gb288 hg w6 hbox hb; have BK288 := Aside0.mk hbox; have GW288 := ge hg HB; have GE288 := ge hg HB; have NB285_288 := nl hg BK285; have NB288_285 := ng hg BK285; have NB286_288 := nl hg BK286; have NB288_286 := ng hg BK286; have NB287_288 := nl hg BK287; have NB288_287 := ng hg BK287; replace BK285 := bb BK285 hb; replace BK286 := bb BK286 hb; replace BK287 := bb BK287 hb; replace HB := bh HB hb; clear hb hbox hg))
 go_loopg [6] k (fun kq v6 w' => ∃ (x6_1 : Int) (x289000_1 : Int) (x289001_1 : Int), v6 = .int .i64 x6_1 ∧ Aside0 (steepleref02_Product.l0 kq x6_1 a0_0 a0_1 a1_0 a1_1 x289000_1 x289001_1 = some (r1, r2)) ∧ Aside0 (kq ≤ k) ∧ Aside0 (w'.heap[gb285]? = some (.cells #[.int .u64 a0_0, .int .u64 a0_1] 37 (0, 0))) ∧ Aside0 (w'.heap[gb286]? = some (.cells #[.int .u64 a1_0, .int .u64 a1_1] 37 (0, 0))) ∧ Aside0 (w'.heap[gb287]? = some (.cells #[.int .u64 0, .int .u64 0] 37 (0, 0))) ∧ Aside0 (w'.heap[gb288]? = some (.cells #[.int .u64 x289000_1, .int .u64 x289001_1] 37 (0, 0))) ∧ Aside0 (Below w.heap.size w w'))
 case atStart => exact ⟨(0), (0), (0), (by first | rfl | (simp; done) | (simp [*]; done)), H', ⟨Nat.le_refl _⟩, ⟨bk BK285.out⟩, ⟨bk BK286.out⟩, ⟨bk BK287.out⟩, ⟨bk BK288.out⟩, ⟨bq HB.out⟩⟩
 case round =>
  clear H'
  try clear p2
  try clear c3
  obtain ⟨x6_1, x289000_1, x289001_1, rfl, HA, HK1, BK285, BK286, BK287, BK288, HB⟩ := hrel
  cases gk with
  | zero => exact absurd HA.out (by simp [steepleref02_Product.l0])
  | succ k1 =>
   have H := HA.out
   clear HA
   simp only [steepleref02_Product.l0] at H
   by_cases c7 : x6_1 < 128
   ·rw [if_pos c7] at H
    have c7b0 : decide (x6_1 < 128) = true := decide_eq_true c7
    clear c7
    replace H := Option.bind_eq_some_iff.mp H
    obtain ⟨t289, A80, H⟩ := H
    replace H : (if t289 = true then (steepleref02_Product.l1 k1 x6_1 0 a0_0 a0_1 a1_0 a1_1 x289000_1 x289001_1 a0_0 a0_1) else (steepleref02_Product.l0 k1 (wrap64 (x6_1 + 1)) a0_0 a0_1 a1_0 a1_1 x289000_1 x289001_1)) = some (r1, r2) := H
    have A8 := Aside0.mk A80
    clear A80
    by_cases c9 : t289 = true
    ·subst c9
     have H1 : (steepleref02_Product.l1 k1 x6_1 0 a0_0 a0_1 a1_0 a1_1 x289000_1 x289001_1 a0_0 a0_1) = some (r1, r2) := by rw [if_pos rfl] at H; exact H
     clear H
     have H := H1
     clear H1
     have H' := Aside0.mk H
     clear H
     have hnb10 := NB286_285.out
     have hnc10 := NB285_286.out
     have hnb11 := NB286_287.out
     have hnc11 := NB287_286.out
     have hnb12 := NB286_288.out
     have hnc12 := NB288_286.out
     obtain ⟨hcz13_0, hcz13_1⟩ := zc2 BK286
     obtain ⟨hfz13_0, hfz13_1⟩ := zf2 BK286
     go_wp2_with (first | ((with_reducible refine gate_callee (f := 43) rfl ?_); refine goesL_ (some 15) rfl rfl Try.func43 (by kernel_rfl) rfl #[.agg #[.int .u64 a1_0, .int .u64 a1_1], .int .i64 x6_1] rfl (by (try simp only [List.map_toArray, List.map_cons, List.map_nil]); first | done | rfl | (simp only [List.length_drop, List.length_take]; rfl)) ?_; (with_reducible refine (steepleref02_Has.calls k1 a1_0 a1_1 x6_1 true _ A8.out).mono ?_); rintro e w14 ⟨rfl, hb⟩; refine ⟨_, rfl, ?_⟩; replace BK285 := bb BK285 hb; replace BK286 := bb BK286 hb; replace BK287 := bb BK287 hb; replace BK288 := bb BK288 hb; replace HB := bh HB hb; (try clear hb); (try clear hb2); (try clear hk); (try clear hi); have hnb15 := NB285_287.out; have hnc15 := NB287_285.out; have hnb16 := NB285_288.out; have hnc16 := NB288_285.out; obtain ⟨hcz17_0, hcz17_1⟩ := zc2 BK285; obtain ⟨hfz17_0, hfz17_1⟩ := zf2 BK285) | ((with_reducible refine gate_dst (N := 7) rfl ?_); refine box_event ?hg (N := 7) ?hd (cs := #[.int .u64 0, .int .u64 0]) (t := 37) ?hr ?_; (case hd => rfl); (case hg => rfl); (case hr => first | (go_simp; done) | (go_simp; rfl)); intro gb290 hg w18 hbox hb; have BK290 := Aside0.mk hbox; have GW290 := ge hg HB; have GE290 := ge hg HB; have NB285_290 := nl hg BK285; have NB290_285 := ng hg BK285; have NB286_290 := nl hg BK286; have NB290_286 := ng hg BK286; have NB287_290 := nl hg BK287; have NB290_287 := ng hg BK287; have NB288_290 := nl hg BK288; have NB290_288 := ng hg BK288; replace BK285 := bb BK285 hb; replace BK286 := bb BK286 hb; replace BK287 := bb BK287 hb; replace BK288 := bb BK288 hb; replace HB := bh HB hb; clear hb hbox hg; have hnb19 := NB290_285.out; have hnc19 := NB285_290.out; have hnb20 := NB290_286.out; have hnc20 := NB286_290.out; have hnb21 := NB290_287.out; have hnc21 := NB287_290.out; have hnb22 := NB290_288.out; have hnc22 := NB288_290.out; obtain ⟨hcz23_0, hcz23_1⟩ := zc2 BK290; obtain ⟨hfz23_0, hfz23_1⟩ := zf2 BK290))
     go_loopg [8] k1 (fun kq v8 w' => ∃ (x8_2 : Int) (x291000_2 : Int) (x291001_2 : Int), v8 = .int .i64 x8_2 ∧ Aside0 (steepleref02_Product.l1 kq x6_1 x8_2 a0_0 a0_1 a1_0 a1_1 x289000_1 x289001_1 x291000_2 x291001_2 = some (r1, r2)) ∧ Aside0 (kq ≤ k1) ∧ Aside0 (w'.heap[gb285]? = some (.cells #[.int .u64 a0_0, .int .u64 a0_1] 37 (0, 0))) ∧ Aside0 (w'.heap[gb286]? = some (.cells #[.int .u64 a1_0, .int .u64 a1_1] 37 (0, 0))) ∧ Aside0 (w'.heap[gb287]? = some (.cells #[.int .u64 0, .int .u64 0] 37 (0, 0))) ∧ Aside0 (w'.heap[gb288]? = some (.cells #[.int .u64 x289000_1, .int .u64 x289001_1] 37 (0, 0))) ∧ Aside0 (w'.heap[gb290]? = some (.cells #[.int .u64 x291000_2, .int .u64 x291001_2] 37 (0, 0))) ∧ Aside0 (Below w.heap.size w w'))
     case atStart => exact ⟨(0), (a0_0), (a0_1), (by first | rfl | (simp; done) | (simp [*]; done)), H', ⟨Nat.le_refl _⟩, ⟨by (with_reducible repeat refine bl ?_); refine blk_far ?_ NB285_290.out _; (with_reducible repeat refine bl ?_); refine blk_far ?_ NB285_290.out _; (with_reducible repeat refine bl ?_); exact BK285.out⟩, ⟨by (with_reducible repeat refine bl ?_); refine blk_far ?_ NB286_290.out _; (with_reducible repeat refine bl ?_); refine blk_far ?_ NB286_290.out _; (with_reducible repeat refine bl ?_); exact BK286.out⟩, ⟨by (with_reducible repeat refine bl ?_); refine blk_far ?_ NB287_290.out _; (with_reducible repeat refine bl ?_); refine blk_far ?_ NB287_290.out _; (with_reducible repeat refine bl ?_); exact BK287.out⟩, ⟨by (with_reducible repeat refine bl ?_); refine blk_far ?_ NB288_290.out _; (with_reducible repeat refine bl ?_); refine blk_far ?_ NB288_290.out _; (with_reducible repeat refine bl ?_); exact BK288.out⟩, ⟨by (with_reducible repeat refine bl ?_); refine blk_put (cs := #[.int .u64 a0_0, .int .u64 0]) ?_ 1 _ rfl; (with_reducible repeat refine bl ?_); refine blk_put (cs := #[.int .u64 0, .int .u64 0]) ?_ 0 _ rfl; (with_reducible repeat refine bl ?_); exact BK290.out⟩, ⟨bq HB.out⟩⟩
     case round =>
      clear H'
      try clear c1
      try clear c2
      try clear p2
      try clear c3
      try clear c4
      try clear p6
      try clear c7
      try clear c7b0
      try clear c9
      try clear c10
      try clear c11
      try clear c12
      try clear c15
      try clear c16
      try clear c19
      try clear c20
      try clear c21
      try clear c22
      try clear hcz13_0
      try clear hcz13_1
      try clear hcz17_0
      try clear hcz17_1
      try clear hcz23_0
      try clear hcz23_1
      try clear hfz13_0
      try clear hfz13_1
      try clear hfz17_0
      try clear hfz17_1
      try clear hfz23_0
      try clear hfz23_1
      try clear p2
      obtain ⟨x8_2, x291000_2, x291001_2, rfl, HA, HK2, BK285, BK286, BK287, BK288, BK290, HB⟩ := hrel
      cases gk with
      | zero => exact absurd HA.out (by simp [steepleref02_Product.l1])
      | succ k2 =>
       have H := HA.out
       clear HA
       simp only [steepleref02_Product.l1] at H
       by_cases c24 : x8_2 < 7
       ·rw [if_pos c24] at H
        have c24b0 : decide (x8_2 < 7) = true := decide_eq_true c24
        clear c24
        obtain ⟨ji25, hji25⟩ : ∃ j_ : Int, (IntKind.u64.wrap (x8_2)) = j_ := ⟨_, rfl⟩
        replace H : (if 0 ≤ (ji25) then (if (Go.bits .and .i64 (shr .i64 x6_1 (ji25)) 1) = 1 then ((steepleref02_Times.f k2 x8_2 x291000_2 x291001_2).bind fun bt291 => (steepleref02_Product.l1 k2 x6_1 (wrap64 (x8_2 + 1)) a0_0 a0_1 a1_0 a1_1 x289000_1 x289001_1 bt291.1 bt291.2)) else (steepleref02_Product.l1 k2 x6_1 (wrap64 (x8_2 + 1)) a0_0 a0_1 a1_0 a1_1 x289000_1 x289001_1 x291000_2 x291001_2)) else (none)) = some (r1, r2) := by first | (rw [hji25] at H; exact H) | (simp only [hji25] at H ⊢; exact H)
        by_cases c26 : 0 ≤ (ji25)
        ·rw [if_pos c26] at H
         have c26b0 := eq_true c26
         have c26b1 : decide (0 ≤ (ji25)) = true := decide_eq_true c26
         clear c26
         obtain ⟨ji27, hji27⟩ : ∃ j_ : Int, (shr .i64 x6_1 (ji25)) = j_ := ⟨_, rfl⟩
         replace H : (if (Go.bits .and .i64 (ji27) 1) = 1 then ((steepleref02_Times.f k2 x8_2 x291000_2 x291001_2).bind fun bt291 => (steepleref02_Product.l1 k2 x6_1 (wrap64 (x8_2 + 1)) a0_0 a0_1 a1_0 a1_1 x289000_1 x289001_1 bt291.1 bt291.2)) else (steepleref02_Product.l1 k2 x6_1 (wrap64 (x8_2 + 1)) a0_0 a0_1 a1_0 a1_1 x289000_1 x289001_1 x291000_2 x291001_2)) = some (r1, r2) := by first | (rw [hji27] at H; exact H) | (simp only [hji27] at H ⊢; exact H)
         have hji27_ : (x6_1 / 2 ^ min (ji25).toNat 64) = ji27 := hji27
         have hji27z : (ji25) ≤ 64 → (x6_1 / 2 ^ (ji25).toNat) = ji27 := shr_small hji27
         by_cases c28 : (Go.bits .and .i64 (ji27) 1) = 1
         ·rw [if_pos c28] at H
          have c28b0 : ((Go.bits .and .i64 (ji27) 1) == 1) = true := beq_iff_eq.mpr c28
          have c28b1 : ((Go.bits .and .i64 (ji27) 1) != 1) = false := bne_eq_false_iff_eq.mpr c28
          clear c28
          replace H := Option.bind_eq_some_iff.mp H
          obtain ⟨⟨t291, t292⟩, A290, H⟩ := H
          replace H : (steepleref02_Product.l1 k2 x6_1 (wrap64 (x8_2 + 1)) a0_0 a0_1 a1_0 a1_1 x289000_1 x289001_1 t291 t292) = some (r1, r2) := H
          have A29 := Aside0.mk A290
          clear A290
          have H' := Aside0.mk H
          clear H
          have hnb30 := NB290_285.out
          have hnc30 := NB285_290.out
          have hnb31 := NB290_286.out
          have hnc31 := NB286_290.out
          have hnb32 := NB290_287.out
          have hnc32 := NB287_290.out
          have hnb33 := NB290_288.out
          have hnc33 := NB288_290.out
          obtain ⟨hcz34_0, hcz34_1⟩ := zc2 BK290
          obtain ⟨hfz34_0, hfz34_1⟩ := zf2 BK290
          go_wp2_with (first | ((with_reducible refine gate_callee (f := 44) rfl ?_); refine goesL_ (some 30) rfl rfl Try.func44 (by kernel_rfl) rfl #[.int .i64 x8_2, .agg #[.int .u64 x291000_2, .int .u64 x291001_2]] rfl (by (try simp only [List.map_toArray, List.map_cons, List.map_nil]); first | done | rfl | (simp only [List.length_drop, List.length_take]; rfl)) ?_; (with_reducible refine (steepleref02_Times.calls k2 x8_2 x291000_2 x291001_2 t291 t292 _ A29.out).mono ?_); rintro e w35 ⟨rfl, hb⟩; refine ⟨_, rfl, ?_⟩; replace BK285 := bb BK285 hb; replace BK286 := bb BK286 hb; replace BK287 := bb BK287 hb; replace BK288 := bb BK288 hb; replace BK290 := bb BK290 hb; replace HB := bh HB hb; (try clear hb); (try clear hb2); (try clear hk); (try clear hi); obtain ⟨hcz36_0, hcz36_1⟩ := zc2 BK290; obtain ⟨hfz36_0, hfz36_1⟩ := zf2 BK290))
          go_roundg k2
          case measure => have := HK1.out; have := HK2.out; omega
          case rel => exact ⟨(wrap64 (x8_2 + 1)), (t291), (t292), (by first | rfl | (simp; done) | (simp [*]; done)), H', ⟨by have := HK1.out; have := HK2.out; omega⟩, ⟨by (with_reducible repeat refine bl ?_); refine blk_far ?_ NB285_290.out _; (with_reducible repeat refine bl ?_); refine blk_far ?_ NB285_290.out _; (with_reducible repeat refine bl ?_); exact BK285.out⟩, ⟨by (with_reducible repeat refine bl ?_); refine blk_far ?_ NB286_290.out _; (with_reducible repeat refine bl ?_); refine blk_far ?_ NB286_290.out _; (with_reducible repeat refine bl ?_); exact BK286.out⟩, ⟨by (with_reducible repeat refine bl ?_); refine blk_far ?_ NB287_290.out _; (with_reducible repeat refine bl ?_); refine blk_far ?_ NB287_290.out _; (with_reducible repeat refine bl ?_); exact BK287.out⟩, ⟨by (with_reducible repeat refine bl ?_); refine blk_far ?_ NB288_290.out _; (with_reducible repeat refine bl ?_); refine blk_far ?_ NB288_290.out _; (with_reducible repeat refine bl ?_); exact BK288.out⟩, ⟨by (with_reducible repeat refine bl ?_); refine blk_put (cs := #[.int .u64 t291, .int .u64 x291001_2]) ?_ 1 _ rfl; (with_reducible repeat refine bl ?_); refine blk_put (cs := #[.int .u64 x291000_2, .int .u64 x291001_2]) ?_ 0 _ rfl; (with_reducible repeat refine bl ?_); exact BK290.out⟩, ⟨bq HB.out⟩⟩
         ·rw [if_neg c28] at H
          have c28b0 : ((Go.bits .and .i64 (ji27) 1) == 1) = false := beq_eq_false_iff_ne.mpr c28
          have c28b1 : ((Go.bits .and .i64 (ji27) 1) != 1) = true := bne_iff_ne.mpr c28
          have H' := Aside0.mk H
          clear H
          go_wp2
          go_roundg k2
          case measure => have := HK1.out; have := HK2.out; omega
          case rel => exact ⟨(wrap64 (x8_2 + 1)), (x291000_2), (x291001_2), (by first | rfl | (simp; done) | (simp [*]; done)), H', ⟨by have := HK1.out; have := HK2.out; omega⟩, ⟨bk BK285.out⟩, ⟨bk BK286.out⟩, ⟨bk BK287.out⟩, ⟨bk BK288.out⟩, ⟨bk BK290.out⟩, ⟨bq HB.out⟩⟩
        ·rw [if_neg c26] at H
         exact absurd H (by simp)
       ·rw [if_neg c24] at H
        have c24b0 : decide (x8_2 < 7) = false := decide_eq_false c24
        clear c24
        replace H := Option.bind_eq_some_iff.mp H
        obtain ⟨⟨t293, t294⟩, A370, H⟩ := H
        replace H : (steepleref02_Product.l0 k2 (wrap64 (x6_1 + 1)) a0_0 a0_1 a1_0 a1_1 t293 t294) = some (r1, r2) := H
        have A37 := Aside0.mk A370
        clear A370
        have H' := Aside0.mk H
        clear H
        have hnb38 := NB288_285.out
        have hnc38 := NB285_288.out
        have hnb39 := NB288_286.out
        have hnc39 := NB286_288.out
        have hnb40 := NB288_287.out
        have hnc40 := NB287_288.out
        have hnb41 := NB288_290.out
        have hnc41 := NB290_288.out
        obtain ⟨hcz42_0, hcz42_1⟩ := zc2 BK288
        obtain ⟨hfz42_0, hfz42_1⟩ := zf2 BK288
        have hnb43 := NB290_285.out
        have hnc43 := NB285_290.out
        have hnb44 := NB290_286.out
        have hnc44 := NB286_290.out
        have hnb45 := NB290_287.out
        have hnc45 := NB287_290.out
        obtain ⟨hcz46_0, hcz46_1⟩ := zc2 BK290
        obtain ⟨hfz46_0, hfz46_1⟩ := zf2 BK290
        go_wp2_with (first | ((with_reducible refine gate_callee (f := 14) rfl ?_); refine goesL_ (some 33) rfl rfl Try.func14 (by kernel_rfl) rfl #[.agg #[.int .u64 x289000_1, .int .u64 x289001_1], .agg #[.int .u64 x291000_2, .int .u64 x291001_2]] rfl (by (try simp only [List.map_toArray, List.map_cons, List.map_nil]); first | done | rfl | (simp only [List.length_drop, List.length_take]; rfl)) ?_; (with_reducible refine (steepleref02_Add.calls x289000_1 x289001_1 x291000_2 x291001_2 t293 t294 _ A37.out).mono ?_); rintro e w47 ⟨rfl, hb⟩; refine ⟨_, rfl, ?_⟩; replace BK285 := bb BK285 hb; replace BK286 := bb BK286 hb; replace BK287 := bb BK287 hb; replace BK288 := bb BK288 hb; replace BK290 := bb BK290 hb; replace HB := bh HB hb; (try clear hb); (try clear hb2); (try clear hk); (try clear hi); obtain ⟨hcz48_0, hcz48_1⟩ := zc2 BK288; obtain ⟨hfz48_0, hfz48_1⟩ := zf2 BK288))
        go_roundg k2
        case measure => have := HK1.out; have := HK2.out; omega
        case rel => exact ⟨(wrap64 (x6_1 + 1)), (t293), (t294), (by first | rfl | (simp; done) | (simp [*]; done)), H', ⟨by have := HK1.out; have := HK2.out; omega⟩, ⟨by (with_reducible repeat refine bl ?_); refine blk_far ?_ NB285_288.out _; (with_reducible repeat refine bl ?_); refine blk_far ?_ NB285_288.out _; (with_reducible repeat refine bl ?_); exact BK285.out⟩, ⟨by (with_reducible repeat refine bl ?_); refine blk_far ?_ NB286_288.out _; (with_reducible repeat refine bl ?_); refine blk_far ?_ NB286_288.out _; (with_reducible repeat refine bl ?_); exact BK286.out⟩, ⟨by (with_reducible repeat refine bl ?_); refine blk_far ?_ NB287_288.out _; (with_reducible repeat refine bl ?_); refine blk_far ?_ NB287_288.out _; (with_reducible repeat refine bl ?_); exact BK287.out⟩, ⟨by (with_reducible repeat refine bl ?_); refine blk_put (cs := #[.int .u64 t293, .int .u64 x289001_1]) ?_ 1 _ rfl; (with_reducible repeat refine bl ?_); refine blk_put (cs := #[.int .u64 x289000_1, .int .u64 x289001_1]) ?_ 0 _ rfl; (with_reducible repeat refine bl ?_); exact BK288.out⟩, ⟨bq HB.out⟩⟩
    ·replace c9 := Bool.eq_false_iff.mpr c9
     subst c9
     have H1 : (steepleref02_Product.l0 k1 (wrap64 (x6_1 + 1)) a0_0 a0_1 a1_0 a1_1 x289000_1 x289001_1) = some (r1, r2) := by rw [if_neg (show ¬ (false = true) by decide)] at H; exact H
     clear H
     have H := H1
     clear H1
     have H' := Aside0.mk H
     clear H
     have hnb49 := NB286_285.out
     have hnc49 := NB285_286.out
     have hnb50 := NB286_287.out
     have hnc50 := NB287_286.out
     have hnb51 := NB286_288.out
     have hnc51 := NB288_286.out
     obtain ⟨hcz52_0, hcz52_1⟩ := zc2 BK286
     obtain ⟨hfz52_0, hfz52_1⟩ := zf2 BK286
     go_wp2_with (first | ((with_reducible refine gate_callee (f := 43) rfl ?_); refine goesL_ (some 15) rfl rfl Try.func43 (by kernel_rfl) rfl #[.agg #[.int .u64 a1_0, .int .u64 a1_1], .int .i64 x6_1] rfl (by (try simp only [List.map_toArray, List.map_cons, List.map_nil]); first | done | rfl | (simp only [List.length_drop, List.length_take]; rfl)) ?_; (with_reducible refine (steepleref02_Has.calls k1 a1_0 a1_1 x6_1 false _ A8.out).mono ?_); rintro e w53 ⟨rfl, hb⟩; refine ⟨_, rfl, ?_⟩; replace BK285 := bb BK285 hb; replace BK286 := bb BK286 hb; replace BK287 := bb BK287 hb; replace BK288 := bb BK288 hb; replace HB := bh HB hb; (try clear hb); (try clear hb2); (try clear hk); (try clear hi)))
     go_roundg k1
     case measure => have := HK1.out; omega
     case rel => exact ⟨(wrap64 (x6_1 + 1)), (x289000_1), (x289001_1), (by first | rfl | (simp; done) | (simp [*]; done)), H', ⟨by have := HK1.out; omega⟩, ⟨bk BK285.out⟩, ⟨bk BK286.out⟩, ⟨bk BK287.out⟩, ⟨bk BK288.out⟩, ⟨bq HB.out⟩⟩
   ·rw [if_neg c7] at H
    have c7b0 : decide (x6_1 < 128) = false := decide_eq_false c7
    clear c7
    simp only [Option.some.injEq, Prod.mk.injEq] at H
    obtain ⟨rfl, rfl⟩ := H
    have hnb54 := NB288_285.out
    have hnc54 := NB285_288.out
    have hnb55 := NB288_286.out
    have hnc55 := NB286_288.out
    have hnb56 := NB288_287.out
    have hnc56 := NB287_288.out
    obtain ⟨hcz57_0, hcz57_1⟩ := zc2 BK288
    obtain ⟨hfz57_0, hfz57_1⟩ := zf2 BK288
    have hnb58 := NB287_285.out
    have hnc58 := NB285_287.out
    have hnb59 := NB287_286.out
    have hnc59 := NB286_287.out
    obtain ⟨hcz60_0, hcz60_1⟩ := zc2 BK287
    obtain ⟨hfz60_0, hfz60_1⟩ := zf2 BK287
    go_wp2
    refine bodyPost_ret (results_cell_row rfl _ _ gb287 37 #[.int .u64 x289000_1, .int .u64 x289001_1] (0, 0) _ rfl (by (with_reducible repeat refine bl ?_); refine blk_put (cs := #[.int .u64 x289000_1, .int .u64 0]) ?_ 1 _ rfl; (with_reducible repeat refine bl ?_); refine blk_put (cs := #[.int .u64 0, .int .u64 0]) ?_ 0 _ rfl; (with_reducible repeat refine bl ?_); exact BK287.out) Try.underlying37 rfl (by kernel_rfl)) rfl ?_
    exact ⟨by first | rfl | (simp [errW_none, errW_some] <;> rfl) | (simp [*, errW_none, errW_some] <;> rfl), bq HB.out⟩

/-! ### steepleref02_Inv: function 36 -/
def steepleref02_Inv.l0 : Nat → Int → List Int → Int → Int → Int → Int → Int → Option (Int × Int)
 | 0, _, _, _, _, _, _, _ => none
 | k + 1, x0, x5, x8, x302000, x302001, x303000, x303001 => if 0 ≤ x0 then (if x0 < (x5.length : Int) then (if x8 < (rd x5 x0) then ((steepleref02_Product.f k x303000 x303001 x303000 x303001).bind fun bt304 => ((steepleref02_Product.f k x302000 x302001 bt304.1 bt304.2).bind fun bt306 => (steepleref02_Inv.l0 k x0 x5 (wrap64 (x8 + 1)) bt306.1 bt306.2 bt304.1 bt304.2))) else (some (x302000, x302001))) else (none)) else (none)
def steepleref02_Inv.f (k : Nat) (a0 : Int) (a1_0 : Int) (a1_1 : Int) : Option (Int × Int) := (steepleref01_Of.f k a0 a1_0 a1_1).bind fun t297 => (if t297 = true then (if a0 = 0 then (some (a1_0, a1_1)) else (steepleref02_Inv.l0 k a0 (([1, 2, 4, 8, 16, 32, 64, 128] : List Int)) 1 0 1 a1_0 a1_1)) else (some (0, 0)))
theorem steepleref02_Inv.mono_l : ∀ k, (∀ y0 y1 y2 y3 y4 y5 y6, LeO (steepleref02_Inv.l0 k y0 y1 y2 y3 y4 y5 y6) (steepleref02_Inv.l0 (k + 1) y0 y1 y2 y3 y4 y5 y6))
 | 0 => fun _ _ _ _ _ _ _ r h => by simp [steepleref02_Inv.l0] at h
 | k + 1 => by
  have ih0 := steepleref02_Inv.mono_l k
  ·intro y0 y1 y2 y3 y4 y5 y6
   unfold steepleref02_Inv.l0
   repeat' first
   | (with_reducible exact ih0 _ _ _ _ _ _ _)
   | (with_reducible exact steepleref01_Of.mono _ _ _ _)
   | (with_reducible exact steepleref02_Product.mono _ _ _ _ _)
   | (with_reducible exact LeO.refl _)
   | (with_reducible exact LeO.none _)
   | (with_reducible refine LeO.ite ?_ ?_)
   | (with_reducible refine LeO.bind ?_ (fun _ => ?_))
   | exact ih0 _ _ _ _ _ _ _
   | exact steepleref01_Of.mono _ _ _ _
   | exact steepleref02_Product.mono _ _ _ _ _
   | exact LeO.none _
   | refine LeO.ite ?_ ?_
   | refine LeO.bind ?_ (fun _ => ?_)
theorem steepleref02_Inv.mono : ∀ a0 a1 a2 k, LeO (steepleref02_Inv.f k a0 a1 a2) (steepleref02_Inv.f (k + 1) a0 a1 a2) := by
 intro a0 a1 a2 k
 have ih0 := steepleref02_Inv.mono_l k
 unfold steepleref02_Inv.f
 repeat' first
   | (with_reducible exact ih0 _ _ _ _ _ _ _)
   | (with_reducible exact steepleref01_Of.mono _ _ _ _)
   | (with_reducible exact steepleref02_Product.mono _ _ _ _ _)
   | (with_reducible exact LeO.refl _)
   | (with_reducible exact LeO.none _)
   | (with_reducible refine LeO.ite ?_ ?_)
   | (with_reducible refine LeO.bind ?_ (fun _ => ?_))
   | exact ih0 _ _ _ _ _ _ _
   | exact steepleref01_Of.mono _ _ _ _
   | exact steepleref02_Product.mono _ _ _ _ _
   | exact LeO.none _
   | refine LeO.ite ?_ ?_
   | refine LeO.bind ?_ (fun _ => ?_)
set_option maxHeartbeats 8000000 in
set_option maxRecDepth 100000 in
theorem steepleref02_Inv.calls (k : Nat) (a0 : Int) (a1_0 : Int) (a1_1 : Int) (r1 : Int) (r2 : Int) (w : World) (h : steepleref02_Inv.f k a0 a1_0 a1_1 = some (r1, r2)) :
  Calls Try.prog 36 #[.int .i64 a0, .agg #[.int .u64 a1_0, .int .u64 a1_1]] w fun e w' => e = .returned (.agg #[.int .u64 r1, .int .u64 r2]) ∧ Below w.heap.size w w' := by
 have hu37 := Try.underlying37
 have HB := Aside0.mk (Below.refl w.heap.size w)
 have H : ((steepleref01_Of.f k a0 a1_0 a1_1).bind fun t297 => (if t297 = true then (if a0 = 0 then (some (a1_0, a1_1)) else (steepleref02_Inv.l0 k a0 (([1, 2, 4, 8, 16, 32, 64, 128] : List Int)) 1 0 1 a1_0 a1_1)) else (some (0, 0)))) = some (r1, r2) := h
 clear h
 replace H := Option.bind_eq_some_iff.mp H
 obtain ⟨t297, A30, H⟩ := H
 replace H : (if t297 = true then (if a0 = 0 then (some (a1_0, a1_1)) else (steepleref02_Inv.l0 k a0 (([1, 2, 4, 8, 16, 32, 64, 128] : List Int)) 1 0 1 a1_0 a1_1)) else (some (0, 0))) = some (r1, r2) := H
 have A3 := Aside0.mk A30
 clear A30
 by_cases c4 : t297 = true
 ·subst c4
  have H1 : (if a0 = 0 then (some (a1_0, a1_1)) else (steepleref02_Inv.l0 k a0 (([1, 2, 4, 8, 16, 32, 64, 128] : List Int)) 1 0 1 a1_0 a1_1)) = some (r1, r2) := by rw [if_pos rfl] at H; exact H
  clear H
  have H := H1
  clear H1
  obtain ⟨y298, hy298⟩ : ∃ y_ : List Int, y_ = (([1, 2, 4, 8, 16, 32, 64, 128] : List Int)) := ⟨_, rfl⟩
  replace H : (if a0 = 0 then (some (a1_0, a1_1)) else (steepleref02_Inv.l0 k a0 y298 1 0 1 a1_0 a1_1)) = some (r1, r2) := by first | (rw [hy298]; with_reducible exact H) | (have H2_ := (Option.bind_some _ _).symm.trans H; rw [hy298]; with_reducible exact H2_) | (have H2_ := (Option.bind_some _ _).symm.trans H; with_reducible exact H2_) | with_reducible exact H | (rw [hy298]; exact H) | exact H
  have Ny298 := Aside0.mk hy298
  clear hy298
  by_cases c5 : a0 = 0
  ·rw [if_pos c5] at H
   have c5b0 : (a0 == 0) = true := beq_iff_eq.mpr c5
   have c5b1 : (a0 != 0) = false := bne_eq_false_iff_eq.mpr c5
   clear c5
   simp only [Option.some.injEq, Prod.mk.injEq] at H
   obtain ⟨rfl, rfl⟩ := H
   go_enter Try.func36, Try.ntmps36
   go_wp2_with (first | ((with_reducible refine gate_dst (N := 3) rfl ?_); refine box_event ?hg (N := 3) ?hd (cs := #[.int .u64 a1_0, .int .u64 a1_1]) (t := 37) ?hr ?_; (case hd => rfl); (case hg => rfl); (case hr => first | (go_simp; done) | (go_simp; rfl)); intro gb295 hg w6 hbox hb; have BK295 := Aside0.mk hbox; have GW295 := ge hg HB; have GE295 := ge hg HB; replace HB := bh HB hb; clear hb hbox hg) | ((with_reducible refine gate_dst (N := 4) rfl ?_); refine box_event ?hg (N := 4) ?hd (cs := #[.int .u64 0, .int .u64 0]) (t := 37) ?hr ?_; (case hd => rfl); (case hg => rfl); (case hr => first | (go_simp; done) | (go_simp; rfl)); intro gb296 hg w7 hbox hb; have BK296 := Aside0.mk hbox; have GW296 := ge hg HB; have GE296 := ge hg HB; have NB295_296 := nl hg BK295; have NB296_295 := ng hg BK295; replace BK295 := bb BK295 hb; replace HB := bh HB hb; clear hb hbox hg; have hnb8 := NB295_296.out; have hnc8 := NB296_295.out; obtain ⟨hcz9_0, hcz9_1⟩ := zc2 BK295; obtain ⟨hfz9_0, hfz9_1⟩ := zf2 BK295) | ((with_reducible refine gate_callee (f := 11) rfl ?_); refine goesL_ (some 11) rfl rfl Try.func11 (by kernel_rfl) rfl #[.int .i64 a0, .agg #[.int .u64 a1_0, .int .u64 a1_1]] rfl (by (try simp only [List.map_toArray, List.map_cons, List.map_nil]); first | done | rfl | (simp only [List.length_drop, List.length_take]; rfl)) ?_; (with_reducible refine (steepleref01_Of.calls k a0 a1_0 a1_1 true _ A3.out).mono ?_); rintro e w10 ⟨rfl, hb⟩; refine ⟨_, rfl, ?_⟩; replace BK295 := bb BK295 hb; replace BK296 := bb BK296 hb; replace HB := bh HB hb; (try clear hb); (try clear hb2); (try clear hk); (try clear hi)) | ((with_reducible refine gate_dst (N := 14) rfl ?_); refine Kd.R_lit (Kd.int .i64) _ 3 ?hg (N := 14) ?hd (xs := ([1, 2, 4, 8, 16, 32, 64, 128] : List Int)) (inner := [.int .i64 1, .int .i64 2, .int .i64 4, .int .i64 8, .int .i64 16, .int .i64 32, .int .i64 64, .int .i64 128]) (ok := fun _ => True) (okp := fun _ => True) ?hr ?hp (fun _ hk => hk) trivial (Below.refl _ _) (Nat.le_refl _) (by simp) ?_; (case hd => rfl); (case hg => rfl); (case hr => first | (go_simp; done) | (go_simp; rfl)); (case hp => exact (Reps.one (show Kd.M (Kd.int .i64) _ _ _ 1 [.int .i64 1] from rfl) (Reps.one (show Kd.M (Kd.int .i64) _ _ _ 2 [.int .i64 2] from rfl) (Reps.one (show Kd.M (Kd.int .i64) _ _ _ 4 [.int .i64 4] from rfl) (Reps.one (show Kd.M (Kd.int .i64) _ _ _ 8 [.int .i64 8] from rfl) (Reps.one (show Kd.M (Kd.int .i64) _ _ _ 16 [.int .i64 16] from rfl) (Reps.one (show Kd.M (Kd.int .i64) _ _ _ 32 [.int .i64 32] from rfl) (Reps.one (show Kd.M (Kd.int .i64) _ _ _ 64 [.int .i64 64] from rfl) (Reps.one (show Kd.M (Kd.int .i64) _ _ _ 128 [.int .i64 128] from rfl) (Reps.none _ _)))))))))); intro v299 w11 ho12 hb hg_ hnew_; clear hg_ hnew_; (first | rw [← Ny298.out] at ho12 | (simp only [Int.reduceToNat] at ho12; rw [← Ny298.out] at ho12)); have HO300 := kw ho12 HB; replace BK295 := bb BK295 hb; replace BK296 := bb BK296 hb; replace HB := bh HB hb; clear hb ho12; obtain ⟨hcz13_0, hcz13_1⟩ := zc2 BK295; obtain ⟨hfz13_0, hfz13_1⟩ := zf2 BK295; obtain ⟨hcz14_0, hcz14_1⟩ := zc2 BK296; obtain ⟨hfz14_0, hfz14_1⟩ := zf2 BK296))
   refine bodyPost_ret (results_cell_row rfl _ _ gb296 37 #[.int .u64 a1_0, .int .u64 a1_1] (0, 0) _ rfl (by (with_reducible repeat refine bl ?_); refine blk_put (cs := #[.int .u64 a1_0, .int .u64 0]) ?_ 1 _ rfl; (with_reducible repeat refine bl ?_); refine blk_put (cs := #[.int .u64 0, .int .u64 0]) ?_ 0 _ rfl; (with_reducible repeat refine bl ?_); exact BK296.out) Try.underlying37 rfl (by kernel_rfl)) rfl ?_
   exact ⟨by first | rfl | (simp [errW_none, errW_some] <;> rfl) | (simp [*, errW_none, errW_some] <;> rfl), bq HB.out⟩
  ·rw [if_neg c5] at H
   have c5b0 : (a0 == 0) = false := beq_eq_false_iff_ne.mpr c5
   have c5b1 : (a0 != 0) = true := bne_iff_ne.mpr c5
   have H' := Aside0.mk H
   clear H
   go_enter Try.func36, Try.ntmps36
   go_wp2_with (first | ((with_reducible refine gate_dst (N := 3) rfl ?_); refine box_event ?hg (N := 3) ?hd (cs := #[.int .u64 a1_0, .int .u64 a1_1]) (t := 37) ?hr ?_; (case hd => rfl); (case hg => rfl); (case hr => first | (go_simp; done) | (go_simp; rfl)); intro gb295 hg w15 hbox hb; have BK295 := Aside0.mk hbox; have GW295 := ge hg HB; have GE295 := ge hg HB; replace HB := bh HB hb; clear hb hbox hg) | ((with_reducible refine gate_dst (N := 4) rfl ?_); refine box_event ?hg (N := 4) ?hd (cs := #[.int .u64 0, .int .u64 0]) (t := 37) ?hr ?_; (case hd => rfl); (case hg => rfl); (case hr => first | (go_simp; done) | (go_simp; rfl)); intro gb296 hg w16 hbox hb; have BK296 := Aside0.mk hbox; have GW296 := ge hg HB; have GE296 := ge hg HB; have NB295_296 := nl hg BK295; have NB296_295 := ng hg BK295; replace BK295 := bb BK295 hb; replace HB := bh HB hb; clear hb hbox hg; have hnb17 := NB295_296.out; have hnc17 := NB296_295.out; obtain ⟨hcz18_0, hcz18_1⟩ := zc2 BK295; obtain ⟨hfz18_0, hfz18_1⟩ := zf2 BK295) | ((with_reducible refine gate_callee (f := 11) rfl ?_); refine goesL_ (some 11) rfl rfl Try.func11 (by kernel_rfl) rfl #[.int .i64 a0, .agg #[.int .u64 a1_0, .int .u64 a1_1]] rfl (by (try simp only [List.map_toArray, List.map_cons, List.map_nil]); first | done | rfl | (simp only [List.length_drop, List.length_take]; rfl)) ?_; (with_reducible refine (steepleref01_Of.calls k a0 a1_0 a1_1 true _ A3.out).mono ?_); rintro e w19 ⟨rfl, hb⟩; refine ⟨_, rfl, ?_⟩; replace BK295 := bb BK295 hb; replace BK296 := bb BK296 hb; replace HB := bh HB hb; (try clear hb); (try clear hb2); (try clear hk); (try clear hi)) | ((with_reducible refine gate_dst (N := 14) rfl ?_); refine Kd.R_lit (Kd.int .i64) _ 3 ?hg (N := 14) ?hd (xs := ([1, 2, 4, 8, 16, 32, 64, 128] : List Int)) (inner := [.int .i64 1, .int .i64 2, .int .i64 4, .int .i64 8, .int .i64 16, .int .i64 32, .int .i64 64, .int .i64 128]) (ok := fun _ => True) (okp := fun _ => True) ?hr ?hp (fun _ hk => hk) trivial (Below.refl _ _) (Nat.le_refl _) (by simp) ?_; (case hd => rfl); (case hg => rfl); (case hr => first | (go_simp; done) | (go_simp; rfl)); (case hp => exact (Reps.one (show Kd.M (Kd.int .i64) _ _ _ 1 [.int .i64 1] from rfl) (Reps.one (show Kd.M (Kd.int .i64) _ _ _ 2 [.int .i64 2] from rfl) (Reps.one (show Kd.M (Kd.int .i64) _ _ _ 4 [.int .i64 4] from rfl) (Reps.one (show Kd.M (Kd.int .i64) _ _ _ 8 [.int .i64 8] from rfl) (Reps.one (show Kd.M (Kd.int .i64) _ _ _ 16 [.int .i64 16] from rfl) (Reps.one (show Kd.M (Kd.int .i64) _ _ _ 32 [.int .i64 32] from rfl) (Reps.one (show Kd.M (Kd.int .i64) _ _ _ 64 [.int .i64 64] from rfl) (Reps.one (show Kd.M (Kd.int .i64) _ _ _ 128 [.int .i64 128] from rfl) (Reps.none _ _)))))))))); intro v299 w20 ho21 hb hg_ hnew_; clear hg_ hnew_; (first | rw [← Ny298.out] at ho21 | (simp only [Int.reduceToNat] at ho21; rw [← Ny298.out] at ho21)); have HO300 := kw ho21 HB; replace BK295 := bb BK295 hb; replace BK296 := bb BK296 hb; replace HB := bh HB hb; clear hb ho21) | ((with_reducible refine gate_dst (N := 6) rfl ?_); refine box_event ?hg (N := 6) ?hd (cs := #[.int .u64 0, .int .u64 0]) (t := 37) ?hr ?_; (case hd => rfl); (case hg => rfl); (case hr => first | (go_simp; done) | (go_simp; rfl)); intro gb301 hg w22 hbox hb; have BK301 := Aside0.mk hbox; have GW301 := ge hg HB; have GE301 := ge hg HB; have NB295_301 := nl hg BK295; have NB301_295 := ng hg BK295; have NB296_301 := nl hg BK296; have NB301_296 := ng hg BK296; replace HO300 := kb HO300 hb; replace BK295 := bb BK295 hb; replace BK296 := bb BK296 hb; replace HB := bh HB hb; clear hb hbox hg; have hnb23 := NB301_295.out; have hnc23 := NB295_301.out; have hnb24 := NB301_296.out; have hnc24 := NB296_301.out; obtain ⟨hcz25_0, hcz25_1⟩ := zc2 BK301; obtain ⟨hfz25_0, hfz25_1⟩ := zf2 BK301; obtain ⟨hcz26_0, hcz26_1⟩ := zc2 BK295; obtain ⟨hfz26_0, hfz26_1⟩ := zf2 BK295) | ((with_reducible refine gate_dst (N := 7) rfl ?_); refine box_event ?hg (N := 7) ?hd (cs := #[.int .u64 0, .int .u64 0]) (t := 37) ?hr ?_; (case hd => rfl); (case hg => rfl); (case hr => first | (go_simp; done) | (go_simp; rfl)); intro gb302 hg w27 hbox hb; have BK302 := Aside0.mk hbox; have GW302 := ge hg HB; have GE302 := ge hg HB; have NB295_302 := Aside0.mk ((by rw [hg]; exact Nat.ne_of_lt (blk_lt (g := gb295) (o := .cells #[.int .u64 a1_0, .int .u64 a1_1] 37 (0, 0)) (by (with_reducible repeat refine bl ?_); refine blk_far ?_ NB295_301.out _; (with_reducible repeat refine bl ?_); refine blk_far ?_ NB295_301.out _; (with_reducible repeat refine bl ?_); exact BK295.out)) : gb295 ≠ gb302)); have NB302_295 := Aside0.mk ((by rw [hg]; exact Nat.ne_of_gt (blk_lt (g := gb295) (o := .cells #[.int .u64 a1_0, .int .u64 a1_1] 37 (0, 0)) (by (with_reducible repeat refine bl ?_); refine blk_far ?_ NB295_301.out _; (with_reducible repeat refine bl ?_); refine blk_far ?_ NB295_301.out _; (with_reducible repeat refine bl ?_); exact BK295.out)) : gb302 ≠ gb295)); have NB296_302 := Aside0.mk ((by rw [hg]; exact Nat.ne_of_lt (blk_lt (g := gb296) (o := .cells #[.int .u64 0, .int .u64 0] 37 (0, 0)) (by (with_reducible repeat refine bl ?_); refine blk_far ?_ NB296_301.out _; (with_reducible repeat refine bl ?_); refine blk_far ?_ NB296_301.out _; (with_reducible repeat refine bl ?_); exact BK296.out)) : gb296 ≠ gb302)); have NB302_296 := Aside0.mk ((by rw [hg]; exact Nat.ne_of_gt (blk_lt (g := gb296) (o := .cells #[.int .u64 0, .int .u64 0] 37 (0, 0)) (by (with_reducible repeat refine bl ?_); refine blk_far ?_ NB296_301.out _; (with_reducible repeat refine bl ?_); refine blk_far ?_ NB296_301.out _; (with_reducible repeat refine bl ?_); exact BK296.out)) : gb302 ≠ gb296)); have NB301_302 := Aside0.mk ((by rw [hg]; exact Nat.ne_of_lt (blk_lt (g := gb301) (o := .cells #[.int .u64 0, .int .u64 1] 37 (0, 0)) (by (with_reducible repeat refine bl ?_); refine blk_put (cs := #[.int .u64 0, .int .u64 0]) ?_ 1 _ rfl; (with_reducible repeat refine bl ?_); refine blk_put (cs := #[.int .u64 0, .int .u64 0]) ?_ 0 _ rfl; (with_reducible repeat refine bl ?_); exact BK301.out)) : gb301 ≠ gb302)); have NB302_301 := Aside0.mk ((by rw [hg]; exact Nat.ne_of_gt (blk_lt (g := gb301) (o := .cells #[.int .u64 0, .int .u64 1] 37 (0, 0)) (by (with_reducible repeat refine bl ?_); refine blk_put (cs := #[.int .u64 0, .int .u64 0]) ?_ 1 _ rfl; (with_reducible repeat refine bl ?_); refine blk_put (cs := #[.int .u64 0, .int .u64 0]) ?_ 0 _ rfl; (with_reducible repeat refine bl ?_); exact BK301.out)) : gb302 ≠ gb301)); replace HO300 := Aside0.mk (Kd.R_below (by (with_reducible repeat refine kl ?_); exact (Kd.R_mono (Kd.R_far (p := ⟨gb301, 1, none⟩) (Kd.R_far (p := ⟨gb301, 0, none⟩) (Kd.R_types HO300.out BK301.out (by decide)) (fun _ hk => hk.2) (.int .u64 0)) (fun _ hk => hk.2) (.int .u64 1)) (fun _ h_ => h_.1))) hb); replace BK295 := Aside0.mk (blk_below (g := gb295) (o := .cells #[.int .u64 a1_0, .int .u64 a1_1] 37 (0, 0)) (by (with_reducible repeat refine bl ?_); refine blk_far ?_ NB295_301.out _; (with_reducible repeat refine bl ?_); refine blk_far ?_ NB295_301.out _; (with_reducible repeat refine bl ?_); exact BK295.out) hb); replace BK296 := Aside0.mk (blk_below (g := gb296) (o := .cells #[.int .u64 0, .int .u64 0] 37 (0, 0)) (by (with_reducible repeat refine bl ?_); refine blk_far ?_ NB296_301.out _; (with_reducible repeat refine bl ?_); refine blk_far ?_ NB296_301.out _; (with_reducible repeat refine bl ?_); exact BK296.out) hb); replace BK301 := Aside0.mk (blk_below (g := gb301) (o := .cells #[.int .u64 0, .int .u64 1] 37 (0, 0)) (by (with_reducible repeat refine bl ?_); refine blk_put (cs := #[.int .u64 0, .int .u64 0]) ?_ 1 _ rfl; (with_reducible repeat refine bl ?_); refine blk_put (cs := #[.int .u64 0, .int .u64 0]) ?_ 0 _ rfl; (with_reducible repeat refine bl ?_); exact BK301.out) hb); replace HB := bh HB hb; clear hb hbox hg; have hnb28 := NB302_295.out; have hnc28 := NB295_302.out; have hnb29 := NB302_296.out; have hnc29 := NB296_302.out; have hnb30 := NB302_301.out; have hnc30 := NB301_302.out; obtain ⟨hcz31_0, hcz31_1⟩ := zc2 BK302; obtain ⟨hfz31_0, hfz31_1⟩ := zf2 BK302))
   go_loopg [8] k (fun kq v8 w' => ∃ (x8_1 : Int) (x302000_1 : Int) (x302001_1 : Int) (x303000_1 : Int) (x303001_1 : Int), v8 = .int .i64 x8_1 ∧ Aside0 (steepleref02_Inv.l0 kq a0 y298 x8_1 x302000_1 x302001_1 x303000_1 x303001_1 = some (r1, r2)) ∧ Aside0 (kq ≤ k) ∧ Aside0 (Kd.R (Kd.int .i64) 3 w' w.heap.size (fun _ => True) v299 y298) ∧ Aside0 (w'.heap[gb295]? = some (.cells #[.int .u64 a1_0, .int .u64 a1_1] 37 (0, 0))) ∧ Aside0 (w'.heap[gb296]? = some (.cells #[.int .u64 0, .int .u64 0] 37 (0, 0))) ∧ Aside0 (w'.heap[gb301]? = some (.cells #[.int .u64 x302000_1, .int .u64 x302001_1] 37 (0, 0))) ∧ Aside0 (w'.heap[gb302]? = some (.cells #[.int .u64 x303000_1, .int .u64 x303001_1] 37 (0, 0))) ∧ Aside0 (Below w.heap.size w w'))
   case atStart => exact ⟨(1), (0), (1), (a1_0), (a1_1), (by first | rfl | (simp; done) | (simp [*]; done)), H', ⟨Nat.le_refl _⟩, ⟨by (with_reducible repeat refine kl ?_); exact Kd.R_mono (Kd.R_far (p := ⟨gb302, 1, none⟩) (Kd.R_far (p := ⟨gb302, 0, none⟩) (Kd.R_types HO300.out BK302.out (by decide)) (fun _ hk => hk.2) (.int .u64 a1_0)) (fun _ hk => hk.2) (.int .u64 a1_1)) (fun _ hk => trivial)⟩, ⟨by (with_reducible repeat refine bl ?_); refine blk_far ?_ NB295_302.out _; (with_reducible repeat refine bl ?_); refine blk_far ?_ NB295_302.out _; (with_reducible repeat refine bl ?_); exact BK295.out⟩, ⟨by (with_reducible repeat refine bl ?_); refine blk_far ?_ NB296_302.out _; (with_reducible repeat refine bl ?_); refine blk_far ?_ NB296_302.out _; (with_reducible repeat refine bl ?_); exact BK296.out⟩, ⟨by (with_reducible repeat refine bl ?_); refine blk_far ?_ NB301_302.out _; (with_reducible repeat refine bl ?_); refine blk_far ?_ NB301_302.out _; (with_reducible repeat refine bl ?_); exact BK301.out⟩, ⟨by (with_reducible repeat refine bl ?_); refine blk_put (cs := #[.int .u64 a1_0, .int .u64 0]) ?_ 1 _ rfl; (with_reducible repeat refine bl ?_); refine blk_put (cs := #[.int .u64 0, .int .u64 0]) ?_ 0 _ rfl; (with_reducible repeat refine bl ?_); exact BK302.out⟩, ⟨bq HB.out⟩⟩
   case round =>
    clear H'
    try clear c1
    try clear c2
    try clear p2
    try clear c3
    try clear c4
    try clear c5
    try clear c5b0
    try clear c5b1
    try clear c8
    try clear c11
    try clear c17
    try clear c23
    try clear c24
    try clear c28
    try clear c29
    try clear c30
    try clear hcz13_0
    try clear hcz13_1
    try clear hcz14_0
    try clear hcz14_1
    try clear hcz18_0
    try clear hcz18_1
    try clear hcz25_0
    try clear hcz25_1
    try clear hcz26_0
    try clear hcz26_1
    try clear hcz31_0
    try clear hcz31_1
    try clear hcz9_0
    try clear hcz9_1
    try clear hfz13_0
    try clear hfz13_1
    try clear hfz14_0
    try clear hfz14_1
    try clear hfz18_0
    try clear hfz18_1
    try clear hfz25_0
    try clear hfz25_1
    try clear hfz26_0
    try clear hfz26_1
    try clear hfz31_0
    try clear hfz31_1
    try clear hfz9_0
    try clear hfz9_1
    obtain ⟨x8_1, x302000_1, x302001_1, x303000_1, x303001_1, rfl, HA, HK1, HO_5, BK295, BK296, BK301, BK302, HB⟩ := hrel
    cases gk with
    | zero => exact absurd HA.out (by simp [steepleref02_Inv.l0])
    | succ k1 =>
     have H := HA.out
     clear HA
     simp only [steepleref02_Inv.l0] at H
     by_cases c32 : 0 ≤ a0
     ·rw [if_pos c32] at H
      have c32b0 : decide (0 ≤ a0) = true := decide_eq_true c32
      clear c32
      by_cases c33 : a0 < (y298.length : Int)
      ·rw [if_pos c33] at H
       have c33b0 : decide (a0 < (y298.length : Int)) = true := decide_eq_true c33
       clear c33
       by_cases c34 : x8_1 < (rd y298 a0)
       ·rw [if_pos c34] at H
        have c34b0 : decide (x8_1 < (rd y298 a0)) = true := decide_eq_true c34
        clear c34
        replace H := Option.bind_eq_some_iff.mp H
        obtain ⟨⟨t304, t305⟩, A350, H⟩ := H
        replace H : ((steepleref02_Product.f k1 x302000_1 x302001_1 t304 t305).bind fun bt306 => (steepleref02_Inv.l0 k1 a0 y298 (wrap64 (x8_1 + 1)) bt306.1 bt306.2 t304 t305)) = some (r1, r2) := H
        have A35 := Aside0.mk A350
        clear A350
        replace H := Option.bind_eq_some_iff.mp H
        obtain ⟨⟨t306, t307⟩, A360, H⟩ := H
        replace H : (steepleref02_Inv.l0 k1 a0 y298 (wrap64 (x8_1 + 1)) t306 t307 t304 t305) = some (r1, r2) := H
        have A36 := Aside0.mk A360
        clear A360
        have H' := Aside0.mk H
        clear H
        obtain ⟨Ao37, co37, eo37⟩ := Kd.R_slice HO_5.out
        subst eo37
        have p303 : 0 ≤ (a0 : Int) := of_decide_eq_true (by first | (with_reducible assumption) | assumption)
        have q303 : a0 < (y298.length : Int) := of_decide_eq_true (by first | (with_reducible assumption) | assumption)
        (try (obtain ⟨Ap_, cp_, ep_⟩ := Kd.R_slice HO_5.out; subst ep_))
        obtain ⟨ad303, e303, hx303_0⟩ := Kd.at_int (Kd.R_reads' HO_5.out).2.2 a0 p303 q303
        cases e303
        replace p303 := eq_true p303
        replace q303 := eq_true q303
        have hnb38 := NB302_295.out
        have hnc38 := NB295_302.out
        have hnb39 := NB302_296.out
        have hnc39 := NB296_302.out
        have hnb40 := NB302_301.out
        have hnc40 := NB301_302.out
        obtain ⟨hcz41_0, hcz41_1⟩ := zc2 BK302
        obtain ⟨hfz41_0, hfz41_1⟩ := zf2 BK302
        go_wp2_with (first | ((with_reducible refine gate_callee (f := 35) rfl ?_); refine goesL_ (some 30) rfl rfl Try.func35 (by kernel_rfl) rfl #[.agg #[.int .u64 x303000_1, .int .u64 x303001_1], .agg #[.int .u64 x303000_1, .int .u64 x303001_1]] rfl (by (try simp only [List.map_toArray, List.map_cons, List.map_nil]); first | done | rfl | (simp only [List.length_drop, List.length_take]; rfl)) ?_; (with_reducible refine (steepleref02_Product.calls k1 x303000_1 x303001_1 x303000_1 x303001_1 t304 t305 _ A35.out).mono ?_); rintro e w42 ⟨rfl, hb⟩; refine ⟨_, rfl, ?_⟩; replace HO_5 := kb HO_5 hb; replace BK295 := bb BK295 hb; replace BK296 := bb BK296 hb; replace BK301 := bb BK301 hb; replace BK302 := bb BK302 hb; replace HB := bh HB hb; (try clear hb); (try clear hb2); (try clear hk); (try clear hi); obtain ⟨hcz43_0, hcz43_1⟩ := zc2 BK302; obtain ⟨hfz43_0, hfz43_1⟩ := zf2 BK302; have hnb44 := NB301_295.out; have hnc44 := NB295_301.out; have hnb45 := NB301_296.out; have hnc45 := NB296_301.out; obtain ⟨hcz46_0, hcz46_1⟩ := zc2 BK301; obtain ⟨hfz46_0, hfz46_1⟩ := zf2 BK301) | ((with_reducible refine gate_callee (f := 35) rfl ?_); refine goesL_ (some 33) rfl rfl Try.func35 (by kernel_rfl) rfl #[.agg #[.int .u64 x302000_1, .int .u64 x302001_1], .agg #[.int .u64 t304, .int .u64 t305]] rfl (by (try simp only [List.map_toArray, List.map_cons, List.map_nil]); first | done | rfl | (simp only [List.length_drop, List.length_take]; rfl)) ?_; (with_reducible refine (steepleref02_Product.calls k1 x302000_1 x302001_1 t304 t305 t306 t307 _ A36.out).mono ?_); rintro e w47 ⟨rfl, hb⟩; refine ⟨_, rfl, ?_⟩; replace HO_5 := Aside0.mk (Kd.R_below (by (with_reducible repeat refine kl ?_); exact (Kd.R_mono (Kd.R_far (p := ⟨gb302, 1, none⟩) (Kd.R_far (p := ⟨gb302, 0, none⟩) (Kd.R_types HO_5.out BK302.out (by decide)) (fun _ hk => hk.2) (.int .u64 t304)) (fun _ hk => hk.2) (.int .u64 t305)) (fun _ h_ => h_.1))) hb); replace BK295 := Aside0.mk (blk_below (g := gb295) (o := .cells #[.int .u64 a1_0, .int .u64 a1_1] 37 (0, 0)) (by (with_reducible repeat refine bl ?_); refine blk_far ?_ NB295_302.out _; (with_reducible repeat refine bl ?_); refine blk_far ?_ NB295_302.out _; (with_reducible repeat refine bl ?_); exact BK295.out) hb); replace BK296 := Aside0.mk (blk_below (g := gb296) (o := .cells #[.int .u64 0, .int .u64 0] 37 (0, 0)) (by (with_reducible repeat refine bl ?_); refine blk_far ?_ NB296_302.out _; (with_reducible repeat refine bl ?_); refine blk_far ?_ NB296_302.out _; (with_reducible repeat refine bl ?_); exact BK296.out) hb); replace BK301 := Aside0.mk (blk_below (g := gb301) (o := .cells #[.int .u64 x302000_1, .int .u64 x302001_1] 37 (0, 0)) (by (with_reducible repeat refine bl ?_); refine blk_far ?_ NB301_302.out _; (with_reducible repeat refine bl ?_); refine blk_far ?_ NB301_302.out _; (with_reducible repeat refine bl ?_); exact BK301.out) hb); replace BK302 := Aside0.mk (blk_below (g := gb302) (o := .cells #[.int .u64 t304, .int .u64 t305] 37 (0, 0)) (by (with_reducible repeat refine bl ?_); refine blk_put (cs := #[.int .u64 t304, .int .u64 x303001_1]) ?_ 1 _ rfl; (with_reducible repeat refine bl ?_); refine blk_put (cs := #[.int .u64 x303000_1, .int .u64 x303001_1]) ?_ 0 _ rfl; (with_reducible repeat refine bl ?_); exact BK302.out) hb); replace HB := bh HB hb; (try clear hb); (try clear hb2); (try clear hk); (try clear hi); obtain ⟨hcz48_0, hcz48_1⟩ := zc2 BK301; obtain ⟨hfz48_0, hfz48_1⟩ := zf2 BK301))
        go_roundg k1
        case measure => have := HK1.out; omega
        case rel => exact ⟨(wrap64 (x8_1 + 1)), (t306), (t307), (t304), (t305), (by first | rfl | (simp; done) | (simp [*]; done)), H', ⟨by have := HK1.out; omega⟩, ⟨by (with_reducible repeat refine kl ?_); exact Kd.R_mono (Kd.R_far (p := ⟨gb301, 1, none⟩) (Kd.R_far (p := ⟨gb301, 0, none⟩) (Kd.R_types HO_5.out BK301.out (by decide)) (fun _ hk => hk.2) (.int .u64 t306)) (fun _ hk => hk.2) (.int .u64 t307)) (fun _ hk => trivial)⟩, ⟨by (with_reducible repeat refine bl ?_); refine blk_far ?_ NB295_301.out _; (with_reducible repeat refine bl ?_); refine blk_far ?_ NB295_301.out _; (with_reducible repeat refine bl ?_); exact BK295.out⟩, ⟨by (with_reducible repeat refine bl ?_); refine blk_far ?_ NB296_301.out _; (with_reducible repeat refine bl ?_); refine blk_far ?_ NB296_301.out _; (with_reducible repeat refine bl ?_); exact BK296.out⟩, ⟨by (with_reducible repeat refine bl ?_); refine blk_put (cs := #[.int .u64 t306, .int .u64 x302001_1]) ?_ 1 _ rfl; (with_reducible repeat refine bl ?_); refine blk_put (cs := #[.int .u64 x302000_1, .int .u64 x302001_1]) ?_ 0 _ rfl; (with_reducible repeat refine bl ?_); exact BK301.out⟩, ⟨by (with_reducible repeat refine bl ?_); refine blk_far ?_ NB302_301.out _; (with_reducible repeat refine bl ?_); refine blk_far ?_ NB302_301.out _; (with_reducible repeat refine bl ?_); exact BK302.out⟩, ⟨bq HB.out⟩⟩
       ·rw [if_neg c34] at H
        have c34b0 : decide (x8_1 < (rd y298 a0)) = false := decide_eq_false c34
        clear c34
        simp only [Option.some.injEq, Prod.mk.injEq] at H
        obtain ⟨rfl, rfl⟩ := H
        obtain ⟨Ao49, co49, eo49⟩ := Kd.R_slice HO_5.out
        subst eo49
        have p303 : 0 ≤ (a0 : Int) := of_decide_eq_true (by first | (with_reducible assumption) | assumption)
        have q303 : a0 < (y298.length : Int) := of_decide_eq_true (by first | (with_reducible assumption) | assumption)
        (try (obtain ⟨Ap_, cp_, ep_⟩ := Kd.R_slice HO_5.out; subst ep_))
        obtain ⟨ad303, e303, hx303_0⟩ := Kd.at_int (Kd.R_reads' HO_5.out).2.2 a0 p303 q303
        cases e303
        replace p303 := eq_true p303
        replace q303 := eq_true q303
        have hnb50 := NB301_295.out
        have hnc50 := NB295_301.out
        have hnb51 := NB301_296.out
        have hnc51 := NB296_301.out
        have hnb52 := NB301_302.out
        have hnc52 := NB302_301.out
        obtain ⟨hcz53_0, hcz53_1⟩ := zc2 BK301
        obtain ⟨hfz53_0, hfz53_1⟩ := zf2 BK301
        have hnb54 := NB296_295.out
        have hnc54 := NB295_296.out
        have hnb55 := NB296_302.out
        have hnc55 := NB302_296.out
        obtain ⟨hcz56_0, hcz56_1⟩ := zc2 BK296
        obtain ⟨hfz56_0, hfz56_1⟩ := zf2 BK296
        go_wp2
        refine bodyPost_ret (results_cell_row rfl _ _ gb296 37 #[.int .u64 x302000_1, .int .u64 x302001_1] (0, 0) _ rfl (by (with_reducible repeat refine bl ?_); refine blk_put (cs := #[.int .u64 x302000_1, .int .u64 0]) ?_ 1 _ rfl; (with_reducible repeat refine bl ?_); refine blk_put (cs := #[.int .u64 0, .int .u64 0]) ?_ 0 _ rfl; (with_reducible repeat refine bl ?_); exact BK296.out) Try.underlying37 rfl (by kernel_rfl)) rfl ?_
        exact ⟨by first | rfl | (simp [errW_none, errW_some] <;> rfl) | (simp [*, errW_none, errW_some] <;> rfl), bq HB.out⟩
      ·rw [if_neg c33] at H
       exact absurd H (by simp)
     ·rw [if_neg c32] at H
      exact absurd H (by simp)
 ·replace c4 := Bool.eq_false_iff.mpr c4
  subst c4
  have H1 : (some (0, 0)) = some (r1, r2) := by rw [if_neg (show ¬ (false = true) by decide)] at H; exact H
  clear H
  have H := H1
  clear H1
  simp only [Option.some.injEq, Prod.mk.injEq] at H
  obtain ⟨rfl, rfl⟩ := H
  go_enter Try.func36, Try.ntmps36
  go_wp2_with (first | ((with_reducible refine gate_dst (N := 3) rfl ?_); refine box_event ?hg (N := 3) ?hd (cs := #[.int .u64 a1_0, .int .u64 a1_1]) (t := 37) ?hr ?_; (case hd => rfl); (case hg => rfl); (case hr => first | (go_simp; done) | (go_simp; rfl)); intro gb295 hg w57 hbox hb; have BK295 := Aside0.mk hbox; have GW295 := ge hg HB; have GE295 := ge hg HB; replace HB := bh HB hb; clear hb hbox hg) | ((with_reducible refine gate_dst (N := 4) rfl ?_); refine box_event ?hg (N := 4) ?hd (cs := #[.int .u64 0, .int .u64 0]) (t := 37) ?hr ?_; (case hd => rfl); (case hg => rfl); (case hr => first | (go_simp; done) | (go_simp; rfl)); intro gb296 hg w58 hbox hb; have BK296 := Aside0.mk hbox; have GW296 := ge hg HB; have GE296 := ge hg HB; have NB295_296 := nl hg BK295; have NB296_295 := ng hg BK295; replace BK295 := bb BK295 hb; replace HB := bh HB hb; clear hb hbox hg; have hnb59 := NB295_296.out; have hnc59 := NB296_295.out; obtain ⟨hcz60_0, hcz60_1⟩ := zc2 BK295; obtain ⟨hfz60_0, hfz60_1⟩ := zf2 BK295) | ((with_reducible refine gate_callee (f := 11) rfl ?_); refine goesL_ (some 11) rfl rfl Try.func11 (by kernel_rfl) rfl #[.int .i64 a0, .agg #[.int .u64 a1_0, .int .u64 a1_1]] rfl (by (try simp only [List.map_toArray, List.map_cons, List.map_nil]); first | done | rfl | (simp only [List.length_drop, List.length_take]; rfl)) ?_; (with_reducible refine (steepleref01_Of.calls k a0 a1_0 a1_1 false _ A3.out).mono ?_); rintro e w61 ⟨rfl, hb⟩; refine ⟨_, rfl, ?_⟩; replace BK295 := bb BK295 hb; replace BK296 := bb BK296 hb; replace HB := bh HB hb; (try clear hb); (try clear hb2); (try clear hk); (try clear hi); obtain ⟨hcz62_0, hcz62_1⟩ := zc2 BK296; obtain ⟨hfz62_0, hfz62_1⟩ := zf2 BK296))
  refine bodyPost_ret (results_cell_row rfl _ _ gb296 37 #[.int .u64 0, .int .u64 0] (0, 0) _ rfl (by (with_reducible repeat refine bl ?_); refine blk_put (cs := #[.int .u64 0, .int .u64 0]) ?_ 1 _ rfl; (with_reducible repeat refine bl ?_); refine blk_put (cs := #[.int .u64 0, .int .u64 0]) ?_ 0 _ rfl; (with_reducible repeat refine bl ?_); exact BK296.out) Try.underlying37 rfl (by kernel_rfl)) rfl ?_
  exact ⟨by first | rfl | (simp [errW_none, errW_some] <;> rfl) | (simp [*, errW_none, errW_some] <;> rfl), bq HB.out⟩

end Go.Proofs.Ythnaalocgoeddaa.P
