/- Written by a program of this session: functions that the law reaches, as Lean functions, and that the code comes to their answers. Conditions: those that each theorem names. -/
import Derived.Test.YtlegcabfgkccmaaPx0
import Derived.Test.YtlegcabfgkccmaaPx2
import Derived.Test.YtlegcabfgkccmaaPx7
namespace Go.Proofs.Ytlegcabfgkccmaa.P
open Go.RowKit Go.Proofs.YtlegcabfgkccmaaX Go.Proofs.YtlegcabfgkccmaaW.PrintWords Go.Proofs.YtlegcabfgkccmaaW.PrintLast Go.Proofs.YtlegcabfgkccmaaW.PrintMore
attribute [local go_sem] max2_int min2_int max_two min_two max_three min_three max_four min_four   -- for this text's walks alone
set_option linter.unusedVariables false
set_option linter.unusedSimpArgs false

attribute [local go_sem high] eqA37
/-! ### steepleref15_Two: function 19 -/
def steepleref15_Two.l0 : Nat → Int → Int → Int → Option (Int)
 | 0, _, _, _ => none
 | k + 1, x0, x3, x4 => if x4 < x0 then (steepleref15_Two.l0 k x0 (wrap64 (2 * x3)) (wrap64 (x4 + 1))) else (some x3)
def steepleref15_Two.f (k : Nat) (a0 : Int) : Option (Int) := steepleref15_Two.l0 k a0 1 0
theorem steepleref15_Two.mono_l : ∀ k, (∀ y0 y1 y2, LeO (steepleref15_Two.l0 k y0 y1 y2) (steepleref15_Two.l0 (k + 1) y0 y1 y2))
 | 0 => fun _ _ _ r h => by simp [steepleref15_Two.l0] at h
 | k + 1 => by
  have ih0 := steepleref15_Two.mono_l k
  ·intro y0 y1 y2
   unfold steepleref15_Two.l0
   repeat' first
   | (with_reducible exact ih0 _ _ _)
   | (with_reducible exact LeO.refl _)
   | (with_reducible exact LeO.none _)
   | (with_reducible refine LeO.ite ?_ ?_)
   | (with_reducible refine LeO.bind ?_ (fun _ => ?_))
   | exact ih0 _ _ _
   | exact LeO.none _
   | refine LeO.ite ?_ ?_
   | refine LeO.bind ?_ (fun _ => ?_)
theorem steepleref15_Two.mono : ∀ a0 k, LeO (steepleref15_Two.f k a0) (steepleref15_Two.f (k + 1) a0) := by
 intro a0 k
 have ih0 := steepleref15_Two.mono_l k
 unfold steepleref15_Two.f
 repeat' first
   | (with_reducible exact ih0 _ _ _)
   | (with_reducible exact LeO.refl _)
   | (with_reducible exact LeO.none _)
   | (with_reducible refine LeO.ite ?_ ?_)
   | (with_reducible refine LeO.bind ?_ (fun _ => ?_))
   | exact ih0 _ _ _
   | exact LeO.none _
   | refine LeO.ite ?_ ?_
   | refine LeO.bind ?_ (fun _ => ?_)
set_option maxHeartbeats 8000000 in
set_option maxRecDepth 100000 in
theorem steepleref15_Two.calls (k : Nat) (a0 : Int) (r : Int) (w : World) (h : steepleref15_Two.f k a0 = some r) :
  Calls Try.prog 19 #[.int .i64 a0] w fun e w' => e = .returned (.int .i64 r) ∧ Drawn0 w w' := by
 have H : (steepleref15_Two.l0 k a0 1 0) = some r := h
 clear h
 have H' := Aside0.mk H
 clear H
 go_enter Try.func19, Try.ntmps19
 go_wp2
 go_loopg [3, 4] k (fun kq v3 v4 w' => ∃ (x3_1 : Int) (x4_1 : Int), v3 = .int .i64 x3_1 ∧ v4 = .int .i64 x4_1 ∧ Aside0 (steepleref15_Two.l0 kq a0 x3_1 x4_1 = some r) ∧ Aside0 (kq ≤ k) ∧ Drawn0 w w')
 case atStart => exact ⟨(1), (0), (by first | rfl | (simp; done) | (simp [*]; done)), (by first | rfl | (simp; done) | (simp [*]; done)), H', ⟨Nat.le_refl _⟩, by repeat (first | exact Drawn0.refl _ | apply Drawn0.step)⟩
 case round =>
  clear H'
  try clear c1
  obtain ⟨x3_1, x4_1, rfl, rfl, HA, HK1, ⟨m1, rfl⟩⟩ := hrel
  cases gk with
  | zero => exact absurd HA.out (by simp [steepleref15_Two.l0])
  | succ k1 =>
   have H := HA.out
   clear HA
   simp only [steepleref15_Two.l0] at H
   by_cases c2 : x4_1 < a0
   ·rw [if_pos c2] at H
    have c2b0 : decide (x4_1 < a0) = true := decide_eq_true c2
    clear c2
    have H' := Aside0.mk H
    clear H
    go_wp2
    go_roundg k1
    case measure => have := HK1.out; omega
    case rel => exact ⟨(wrap64 (2 * x3_1)), (wrap64 (x4_1 + 1)), (by first | rfl | (simp; done) | (simp [*]; done)), (by first | rfl | (simp; done) | (simp [*]; done)), H', ⟨by have := HK1.out; omega⟩, by repeat (first | exact Drawn0.refl _ | apply Drawn0.step)⟩
   ·rw [if_neg c2] at H
    have c2b0 : decide (x4_1 < a0) = false := decide_eq_false c2
    clear c2
    obtain rfl := Option.some.inj H
    go_wp2
    go_ret
    exact ⟨by first | rfl | (simp; done) | (simp [*]; done), by repeat (first | exact Drawn0.refl _ | apply Drawn0.step)⟩

/-! ### steepleref33_Power: function 25 -/
def steepleref33_Power.l0 : Nat → Int → Int → Int → Int → Option (Int × Int)
 | 0, _, _, _, _ => none
 | k + 1, x1, x6, x243000, x243001 => if x6 < x1 then ((steepleref02_Product.f k x243000 x243001 x243000 x243001).bind fun bt243 => (steepleref33_Power.l0 k x1 (wrap64 (x6 + 1)) bt243.1 bt243.2)) else (some (x243000, x243001))
def steepleref33_Power.f (k : Nat) (a0_0 : Int) (a0_1 : Int) (a1 : Int) : Option (Int × Int) := steepleref33_Power.l0 k a1 0 a0_0 a0_1
theorem steepleref33_Power.mono_l : ∀ k, (∀ y0 y1 y2 y3, LeO (steepleref33_Power.l0 k y0 y1 y2 y3) (steepleref33_Power.l0 (k + 1) y0 y1 y2 y3))
 | 0 => fun _ _ _ _ r h => by simp [steepleref33_Power.l0] at h
 | k + 1 => by
  have ih0 := steepleref33_Power.mono_l k
  ·intro y0 y1 y2 y3
   unfold steepleref33_Power.l0
   repeat' first
   | (with_reducible exact ih0 _ _ _ _)
   | (with_reducible exact steepleref02_Product.mono _ _ _ _ _)
   | (with_reducible exact LeO.refl _)
   | (with_reducible exact LeO.none _)
   | (with_reducible refine LeO.ite ?_ ?_)
   | (with_reducible refine LeO.bind ?_ (fun _ => ?_))
   | exact ih0 _ _ _ _
   | exact steepleref02_Product.mono _ _ _ _ _
   | exact LeO.none _
   | refine LeO.ite ?_ ?_
   | refine LeO.bind ?_ (fun _ => ?_)
theorem steepleref33_Power.mono : ∀ a0 a1 a2 k, LeO (steepleref33_Power.f k a0 a1 a2) (steepleref33_Power.f (k + 1) a0 a1 a2) := by
 intro a0 a1 a2 k
 have ih0 := steepleref33_Power.mono_l k
 unfold steepleref33_Power.f
 repeat' first
   | (with_reducible exact ih0 _ _ _ _)
   | (with_reducible exact steepleref02_Product.mono _ _ _ _ _)
   | (with_reducible exact LeO.refl _)
   | (with_reducible exact LeO.none _)
   | (with_reducible refine LeO.ite ?_ ?_)
   | (with_reducible refine LeO.bind ?_ (fun _ => ?_))
   | exact ih0 _ _ _ _
   | exact steepleref02_Product.mono _ _ _ _ _
   | exact LeO.none _
   | refine LeO.ite ?_ ?_
   | refine LeO.bind ?_ (fun _ => ?_)
set_option maxHeartbeats 8000000 in
set_option maxRecDepth 100000 in
theorem steepleref33_Power.calls (k : Nat) (a0_0 : Int) (a0_1 : Int) (a1 : Int) (r1 : Int) (r2 : Int) (w : World) (h : steepleref33_Power.f k a0_0 a0_1 a1 = some (r1, r2)) :
  Calls Try.prog 25 #[.agg #[.int .u64 a0_0, .int .u64 a0_1], .int .i64 a1] w fun e w' => e = .returned (.agg #[.int .u64 r1, .int .u64 r2]) ∧ Below w.heap.size w w' := by
 have hu37 := Try.underlying37
 have HB := Aside0.mk (Below.refl w.heap.size w)
 have H : (steepleref33_Power.l0 k a1 0 a0_0 a0_1) = some (r1, r2) := h
 clear h
 have H' := Aside0.mk H
 clear H
 go_enter Try.func25, Try.ntmps25
 go_wp2_with (first | ((with_reducible refine gate_dst (N := 2) rfl ?_); refine box_event ?hg (N := 2) ?hd (cs := #[.int .u64 a0_0, .int .u64 a0_1]) (t := 37) ?hr ?_; (case hd => rfl); (case hg => rfl); (case hr => first | (go_simp; done) | (go_simp; rfl)); intro gb240 hg w3 hbox hb; have BK240 := Aside0.mk hbox; have GW240 := ge hg HB; have GE240 := ge hg HB; replace HB := bh HB hb; clear hb hbox hg) | ((with_reducible refine gate_dst (N := 4) rfl ?_); refine box_event ?hg (N := 4) ?hd (cs := #[.int .u64 0, .int .u64 0]) (t := 37) ?hr ?_; (case hd => rfl); (case hg => rfl); (case hr => first | (go_simp; done) | (go_simp; rfl)); intro gb241 hg w4 hbox hb; have BK241 := Aside0.mk hbox; have GW241 := ge hg HB; have GE241 := ge hg HB; have NB240_241 := nl hg BK240; have NB241_240 := ng hg BK240; replace BK240 := bb BK240 hb; replace HB := bh HB hb; clear hb hbox hg; have hnb5 := NB240_241.out; have hnc5 := NB241_240.out; obtain ⟨hcz6_0, hcz6_1⟩ := zc2 BK240; obtain ⟨hfz6_0, hfz6_1⟩ := zf2 BK240) | ((with_reducible refine gate_dst (N := 5) rfl ?_); refine box_event ?hg (N := 5) ?hd (cs := #[.int .u64 0, .int .u64 0]) (t := 37) ?hr ?_; (case hd => rfl); (case hg => rfl); (case hr => first | (go_simp; done) | (go_simp; rfl)); intro gb242 hg w7 hbox hb; have BK242 := Aside0.mk hbox; have GW242 := ge hg HB; have GE242 := ge hg HB; have NB240_242 := nl hg BK240; have NB242_240 := ng hg BK240; have NB241_242 := nl hg BK241; have NB242_241 := ng hg BK241; replace BK240 := bb BK240 hb; replace BK241 := bb BK241 hb; replace HB := bh HB hb; clear hb hbox hg; have hnb8 := NB242_240.out; have hnc8 := NB240_242.out; have hnb9 := NB242_241.out; have hnc9 := NB241_242.out; obtain ⟨hcz10_0, hcz10_1⟩ := zc2 BK242; obtain ⟨hfz10_0, hfz10_1⟩ := zf2 BK242))
 go_loopg [6] k (fun kq v6 w' => ∃ (x6_1 : Int) (x243000_1 : Int) (x243001_1 : Int), v6 = .int .i64 x6_1 ∧ Aside0 (steepleref33_Power.l0 kq a1 x6_1 x243000_1 x243001_1 = some (r1, r2)) ∧ Aside0 (kq ≤ k) ∧ Aside0 (w'.heap[gb240]? = some (.cells #[.int .u64 a0_0, .int .u64 a0_1] 37 (0, 0))) ∧ Aside0 (w'.heap[gb241]? = some (.cells #[.int .u64 0, .int .u64 0] 37 (0, 0))) ∧ Aside0 (w'.heap[gb242]? = some (.cells #[.int .u64 x243000_1, .int .u64 x243001_1] 37 (0, 0))) ∧ Aside0 (Below w.heap.size w w'))
 case atStart => exact ⟨(0), (a0_0), (a0_1), (by first | rfl | (simp; done) | (simp [*]; done)), H', ⟨Nat.le_refl _⟩, ⟨by (with_reducible repeat refine bl ?_); refine blk_far ?_ NB240_242.out _; (with_reducible repeat refine bl ?_); refine blk_far ?_ NB240_242.out _; (with_reducible repeat refine bl ?_); exact BK240.out⟩, ⟨by (with_reducible repeat refine bl ?_); refine blk_far ?_ NB241_242.out _; (with_reducible repeat refine bl ?_); refine blk_far ?_ NB241_242.out _; (with_reducible repeat refine bl ?_); exact BK241.out⟩, ⟨by (with_reducible repeat refine bl ?_); refine blk_put (cs := #[.int .u64 a0_0, .int .u64 0]) ?_ 1 _ rfl; (with_reducible repeat refine bl ?_); refine blk_put (cs := #[.int .u64 0, .int .u64 0]) ?_ 0 _ rfl; (with_reducible repeat refine bl ?_); exact BK242.out⟩, ⟨bq HB.out⟩⟩
 case round =>
  clear H'
  try clear c2
  try clear p2
  try clear c5
  try clear c8
  try clear c9
  try clear hcz10_0
  try clear hcz10_1
  try clear hcz6_0
  try clear hcz6_1
  try clear hfz10_0
  try clear hfz10_1
  try clear hfz6_0
  try clear hfz6_1
  obtain ⟨x6_1, x243000_1, x243001_1, rfl, HA, HK1, BK240, BK241, BK242, HB⟩ := hrel
  cases gk with
  | zero => exact absurd HA.out (by simp [steepleref33_Power.l0])
  | succ k1 =>
   have H := HA.out
   clear HA
   simp only [steepleref33_Power.l0] at H
   by_cases c11 : x6_1 < a1
   ·rw [if_pos c11] at H
    have c11b0 : decide (x6_1 < a1) = true := decide_eq_true c11
    clear c11
    replace H := Option.bind_eq_some_iff.mp H
    obtain ⟨⟨t243, t244⟩, A120, H⟩ := H
    replace H : (steepleref33_Power.l0 k1 a1 (wrap64 (x6_1 + 1)) t243 t244) = some (r1, r2) := H
    have A12 := Aside0.mk A120
    clear A120
    have H' := Aside0.mk H
    clear H
    have hnb13 := NB242_240.out
    have hnc13 := NB240_242.out
    have hnb14 := NB242_241.out
    have hnc14 := NB241_242.out
    obtain ⟨hcz15_0, hcz15_1⟩ := zc2 BK242
    obtain ⟨hfz15_0, hfz15_1⟩ := zf2 BK242
    go_wp2_with (first | ((with_reducible refine gate_callee (f := 22) rfl ?_); refine goesL_ (some 15) rfl rfl Try.func22 (by kernel_rfl) rfl #[.agg #[.int .u64 x243000_1, .int .u64 x243001_1], .agg #[.int .u64 x243000_1, .int .u64 x243001_1]] rfl (by (try simp only [List.map_toArray, List.map_cons, List.map_nil]); first | done | rfl | (simp only [List.length_drop, List.length_take]; rfl)) ?_; (with_reducible refine (steepleref02_Product.calls k1 x243000_1 x243001_1 x243000_1 x243001_1 t243 t244 _ A12.out).mono ?_); rintro e w16 ⟨rfl, hb⟩; refine ⟨_, rfl, ?_⟩; replace BK240 := bb BK240 hb; replace BK241 := bb BK241 hb; replace BK242 := bb BK242 hb; replace HB := bh HB hb; (try clear hb); (try clear hb2); (try clear hk); (try clear hi); obtain ⟨hcz17_0, hcz17_1⟩ := zc2 BK242; obtain ⟨hfz17_0, hfz17_1⟩ := zf2 BK242))
    go_roundg k1
    case measure => have := HK1.out; omega
    case rel => exact ⟨(wrap64 (x6_1 + 1)), (t243), (t244), (by first | rfl | (simp; done) | (simp [*]; done)), H', ⟨by have := HK1.out; omega⟩, ⟨by (with_reducible repeat refine bl ?_); refine blk_far ?_ NB240_242.out _; (with_reducible repeat refine bl ?_); refine blk_far ?_ NB240_242.out _; (with_reducible repeat refine bl ?_); exact BK240.out⟩, ⟨by (with_reducible repeat refine bl ?_); refine blk_far ?_ NB241_242.out _; (with_reducible repeat refine bl ?_); refine blk_far ?_ NB241_242.out _; (with_reducible repeat refine bl ?_); exact BK241.out⟩, ⟨by (with_reducible repeat refine bl ?_); refine blk_put (cs := #[.int .u64 t243, .int .u64 x243001_1]) ?_ 1 _ rfl; (with_reducible repeat refine bl ?_); refine blk_put (cs := #[.int .u64 x243000_1, .int .u64 x243001_1]) ?_ 0 _ rfl; (with_reducible repeat refine bl ?_); exact BK242.out⟩, ⟨bq HB.out⟩⟩
   ·rw [if_neg c11] at H
    have c11b0 : decide (x6_1 < a1) = false := decide_eq_false c11
    clear c11
    simp only [Option.some.injEq, Prod.mk.injEq] at H
    obtain ⟨rfl, rfl⟩ := H
    have hnb18 := NB242_240.out
    have hnc18 := NB240_242.out
    have hnb19 := NB242_241.out
    have hnc19 := NB241_242.out
    obtain ⟨hcz20_0, hcz20_1⟩ := zc2 BK242
    obtain ⟨hfz20_0, hfz20_1⟩ := zf2 BK242
    have hnb21 := NB241_240.out
    have hnc21 := NB240_241.out
    obtain ⟨hcz22_0, hcz22_1⟩ := zc2 BK241
    obtain ⟨hfz22_0, hfz22_1⟩ := zf2 BK241
    go_wp2
    refine bodyPost_ret (results_cell_row rfl _ _ gb241 37 #[.int .u64 x243000_1, .int .u64 x243001_1] (0, 0) _ rfl (by (with_reducible repeat refine bl ?_); refine blk_put (cs := #[.int .u64 x243000_1, .int .u64 0]) ?_ 1 _ rfl; (with_reducible repeat refine bl ?_); refine blk_put (cs := #[.int .u64 0, .int .u64 0]) ?_ 0 _ rfl; (with_reducible repeat refine bl ?_); exact BK241.out) Try.underlying37 rfl (by kernel_rfl)) rfl ?_
    exact ⟨by first | rfl | (simp [errW_none, errW_some] <;> rfl) | (simp [*, errW_none, errW_some] <;> rfl), bq HB.out⟩

/-! ### steepleref33_Conjugates: function 30 -/
def steepleref33_Conjugates.l0 : Nat → Int → Int → List (S37) → Int → Int → Int → Option ((List (S37)))
 | 0, _, _, _, _, _, _ => none
 | k + 1, x0, x1, x7, x9, x247000, x247001 => (steepleref15_Two.f k (wrap64 (x0 - x1))).bind fun t247 => (if x9 < t247 then (if x7.length < 8796093022208 then ((steepleref15_Two.f k x1).bind fun t251 => ((steepleref33_Power.f k x247000 x247001 t251).bind fun bt252 => (steepleref33_Conjugates.l0 k x0 x1 (x7 ++ [(⟨x247000, x247001⟩ : S37)]) (wrap64 (x9 + 1)) bt252.1 bt252.2))) else (none)) else (some x7))
def steepleref33_Conjugates.f (k : Nat) (a0 : Int) (a1 : Int) (a2_0 : Int) (a2_1 : Int) : Option ((List (S37))) := steepleref33_Conjugates.l0 k a0 a1 ([] : List (S37)) 0 a2_0 a2_1
theorem steepleref33_Conjugates.mono_l : ∀ k, (∀ y0 y1 y2 y3 y4 y5, LeO (steepleref33_Conjugates.l0 k y0 y1 y2 y3 y4 y5) (steepleref33_Conjugates.l0 (k + 1) y0 y1 y2 y3 y4 y5))
 | 0 => fun _ _ _ _ _ _ r h => by simp [steepleref33_Conjugates.l0] at h
 | k + 1 => by
  have ih0 := steepleref33_Conjugates.mono_l k
  ·intro y0 y1 y2 y3 y4 y5
   unfold steepleref33_Conjugates.l0
   repeat' first
   | (with_reducible exact ih0 _ _ _ _ _ _)
   | (with_reducible exact steepleref15_Two.mono _ _)
   | (with_reducible exact steepleref33_Power.mono _ _ _ _)
   | (with_reducible exact LeO.refl _)
   | (with_reducible exact LeO.none _)
   | (with_reducible refine LeO.ite ?_ ?_)
   | (with_reducible refine LeO.bind ?_ (fun _ => ?_))
   | exact ih0 _ _ _ _ _ _
   | exact steepleref15_Two.mono _ _
   | exact steepleref33_Power.mono _ _ _ _
   | exact LeO.none _
   | refine LeO.ite ?_ ?_
   | refine LeO.bind ?_ (fun _ => ?_)
theorem steepleref33_Conjugates.mono : ∀ a0 a1 a2 a3 k, LeO (steepleref33_Conjugates.f k a0 a1 a2 a3) (steepleref33_Conjugates.f (k + 1) a0 a1 a2 a3) := by
 intro a0 a1 a2 a3 k
 have ih0 := steepleref33_Conjugates.mono_l k
 unfold steepleref33_Conjugates.f
 repeat' first
   | (with_reducible exact ih0 _ _ _ _ _ _)
   | (with_reducible exact steepleref15_Two.mono _ _)
   | (with_reducible exact steepleref33_Power.mono _ _ _ _)
   | (with_reducible exact LeO.refl _)
   | (with_reducible exact LeO.none _)
   | (with_reducible refine LeO.ite ?_ ?_)
   | (with_reducible refine LeO.bind ?_ (fun _ => ?_))
   | exact ih0 _ _ _ _ _ _
   | exact steepleref15_Two.mono _ _
   | exact steepleref33_Power.mono _ _ _ _
   | exact LeO.none _
   | refine LeO.ite ?_ ?_
   | refine LeO.bind ?_ (fun _ => ?_)
set_option maxHeartbeats 8000000 in
set_option maxRecDepth 100000 in
theorem steepleref33_Conjugates.calls (k : Nat) (a0 : Int) (a1 : Int) (a2_0 : Int) (a2_1 : Int) (r : List (S37)) (w : World) (h : steepleref33_Conjugates.f k a0 a1 a2_0 a2_1 = some r) :
  Calls Try.prog 30 #[.int .i64 a0, .int .i64 a1, .agg #[.int .u64 a2_0, .int .u64 a2_1]] w fun e w' => ∃ v0_ : Value, e = .returned (v0_) ∧ Kd.R k37 37 w' w.heap.size (fun _ => True) v0_ r ∧ Below w.heap.size w w' := by
 have hu37 := Try.underlying37
 have HB := Aside0.mk (Below.refl w.heap.size w)
 have H : (steepleref33_Conjugates.l0 k a0 a1 ([] : List (S37)) 0 a2_0 a2_1) = some r := h
 clear h
 have H' := Aside0.mk H
 clear H
 go_enter Try.func30, Try.ntmps30
 go_wp2_with (first | ((with_reducible refine gate_dst (N := 5) rfl ?_); refine box_event ?hg (N := 5) ?hd (cs := #[.int .u64 a2_0, .int .u64 a2_1]) (t := 37) ?hr ?_; (case hd => rfl); (case hg => rfl); (case hr => first | (go_simp; done) | (go_simp; rfl)); intro gb245 hg w4 hbox hb; have BK245 := Aside0.mk hbox; have GW245 := ge hg HB; have GE245 := ge hg HB; replace HB := bh HB hb; clear hb hbox hg; obtain ⟨hcz5_0, hcz5_1⟩ := zc2 BK245; obtain ⟨hfz5_0, hfz5_1⟩ := zf2 BK245) | ((with_reducible refine gate_dst (N := 8) rfl ?_); refine box_event ?hg (N := 8) ?hd (cs := #[.int .u64 0, .int .u64 0]) (t := 37) ?hr ?_; (case hd => rfl); (case hg => rfl); (case hr => first | (go_simp; done) | (go_simp; rfl)); intro gb246 hg w6 hbox hb; have BK246 := Aside0.mk hbox; have GW246 := ge hg HB; have GE246 := ge hg HB; have NB245_246 := nl hg BK245; have NB246_245 := ng hg BK245; replace BK245 := bb BK245 hb; replace HB := bh HB hb; clear hb hbox hg; have hnb7 := NB246_245.out; have hnc7 := NB245_246.out; obtain ⟨hcz8_0, hcz8_1⟩ := zc2 BK246; obtain ⟨hfz8_0, hfz8_1⟩ := zf2 BK246))
 go_loopg [7, 9] k (fun kq v7 v9 w' => ∃ (x7_1 : List (S37)) (x9_1 : Int) (x247000_1 : Int) (x247001_1 : Int), v9 = .int .i64 x9_1 ∧ Aside0 (steepleref33_Conjugates.l0 kq a0 a1 x7_1 x9_1 x247000_1 x247001_1 = some r) ∧ Aside0 (kq ≤ k) ∧ Aside0 (Kd.R k37 37 w' w.heap.size (fun k_ => k_ ≠ gb245 ∧ k_ ≠ gb246) v7 x7_1) ∧ Aside0 (w'.heap[gb245]? = some (.cells #[.int .u64 a2_0, .int .u64 a2_1] 37 (0, 0))) ∧ Aside0 (w'.heap[gb246]? = some (.cells #[.int .u64 x247000_1, .int .u64 x247001_1] 37 (0, 0))) ∧ Aside0 (Below w.heap.size w w'))
 case atStart => exact ⟨(([] : List (S37))), (0), (a2_0), (a2_1), (by first | rfl | (simp; done) | (simp [*]; done)), H', ⟨Nat.le_refl _⟩, ⟨by first | exact Kd.R_nil _ _ _ _ _ | exact Kd.N_nil _ _ _ _ _ | exact Kd.V_nil _ _ _ _ _ | exact Kd.Q_nil _ _ _ _ _ | exact Kd.S_nil _ _ _ _ _⟩, ⟨by (with_reducible repeat refine bl ?_); refine blk_far ?_ NB245_246.out _; (with_reducible repeat refine bl ?_); refine blk_far ?_ NB245_246.out _; (with_reducible repeat refine bl ?_); exact BK245.out⟩, ⟨by (with_reducible repeat refine bl ?_); refine blk_put (cs := #[.int .u64 a2_0, .int .u64 0]) ?_ 1 _ rfl; (with_reducible repeat refine bl ?_); refine blk_put (cs := #[.int .u64 0, .int .u64 0]) ?_ 0 _ rfl; (with_reducible repeat refine bl ?_); exact BK246.out⟩, ⟨bq HB.out⟩⟩
 case round =>
  clear H'
  try clear p2
  try clear c3
  try clear c7
  try clear hcz5_0
  try clear hcz5_1
  try clear hcz8_0
  try clear hcz8_1
  try clear hfz5_0
  try clear hfz5_1
  try clear hfz8_0
  try clear hfz8_1
  obtain ⟨x7_1, x9_1, x247000_1, x247001_1, rfl, HA, HK1, HO_7, BK245, BK246, HB⟩ := hrel
  cases gk with
  | zero => exact absurd HA.out (by simp [steepleref33_Conjugates.l0])
  | succ k1 =>
   have H := HA.out
   clear HA
   simp only [steepleref33_Conjugates.l0] at H
   replace H := Option.bind_eq_some_iff.mp H
   obtain ⟨t247, A90, H⟩ := H
   replace H : (if x9_1 < t247 then (if x7_1.length < 8796093022208 then ((steepleref15_Two.f k1 a1).bind fun t251 => ((steepleref33_Power.f k1 x247000_1 x247001_1 t251).bind fun bt252 => (steepleref33_Conjugates.l0 k1 a0 a1 (x7_1 ++ [(⟨x247000_1, x247001_1⟩ : S37)]) (wrap64 (x9_1 + 1)) bt252.1 bt252.2))) else (none)) else (some x7_1)) = some r := H
   have A9 := Aside0.mk A90
   clear A90
   by_cases c10 : x9_1 < t247
   ·rw [if_pos c10] at H
    have c10b0 : decide (x9_1 < t247) = true := decide_eq_true c10
    clear c10
    by_cases c11 : x7_1.length < 8796093022208
    ·rw [if_pos c11] at H
     have LMc11 := Aside0.mk c11
     clear c11
     obtain ⟨y248, hy248⟩ : ∃ y_ : List (S37), y_ = (x7_1 ++ [(⟨x247000_1, x247001_1⟩ : S37)]) := ⟨_, rfl⟩
     replace H : ((steepleref15_Two.f k1 a1).bind fun t251 => ((steepleref33_Power.f k1 x247000_1 x247001_1 t251).bind fun bt252 => (steepleref33_Conjugates.l0 k1 a0 a1 y248 (wrap64 (x9_1 + 1)) bt252.1 bt252.2))) = some r := by first | (rw [hy248]; with_reducible exact H) | (have H2_ := (Option.bind_some _ _).symm.trans H; rw [hy248]; with_reducible exact H2_) | (have H2_ := (Option.bind_some _ _).symm.trans H; with_reducible exact H2_) | with_reducible exact H | (rw [hy248]; exact H) | exact H
     have Ny248 := Aside0.mk hy248
     clear hy248
     replace H := Option.bind_eq_some_iff.mp H
     obtain ⟨t251, A120, H⟩ := H
     replace H : ((steepleref33_Power.f k1 x247000_1 x247001_1 t251).bind fun bt252 => (steepleref33_Conjugates.l0 k1 a0 a1 y248 (wrap64 (x9_1 + 1)) bt252.1 bt252.2)) = some r := H
     have A12 := Aside0.mk A120
     clear A120
     replace H := Option.bind_eq_some_iff.mp H
     obtain ⟨⟨t252, t253⟩, A130, H⟩ := H
     replace H : (steepleref33_Conjugates.l0 k1 a0 a1 y248 (wrap64 (x9_1 + 1)) t252 t253) = some r := H
     have A13 := Aside0.mk A130
     clear A130
     have H' := Aside0.mk H
     clear H
     try go_wp2_with (first | ((with_reducible refine gate_callee (f := 19) rfl ?_); refine goesL_ (some 15) rfl rfl Try.func19 (by kernel_rfl) rfl #[.int .i64 (wrap64 (a0 - a1))] rfl (by (try simp only [List.map_toArray, List.map_cons, List.map_nil]); first | done | rfl | (simp only [List.length_drop, List.length_take]; rfl)) ?_; (with_reducible refine (steepleref15_Two.calls k1 (wrap64 (a0 - a1)) t247 _ A9.out).mono ?_); rintro e w' ⟨rfl, ⟨nd, rfl⟩⟩; refine ⟨_, rfl, ?_⟩; (try (rw [drewN_self wr]; generalize hq_ : World.drewN wr _ = wr; have n0_ : Aside0 (Kd.R k37 37 wr w.heap.size (fun k_ => k_ ≠ gb245 ∧ k_ ≠ gb246) u7 x7_1) := ⟨by rw [← hq_]; exact (kr HO_7.out)⟩; have n1_ : Aside0 (wr.heap[gb245]? = some (.cells #[.int .u64 a2_0, .int .u64 a2_1] 37 (0, 0))) := ⟨by rw [← hq_]; exact (bk BK245.out)⟩; have n2_ : Aside0 (wr.heap[gb246]? = some (.cells #[.int .u64 x247000_1, .int .u64 x247001_1] 37 (0, 0))) := ⟨by rw [← hq_]; exact (bk BK246.out)⟩; have n3_ : Aside0 (Below w.heap.size w wr) := ⟨by rw [← hq_]; exact (bq HB.out)⟩; clear HO_7 BK245 BK246 HB hq_; have HO_7 := n0_; have BK245 := n1_; have BK246 := n2_; have HB := n3_; clear n0_ n1_ n2_ n3_)); have hnb14 := NB246_245.out; have hnc14 := NB245_246.out; obtain ⟨hcz15_0, hcz15_1⟩ := zc2 BK246; obtain ⟨hfz15_0, hfz15_1⟩ := zf2 BK246) | ((with_reducible refine gate_builtin (b := .append) (xs := #[.tmp 19, .tmp 21]) rfl ?_); at_builtin; refine Kd.R_append k37 (w0 := w) w.heap.size rfl (.tmp 19) (.tmp 21) 39 37 (.agg #[(.int .u64 0), (.int .u64 0)]) 16 rfl Try.underlying39 info37 rfl (by decide) (by omega) u7 x7_1 (⟨x247000_1, x247001_1⟩ : S37) [.int .u64 x247000_1, .int .u64 x247001_1] (fun k_ => k_ ≠ gb245 ∧ k_ ≠ gb246) (fun _ => False) rfl rfl ?aP (fun _ hk => hk.elim) ?aF ?aO ?aB ?aS ?aL ?_; (case aP => exact k37_mkM _ _ _ (⟨x247000_1, x247001_1⟩ : S37)); (case aB => exact (bq HB.out)); (case aF => exact (fun k_ hk => ⟨Kd.freshB (g := gb245) (o := .cells #[.int .u64 a2_0, .int .u64 a2_1] 37 (0, 0)) (bk BK245.out) k_ hk, Kd.freshB (g := gb246) (o := .cells #[.int .u64 x247000_1, .int .u64 x247001_1] 37 (0, 0)) (bk BK246.out) k_ hk⟩)); (case aO => exact (kr HO_7.out)); (case aS => exact (below_size (bq HB.out))); (case aL => have := LMc11.out; omega); intro v249 w16 ho hb hg hat; rw [← Ny248.out] at ho; have HO250 := Aside0.mk ho; replace BK245 := Aside0.mk (blk_grown (g := gb245) (o := .cells #[.int .u64 a2_0, .int .u64 a2_1] 37 (0, 0)) (bk BK245.out) hg (Kd.R_away HO_7.out (fun _ hk => hk.1))); replace BK246 := Aside0.mk (blk_grown (g := gb246) (o := .cells #[.int .u64 x247000_1, .int .u64 x247001_1] 37 (0, 0)) (bk BK246.out) hg (Kd.R_away HO_7.out (fun _ hk => hk.2))); replace HB := Aside0.mk hb; clear HO_7; clear ho hb hg hat))
     replace HO250 := Aside0.mk (Kd.R_drew HO250.out)
     replace BK245 := Aside0.mk (blk_drew BK245.out)
     replace BK246 := Aside0.mk (blk_drew BK246.out)
     replace HB := Aside0.mk (below_drew1 HB.out)
     refine start_ (n := 5) (S := fun w' => w'.cell? ⟨gb246, 0, none⟩ = some (.int .u64 x247000_1) ∧ w'.cell? ⟨gb246, 1, none⟩ = some (.int .u64 x247001_1)) (ds := [4]) #[false, false, false, false, false] (by kernel_rfl) rfl rfl ⟨(blk_cell BK246.out 0).trans rfl, (blk_cell BK246.out 1).trans rfl⟩ (fun hHeld => ?_)
     generalize w16.drew = w17 at HO250 BK245 BK246 HB hHeld ⊢
     refine pure_ (i := 1) (N := some 24) (v := ?_) (a' := ?_) #[false, true, false, false, false] rfl rfl (by kernel_rfl) (fun _ _ _ h => h) (Or.inl ⟨by rfl, ?_⟩) ?_ ?_
     rotate_left
     ·intro w'
      go_simp
      with_reducible rfl
     rotate_left
     ·simp only [Act.put, List.setIfInBounds_toArray, List.set_cons_zero, List.set_cons_succ, i64_w, i32_w]
      rfl
     refine take_ (i := 0) (N := some 23) (v := ?_) (a' := ?_) #[true, true, false, false, false] rfl rfl (by kernel_rfl) (fun _ _ _ h => h) (Or.inl ⟨by rfl, ?_⟩) hHeld ?_ ?_
     rotate_left
     ·rintro w' ⟨s0, s1⟩
      go_simp
      with_reducible rfl
     rotate_left
     ·simp only [Act.put, List.setIfInBounds_toArray, List.set_cons_zero, List.set_cons_succ, i64_w, i32_w]
      rfl
     refine one_ (i := 2) (N := some 25) #[true, true, true, false, false] rfl rfl (by kernel_rfl) (by decide) (fun K hK => ?_)
     refine goes_ Try.func19 (by kernel_rfl) rfl #[.int .i64 a1] (by rfl) rfl rfl (by (try simp only [List.map_toArray, List.map_cons, List.map_nil]); first | done | rfl | (simp only [List.length_drop, List.length_take]; rfl)) ?_
     with_reducible refine (steepleref15_Two.calls k1 a1 t251 _ A12.out).mono ?_
     rintro e w' ⟨rfl, ⟨nd, rfl⟩⟩
     refine ⟨_, rfl, ?_⟩
     refine hK.out _ _ ⟨(blk_cell BK246.out 0).trans rfl, (blk_cell BK246.out 1).trans rfl⟩ (fun hHeld => ?_)
     clear hK K
     refine norm_ (a' := ?_) ?_ ?_
     rotate_left
     ·show Act.put _ (some 25) _ = _
      simp only [Act.put, List.setIfInBounds_toArray, List.set_cons_zero, List.set_cons_succ, i64_w, i32_w]
      rfl
     refine one_ (i := 3) (N := some 26) #[true, true, true, true, false] rfl rfl (by kernel_rfl) (by decide) (fun K hK => ?_)
     refine goes_ Try.func25 (by kernel_rfl) rfl #[.agg #[.int .u64 x247000_1, .int .u64 x247001_1], .int .i64 t251] (by rfl) rfl rfl (by (try simp only [List.map_toArray, List.map_cons, List.map_nil]); first | done | rfl | (simp only [List.length_drop, List.length_take]; rfl)) ?_
     with_reducible refine (steepleref33_Power.calls k1 x247000_1 x247001_1 t251 t252 t253 _ A13.out).mono ?_
     rintro e w18 ⟨rfl, hb⟩
     refine ⟨_, rfl, ?_⟩
     replace HO250 := kb HO250 hb
     replace BK245 := bb BK245 hb
     replace BK246 := bb BK246 hb
     replace HB := bh HB hb
     (try clear hb)
     (try clear hb2)
     (try clear hk)
     (try clear hi)
     refine hK.out _ _ ⟨(blk_cell BK246.out 0).trans rfl, (blk_cell BK246.out 1).trans rfl⟩ (fun hHeld => ?_)
     clear hK K
     refine norm_ (a' := ?_) ?_ ?_
     rotate_left
     ·show Act.put _ (some 26) _ = _
      simp only [Act.put, List.setIfInBounds_toArray, List.set_cons_zero, List.set_cons_succ, i64_w, i32_w]
      rfl
     refine last_ (i := 4) (N := none) #[true, true, true, true, true] rfl rfl (by kernel_rfl) (by decide) (fun K hK => ?_)
     have hs19 : w18.cell? ⟨gb246, 0, none⟩ = some (.int .u64 x247000_1) := (blk_cell BK246.out 0).trans rfl
     have hfs19 := blk_frozen BK246.out 0
     have hns19_0 := NB245_246.out
     have hms19_0 := NB246_245.out
     have hs20 : w18.cell? ⟨gb246, 1, none⟩ = some (.int .u64 x247001_1) := (blk_cell BK246.out 1).trans rfl
     have hfs20 := blk_frozen BK246.out 1
     have hns20_0 := NB245_246.out
     have hms20_0 := NB246_245.out
     refine skip_ (w1 := ?_) (by rfl) rfl ?_ ?_
     rotate_left
     ·go_simp
      rfl
     refine hK.out _ _ ?_
     clear hK K
     refine done_ (by kernel_rfl) ?_
     try go_wp2
     go_roundg k1
     case measure => have := HK1.out; omega
     case rel => exact ⟨(y248), (wrap64 (x9_1 + 1)), (t252), (t253), (by first | rfl | (simp; done) | (simp [*]; done)), H', ⟨by have := HK1.out; omega⟩, ⟨by (with_reducible repeat refine kl ?_); exact Kd.R_mono (Kd.R_far (p := ⟨gb246, 1, none⟩) (Kd.R_far (p := ⟨gb246, 0, none⟩) (Kd.R_mono HO250.out (fun k_ hk => (⟨hk, hk.2⟩ : _ ∧ k_ ≠ gb246))) (fun _ hk => hk.2) (.int .u64 t252)) (fun _ hk => hk.2) (.int .u64 t253)) (fun _ hk => ⟨hk.1.1, hk.1.2⟩)⟩, ⟨by (with_reducible repeat refine bl ?_); refine blk_far ?_ NB245_246.out _; (with_reducible repeat refine bl ?_); refine blk_far ?_ NB245_246.out _; (with_reducible repeat refine bl ?_); exact BK245.out⟩, ⟨by (with_reducible repeat refine bl ?_); refine blk_put (cs := #[.int .u64 t252, .int .u64 x247001_1]) ?_ 1 _ rfl; (with_reducible repeat refine bl ?_); refine blk_put (cs := #[.int .u64 x247000_1, .int .u64 x247001_1]) ?_ 0 _ rfl; (with_reducible repeat refine bl ?_); exact BK246.out⟩, ⟨bq HB.out⟩⟩
    ·rw [if_neg c11] at H
     exact absurd H (by simp)
   ·rw [if_neg c10] at H
    have c10b0 : decide (x9_1 < t247) = false := decide_eq_false c10
    clear c10
    obtain rfl := Option.some.inj H
    go_wp2_with (first | ((with_reducible refine gate_callee (f := 19) rfl ?_); refine goesL_ (some 15) rfl rfl Try.func19 (by kernel_rfl) rfl #[.int .i64 (wrap64 (a0 - a1))] rfl (by (try simp only [List.map_toArray, List.map_cons, List.map_nil]); first | done | rfl | (simp only [List.length_drop, List.length_take]; rfl)) ?_; (with_reducible refine (steepleref15_Two.calls k1 (wrap64 (a0 - a1)) t247 _ A9.out).mono ?_); rintro e w' ⟨rfl, ⟨nd, rfl⟩⟩; refine ⟨_, rfl, ?_⟩))
    go_ret
    exact ⟨_, by first | rfl | (simp [errW_none, errW_some] <;> rfl) | (simp [*, errW_none, errW_some] <;> rfl), by (with_reducible repeat refine kl ?_); exact Kd.R_mono HO_7.out (fun _ hk => trivial), bq HB.out⟩

/-! ### steepleref33_in: function 43 -/
def steepleref33_in.l0 : Nat → List (S37) → Int → Int → Int → Option (Bool)
 | 0, _, _, _, _ => none
 | k + 1, x0, x5, x255000, x255001 => if x5 < (x0.length : Int) then (if 0 ≤ x5 then (if (((rd_T37 x0 x5).f0) == x255000 && (((rd_T37 x0 x5).f1) == x255001)) = true then (some true) else (steepleref33_in.l0 k x0 (wrap64 (x5 + 1)) x255000 x255001)) else (none)) else (some false)
def steepleref33_in.f (k : Nat) (l0 : List (S37)) (a1_0 : Int) (a1_1 : Int) : Option (Bool) := steepleref33_in.l0 k l0 0 a1_0 a1_1
theorem steepleref33_in.mono_l : ∀ k, (∀ y0 y1 y2 y3, LeO (steepleref33_in.l0 k y0 y1 y2 y3) (steepleref33_in.l0 (k + 1) y0 y1 y2 y3))
 | 0 => fun _ _ _ _ r h => by simp [steepleref33_in.l0] at h
 | k + 1 => by
  have ih0 := steepleref33_in.mono_l k
  ·intro y0 y1 y2 y3
   unfold steepleref33_in.l0
   repeat' first
   | (with_reducible exact ih0 _ _ _ _)
   | (with_reducible exact LeO.refl _)
   | (with_reducible exact LeO.none _)
   | (with_reducible refine LeO.ite ?_ ?_)
   | (with_reducible refine LeO.bind ?_ (fun _ => ?_))
   | exact ih0 _ _ _ _
   | exact LeO.none _
   | refine LeO.ite ?_ ?_
   | refine LeO.bind ?_ (fun _ => ?_)
theorem steepleref33_in.mono : ∀ a0 a1 a2 k, LeO (steepleref33_in.f k a0 a1 a2) (steepleref33_in.f (k + 1) a0 a1 a2) := by
 intro a0 a1 a2 k
 have ih0 := steepleref33_in.mono_l k
 unfold steepleref33_in.f
 repeat' first
   | (with_reducible exact ih0 _ _ _ _)
   | (with_reducible exact LeO.refl _)
   | (with_reducible exact LeO.none _)
   | (with_reducible refine LeO.ite ?_ ?_)
   | (with_reducible refine LeO.bind ?_ (fun _ => ?_))
   | exact ih0 _ _ _ _
   | exact LeO.none _
   | refine LeO.ite ?_ ?_
   | refine LeO.bind ?_ (fun _ => ?_)
set_option maxHeartbeats 8000000 in
set_option maxRecDepth 100000 in
theorem steepleref33_in.calls (k : Nat) (A0 : Option Addr) (c0 : Nat) (l0 : List (S37)) (a1_0 : Int) (a1_1 : Int) (r : Bool) (w : World) (hr0 : Kd.C k37 w A0 l0.length l0) (hc0 : l0.length ≤ c0) (h : steepleref33_in.f k l0 a1_0 a1_1 = some r) :
  Calls Try.prog 43 #[.slice A0 l0.length c0, .agg #[.int .u64 a1_0, .int .u64 a1_1]] w fun e w' => e = .returned (.bool r) ∧ Below w.heap.size w w' := by
 have hu37 := Try.underlying37
 have HR0 := Aside0.mk hr0
 have HC0 := Aside0.mk hc0
 clear hr0 hc0
 have HB := Aside0.mk (Below.refl w.heap.size w)
 have H : (steepleref33_in.l0 k l0 0 a1_0 a1_1) = some r := h
 clear h
 have H' := Aside0.mk H
 clear H
 go_enter Try.func43, Try.ntmps43
 go_wp2_with (first | ((with_reducible refine gate_dst (N := 3) rfl ?_); refine box_event ?hg (N := 3) ?hd (cs := #[.int .u64 a1_0, .int .u64 a1_1]) (t := 37) ?hr ?_; (case hd => rfl); (case hg => rfl); (case hr => first | (go_simp; done) | (go_simp; rfl)); intro gb254 hg w3 hbox hb; have BK254 := Aside0.mk hbox; have GW254 := ge hg HB; have GE254 := ge hg HB; replace HB := bh HB hb; clear hb hbox hg))
 repeat (go_quiet (first | ((with_reducible refine gate_dst (N := 3) rfl ?_); refine box_event ?hg (N := 3) ?hd (cs := #[.int .u64 a1_0, .int .u64 a1_1]) (t := 37) ?hr ?_; (case hd => rfl); (case hg => rfl); (case hr => first | (go_simp; done) | (go_simp; rfl)); intro gb254 hg w3 hbox hb; have BK254 := Aside0.mk hbox; have GW254 := ge hg HB; have GE254 := ge hg HB; replace HB := bh HB hb; clear hb hbox hg)); try go_wp2_with (first | ((with_reducible refine gate_dst (N := 3) rfl ?_); refine box_event ?hg (N := 3) ?hd (cs := #[.int .u64 a1_0, .int .u64 a1_1]) (t := 37) ?hr ?_; (case hd => rfl); (case hg => rfl); (case hr => first | (go_simp; done) | (go_simp; rfl)); intro gb254 hg w3 hbox hb; have BK254 := Aside0.mk hbox; have GW254 := ge hg HB; have GE254 := ge hg HB; replace HB := bh HB hb; clear hb hbox hg)))
 go_loopg [5] k (fun kq v5 w' => ∃ (x5_1 : Int), v5 = .int .i64 x5_1 ∧ Aside0 (steepleref33_in.l0 kq l0 x5_1 a1_0 a1_1 = some r) ∧ Aside0 (kq ≤ k) ∧ Aside0 (w'.heap[gb254]? = some (.cells #[.int .u64 a1_0, .int .u64 a1_1] 37 (0, 0))) ∧ Aside0 (Below w.heap.size w w'))
 case atStart => exact ⟨(0), (by first | rfl | (simp; done) | (simp [*]; done)), H', ⟨Nat.le_refl _⟩, ⟨bk BK254.out⟩, ⟨bq HB.out⟩⟩
 case round =>
  clear H'
  try clear p2
  obtain ⟨x5_1, rfl, HA, HK1, BK254, HB⟩ := hrel
  cases gk with
  | zero => exact absurd HA.out (by simp [steepleref33_in.l0])
  | succ k1 =>
   have H := HA.out
   clear HA
   simp only [steepleref33_in.l0] at H
   by_cases c4 : x5_1 < (l0.length : Int)
   ·rw [if_pos c4] at H
    have c4b0 : decide (x5_1 < (l0.length : Int)) = true := decide_eq_true c4
    clear c4
    by_cases c5 : 0 ≤ x5_1
    ·rw [if_pos c5] at H
     have c5b0 : decide (0 ≤ x5_1) = true := decide_eq_true c5
     clear c5
     by_cases c6 : (((rd_T37 l0 x5_1).f0) == a1_0 && (((rd_T37 l0 x5_1).f1) == a1_1)) = true
     ·rw [if_pos c6] at H
      have c6b0 : (((rd_T37 l0 x5_1).f0) == a1_0 && (((rd_T37 l0 x5_1).f1) == a1_1)) = true := c6
      (try (have c6b1 : decide (((rd_T37 l0 x5_1).f0) = a1_0 && (((rd_T37 l0 x5_1).f1) == a1_1)) = true := by simpa using c6))
      (try (have c6b2 : (((rd_T37 l0 x5_1).f0) == a1_0 && (((rd_T37 l0 x5_1).f1) == a1_1)) = true := by simpa using c6))
      clear c6
      obtain rfl := Option.some.inj H
      have p255 : 0 ≤ (x5_1 : Int) := of_decide_eq_true (by first | (with_reducible assumption) | assumption)
      have q255 : x5_1 < (l0.length : Int) := of_decide_eq_true (by first | (with_reducible assumption) | assumption)
      obtain ⟨ad255, e255, hx255_0, hx255_1⟩ := at_T37 HR0.out x5_1 p255 q255
      cases e255
      replace hx255_0 := (HB.out.cell (World.block_lt_of_cell? w _ hx255_0)).trans hx255_0
      replace hx255_1 := (HB.out.cell (World.block_lt_of_cell? w _ hx255_1)).trans hx255_1
      replace p255 := eq_true p255
      replace q255 := eq_true q255
      obtain ⟨hcz7_0, hcz7_1⟩ := zc2 BK254
      obtain ⟨hfz7_0, hfz7_1⟩ := zf2 BK254
      go_wp2
      repeat (go_quiet (fail); try go_wp2)
      go_ret
      exact ⟨by first | rfl | (simp [errW_none, errW_some] <;> rfl) | (simp [*, errW_none, errW_some] <;> rfl), bq HB.out⟩
     ·rw [if_neg c6] at H
      have c6b0 : (((rd_T37 l0 x5_1).f0) == a1_0 && (((rd_T37 l0 x5_1).f1) == a1_1)) = false := by simpa using c6
      (try (have c6b1 : decide (((rd_T37 l0 x5_1).f0) = a1_0 && (((rd_T37 l0 x5_1).f1) == a1_1)) = false := by simpa using c6))
      (try (have c6b2 : (((rd_T37 l0 x5_1).f0) == a1_0 && (((rd_T37 l0 x5_1).f1) == a1_1)) = false := by simpa using c6))
      (try (have c6b3 : ¬ (((rd_T37 l0 x5_1).f0) = a1_0 && (((rd_T37 l0 x5_1).f1) == a1_1)) := by simpa using c6))
      clear c6
      have H' := Aside0.mk H
      clear H
      have p255 : 0 ≤ (x5_1 : Int) := of_decide_eq_true (by first | (with_reducible assumption) | assumption)
      have q255 : x5_1 < (l0.length : Int) := of_decide_eq_true (by first | (with_reducible assumption) | assumption)
      obtain ⟨ad255, e255, hx255_0, hx255_1⟩ := at_T37 HR0.out x5_1 p255 q255
      cases e255
      replace hx255_0 := (HB.out.cell (World.block_lt_of_cell? w _ hx255_0)).trans hx255_0
      replace hx255_1 := (HB.out.cell (World.block_lt_of_cell? w _ hx255_1)).trans hx255_1
      replace p255 := eq_true p255
      replace q255 := eq_true q255
      obtain ⟨hcz8_0, hcz8_1⟩ := zc2 BK254
      obtain ⟨hfz8_0, hfz8_1⟩ := zf2 BK254
      go_wp2
      repeat (go_quiet (fail); try go_wp2)
      go_roundg k1
      case measure => have := HK1.out; omega
      case rel => exact ⟨(wrap64 (x5_1 + 1)), (by first | rfl | (simp; done) | (simp [*]; done)), H', ⟨by have := HK1.out; omega⟩, ⟨bk BK254.out⟩, ⟨bq HB.out⟩⟩
    ·rw [if_neg c5] at H
     exact absurd H (by simp)
   ·rw [if_neg c4] at H
    have c4b0 : decide (x5_1 < (l0.length : Int)) = false := decide_eq_false c4
    clear c4
    obtain rfl := Option.some.inj H
    go_wp2
    repeat (go_quiet (fail); try go_wp2)
    go_ret
    exact ⟨by first | rfl | (simp [errW_none, errW_some] <;> rfl) | (simp [*, errW_none, errW_some] <;> rfl), bq HB.out⟩

end Go.Proofs.Ytlegcabfgkccmaa.P
