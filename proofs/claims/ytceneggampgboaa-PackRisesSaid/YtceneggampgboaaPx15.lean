/- Written by a program of this session: functions that the law reaches, as Lean functions, and that the code comes to their answers. Conditions: those that each theorem names. -/
import Derived.Test.YtceneggampgboaaPx0
import Derived.Test.YtceneggampgboaaPx6
import Derived.Test.YtceneggampgboaaPx12
namespace Go.Proofs.Ytceneggampgboaa.P
open Go.RowKit Go.Proofs.YtceneggampgboaaX Go.Proofs.YtceneggampgboaaW.PrintWords Go.Proofs.YtceneggampgboaaW.PrintLast Go.Proofs.YtceneggampgboaaW.PrintMore
attribute [local go_sem] max2_int min2_int max_two min_two max_three min_three max_four min_four   -- for this text's walks alone
set_option linter.unusedVariables false
set_option linter.unusedSimpArgs false

/-! ### steepleref03_Fall: function 20 -/
mutual
def steepleref03_Fall.j0 : Nat → List (S44) → Bool → Int → List (S44) → Option (Int × (List (S44)) × Int)
 | 0, _, _, _, _ => none
 | k + 1, x4, x18, x395000, x395001 => if x18 = true then (some (0, ([] : List (S44)), 6)) else ((steepleref03_width.f (wrap64 (x395000 - 1))).bind fun t396 => (steepleref03_Fall.l0 k x4 t396 0 x395000 x395001))
def steepleref03_Fall.l0 : Nat → List (S44) → Int → Int → Int → List (S44) → Option (Int × (List (S44)) × Int)
 | 0, _, _, _, _, _ => none
 | k + 1, x4, x5, x6, x395000, x395001 => if x6 < (x395001.length : Int) then (steepleref03_Fall.l1 k x4 x5 x6 0 x395000 x395001 0 0 0 0) else (some (wrap64 (x395000 - 1), x4, 0))
def steepleref03_Fall.l1 : Nat → List (S44) → Int → Int → Int → Int → List (S44) → Int → Int → Int → Int → Option (Int × (List (S44)) × Int)
 | 0, _, _, _, _, _, _, _, _, _, _ => none
 | k + 1, x4, x5, x6, x9, x395000, x395001, x398000, x398001, x399000, x399001 => if x9 < x5 then (if 0 ≤ x6 then (if x6 < (x395001.length : Int) then ((steepleref02_Has.f k ((rd_T44 x395001 x6).f0) ((rd_T44 x395001 x6).f1) x9).bind fun t406 => (if t406 = true then ((steepleref02_Bit.f k x9).bind fun bt407 => ((steepleref02_Add.f x398000 x398001 bt407.1 bt407.2).bind fun bt409 => (steepleref03_Fall.j3 k x4 x5 x6 x9 x395000 x395001 bt409.1 bt409.2 x399000 x399001))) else (steepleref03_Fall.j3 k x4 x5 x6 x9 x395000 x395001 x398000 x398001 x399000 x399001))) else (none)) else (none)) else ((some (([(⟨x398000, x398001⟩ : S44), (⟨x399000, x399001⟩ : S44)] : List (S44)) : List (S44))).bind fun y399 => (if x4.length + y399.length < 8796093022208 then (steepleref03_Fall.l0 k (x4 ++ y399) x5 (wrap64 (x6 + 1)) x395000 x395001) else (none)))
def steepleref03_Fall.j3 : Nat → List (S44) → Int → Int → Int → Int → List (S44) → Int → Int → Int → Int → Option (Int × (List (S44)) × Int)
 | 0, _, _, _, _, _, _, _, _, _, _ => none
 | k + 1, x4, x5, x6, x9, x395000, x395001, x398000, x398001, x399000, x399001 => if 0 ≤ x6 then (if x6 < (x395001.length : Int) then ((steepleref02_Has.f k ((rd_T44 x395001 x6).f0) ((rd_T44 x395001 x6).f1) (wrap64 (x5 + x9))).bind fun t412 => (if t412 = true then ((steepleref02_Bit.f k x9).bind fun bt413 => ((steepleref02_Add.f x399000 x399001 bt413.1 bt413.2).bind fun bt415 => (steepleref03_Fall.l1 k x4 x5 x6 (wrap64 (x9 + 1)) x395000 x395001 x398000 x398001 bt415.1 bt415.2))) else (steepleref03_Fall.l1 k x4 x5 x6 (wrap64 (x9 + 1)) x395000 x395001 x398000 x398001 x399000 x399001))) else (none)) else (none)
end
def steepleref03_Fall.f (k : Nat) (a0_0 : Int) (l0_1 : List (S44)) : Option (Int × (List (S44)) × Int) := if a0_0 = 0 then (steepleref03_Fall.j0 k ([] : List (S44)) true a0_0 l0_1) else (steepleref03_Fall.j0 k ([] : List (S44)) (decide ((l0_1.length : Int) > 32768)) a0_0 l0_1)
theorem steepleref03_Fall.mono_l : ∀ k, (∀ y0 y1 y2 y3, LeO (steepleref03_Fall.j0 k y0 y1 y2 y3) (steepleref03_Fall.j0 (k + 1) y0 y1 y2 y3)) ∧ (∀ y0 y1 y2 y3 y4, LeO (steepleref03_Fall.l0 k y0 y1 y2 y3 y4) (steepleref03_Fall.l0 (k + 1) y0 y1 y2 y3 y4)) ∧ (∀ y0 y1 y2 y3 y4 y5 y6 y7 y8 y9, LeO (steepleref03_Fall.l1 k y0 y1 y2 y3 y4 y5 y6 y7 y8 y9) (steepleref03_Fall.l1 (k + 1) y0 y1 y2 y3 y4 y5 y6 y7 y8 y9)) ∧ (∀ y0 y1 y2 y3 y4 y5 y6 y7 y8 y9, LeO (steepleref03_Fall.j3 k y0 y1 y2 y3 y4 y5 y6 y7 y8 y9) (steepleref03_Fall.j3 (k + 1) y0 y1 y2 y3 y4 y5 y6 y7 y8 y9))
 | 0 => ⟨fun _ _ _ _ r h => by simp [steepleref03_Fall.j0] at h, fun _ _ _ _ _ r h => by simp [steepleref03_Fall.l0] at h, fun _ _ _ _ _ _ _ _ _ _ r h => by simp [steepleref03_Fall.l1] at h, fun _ _ _ _ _ _ _ _ _ _ r h => by simp [steepleref03_Fall.j3] at h⟩
 | k + 1 => by
  obtain ⟨ih0, ih1, ih2, ih3⟩ := steepleref03_Fall.mono_l k
  refine ⟨?_, ?_, ?_, ?_⟩
  ·intro y0 y1 y2 y3
   unfold steepleref03_Fall.j0
   repeat' first
   | (with_reducible exact ih0 _ _ _ _)
   | (with_reducible exact ih1 _ _ _ _ _)
   | (with_reducible exact ih2 _ _ _ _ _ _ _ _ _ _)
   | (with_reducible exact ih3 _ _ _ _ _ _ _ _ _ _)
   | (with_reducible exact steepleref02_Bit.mono _ _)
   | (with_reducible exact steepleref02_Has.mono _ _ _ _)
   | (with_reducible exact LeO.refl _)
   | (with_reducible exact LeO.none _)
   | (with_reducible refine LeO.ite ?_ ?_)
   | (with_reducible refine LeO.bind ?_ (fun _ => ?_))
   | exact ih0 _ _ _ _
   | exact ih1 _ _ _ _ _
   | exact ih2 _ _ _ _ _ _ _ _ _ _
   | exact ih3 _ _ _ _ _ _ _ _ _ _
   | exact steepleref02_Bit.mono _ _
   | exact steepleref02_Has.mono _ _ _ _
   | exact LeO.none _
   | refine LeO.ite ?_ ?_
   | refine LeO.bind ?_ (fun _ => ?_)
  ·intro y0 y1 y2 y3 y4
   unfold steepleref03_Fall.l0
   repeat' first
   | (with_reducible exact ih0 _ _ _ _)
   | (with_reducible exact ih1 _ _ _ _ _)
   | (with_reducible exact ih2 _ _ _ _ _ _ _ _ _ _)
   | (with_reducible exact ih3 _ _ _ _ _ _ _ _ _ _)
   | (with_reducible exact steepleref02_Bit.mono _ _)
   | (with_reducible exact steepleref02_Has.mono _ _ _ _)
   | (with_reducible exact LeO.refl _)
   | (with_reducible exact LeO.none _)
   | (with_reducible refine LeO.ite ?_ ?_)
   | (with_reducible refine LeO.bind ?_ (fun _ => ?_))
   | exact ih0 _ _ _ _
   | exact ih1 _ _ _ _ _
   | exact ih2 _ _ _ _ _ _ _ _ _ _
   | exact ih3 _ _ _ _ _ _ _ _ _ _
   | exact steepleref02_Bit.mono _ _
   | exact steepleref02_Has.mono _ _ _ _
   | exact LeO.none _
   | refine LeO.ite ?_ ?_
   | refine LeO.bind ?_ (fun _ => ?_)
  ·intro y0 y1 y2 y3 y4 y5 y6 y7 y8 y9
   unfold steepleref03_Fall.l1
   repeat' first
   | (with_reducible exact ih0 _ _ _ _)
   | (with_reducible exact ih1 _ _ _ _ _)
   | (with_reducible exact ih2 _ _ _ _ _ _ _ _ _ _)
   | (with_reducible exact ih3 _ _ _ _ _ _ _ _ _ _)
   | (with_reducible exact steepleref02_Bit.mono _ _)
   | (with_reducible exact steepleref02_Has.mono _ _ _ _)
   | (with_reducible exact LeO.refl _)
   | (with_reducible exact LeO.none _)
   | (with_reducible refine LeO.ite ?_ ?_)
   | (with_reducible refine LeO.bind ?_ (fun _ => ?_))
   | exact ih0 _ _ _ _
   | exact ih1 _ _ _ _ _
   | exact ih2 _ _ _ _ _ _ _ _ _ _
   | exact ih3 _ _ _ _ _ _ _ _ _ _
   | exact steepleref02_Bit.mono _ _
   | exact steepleref02_Has.mono _ _ _ _
   | exact LeO.none _
   | refine LeO.ite ?_ ?_
   | refine LeO.bind ?_ (fun _ => ?_)
  ·intro y0 y1 y2 y3 y4 y5 y6 y7 y8 y9
   unfold steepleref03_Fall.j3
   repeat' first
   | (with_reducible exact ih0 _ _ _ _)
   | (with_reducible exact ih1 _ _ _ _ _)
   | (with_reducible exact ih2 _ _ _ _ _ _ _ _ _ _)
   | (with_reducible exact ih3 _ _ _ _ _ _ _ _ _ _)
   | (with_reducible exact steepleref02_Bit.mono _ _)
   | (with_reducible exact steepleref02_Has.mono _ _ _ _)
   | (with_reducible exact LeO.refl _)
   | (with_reducible exact LeO.none _)
   | (with_reducible refine LeO.ite ?_ ?_)
   | (with_reducible refine LeO.bind ?_ (fun _ => ?_))
   | exact ih0 _ _ _ _
   | exact ih1 _ _ _ _ _
   | exact ih2 _ _ _ _ _ _ _ _ _ _
   | exact ih3 _ _ _ _ _ _ _ _ _ _
   | exact steepleref02_Bit.mono _ _
   | exact steepleref02_Has.mono _ _ _ _
   | exact LeO.none _
   | refine LeO.ite ?_ ?_
   | refine LeO.bind ?_ (fun _ => ?_)
theorem steepleref03_Fall.mono : ∀ a0 a1 k, LeO (steepleref03_Fall.f k a0 a1) (steepleref03_Fall.f (k + 1) a0 a1) := by
 intro a0 a1 k
 obtain ⟨ih0, ih1, ih2, ih3⟩ := steepleref03_Fall.mono_l k
 unfold steepleref03_Fall.f
 repeat' first
   | (with_reducible exact ih0 _ _ _ _)
   | (with_reducible exact ih1 _ _ _ _ _)
   | (with_reducible exact ih2 _ _ _ _ _ _ _ _ _ _)
   | (with_reducible exact ih3 _ _ _ _ _ _ _ _ _ _)
   | (with_reducible exact steepleref02_Bit.mono _ _)
   | (with_reducible exact steepleref02_Has.mono _ _ _ _)
   | (with_reducible exact LeO.refl _)
   | (with_reducible exact LeO.none _)
   | (with_reducible refine LeO.ite ?_ ?_)
   | (with_reducible refine LeO.bind ?_ (fun _ => ?_))
   | exact ih0 _ _ _ _
   | exact ih1 _ _ _ _ _
   | exact ih2 _ _ _ _ _ _ _ _ _ _
   | exact ih3 _ _ _ _ _ _ _ _ _ _
   | exact steepleref02_Bit.mono _ _
   | exact steepleref02_Has.mono _ _ _ _
   | exact LeO.none _
   | refine LeO.ite ?_ ?_
   | refine LeO.bind ?_ (fun _ => ?_)
set_option maxHeartbeats 8000000 in
set_option maxRecDepth 100000 in
theorem steepleref03_Fall.calls (k : Nat) (a0_0 : Int) (A0_1 : Option Addr) (c0_1 : Nat) (l0_1 : List (S44)) (r1 : Int) (r2 : List (S44)) (r3 : Int) (w : World) (hr0_1 : Kd.C k44 w A0_1 l0_1.length l0_1) (hc0_1 : l0_1.length ≤ c0_1) (h : steepleref03_Fall.f k a0_0 l0_1 = some (r1, r2, r3)) :
  Calls Try.prog 20 #[.agg #[.int .i64 a0_0, .slice A0_1 l0_1.length c0_1]] w fun e w' => ∃ v1_ : Value, e = .returned (.tuple #[.agg #[.int .i64 r1, v1_], .int .i64 r3]) ∧ Kd.R k44 44 w' w.heap.size (fun _ => True) v1_ r2 ∧ Below w.heap.size w w' := by
 have hu37 := Try.underlying37
 have hu44 := Try.underlying44
 have HR0_1 := Aside0.mk hr0_1
 have HC0_1 := Aside0.mk hc0_1
 clear hr0_1 hc0_1
 have HB := Aside0.mk (Below.refl w.heap.size w)
 have H : (if a0_0 = 0 then (steepleref03_Fall.j0 k ([] : List (S44)) true a0_0 l0_1) else (steepleref03_Fall.j0 k ([] : List (S44)) (decide ((l0_1.length : Int) > 32768)) a0_0 l0_1)) = some (r1, r2, r3) := h
 clear h
 have HC2 := Aside0.mk H
 clear H
 go_enter Try.func20, Try.ntmps20
 go_upto_region 2 with (first | ((with_reducible refine gate_dst (N := 1) rfl ?_); (try (refine gate_guard (by rfl) ?_; dsimp only)); refine box_event ?hg (N := 1) ?hd (cs := #[.int .i64 a0_0, .slice A0_1 l0_1.length c0_1]) (t := 37) ?hr ?_; (case hd => rfl); (case hg => rfl); (case hr => first | (go_simp; done) | (go_simp; rfl)); intro gb394 hg w3 hbox hb; have BK394 := Aside0.mk hbox; have GW394 := ge hg HB; have GE394 := ge hg HB; replace HB := bh HB hb; clear hb hbox hg) | ((with_reducible refine gate_dst (N := 2) rfl ?_); (try (refine gate_guard (by rfl) ?_; dsimp only)); refine box_event ?hg (N := 2) ?hd (cs := #[.int .i64 0, .slice none 0 0]) (t := 37) ?hr ?_; (case hd => rfl); (case hg => rfl); (case hr => first | (go_simp; done) | (go_simp; rfl)); intro gb395 hg w4 hbox hb; have BK395 := Aside0.mk hbox; have GW395 := ge hg HB; have GE395 := ge hg HB; have NB394_395 := nl hg BK394; have NB395_394 := ng hg BK394; replace BK394 := bb BK394 hb; replace HB := bh HB hb; clear hb hbox hg))
 (try simp only [Act.put, List.setIfInBounds_toArray, List.set_cons_zero, List.set_cons_succ])
 go_cut [18] (fun v18 wc => ∃ (kq : Nat) (x18_1 : Bool), v18 = .bool x18_1 ∧ Aside0 (steepleref03_Fall.j0 kq ([] : List (S44)) x18_1 a0_0 l0_1 = some (r1, r2, r3)) ∧ Aside0 (kq ≤ k) ∧ Aside0 (Kd.R k44 44 wc w.heap.size (fun _ => True) (.slice none 0 0) ([] : List (S44))) ∧ Aside0 (wc.heap[gb394]? = some (.cells #[.int .i64 a0_0, (.slice A0_1 l0_1.length c0_1)] 37 (0, 0))) ∧ Aside0 (wc.heap[gb395]? = some (.cells #[.int .i64 0, (.slice none 0 0)] 37 (0, 0))) ∧ Aside0 (Below w.heap.size w wc))
 case first =>
  have H := HC2.out
  clear HC2
  by_cases c5 : a0_0 = 0
  ·rw [if_pos c5] at H
   have c5b0 : (a0_0 == 0) = true := beq_iff_eq.mpr c5
   have c5b1 : (a0_0 != 0) = false := bne_eq_false_iff_eq.mpr c5
   clear c5
   (first | rw [c5b0] | (simp only [i64_w, i32_w]; rw [c5b0]) | skip)
   have H' := Aside0.mk H
   clear H
   have hnb6 := NB394_395.out
   have hnc6 := NB395_394.out
   obtain ⟨hcz7_0, hcz7_1⟩ := zc2 BK394
   obtain ⟨hfz7_0, hfz7_1⟩ := zf2 BK394
   go_wp2
   go_meet
   case rel => exact ⟨_, (true), (by first | rfl | (simp; done) | (simp [*]; done)), H', ⟨by first | omega | exact Nat.le_refl _⟩, ⟨by first | exact Kd.R_nil _ _ _ _ _ | exact Kd.N_nil _ _ _ _ _ | exact Kd.V_nil _ _ _ _ _ | exact Kd.Q_nil _ _ _ _ _ | exact Kd.S_nil _ _ _ _ _⟩, ⟨bk BK394.out⟩, ⟨bk BK395.out⟩, ⟨bq HB.out⟩⟩
  ·rw [if_neg c5] at H
   have c5b0 : (a0_0 == 0) = false := beq_eq_false_iff_ne.mpr c5
   have c5b1 : (a0_0 != 0) = true := bne_iff_ne.mpr c5
   (first | rw [c5b0] | (simp only [i64_w, i32_w]; rw [c5b0]) | skip)
   have H' := Aside0.mk H
   clear H
   have hnb8 := NB394_395.out
   have hnc8 := NB395_394.out
   obtain ⟨hcz9_0, hcz9_1⟩ := zc2 BK394
   obtain ⟨hfz9_0, hfz9_1⟩ := zf2 BK394
   go_wp2
   go_meet
   case rel => exact ⟨_, (decide ((l0_1.length : Int) > 32768)), (by first | rfl | (simp; done) | (simp [*]; done)), H', ⟨by first | omega | exact Nat.le_refl _⟩, ⟨by first | exact Kd.R_nil _ _ _ _ _ | exact Kd.N_nil _ _ _ _ _ | exact Kd.V_nil _ _ _ _ _ | exact Kd.Q_nil _ _ _ _ _ | exact Kd.S_nil _ _ _ _ _⟩, ⟨bk BK394.out⟩, ⟨bk BK395.out⟩, ⟨bq HB.out⟩⟩
 case rest =>
  clear HC2
  try clear c2
  try clear p2
  try clear c5
  try clear c5b0
  try clear c5b1
  try clear c6
  try clear c8
  try clear hcz7_0
  try clear hcz7_1
  try clear hcz9_0
  try clear hcz9_1
  try clear hfz7_0
  try clear hfz7_1
  try clear hfz9_0
  try clear hfz9_1
  obtain ⟨kq, x18_1, rfl, HA, HJ1, HO_4, BK394, BK395, HB⟩ := hcut
  cases kq with
  | zero => exact absurd HA.out (by simp [steepleref03_Fall.j0])
  | succ kj1 =>
   have H := HA.out
   clear HA
   simp only [steepleref03_Fall.j0] at H
   by_cases c10 : x18_1 = true
   ·subst c10
    have H1 : (some (0, ([] : List (S44)), 6)) = some (r1, r2, r3) := by rw [if_pos rfl] at H; exact H
    clear H
    have H := H1
    clear H1
    simp only [Option.some.injEq, Prod.mk.injEq] at H
    obtain ⟨rfl, rfl, rfl⟩ := H
    have hnb11 := NB395_394.out
    have hnc11 := NB394_395.out
    obtain ⟨hcz12_0, hcz12_1⟩ := zc2 BK395
    obtain ⟨hfz12_0, hfz12_1⟩ := zf2 BK395
    go_wp2
    refine bodyPost_ret (results_ct rfl _ _ gb395 37 #[.int .i64 0, .slice none 0 0] (0, 0) _ rfl (by (with_reducible repeat refine bl ?_); refine blk_put (cs := #[.int .i64 0, .slice none 0 0]) ?_ 1 _ rfl; (with_reducible repeat refine bl ?_); refine blk_put (cs := #[.int .i64 0, .slice none 0 0]) ?_ 0 _ rfl; (with_reducible repeat refine bl ?_); exact BK395.out) Try.underlying37 rfl (by kernel_rfl)) rfl ?_
    exact ⟨_, by first | rfl | (simp [errW_none, errW_some] <;> rfl) | (simp [*, errW_none, errW_some] <;> rfl), by first | exact Kd.R_nil _ _ _ _ _ | exact Kd.N_nil _ _ _ _ _ | exact Kd.V_nil _ _ _ _ _ | exact Kd.Q_nil _ _ _ _ _ | exact Kd.S_nil _ _ _ _ _, bq HB.out⟩
   ·replace c10 := Bool.eq_false_iff.mpr c10
    subst c10
    have H1 : ((steepleref03_width.f (wrap64 (a0_0 - 1))).bind fun t396 => (steepleref03_Fall.l0 kj1 ([] : List (S44)) t396 0 a0_0 l0_1)) = some (r1, r2, r3) := by rw [if_neg (show ¬ (false = true) by decide)] at H; exact H
    clear H
    have H := H1
    clear H1
    replace H := Option.bind_eq_some_iff.mp H
    obtain ⟨t396, A130, H⟩ := H
    replace H : (steepleref03_Fall.l0 kj1 ([] : List (S44)) t396 0 a0_0 l0_1) = some (r1, r2, r3) := H
    have A13 := Aside0.mk A130
    clear A130
    have H' := Aside0.mk H
    clear H
    have hnb14 := NB394_395.out
    have hnc14 := NB395_394.out
    obtain ⟨hcz15_0, hcz15_1⟩ := zc2 BK394
    obtain ⟨hfz15_0, hfz15_1⟩ := zf2 BK394
    go_wp2_with (first | ((with_reducible refine gate_callee (f := 45) rfl ?_); refine goesL_ (some 23) rfl rfl Try.func45 (by kernel_rfl) rfl #[.int .i64 (wrap64 (a0_0 - 1))] rfl (by (try simp only [List.map_toArray, List.map_cons, List.map_nil]); first | done | rfl | (simp only [List.length_drop, List.length_take]; rfl)) ?_; (with_reducible refine (steepleref03_width.calls (wrap64 (a0_0 - 1)) t396 _ A13.out).mono ?_); rintro e w16 ⟨rfl, hb⟩; refine ⟨_, rfl, ?_⟩; replace HO_4 := kb HO_4 hb; replace BK394 := bb BK394 hb; replace BK395 := bb BK395 hb; replace HB := bh HB hb; (try clear hb); (try clear hb2); (try clear hk); (try clear hi)))
    go_loopg [4, 6] kj1 (fun kq v4 v6 w' => ∃ (x4_2 : List (S44)) (x6_2 : Int), v6 = .int .i64 x6_2 ∧ Aside0 (steepleref03_Fall.l0 kq x4_2 t396 x6_2 a0_0 l0_1 = some (r1, r2, r3)) ∧ Aside0 (kq ≤ kj1) ∧ Aside0 (Kd.R k44 44 w' w.heap.size (fun _ => True) v4 x4_2) ∧ Aside0 (w'.heap[gb394]? = some (.cells #[.int .i64 a0_0, (.slice A0_1 l0_1.length c0_1)] 37 (0, 0))) ∧ Aside0 (w'.heap[gb395]? = some (.cells #[.int .i64 0, (.slice none 0 0)] 37 (0, 0))) ∧ Aside0 (Below w.heap.size w w'))
    case atStart => exact ⟨(([] : List (S44))), (0), (by first | rfl | (simp; done) | (simp [*]; done)), H', ⟨Nat.le_refl _⟩, ⟨kr HO_4.out⟩, ⟨bk BK394.out⟩, ⟨bk BK395.out⟩, ⟨bq HB.out⟩⟩
    case round =>
     clear H'
     try clear c1
     try clear c2
     try clear p2
     try clear c4
     try clear c5
     try clear c5b0
     try clear c5b1
     try clear c6
     try clear p6
     try clear c8
     try clear c10
     try clear c11
     try clear c14
     try clear hcz12_0
     try clear hcz12_1
     try clear hcz15_0
     try clear hcz15_1
     try clear hcz7_0
     try clear hcz7_1
     try clear hcz9_0
     try clear hcz9_1
     try clear hfz12_0
     try clear hfz12_1
     try clear hfz15_0
     try clear hfz15_1
     try clear hfz7_0
     try clear hfz7_1
     try clear hfz9_0
     try clear hfz9_1
     try clear p2
     obtain ⟨x4_2, x6_2, rfl, HA, HK2, HO_4, BK394, BK395, HB⟩ := hrel
     cases gk with
     | zero => exact absurd HA.out (by simp [steepleref03_Fall.l0])
     | succ k2 =>
      have H := HA.out
      clear HA
      simp only [steepleref03_Fall.l0] at H
      by_cases c17 : x6_2 < (l0_1.length : Int)
      ·rw [if_pos c17] at H
       have c17b0 : decide (x6_2 < (l0_1.length : Int)) = true := decide_eq_true c17
       clear c17
       have H' := Aside0.mk H
       clear H
       have hnb18 := NB394_395.out
       have hnc18 := NB395_394.out
       obtain ⟨hcz19_0, hcz19_1⟩ := zc2 BK394
       obtain ⟨hfz19_0, hfz19_1⟩ := zf2 BK394
       go_wp2_with (first | ((with_reducible refine gate_dst (N := 7) rfl ?_); (try (refine gate_guard (by rfl) ?_; dsimp only)); refine box_event ?hg (N := 7) ?hd (cs := #[.int .u64 0, .int .u64 0]) (t := 44) ?hr ?_; (case hd => rfl); (case hg => rfl); (case hr => first | (go_simp; done) | (go_simp; rfl)); intro gb397 hg w20 hbox hb; have BK397 := Aside0.mk hbox; have GW397 := ge hg HB; have GE397 := ge hg HB; have NB394_397 := nl hg BK394; have NB397_394 := ng hg BK394; have NB395_397 := nl hg BK395; have NB397_395 := ng hg BK395; replace HO_4 := Aside0.mk (Kd.R_below (Kd.R_elderB (kr HO_4.out) gb397 (Nat.le_of_eq hg.symm)) hb); replace BK394 := bb BK394 hb; replace BK395 := bb BK395 hb; replace HB := bh HB hb; clear hb hbox hg) | ((with_reducible refine gate_dst (N := 8) rfl ?_); (try (refine gate_guard (by rfl) ?_; dsimp only)); refine box_event ?hg (N := 8) ?hd (cs := #[.int .u64 0, .int .u64 0]) (t := 44) ?hr ?_; (case hd => rfl); (case hg => rfl); (case hr => first | (go_simp; done) | (go_simp; rfl)); intro gb398 hg w21 hbox hb; have BK398 := Aside0.mk hbox; have GW398 := ge hg HB; have GE398 := ge hg HB; have NB394_398 := nl hg BK394; have NB398_394 := ng hg BK394; have NB395_398 := nl hg BK395; have NB398_395 := ng hg BK395; have NB397_398 := nl hg BK397; have NB398_397 := ng hg BK397; replace HO_4 := Aside0.mk (Kd.R_below (Kd.R_elderB (kr HO_4.out) gb398 (Nat.le_of_eq hg.symm)) hb); replace BK394 := bb BK394 hb; replace BK395 := bb BK395 hb; replace BK397 := bb BK397 hb; replace HB := bh HB hb; clear hb hbox hg))
       go_loopg [9] k2 (fun kq v9 w' => ∃ (x9_3 : Int) (x398000_3 : Int) (x398001_3 : Int) (x399000_3 : Int) (x399001_3 : Int), v9 = .int .i64 x9_3 ∧ Aside0 (steepleref03_Fall.l1 kq x4_2 t396 x6_2 x9_3 a0_0 l0_1 x398000_3 x398001_3 x399000_3 x399001_3 = some (r1, r2, r3)) ∧ Aside0 (kq ≤ k2) ∧ Aside0 (Kd.R k44 44 w' w.heap.size (fun k_ => k_ ≠ gb397 ∧ k_ ≠ gb398) u4 x4_2) ∧ Aside0 (w'.heap[gb394]? = some (.cells #[.int .i64 a0_0, (.slice A0_1 l0_1.length c0_1)] 37 (0, 0))) ∧ Aside0 (w'.heap[gb395]? = some (.cells #[.int .i64 0, (.slice none 0 0)] 37 (0, 0))) ∧ Aside0 (w'.heap[gb397]? = some (.cells #[.int .u64 x398000_3, .int .u64 x398001_3] 44 (0, 0))) ∧ Aside0 (w'.heap[gb398]? = some (.cells #[.int .u64 x399000_3, .int .u64 x399001_3] 44 (0, 0))) ∧ Aside0 (Below w.heap.size w w'))
       case atStart => exact ⟨(0), (0), (0), (0), (0), (by first | rfl | (simp; done) | (simp [*]; done)), H', ⟨Nat.le_refl _⟩, ⟨by (with_reducible repeat refine kl ?_); exact Kd.R_mono HO_4.out (fun _ hk => ⟨hk.1.2, hk.2⟩)⟩, ⟨bk BK394.out⟩, ⟨bk BK395.out⟩, ⟨bk BK397.out⟩, ⟨bk BK398.out⟩, ⟨bq HB.out⟩⟩
       case round =>
        clear H'
        try clear c1
        try clear c2
        try clear p2
        try clear c4
        try clear c5
        try clear c5b0
        try clear c5b1
        try clear c6
        try clear p6
        try clear c8
        try clear c10
        try clear c11
        try clear c14
        try clear c17
        try clear c17b0
        try clear c18
        try clear c20
        try clear hcz12_0
        try clear hcz12_1
        try clear hcz15_0
        try clear hcz15_1
        try clear hcz19_0
        try clear hcz19_1
        try clear hcz7_0
        try clear hcz7_1
        try clear hcz9_0
        try clear hcz9_1
        try clear hfz12_0
        try clear hfz12_1
        try clear hfz15_0
        try clear hfz15_1
        try clear hfz19_0
        try clear hfz19_1
        try clear hfz7_0
        try clear hfz7_1
        try clear hfz9_0
        try clear hfz9_1
        try clear p2
        try clear p6
        obtain ⟨x9_3, x398000_3, x398001_3, x399000_3, x399001_3, rfl, HA, HK3, HO_4, BK394, BK395, BK397, BK398, HB⟩ := hrel
        cases gk with
        | zero => exact absurd HA.out (by simp [steepleref03_Fall.l1])
        | succ k3 =>
         have H := HA.out
         clear HA
         simp only [steepleref03_Fall.l1] at H
         by_cases c22 : x9_3 < t396
         ·rw [if_pos c22] at H
          have c22b0 : decide (x9_3 < t396) = true := decide_eq_true c22
          clear c22
          by_cases c23 : 0 ≤ x6_2
          ·rw [if_pos c23] at H
           have c23b0 : decide (0 ≤ x6_2) = true := decide_eq_true c23
           clear c23
           by_cases c24 : x6_2 < (l0_1.length : Int)
           ·rw [if_pos c24] at H
            have c24b0 : decide (x6_2 < (l0_1.length : Int)) = true := decide_eq_true c24
            clear c24
            replace H := Option.bind_eq_some_iff.mp H
            obtain ⟨t406, A250, H⟩ := H
            replace H : (if t406 = true then ((steepleref02_Bit.f k3 x9_3).bind fun bt407 => ((steepleref02_Add.f x398000_3 x398001_3 bt407.1 bt407.2).bind fun bt409 => (steepleref03_Fall.j3 k3 x4_2 t396 x6_2 x9_3 a0_0 l0_1 bt409.1 bt409.2 x399000_3 x399001_3))) else (steepleref03_Fall.j3 k3 x4_2 t396 x6_2 x9_3 a0_0 l0_1 x398000_3 x398001_3 x399000_3 x399001_3)) = some (r1, r2, r3) := H
            have A25 := Aside0.mk A250
            clear A250
            have HC26 := Aside0.mk H
            clear H
            have hnb27 := NB394_395.out
            have hnc27 := NB395_394.out
            have hnb28 := NB394_397.out
            have hnc28 := NB397_394.out
            have hnb29 := NB394_398.out
            have hnc29 := NB398_394.out
            obtain ⟨hcz30_0, hcz30_1⟩ := zc2 BK394
            obtain ⟨hfz30_0, hfz30_1⟩ := zf2 BK394
            have p405 : 0 ≤ (x6_2 : Int) := of_decide_eq_true (by first | (with_reducible assumption) | assumption)
            have q405 : x6_2 < (l0_1.length : Int) := of_decide_eq_true (by first | (with_reducible assumption) | assumption)
            obtain ⟨ad405, e405, hx405_0, hx405_1⟩ := at_T44 HR0_1.out x6_2 p405 q405
            cases e405
            replace hx405_0 := (HB.out.cell (World.block_lt_of_cell? w _ hx405_0)).trans hx405_0
            replace hx405_1 := (HB.out.cell (World.block_lt_of_cell? w _ hx405_1)).trans hx405_1
            replace p405 := eq_true p405
            replace q405 := eq_true q405
            go_upto_if 42 with (first | ((with_reducible refine gate_callee (f := 46) rfl ?_); refine goesL_ (some 42) rfl rfl Try.func46 (by kernel_rfl) rfl #[.agg #[.int .u64 ((rd_T44 l0_1 x6_2).f0), .int .u64 ((rd_T44 l0_1 x6_2).f1)], .int .i64 x9_3] rfl (by (try simp only [List.map_toArray, List.map_cons, List.map_nil]); first | done | rfl | (simp only [List.length_drop, List.length_take]; rfl)) ?_; (with_reducible refine (steepleref02_Has.calls k3 ((rd_T44 l0_1 x6_2).f0) ((rd_T44 l0_1 x6_2).f1) x9_3 t406 _ A25.out).mono ?_); rintro e w31 ⟨rfl, hb⟩; refine ⟨_, rfl, ?_⟩; replace HO_4 := kb HO_4 hb; replace BK394 := bb BK394 hb; replace BK395 := bb BK395 hb; replace BK397 := bb BK397 hb; replace BK398 := bb BK398 hb; replace HB := bh HB hb; (try clear hb); (try clear hb2); (try clear hk); (try clear hi)))
            (try simp only [Act.put, List.setIfInBounds_toArray, List.set_cons_zero, List.set_cons_succ])
            go_cut [] (fun wc => ∃ (kq : Nat) (x398000_25 : Int) (x398001_25 : Int), Aside0 (steepleref03_Fall.j3 kq x4_2 t396 x6_2 x9_3 a0_0 l0_1 x398000_25 x398001_25 x399000_3 x399001_3 = some (r1, r2, r3)) ∧ Aside0 (kq ≤ k3) ∧ Aside0 (Kd.R k44 44 wc w.heap.size (fun k_ => k_ ≠ gb397 ∧ k_ ≠ gb398) u4 x4_2) ∧ Aside0 (wc.heap[gb394]? = some (.cells #[.int .i64 a0_0, (.slice (some ad405) l0_1.length c0_1)] 37 (0, 0))) ∧ Aside0 (wc.heap[gb395]? = some (.cells #[.int .i64 0, (.slice none 0 0)] 37 (0, 0))) ∧ Aside0 (wc.heap[gb397]? = some (.cells #[.int .u64 x398000_25, .int .u64 x398001_25] 44 (0, 0))) ∧ Aside0 (wc.heap[gb398]? = some (.cells #[.int .u64 x399000_3, .int .u64 x399001_3] 44 (0, 0))) ∧ Aside0 (Below w.heap.size w wc))
            case first =>
             have H := HC26.out
             clear HC26
             by_cases c32 : t406 = true
             ·subst c32
              have H1 : ((steepleref02_Bit.f k3 x9_3).bind fun bt407 => ((steepleref02_Add.f x398000_3 x398001_3 bt407.1 bt407.2).bind fun bt409 => (steepleref03_Fall.j3 k3 x4_2 t396 x6_2 x9_3 a0_0 l0_1 bt409.1 bt409.2 x399000_3 x399001_3))) = some (r1, r2, r3) := by rw [if_pos rfl] at H; exact H
              clear H
              have H := H1
              clear H1
              replace H := Option.bind_eq_some_iff.mp H
              obtain ⟨⟨t407, t408⟩, A330, H⟩ := H
              replace H : ((steepleref02_Add.f x398000_3 x398001_3 t407 t408).bind fun bt409 => (steepleref03_Fall.j3 k3 x4_2 t396 x6_2 x9_3 a0_0 l0_1 bt409.1 bt409.2 x399000_3 x399001_3)) = some (r1, r2, r3) := H
              have A33 := Aside0.mk A330
              clear A330
              replace H := Option.bind_eq_some_iff.mp H
              obtain ⟨⟨t409, t410⟩, A340, H⟩ := H
              replace H : (steepleref03_Fall.j3 k3 x4_2 t396 x6_2 x9_3 a0_0 l0_1 t409 t410 x399000_3 x399001_3) = some (r1, r2, r3) := H
              have A34 := Aside0.mk A340
              clear A340
              have H' := Aside0.mk H
              clear H
              try go_wp2
              replace HO_4 := Aside0.mk (Kd.R_drew HO_4.out)
              replace BK394 := Aside0.mk (blk_drew BK394.out)
              replace BK395 := Aside0.mk (blk_drew BK395.out)
              replace BK397 := Aside0.mk (blk_drew BK397.out)
              replace BK398 := Aside0.mk (blk_drew BK398.out)
              replace HB := Aside0.mk (below_drew1 HB.out)
              refine start_ (n := 5) (S := fun w' => w'.cell? ⟨gb397, 0, none⟩ = some (.int .u64 x398000_3) ∧ w'.cell? ⟨gb397, 1, none⟩ = some (.int .u64 x398001_3)) (ds := [4]) #[false, false, false, false, false] (by kernel_rfl) rfl rfl ⟨(blk_cell BK397.out 0).trans rfl, (blk_cell BK397.out 1).trans rfl⟩ (fun hHeld => ?_)
              generalize w31.drew = w35 at HO_4 BK394 BK395 BK397 BK398 HB hHeld ⊢
              refine pure_ (i := 1) (N := some 44) (v := ?_) (a' := ?_) #[false, true, false, false, false] rfl rfl (by kernel_rfl) (fun _ _ _ h => h) (Or.inl ⟨by rfl, ?_⟩) ?_ ?_
              rotate_left
              ·intro w'
               go_simp
               with_reducible rfl
              rotate_left
              ·simp only [Act.put, List.setIfInBounds_toArray, List.set_cons_zero, List.set_cons_succ, i64_w, i32_w]
               rfl
              refine take_ (i := 0) (N := some 43) (v := ?_) (a' := ?_) #[true, true, false, false, false] rfl rfl (by kernel_rfl) (fun _ _ _ h => h) (Or.inl ⟨by rfl, ?_⟩) hHeld ?_ ?_
              rotate_left
              ·rintro w' ⟨s0, s1⟩
               go_simp
               with_reducible rfl
              rotate_left
              ·simp only [Act.put, List.setIfInBounds_toArray, List.set_cons_zero, List.set_cons_succ, i64_w, i32_w]
               rfl
              refine one_ (i := 2) (N := some 45) #[true, true, true, false, false] rfl rfl (by kernel_rfl) (by decide) (fun K hK => ?_)
              refine goes_ Try.func47 (by kernel_rfl) rfl #[.int .i64 x9_3] (by rfl) rfl rfl (by (try simp only [List.map_toArray, List.map_cons, List.map_nil]); first | done | rfl | (simp only [List.length_drop, List.length_take]; rfl)) ?_
              with_reducible refine (steepleref02_Bit.calls k3 x9_3 t407 t408 _ A33.out).mono ?_
              rintro e w36 ⟨rfl, hb⟩
              refine ⟨_, rfl, ?_⟩
              replace HO_4 := kb HO_4 hb
              replace BK394 := bb BK394 hb
              replace BK395 := bb BK395 hb
              replace BK397 := bb BK397 hb
              replace BK398 := bb BK398 hb
              replace HB := bh HB hb
              (try clear hb)
              (try clear hb2)
              (try clear hk)
              (try clear hi)
              refine hK.out _ _ ⟨(blk_cell BK397.out 0).trans rfl, (blk_cell BK397.out 1).trans rfl⟩ (fun hHeld => ?_)
              clear hK K
              refine norm_ (a' := ?_) ?_ ?_
              rotate_left
              ·show Act.put _ (some 45) _ = _
               simp only [Act.put, List.setIfInBounds_toArray, List.set_cons_zero, List.set_cons_succ, i64_w, i32_w]
               rfl
              refine one_ (i := 3) (N := some 46) #[true, true, true, true, false] rfl rfl (by kernel_rfl) (by decide) (fun K hK => ?_)
              refine goes_ Try.func31 (by kernel_rfl) rfl #[.agg #[.int .u64 x398000_3, .int .u64 x398001_3], .agg #[.int .u64 t407, .int .u64 t408]] (by rfl) rfl rfl (by (try simp only [List.map_toArray, List.map_cons, List.map_nil]); first | done | rfl | (simp only [List.length_drop, List.length_take]; rfl)) ?_
              with_reducible refine (steepleref02_Add.calls x398000_3 x398001_3 t407 t408 t409 t410 _ A34.out).mono ?_
              rintro e w37 ⟨rfl, hb⟩
              refine ⟨_, rfl, ?_⟩
              replace HO_4 := kb HO_4 hb
              replace BK394 := bb BK394 hb
              replace BK395 := bb BK395 hb
              replace BK397 := bb BK397 hb
              replace BK398 := bb BK398 hb
              replace HB := bh HB hb
              (try clear hb)
              (try clear hb2)
              (try clear hk)
              (try clear hi)
              refine hK.out _ _ ⟨(blk_cell BK397.out 0).trans rfl, (blk_cell BK397.out 1).trans rfl⟩ (fun hHeld => ?_)
              clear hK K
              refine norm_ (a' := ?_) ?_ ?_
              rotate_left
              ·show Act.put _ (some 46) _ = _
               simp only [Act.put, List.setIfInBounds_toArray, List.set_cons_zero, List.set_cons_succ, i64_w, i32_w]
               rfl
              refine last_ (i := 4) (N := none) #[true, true, true, true, true] rfl rfl (by kernel_rfl) (by decide) (fun K hK => ?_)
              have hs38 : w37.cell? ⟨gb397, 0, none⟩ = some (.int .u64 x398000_3) := (blk_cell BK397.out 0).trans rfl
              have hfs38 := blk_frozen BK397.out 0
              have hns38_0 := NB394_397.out
              have hns38_1 := NB395_397.out
              have hns38_3 := NB398_397.out
              have hms38_0 := NB397_394.out
              have hms38_1 := NB397_395.out
              have hms38_3 := NB397_398.out
              have hs39 : w37.cell? ⟨gb397, 1, none⟩ = some (.int .u64 x398001_3) := (blk_cell BK397.out 1).trans rfl
              have hfs39 := blk_frozen BK397.out 1
              have hns39_0 := NB394_397.out
              have hns39_1 := NB395_397.out
              have hns39_3 := NB398_397.out
              have hms39_0 := NB397_394.out
              have hms39_1 := NB397_395.out
              have hms39_3 := NB397_398.out
              refine skip_ (w1 := ?_) (by rfl) rfl ?_ ?_
              rotate_left
              ·go_simp
               rfl
              refine hK.out _ _ ?_
              clear hK K
              refine done_ (by kernel_rfl) ?_
              try go_wp2
              go_meet
              case rel => exact ⟨_, (t409), (t410), H', ⟨by have := HJ1.out; have := HK2.out; have := HK3.out; first | omega | exact Nat.le_refl _⟩, ⟨by (with_reducible repeat refine kl ?_); exact Kd.R_mono (Kd.R_far (p := ⟨gb397, 1, none⟩) (Kd.R_far (p := ⟨gb397, 0, none⟩) (Kd.R_mono HO_4.out (fun k_ hk => (⟨hk, hk.1⟩ : _ ∧ k_ ≠ gb397))) (fun _ hk => hk.2) (.int .u64 t409)) (fun _ hk => hk.2) (.int .u64 t410)) (fun _ hk => ⟨hk.1.1, hk.1.2⟩)⟩, ⟨by (with_reducible repeat refine bl ?_); refine blk_far ?_ NB394_397.out _; (with_reducible repeat refine bl ?_); refine blk_far ?_ NB394_397.out _; (with_reducible repeat refine bl ?_); exact BK394.out⟩, ⟨by (with_reducible repeat refine bl ?_); refine blk_far ?_ NB395_397.out _; (with_reducible repeat refine bl ?_); refine blk_far ?_ NB395_397.out _; (with_reducible repeat refine bl ?_); exact BK395.out⟩, ⟨by (with_reducible repeat refine bl ?_); refine blk_put (cs := #[.int .u64 t409, .int .u64 x398001_3]) ?_ 1 _ rfl; (with_reducible repeat refine bl ?_); refine blk_put (cs := #[.int .u64 x398000_3, .int .u64 x398001_3]) ?_ 0 _ rfl; (with_reducible repeat refine bl ?_); exact BK397.out⟩, ⟨by (with_reducible repeat refine bl ?_); refine blk_far ?_ NB398_397.out _; (with_reducible repeat refine bl ?_); refine blk_far ?_ NB398_397.out _; (with_reducible repeat refine bl ?_); exact BK398.out⟩, ⟨bq HB.out⟩⟩
             ·replace c32 := Bool.eq_false_iff.mpr c32
              subst c32
              have H1 : (steepleref03_Fall.j3 k3 x4_2 t396 x6_2 x9_3 a0_0 l0_1 x398000_3 x398001_3 x399000_3 x399001_3) = some (r1, r2, r3) := by rw [if_neg (show ¬ (false = true) by decide)] at H; exact H
              clear H
              have H := H1
              clear H1
              have H' := Aside0.mk H
              clear H
              go_wp2
              go_meet
              case rel => exact ⟨_, (x398000_3), (x398001_3), H', ⟨by have := HJ1.out; have := HK2.out; have := HK3.out; first | omega | exact Nat.le_refl _⟩, ⟨kr HO_4.out⟩, ⟨bk BK394.out⟩, ⟨bk BK395.out⟩, ⟨bk BK397.out⟩, ⟨bk BK398.out⟩, ⟨bq HB.out⟩⟩
            case rest =>
             clear HC26
             try clear c1
             try clear c2
             try clear p2
             try clear c3
             try clear c4
             try clear p4
             try clear q4
             try clear hx4
             try clear c5
             try clear c5b0
             try clear c5b1
             try clear c6
             try clear p6
             try clear c8
             try clear c10
             try clear c11
             try clear c14
             try clear c17
             try clear c17b0
             try clear c18
             try clear c20
             try clear c22
             try clear c22b0
             try clear c23
             try clear c23b0
             try clear c24
             try clear c24b0
             try clear c27
             try clear c28
             try clear c29
             try clear c31
             try clear c32
             try clear hcz12_0
             try clear hcz12_1
             try clear hcz15_0
             try clear hcz15_1
             try clear hcz19_0
             try clear hcz19_1
             try clear hcz30_0
             try clear hcz30_1
             try clear hcz7_0
             try clear hcz7_1
             try clear hcz9_0
             try clear hcz9_1
             try clear hfz12_0
             try clear hfz12_1
             try clear hfz15_0
             try clear hfz15_1
             try clear hfz19_0
             try clear hfz19_1
             try clear hfz30_0
             try clear hfz30_1
             try clear hfz7_0
             try clear hfz7_1
             try clear hfz9_0
             try clear hfz9_1
             try clear hx405_0
             try clear hx405_1
             try clear p2
             try clear p405
             try clear p6
             try clear q405
             obtain ⟨kq, x398000_25, x398001_25, HA, HJ25, HO_4, BK394, BK395, BK397, BK398, HB⟩ := hcut
             cases kq with
             | zero => exact absurd HA.out (by simp [steepleref03_Fall.j3])
             | succ kj25 =>
              have H := HA.out
              clear HA
              simp only [steepleref03_Fall.j3] at H
              by_cases c40 : 0 ≤ x6_2
              ·rw [if_pos c40] at H
               have c40b0 : decide (0 ≤ x6_2) = true := decide_eq_true c40
               clear c40
               by_cases c41 : x6_2 < (l0_1.length : Int)
               ·rw [if_pos c41] at H
                have c41b0 : decide (x6_2 < (l0_1.length : Int)) = true := decide_eq_true c41
                clear c41
                replace H := Option.bind_eq_some_iff.mp H
                obtain ⟨t412, A420, H⟩ := H
                replace H : (if t412 = true then ((steepleref02_Bit.f kj25 x9_3).bind fun bt413 => ((steepleref02_Add.f x399000_3 x399001_3 bt413.1 bt413.2).bind fun bt415 => (steepleref03_Fall.l1 kj25 x4_2 t396 x6_2 (wrap64 (x9_3 + 1)) a0_0 l0_1 x398000_25 x398001_25 bt415.1 bt415.2))) else (steepleref03_Fall.l1 kj25 x4_2 t396 x6_2 (wrap64 (x9_3 + 1)) a0_0 l0_1 x398000_25 x398001_25 x399000_3 x399001_3)) = some (r1, r2, r3) := H
                have A42 := Aside0.mk A420
                clear A420
                by_cases c43 : t412 = true
                ·subst c43
                 have H1 : ((steepleref02_Bit.f kj25 x9_3).bind fun bt413 => ((steepleref02_Add.f x399000_3 x399001_3 bt413.1 bt413.2).bind fun bt415 => (steepleref03_Fall.l1 kj25 x4_2 t396 x6_2 (wrap64 (x9_3 + 1)) a0_0 l0_1 x398000_25 x398001_25 bt415.1 bt415.2))) = some (r1, r2, r3) := by rw [if_pos rfl] at H; exact H
                 clear H
                 have H := H1
                 clear H1
                 replace H := Option.bind_eq_some_iff.mp H
                 obtain ⟨⟨t413, t414⟩, A440, H⟩ := H
                 replace H : ((steepleref02_Add.f x399000_3 x399001_3 t413 t414).bind fun bt415 => (steepleref03_Fall.l1 kj25 x4_2 t396 x6_2 (wrap64 (x9_3 + 1)) a0_0 l0_1 x398000_25 x398001_25 bt415.1 bt415.2)) = some (r1, r2, r3) := H
                 have A44 := Aside0.mk A440
                 clear A440
                 replace H := Option.bind_eq_some_iff.mp H
                 obtain ⟨⟨t415, t416⟩, A450, H⟩ := H
                 replace H : (steepleref03_Fall.l1 kj25 x4_2 t396 x6_2 (wrap64 (x9_3 + 1)) a0_0 l0_1 x398000_25 x398001_25 t415 t416) = some (r1, r2, r3) := H
                 have A45 := Aside0.mk A450
                 clear A450
                 have H' := Aside0.mk H
                 clear H
                 have hnb46 := NB394_395.out
                 have hnc46 := NB395_394.out
                 have hnb47 := NB394_397.out
                 have hnc47 := NB397_394.out
                 have hnb48 := NB394_398.out
                 have hnc48 := NB398_394.out
                 obtain ⟨hcz49_0, hcz49_1⟩ := zc2 BK394
                 obtain ⟨hfz49_0, hfz49_1⟩ := zf2 BK394
                 have p411 : 0 ≤ (x6_2 : Int) := of_decide_eq_true (by first | (with_reducible assumption) | assumption)
                 have q411 : x6_2 < (l0_1.length : Int) := of_decide_eq_true (by first | (with_reducible assumption) | assumption)
                 obtain ⟨ad411, e411, hx411_0, hx411_1⟩ := at_T44 HR0_1.out x6_2 p411 q411
                 obtain rfl : ad405 = ad411 := (by injection e411)
                 replace hx411_0 := (HB.out.cell (World.block_lt_of_cell? w _ hx411_0)).trans hx411_0
                 replace hx411_1 := (HB.out.cell (World.block_lt_of_cell? w _ hx411_1)).trans hx411_1
                 replace p411 := eq_true p411
                 replace q411 := eq_true q411
                 try go_wp2_with (first | ((with_reducible refine gate_callee (f := 46) rfl ?_); refine goesL_ (some 55) rfl rfl Try.func46 (by kernel_rfl) rfl #[.agg #[.int .u64 ((rd_T44 l0_1 x6_2).f0), .int .u64 ((rd_T44 l0_1 x6_2).f1)], .int .i64 (wrap64 (t396 + x9_3))] rfl (by (try simp only [List.map_toArray, List.map_cons, List.map_nil]); first | done | rfl | (simp only [List.length_drop, List.length_take]; rfl)) ?_; (with_reducible refine (steepleref02_Has.calls kj25 ((rd_T44 l0_1 x6_2).f0) ((rd_T44 l0_1 x6_2).f1) (wrap64 (t396 + x9_3)) true _ A42.out).mono ?_); rintro e w50 ⟨rfl, hb⟩; refine ⟨_, rfl, ?_⟩; replace HO_4 := kb HO_4 hb; replace BK394 := bb BK394 hb; replace BK395 := bb BK395 hb; replace BK397 := bb BK397 hb; replace BK398 := bb BK398 hb; replace HB := bh HB hb; (try clear hb); (try clear hb2); (try clear hk); (try clear hi)))
                 replace HO_4 := Aside0.mk (Kd.R_drew HO_4.out)
                 replace BK394 := Aside0.mk (blk_drew BK394.out)
                 replace BK395 := Aside0.mk (blk_drew BK395.out)
                 replace BK397 := Aside0.mk (blk_drew BK397.out)
                 replace BK398 := Aside0.mk (blk_drew BK398.out)
                 replace HB := Aside0.mk (below_drew1 HB.out)
                 refine start_ (n := 5) (S := fun w' => w'.cell? ⟨gb398, 0, none⟩ = some (.int .u64 x399000_3) ∧ w'.cell? ⟨gb398, 1, none⟩ = some (.int .u64 x399001_3)) (ds := [4]) #[false, false, false, false, false] (by kernel_rfl) rfl rfl ⟨(blk_cell BK398.out 0).trans rfl, (blk_cell BK398.out 1).trans rfl⟩ (fun hHeld => ?_)
                 generalize w50.drew = w51 at HO_4 BK394 BK395 BK397 BK398 HB hHeld ⊢
                 refine pure_ (i := 1) (N := some 57) (v := ?_) (a' := ?_) #[false, true, false, false, false] rfl rfl (by kernel_rfl) (fun _ _ _ h => h) (Or.inl ⟨by rfl, ?_⟩) ?_ ?_
                 rotate_left
                 ·intro w'
                  go_simp
                  with_reducible rfl
                 rotate_left
                 ·simp only [Act.put, List.setIfInBounds_toArray, List.set_cons_zero, List.set_cons_succ, i64_w, i32_w]
                  rfl
                 refine take_ (i := 0) (N := some 56) (v := ?_) (a' := ?_) #[true, true, false, false, false] rfl rfl (by kernel_rfl) (fun _ _ _ h => h) (Or.inl ⟨by rfl, ?_⟩) hHeld ?_ ?_
                 rotate_left
                 ·rintro w' ⟨s0, s1⟩
                  go_simp
                  with_reducible rfl
                 rotate_left
                 ·simp only [Act.put, List.setIfInBounds_toArray, List.set_cons_zero, List.set_cons_succ, i64_w, i32_w]
                  rfl
                 refine one_ (i := 2) (N := some 58) #[true, true, true, false, false] rfl rfl (by kernel_rfl) (by decide) (fun K hK => ?_)
                 refine goes_ Try.func47 (by kernel_rfl) rfl #[.int .i64 x9_3] (by rfl) rfl rfl (by (try simp only [List.map_toArray, List.map_cons, List.map_nil]); first | done | rfl | (simp only [List.length_drop, List.length_take]; rfl)) ?_
                 with_reducible refine (steepleref02_Bit.calls kj25 x9_3 t413 t414 _ A44.out).mono ?_
                 rintro e w52 ⟨rfl, hb⟩
                 refine ⟨_, rfl, ?_⟩
                 replace HO_4 := kb HO_4 hb
                 replace BK394 := bb BK394 hb
                 replace BK395 := bb BK395 hb
                 replace BK397 := bb BK397 hb
                 replace BK398 := bb BK398 hb
                 replace HB := bh HB hb
                 (try clear hb)
                 (try clear hb2)
                 (try clear hk)
                 (try clear hi)
                 refine hK.out _ _ ⟨(blk_cell BK398.out 0).trans rfl, (blk_cell BK398.out 1).trans rfl⟩ (fun hHeld => ?_)
                 clear hK K
                 refine norm_ (a' := ?_) ?_ ?_
                 rotate_left
                 ·show Act.put _ (some 58) _ = _
                  simp only [Act.put, List.setIfInBounds_toArray, List.set_cons_zero, List.set_cons_succ, i64_w, i32_w]
                  rfl
                 refine one_ (i := 3) (N := some 59) #[true, true, true, true, false] rfl rfl (by kernel_rfl) (by decide) (fun K hK => ?_)
                 refine goes_ Try.func31 (by kernel_rfl) rfl #[.agg #[.int .u64 x399000_3, .int .u64 x399001_3], .agg #[.int .u64 t413, .int .u64 t414]] (by rfl) rfl rfl (by (try simp only [List.map_toArray, List.map_cons, List.map_nil]); first | done | rfl | (simp only [List.length_drop, List.length_take]; rfl)) ?_
                 with_reducible refine (steepleref02_Add.calls x399000_3 x399001_3 t413 t414 t415 t416 _ A45.out).mono ?_
                 rintro e w53 ⟨rfl, hb⟩
                 refine ⟨_, rfl, ?_⟩
                 replace HO_4 := kb HO_4 hb
                 replace BK394 := bb BK394 hb
                 replace BK395 := bb BK395 hb
                 replace BK397 := bb BK397 hb
                 replace BK398 := bb BK398 hb
                 replace HB := bh HB hb
                 (try clear hb)
                 (try clear hb2)
                 (try clear hk)
                 (try clear hi)
                 refine hK.out _ _ ⟨(blk_cell BK398.out 0).trans rfl, (blk_cell BK398.out 1).trans rfl⟩ (fun hHeld => ?_)
                 clear hK K
                 refine norm_ (a' := ?_) ?_ ?_
                 rotate_left
                 ·show Act.put _ (some 59) _ = _
                  simp only [Act.put, List.setIfInBounds_toArray, List.set_cons_zero, List.set_cons_succ, i64_w, i32_w]
                  rfl
                 refine last_ (i := 4) (N := none) #[true, true, true, true, true] rfl rfl (by kernel_rfl) (by decide) (fun K hK => ?_)
                 have hs54 : w53.cell? ⟨gb398, 0, none⟩ = some (.int .u64 x399000_3) := (blk_cell BK398.out 0).trans rfl
                 have hfs54 := blk_frozen BK398.out 0
                 have hns54_0 := NB394_398.out
                 have hns54_1 := NB395_398.out
                 have hns54_2 := NB397_398.out
                 have hms54_0 := NB398_394.out
                 have hms54_1 := NB398_395.out
                 have hms54_2 := NB398_397.out
                 have hs55 : w53.cell? ⟨gb398, 1, none⟩ = some (.int .u64 x399001_3) := (blk_cell BK398.out 1).trans rfl
                 have hfs55 := blk_frozen BK398.out 1
                 have hns55_0 := NB394_398.out
                 have hns55_1 := NB395_398.out
                 have hns55_2 := NB397_398.out
                 have hms55_0 := NB398_394.out
                 have hms55_1 := NB398_395.out
                 have hms55_2 := NB398_397.out
                 refine skip_ (w1 := ?_) (by rfl) rfl ?_ ?_
                 rotate_left
                 ·go_simp
                  rfl
                 refine hK.out _ _ ?_
                 clear hK K
                 refine done_ (by kernel_rfl) ?_
                 try go_wp2
                 go_roundg kj25
                 case measure => have := HJ1.out; have := HK2.out; have := HK3.out; have := HJ25.out; omega
                 case rel => exact ⟨(wrap64 (x9_3 + 1)), (x398000_25), (x398001_25), (t415), (t416), (by first | rfl | (simp; done) | (simp [*]; done)), H', ⟨by have := HJ1.out; have := HK2.out; have := HK3.out; have := HJ25.out; omega⟩, ⟨by (with_reducible repeat refine kl ?_); exact Kd.R_mono (Kd.R_far (p := ⟨gb398, 1, none⟩) (Kd.R_far (p := ⟨gb398, 0, none⟩) (Kd.R_mono HO_4.out (fun k_ hk => (⟨hk, hk.2⟩ : _ ∧ k_ ≠ gb398))) (fun _ hk => hk.2) (.int .u64 t415)) (fun _ hk => hk.2) (.int .u64 t416)) (fun _ hk => ⟨hk.1.1, hk.1.2⟩)⟩, ⟨by (with_reducible repeat refine bl ?_); refine blk_far ?_ NB394_398.out _; (with_reducible repeat refine bl ?_); refine blk_far ?_ NB394_398.out _; (with_reducible repeat refine bl ?_); exact BK394.out⟩, ⟨by (with_reducible repeat refine bl ?_); refine blk_far ?_ NB395_398.out _; (with_reducible repeat refine bl ?_); refine blk_far ?_ NB395_398.out _; (with_reducible repeat refine bl ?_); exact BK395.out⟩, ⟨by (with_reducible repeat refine bl ?_); refine blk_far ?_ NB397_398.out _; (with_reducible repeat refine bl ?_); refine blk_far ?_ NB397_398.out _; (with_reducible repeat refine bl ?_); exact BK397.out⟩, ⟨by (with_reducible repeat refine bl ?_); refine blk_put (cs := #[.int .u64 t415, .int .u64 x399001_3]) ?_ 1 _ rfl; (with_reducible repeat refine bl ?_); refine blk_put (cs := #[.int .u64 x399000_3, .int .u64 x399001_3]) ?_ 0 _ rfl; (with_reducible repeat refine bl ?_); exact BK398.out⟩, ⟨bq HB.out⟩⟩
                ·replace c43 := Bool.eq_false_iff.mpr c43
                 subst c43
                 have H1 : (steepleref03_Fall.l1 kj25 x4_2 t396 x6_2 (wrap64 (x9_3 + 1)) a0_0 l0_1 x398000_25 x398001_25 x399000_3 x399001_3) = some (r1, r2, r3) := by rw [if_neg (show ¬ (false = true) by decide)] at H; exact H
                 clear H
                 have H := H1
                 clear H1
                 have H' := Aside0.mk H
                 clear H
                 have hnb56 := NB394_395.out
                 have hnc56 := NB395_394.out
                 have hnb57 := NB394_397.out
                 have hnc57 := NB397_394.out
                 have hnb58 := NB394_398.out
                 have hnc58 := NB398_394.out
                 obtain ⟨hcz59_0, hcz59_1⟩ := zc2 BK394
                 obtain ⟨hfz59_0, hfz59_1⟩ := zf2 BK394
                 have p411 : 0 ≤ (x6_2 : Int) := of_decide_eq_true (by first | (with_reducible assumption) | assumption)
                 have q411 : x6_2 < (l0_1.length : Int) := of_decide_eq_true (by first | (with_reducible assumption) | assumption)
                 obtain ⟨ad411, e411, hx411_0, hx411_1⟩ := at_T44 HR0_1.out x6_2 p411 q411
                 obtain rfl : ad405 = ad411 := (by injection e411)
                 replace hx411_0 := (HB.out.cell (World.block_lt_of_cell? w _ hx411_0)).trans hx411_0
                 replace hx411_1 := (HB.out.cell (World.block_lt_of_cell? w _ hx411_1)).trans hx411_1
                 replace p411 := eq_true p411
                 replace q411 := eq_true q411
                 go_wp2_with (first | ((with_reducible refine gate_callee (f := 46) rfl ?_); refine goesL_ (some 55) rfl rfl Try.func46 (by kernel_rfl) rfl #[.agg #[.int .u64 ((rd_T44 l0_1 x6_2).f0), .int .u64 ((rd_T44 l0_1 x6_2).f1)], .int .i64 (wrap64 (t396 + x9_3))] rfl (by (try simp only [List.map_toArray, List.map_cons, List.map_nil]); first | done | rfl | (simp only [List.length_drop, List.length_take]; rfl)) ?_; (with_reducible refine (steepleref02_Has.calls kj25 ((rd_T44 l0_1 x6_2).f0) ((rd_T44 l0_1 x6_2).f1) (wrap64 (t396 + x9_3)) false _ A42.out).mono ?_); rintro e w60 ⟨rfl, hb⟩; refine ⟨_, rfl, ?_⟩; replace HO_4 := kb HO_4 hb; replace BK394 := bb BK394 hb; replace BK395 := bb BK395 hb; replace BK397 := bb BK397 hb; replace BK398 := bb BK398 hb; replace HB := bh HB hb; (try clear hb); (try clear hb2); (try clear hk); (try clear hi)))
                 go_roundg kj25
                 case measure => have := HJ1.out; have := HK2.out; have := HK3.out; have := HJ25.out; omega
                 case rel => exact ⟨(wrap64 (x9_3 + 1)), (x398000_25), (x398001_25), (x399000_3), (x399001_3), (by first | rfl | (simp; done) | (simp [*]; done)), H', ⟨by have := HJ1.out; have := HK2.out; have := HK3.out; have := HJ25.out; omega⟩, ⟨kr HO_4.out⟩, ⟨bk BK394.out⟩, ⟨bk BK395.out⟩, ⟨bk BK397.out⟩, ⟨bk BK398.out⟩, ⟨bq HB.out⟩⟩
               ·rw [if_neg c41] at H
                exact absurd H (by simp)
              ·rw [if_neg c40] at H
               exact absurd H (by simp)
           ·rw [if_neg c24] at H
            exact absurd H (by simp)
          ·rw [if_neg c23] at H
           exact absurd H (by simp)
         ·rw [if_neg c22] at H
          have c22b0 : decide (x9_3 < t396) = false := decide_eq_false c22
          clear c22
          obtain ⟨y399, hy399⟩ : ∃ y_ : List (S44), y_ = (([(⟨x398000_3, x398001_3⟩ : S44), (⟨x399000_3, x399001_3⟩ : S44)] : List (S44))) := ⟨_, rfl⟩
          replace H : (if x4_2.length + y399.length < 8796093022208 then (steepleref03_Fall.l0 k3 (x4_2 ++ y399) t396 (wrap64 (x6_2 + 1)) a0_0 l0_1) else (none)) = some (r1, r2, r3) := by first | (rw [hy399]; with_reducible exact H) | (have H2_ := (Option.bind_some _ _).symm.trans H; rw [hy399]; with_reducible exact H2_) | (have H2_ := (Option.bind_some _ _).symm.trans H; with_reducible exact H2_) | with_reducible exact H | (rw [hy399]; exact H) | exact H
          have Ny399 := Aside0.mk hy399
          clear hy399
          by_cases c61 : x4_2.length + y399.length < 8796093022208
          ·rw [if_pos c61] at H
           have LMc61 := Aside0.mk c61
           clear c61
           obtain ⟨y402, hy402⟩ : ∃ y_ : List (S44), y_ = (x4_2 ++ y399) := ⟨_, rfl⟩
           replace H : (steepleref03_Fall.l0 k3 y402 t396 (wrap64 (x6_2 + 1)) a0_0 l0_1) = some (r1, r2, r3) := by first | (rw [hy402]; with_reducible exact H) | (have H2_ := (Option.bind_some _ _).symm.trans H; rw [hy402]; with_reducible exact H2_) | (have H2_ := (Option.bind_some _ _).symm.trans H; with_reducible exact H2_) | with_reducible exact H | (rw [hy402]; exact H) | exact H
           have Ny402 := Aside0.mk hy402
           clear hy402
           have H' := Aside0.mk H
           clear H
           have hnb62 := NB397_394.out
           have hnc62 := NB394_397.out
           have hnb63 := NB397_395.out
           have hnc63 := NB395_397.out
           have hnb64 := NB397_398.out
           have hnc64 := NB398_397.out
           obtain ⟨hcz65_0, hcz65_1⟩ := zc2 BK397
           obtain ⟨hfz65_0, hfz65_1⟩ := zf2 BK397
           have hnb66 := NB398_394.out
           have hnc66 := NB394_398.out
           have hnb67 := NB398_395.out
           have hnc67 := NB395_398.out
           obtain ⟨hcz68_0, hcz68_1⟩ := zc2 BK398
           obtain ⟨hfz68_0, hfz68_1⟩ := zf2 BK398
           go_wp2_with (first | ((with_reducible refine gate_dst (N := 63) rfl ?_); (try (refine gate_guard (by rfl) ?_; dsimp only)); refine Kd.R_lit k44 _ 44 ?hg (N := 63) ?hd (xs := ([(⟨x398000_3, x398001_3⟩ : S44), (⟨x399000_3, x399001_3⟩ : S44)] : List (S44))) (inner := [.int .u64 x398000_3, .int .u64 x398001_3, .int .u64 x399000_3, .int .u64 x399001_3]) (ok := fun _ => True) (okp := fun _ => True) ?hr ?hp (fun _ hk => hk) trivial (Below.refl _ _) (Nat.le_refl _) (by simp) ?_; (case hd => rfl); (case hg => rfl); (case hr => first | (go_simp; done) | (go_simp; rfl)); (case hp => exact (Reps.c2 (show Kd.M k44 _ _ _ (⟨x398000_3, x398001_3⟩ : S44) [.int .u64 x398000_3, .int .u64 x398001_3] from (k44_mkM _ _ _ (⟨x398000_3, x398001_3⟩ : S44) )) (Reps.c2 (show Kd.M k44 _ _ _ (⟨x399000_3, x399001_3⟩ : S44) [.int .u64 x399000_3, .int .u64 x399001_3] from (k44_mkM _ _ _ (⟨x399000_3, x399001_3⟩ : S44) )) (Reps.none _ _)))); intro v400 w69 ho70 hb hg_ hnew_; clear hg_ hnew_; (first | rw [← Ny399.out] at ho70 | (simp only [Int.reduceToNat] at ho70; rw [← Ny399.out] at ho70)); have HO401 := Aside0.mk (Kd.R_lower (Kd.R_newB (Kd.R_newB (Kd.R_new' ho70 (Kd.R_lt (kr HO_4.out))) (g := gb397) (o := .cells #[.int .u64 x398000_3, .int .u64 x398001_3] 44 (0, 0)) (bk BK397.out)) (g := gb398) (o := .cells #[.int .u64 x399000_3, .int .u64 x399001_3] 44 (0, 0)) (bk BK398.out)) (below_size (bq HB.out))); replace HO_4 := Aside0.mk (Kd.R_elder' (kr HO_4.out) (Kd.R_base ho70) hb); replace BK394 := bb BK394 hb; replace BK395 := bb BK395 hb; replace BK397 := bb BK397 hb; replace BK398 := bb BK398 hb; replace HB := bh HB hb; clear hb ho70; obtain ⟨Ao72, co72, eo72⟩ := Kd.R_slice HO401.out; subst eo72) | ((with_reducible refine gate_builtin (b := .append) (xs := #[.tmp 60, .tmp 63]) rfl ?_); (try (refine gate_guard (by rfl) ?_; dsimp only)); at_builtin; refine Kd.R_append_rows k44 (w0 := w) w.heap.size rfl (.tmp 60) (.tmp 63) 35 44 (.agg #[(.int .u64 0), (.int .u64 0)]) 16 rfl Try.underlying35 info44 rfl (by decide) (by omega) u4 x4_2 y399 _ _ _ (fun k_ => some k_ ≠ (.slice Ao72 y399.length co72 : Value).ownBlock ∧ k_ ≠ gb397 ∧ k_ ≠ gb398) (fun _ => False) rfl rfl ?aO ?aR (fun _ _ h => h) (fun _ h => h.elim) ?aF ?aB ?aS ?aL ?_; (case aR => repeat (first | exact (Kd.R_reads' HO401.out).2.2 | (with_reducible refine Kd.C_alloc ?_ _) | (with_reducible refine Kd.C_drewN ?_ _) | (with_reducible refine Kd.C_drew ?_))); (case aB => exact (bq HB.out)); (case aF => exact (fun k_ hk => ⟨Kd.fresh' (Kd.R_lt (kr HO401.out)) k_ hk, Kd.freshB (g := gb397) (o := .cells #[.int .u64 x398000_3, .int .u64 x398001_3] 44 (0, 0)) (bk BK397.out) k_ hk, Kd.freshB (g := gb398) (o := .cells #[.int .u64 x399000_3, .int .u64 x399001_3] 44 (0, 0)) (bk BK398.out) k_ hk⟩)); (case aO => exact (by (with_reducible repeat refine kl ?_); exact Kd.R_mono HO_4.out (fun _ hk => ⟨hk.2, ⟨hk.1.1, hk.1.2⟩⟩))); (case aS => exact (below_size (bq HB.out))); (case aL => have := LMc61.out; omega); intro v403 w71 ho hb hg hat; rw [← Ny402.out] at ho; have HO404 := Aside0.mk ho; replace BK394 := Aside0.mk (blk_grown (g := gb394) (o := .cells #[.int .i64 a0_0, .slice A0_1 l0_1.length c0_1] 37 (0, 0)) (bk BK394.out) hg (Kd.R_ne HO_4.out BK394.out (by decide))); replace BK395 := Aside0.mk (blk_grown (g := gb395) (o := .cells #[.int .i64 0, .slice none 0 0] 37 (0, 0)) (bk BK395.out) hg (Kd.R_ne HO_4.out BK395.out (by decide))); replace BK397 := Aside0.mk (blk_grown (g := gb397) (o := .cells #[.int .u64 x398000_3, .int .u64 x398001_3] 44 (0, 0)) (bk BK397.out) hg (Kd.R_away HO_4.out (fun _ hk => hk.1.1))); replace BK398 := Aside0.mk (blk_grown (g := gb398) (o := .cells #[.int .u64 x399000_3, .int .u64 x399001_3] 44 (0, 0)) (bk BK398.out) hg (Kd.R_away HO_4.out (fun _ hk => hk.1.2))); replace HO401 := Aside0.mk (Kd.R_after (ok := (fun k_ => k_ ≠ gb397 ∧ k_ ≠ gb398)) (by (with_reducible repeat refine kl ?_); exact Kd.R_mono HO401.out (fun _ hk => ⟨⟨hk.1.2, hk.2⟩, hk.1.1.2⟩)) hg hat); replace HB := Aside0.mk hb; clear HO_4; clear ho hb hg hat))
           go_roundg k3
           case measure => have := HJ1.out; have := HK2.out; have := HK3.out; omega
           case rel => exact ⟨(y402), (wrap64 (x6_2 + 1)), (by first | rfl | (simp; done) | (simp [*]; done)), H', ⟨by have := HJ1.out; have := HK2.out; have := HK3.out; omega⟩, ⟨by (with_reducible repeat refine kl ?_); exact Kd.R_mono HO404.out (fun _ hk => trivial)⟩, ⟨bk BK394.out⟩, ⟨bk BK395.out⟩, ⟨bq HB.out⟩⟩
          ·rw [if_neg c61] at H
           exact absurd H (by simp)
      ·rw [if_neg c17] at H
       have c17b0 : decide (x6_2 < (l0_1.length : Int)) = false := decide_eq_false c17
       clear c17
       simp only [Option.some.injEq, Prod.mk.injEq] at H
       obtain ⟨rfl, rfl, rfl⟩ := H
       have hnb73 := NB394_395.out
       have hnc73 := NB395_394.out
       obtain ⟨hcz74_0, hcz74_1⟩ := zc2 BK394
       obtain ⟨hfz74_0, hfz74_1⟩ := zf2 BK394
       obtain ⟨Ao75, co75, eo75⟩ := Kd.R_slice HO_4.out
       subst eo75
       obtain ⟨hcz76_0, hcz76_1⟩ := zc2 BK395
       obtain ⟨hfz76_0, hfz76_1⟩ := zf2 BK395
       go_wp2
       refine bodyPost_ret (results_ct rfl _ _ gb395 37 #[.int .i64 (wrap64 (a0_0 - 1)), .slice Ao75 x4_2.length co75] (0, 0) _ rfl (by (with_reducible repeat refine bl ?_); refine blk_put (cs := #[.int .i64 (wrap64 (a0_0 - 1)), .slice none 0 0]) ?_ 1 _ rfl; (with_reducible repeat refine bl ?_); refine blk_put (cs := #[.int .i64 0, .slice none 0 0]) ?_ 0 _ rfl; (with_reducible repeat refine bl ?_); exact BK395.out) Try.underlying37 rfl (by kernel_rfl)) rfl ?_
       exact ⟨_, by first | rfl | (simp [errW_none, errW_some] <;> rfl) | (simp [*, errW_none, errW_some] <;> rfl), by (with_reducible repeat refine kl ?_); exact Kd.R_mono (Kd.R_far (p := ⟨gb395, 1, none⟩) (Kd.R_far (p := ⟨gb395, 0, none⟩) (Kd.R_types HO_4.out BK395.out (by decide)) (fun _ hk => hk.2) (.int .i64 (wrap64 (a0_0 - 1)))) (fun _ hk => hk.2) (.slice Ao75 x4_2.length co75)) (fun _ hk => trivial), bq HB.out⟩

/-! ### pack_alike: function 48 -/
def pack_alike.f (a0_0 : Int) (a0_1 : Int) (l0_2 : List Int) (a1_0 : Int) (a1_1 : Int) (l1_2 : List Int) : Option (Bool) := if a0_0 = a1_0 then (some (a0_1 == a1_1)) else (some false)
set_option maxHeartbeats 8000000 in
set_option maxRecDepth 100000 in
theorem pack_alike.calls (a0_0 : Int) (a0_1 : Int) (A0_2 : Option Addr) (c0_2 : Nat) (l0_2 : List Int) (a1_0 : Int) (a1_1 : Int) (A1_2 : Option Addr) (c1_2 : Nat) (l1_2 : List Int) (r : Bool) (w : World) (hr0_2 : Kd.C (Kd.int .u64) w A0_2 l0_2.length l0_2) (hc0_2 : l0_2.length ≤ c0_2) (hr1_2 : Kd.C (Kd.int .u64) w A1_2 l1_2.length l1_2) (hc1_2 : l1_2.length ≤ c1_2) (h : pack_alike.f a0_0 a0_1 l0_2 a1_0 a1_1 l1_2 = some r) :
  Calls Try.prog 48 #[.agg #[.int .i64 a0_0, .int .i64 a0_1, .slice A0_2 l0_2.length c0_2], .agg #[.int .i64 a1_0, .int .i64 a1_1, .slice A1_2 l1_2.length c1_2]] w fun e w' => e = .returned (.bool r) ∧ Below w.heap.size w w' := by
 have hu31 := Try.underlying31
 have HR0_2 := Aside0.mk hr0_2
 have HC0_2 := Aside0.mk hc0_2
 clear hr0_2 hc0_2
 have HR1_2 := Aside0.mk hr1_2
 have HC1_2 := Aside0.mk hc1_2
 clear hr1_2 hc1_2
 have HB := Aside0.mk (Below.refl w.heap.size w)
 have H : (if a0_0 = a1_0 then (some (a0_1 == a1_1)) else (some false)) = some r := h
 clear h
 by_cases c3 : a0_0 = a1_0
 ·rw [if_pos c3] at H
  have c3b0 : (a0_0 == a1_0) = true := beq_iff_eq.mpr c3
  have c3b1 : (a0_0 != a1_0) = false := bne_eq_false_iff_eq.mpr c3
  clear c3
  obtain rfl := Option.some.inj H
  go_enter Try.func48, Try.ntmps48
  go_wp2_with (first | ((with_reducible refine gate_dst (N := 2) rfl ?_); refine box_event ?hg (N := 2) ?hd (cs := #[.int .i64 a0_0, .int .i64 a0_1, .slice A0_2 l0_2.length c0_2]) (t := 31) ?hr ?_; (case hd => rfl); (case hg => rfl); (case hr => first | (go_simp; done) | (go_simp; rfl)); intro gb417 hg w4 hbox hb; have BK417 := Aside0.mk hbox; have GW417 := ge hg HB; have GE417 := ge hg HB; replace HB := bh HB hb; clear hb hbox hg) | ((with_reducible refine gate_dst (N := 3) rfl ?_); refine box_event ?hg (N := 3) ?hd (cs := #[.int .i64 a1_0, .int .i64 a1_1, .slice A1_2 l1_2.length c1_2]) (t := 31) ?hr ?_; (case hd => rfl); (case hg => rfl); (case hr => first | (go_simp; done) | (go_simp; rfl)); intro gb418 hg w5 hbox hb; have BK418 := Aside0.mk hbox; have GW418 := ge hg HB; have GE418 := ge hg HB; have NB417_418 := nl hg BK417; have NB418_417 := ng hg BK417; replace BK417 := bb BK417 hb; replace HB := bh HB hb; clear hb hbox hg; have hnb6 := NB417_418.out; have hnc6 := NB418_417.out; obtain ⟨hcz7_0, hcz7_1, hcz7_2⟩ := zc3 BK417; obtain ⟨hfz7_0, hfz7_1, hfz7_2⟩ := zf3 BK417; obtain ⟨hcz8_0, hcz8_1, hcz8_2⟩ := zc3 BK418; obtain ⟨hfz8_0, hfz8_1, hfz8_2⟩ := zf3 BK418))
  go_ret
  exact ⟨by first | rfl | (simp [errW_none, errW_some] <;> rfl) | (simp [*, errW_none, errW_some] <;> rfl), bq HB.out⟩
 ·rw [if_neg c3] at H
  have c3b0 : (a0_0 == a1_0) = false := beq_eq_false_iff_ne.mpr c3
  have c3b1 : (a0_0 != a1_0) = true := bne_iff_ne.mpr c3
  obtain rfl := Option.some.inj H
  go_enter Try.func48, Try.ntmps48
  go_wp2_with (first | ((with_reducible refine gate_dst (N := 2) rfl ?_); refine box_event ?hg (N := 2) ?hd (cs := #[.int .i64 a0_0, .int .i64 a0_1, .slice A0_2 l0_2.length c0_2]) (t := 31) ?hr ?_; (case hd => rfl); (case hg => rfl); (case hr => first | (go_simp; done) | (go_simp; rfl)); intro gb417 hg w9 hbox hb; have BK417 := Aside0.mk hbox; have GW417 := ge hg HB; have GE417 := ge hg HB; replace HB := bh HB hb; clear hb hbox hg) | ((with_reducible refine gate_dst (N := 3) rfl ?_); refine box_event ?hg (N := 3) ?hd (cs := #[.int .i64 a1_0, .int .i64 a1_1, .slice A1_2 l1_2.length c1_2]) (t := 31) ?hr ?_; (case hd => rfl); (case hg => rfl); (case hr => first | (go_simp; done) | (go_simp; rfl)); intro gb418 hg w10 hbox hb; have BK418 := Aside0.mk hbox; have GW418 := ge hg HB; have GE418 := ge hg HB; have NB417_418 := nl hg BK417; have NB418_417 := ng hg BK417; replace BK417 := bb BK417 hb; replace HB := bh HB hb; clear hb hbox hg; have hnb11 := NB417_418.out; have hnc11 := NB418_417.out; obtain ⟨hcz12_0, hcz12_1, hcz12_2⟩ := zc3 BK417; obtain ⟨hfz12_0, hfz12_1, hfz12_2⟩ := zf3 BK417; obtain ⟨hcz13_0, hcz13_1, hcz13_2⟩ := zc3 BK418; obtain ⟨hfz13_0, hfz13_1, hfz13_2⟩ := zf3 BK418))
  go_ret
  exact ⟨by first | rfl | (simp [errW_none, errW_some] <;> rfl) | (simp [*, errW_none, errW_some] <;> rfl), bq HB.out⟩

end Go.Proofs.Ytceneggampgboaa.P
