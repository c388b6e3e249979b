/- Written by a program of this session: functions that the law reaches, as Lean functions, and that the code comes to their answers. Conditions: those that each theorem names. -/
import Derived.Test.YtlegcabfgkccmaaPx0
import Derived.Test.YtlegcabfgkccmaaPx6
import Derived.Test.YtlegcabfgkccmaaPx7
import Derived.Test.YtlegcabfgkccmaaPx8
namespace Go.Proofs.Ytlegcabfgkccmaa.P
open Go.RowKit Go.Proofs.YtlegcabfgkccmaaX Go.Proofs.YtlegcabfgkccmaaW.PrintWords Go.Proofs.YtlegcabfgkccmaaW.PrintLast Go.Proofs.YtlegcabfgkccmaaW.PrintMore
attribute [local go_sem] max2_int min2_int max_two min_two max_three min_three max_four min_four   -- for this text's walks alone
set_option linter.unusedVariables false
set_option linter.unusedSimpArgs false

/-! ### steepleref33_Least: function 18 -/
mutual
def steepleref33_Least.l0 : Nat → List (S37) → List (S37) → Int → Option ((List (S37)))
 | 0, _, _, _ => none
 | k + 1, x5, x6, x7 => if x7 < (x6.length : Int) then (if 0 ≤ x7 then (if x7 ≤ (x6.length : Int) then ((steepleref33_in.f k (x6.take (x7 : Int).toNat) ((rd_T37 x6 x7).f0) ((rd_T37 x6 x7).f1)).bind fun t268 => (if t268 = true then (steepleref33_Least.l0 k x5 x6 (wrap64 (x7 + 1))) else (steepleref33_Least.l1 k x5 x6 x7 ([] : List (S37)) 0))) else (none)) else (none)) else (some x5)
def steepleref33_Least.l1 : Nat → List (S37) → List (S37) → Int → List (S37) → Int → Option ((List (S37)))
 | 0, _, _, _, _, _ => none
 | k + 1, x5, x6, x7, x8, x9 => if x9 ≤ (x5.length : Int) then (if x9 < (x5.length : Int) then (if 0 ≤ x7 then (if x7 < (x6.length : Int) then (if 0 ≤ x9 then ((steepleref02_Product.f k ((rd_T37 x6 x7).f0) ((rd_T37 x6 x7).f1) ((rd_T37 x5 x9).f0) ((rd_T37 x5 x9).f1)).bind fun bt272 => (if x9 > 0 then (if 0 ≤ (wrap64 (x9 - 1)) then (if (wrap64 (x9 - 1)) < (x5.length : Int) then ((steepleref02_Add.f bt272.1 bt272.2 ((rd_T37 x5 (wrap64 (x9 - 1))).f0) ((rd_T37 x5 (wrap64 (x9 - 1))).f1)).bind fun bt275 => (if x8.length < 8796093022208 then (steepleref33_Least.l1 k x5 x6 x7 (x8 ++ [(⟨bt275.1, bt275.2⟩ : S37)]) (wrap64 (x9 + 1))) else (none))) else (none)) else (none)) else (if x8.length < 8796093022208 then (steepleref33_Least.l1 k x5 x6 x7 (x8 ++ [(⟨bt272.1, bt272.2⟩ : S37)]) (wrap64 (x9 + 1))) else (none)))) else (none)) else (none)) else (none)) else (if x9 > 0 then (if 0 ≤ (wrap64 (x9 - 1)) then (if (wrap64 (x9 - 1)) < (x5.length : Int) then ((steepleref02_Add.f 0 0 ((rd_T37 x5 (wrap64 (x9 - 1))).f0) ((rd_T37 x5 (wrap64 (x9 - 1))).f1)).bind fun bt284 => (if x8.length < 8796093022208 then (steepleref33_Least.l1 k x5 x6 x7 (x8 ++ [(⟨bt284.1, bt284.2⟩ : S37)]) (wrap64 (x9 + 1))) else (none))) else (none)) else (none)) else (if x8.length < 8796093022208 then (steepleref33_Least.l1 k x5 x6 x7 (x8 ++ [(⟨0, 0⟩ : S37)]) (wrap64 (x9 + 1))) else (none)))) else (steepleref33_Least.l0 k x8 x6 (wrap64 (x7 + 1)))
end
def steepleref33_Least.f (k : Nat) (a0 : Int) (a1_0 : Int) (a1_1 : Int) : Option ((List (S37))) := (steepleref33_Conjugates.f k a0 0 a1_0 a1_1).bind fun t260 => (steepleref33_Least.l0 k (([(⟨0, 1⟩ : S37)] : List (S37))) t260 0)
theorem steepleref33_Least.mono_l : ∀ k, (∀ y0 y1 y2, LeO (steepleref33_Least.l0 k y0 y1 y2) (steepleref33_Least.l0 (k + 1) y0 y1 y2)) ∧ (∀ y0 y1 y2 y3 y4, LeO (steepleref33_Least.l1 k y0 y1 y2 y3 y4) (steepleref33_Least.l1 (k + 1) y0 y1 y2 y3 y4))
 | 0 => ⟨fun _ _ _ r h => by simp [steepleref33_Least.l0] at h, fun _ _ _ _ _ r h => by simp [steepleref33_Least.l1] at h⟩
 | k + 1 => by
  obtain ⟨ih0, ih1⟩ := steepleref33_Least.mono_l k
  refine ⟨?_, ?_⟩
  ·intro y0 y1 y2
   unfold steepleref33_Least.l0
   repeat' first
   | (with_reducible exact ih0 _ _ _)
   | (with_reducible exact ih1 _ _ _ _ _)
   | (with_reducible exact steepleref02_Product.mono _ _ _ _ _)
   | (with_reducible exact steepleref33_Conjugates.mono _ _ _ _ _)
   | (with_reducible exact steepleref33_in.mono _ _ _ _)
   | (with_reducible exact LeO.refl _)
   | (with_reducible exact LeO.none _)
   | (with_reducible refine LeO.ite ?_ ?_)
   | (with_reducible refine LeO.bind ?_ (fun _ => ?_))
   | exact ih0 _ _ _
   | exact ih1 _ _ _ _ _
   | exact steepleref02_Product.mono _ _ _ _ _
   | exact steepleref33_Conjugates.mono _ _ _ _ _
   | exact steepleref33_in.mono _ _ _ _
   | exact LeO.none _
   | refine LeO.ite ?_ ?_
   | refine LeO.bind ?_ (fun _ => ?_)
  ·intro y0 y1 y2 y3 y4
   unfold steepleref33_Least.l1
   repeat' first
   | (with_reducible exact ih0 _ _ _)
   | (with_reducible exact ih1 _ _ _ _ _)
   | (with_reducible exact steepleref02_Product.mono _ _ _ _ _)
   | (with_reducible exact steepleref33_Conjugates.mono _ _ _ _ _)
   | (with_reducible exact steepleref33_in.mono _ _ _ _)
   | (with_reducible exact LeO.refl _)
   | (with_reducible exact LeO.none _)
   | (with_reducible refine LeO.ite ?_ ?_)
   | (with_reducible refine LeO.bind ?_ (fun _ => ?_))
   | exact ih0 _ _ _
   | exact ih1 _ _ _ _ _
   | exact steepleref02_Product.mono _ _ _ _ _
   | exact steepleref33_Conjugates.mono _ _ _ _ _
   | exact steepleref33_in.mono _ _ _ _
   | exact LeO.none _
   | refine LeO.ite ?_ ?_
   | refine LeO.bind ?_ (fun _ => ?_)
theorem steepleref33_Least.mono : ∀ a0 a1 a2 k, LeO (steepleref33_Least.f k a0 a1 a2) (steepleref33_Least.f (k + 1) a0 a1 a2) := by
 intro a0 a1 a2 k
 obtain ⟨ih0, ih1⟩ := steepleref33_Least.mono_l k
 unfold steepleref33_Least.f
 repeat' first
   | (with_reducible exact ih0 _ _ _)
   | (with_reducible exact ih1 _ _ _ _ _)
   | (with_reducible exact steepleref02_Product.mono _ _ _ _ _)
   | (with_reducible exact steepleref33_Conjugates.mono _ _ _ _ _)
   | (with_reducible exact steepleref33_in.mono _ _ _ _)
   | (with_reducible exact LeO.refl _)
   | (with_reducible exact LeO.none _)
   | (with_reducible refine LeO.ite ?_ ?_)
   | (with_reducible refine LeO.bind ?_ (fun _ => ?_))
   | exact ih0 _ _ _
   | exact ih1 _ _ _ _ _
   | exact steepleref02_Product.mono _ _ _ _ _
   | exact steepleref33_Conjugates.mono _ _ _ _ _
   | exact steepleref33_in.mono _ _ _ _
   | exact LeO.none _
   | refine LeO.ite ?_ ?_
   | refine LeO.bind ?_ (fun _ => ?_)
def steepleref33_Least.T6 : Bool × List (List Nat × List Nat) := (true, [([], []), ([], []), ([0, 1], [0, 1]), ([], []), ([], []), ([3, 4], [3, 4]), ([5], [5]), ([2, 6], [2, 6])])
def steepleref33_Least.B6 : List Nat := [0, 0, 3, 0, 0, 24, 56, 127]
theorem steepleref33_Least.tab6 : rtab .any (opsOf Try.f18 6) = steepleref33_Least.T6 := by kernel_rfl
theorem steepleref33_Least.bits6 : waitsOk steepleref33_Least.T6.2 steepleref33_Least.B6 = true := by kernel_rfl
def steepleref33_Least.T13 : Bool × List (List Nat × List Nat) := (true, [([], []), ([], []), ([0, 1], [0, 1]), ([2], [2]), ([], []), ([], []), ([4, 5], [4, 5]), ([6], [6]), ([3, 7], [3, 7]), ([8, 8, 0, 1, 2, 3, 4, 5, 6, 7, 8], [8])])
def steepleref33_Least.B13 : List Nat := [0, 0, 3, 7, 0, 0, 48, 112, 255, 511]
theorem steepleref33_Least.tab13 : rtab .any (opsOf Try.f18 13) = steepleref33_Least.T13 := by kernel_rfl
theorem steepleref33_Least.bits13 : waitsOk steepleref33_Least.T13.2 steepleref33_Least.B13 = true := by kernel_rfl
def steepleref33_Least.T15 : Bool × List (List Nat × List Nat) := (true, [([], []), ([], []), ([], []), ([2], [2]), ([1, 3], [1, 3]), ([4], [4]), ([0, 5], [0, 5]), ([6, 6, 0, 1, 2, 3, 4, 5, 6], [6])])
def steepleref33_Least.B15 : List Nat := [0, 0, 0, 4, 14, 30, 63, 127]
theorem steepleref33_Least.tab15 : rtab .any (opsOf Try.f18 15) = steepleref33_Least.T15 := by kernel_rfl
theorem steepleref33_Least.bits15 : waitsOk steepleref33_Least.T15.2 steepleref33_Least.B15 = true := by kernel_rfl
set_option maxHeartbeats 8000000 in
set_option maxRecDepth 100000 in
theorem steepleref33_Least.calls (k : Nat) (a0 : Int) (a1_0 : Int) (a1_1 : Int) (r : List (S37)) (w : World) (h : steepleref33_Least.f k a0 a1_0 a1_1 = some r) :
  Calls Try.prog 18 #[.int .i64 a0, .agg #[.int .u64 a1_0, .int .u64 a1_1]] w fun e w' => ∃ v0_ : Value, e = .returned (v0_) ∧ Kd.R k37 37 w' w.heap.size (fun _ => True) v0_ r ∧ Below w.heap.size w w' := by
 have hu37 := Try.underlying37
 have HB := Aside0.mk (Below.refl w.heap.size w)
 have H : ((steepleref33_Conjugates.f k a0 0 a1_0 a1_1).bind fun t260 => (steepleref33_Least.l0 k (([(⟨0, 1⟩ : S37)] : List (S37))) t260 0)) = some r := h
 clear h
 obtain ⟨y257, hy257⟩ : ∃ y_ : List (S37), y_ = (([(⟨0, 1⟩ : S37)] : List (S37))) := ⟨_, rfl⟩
 replace H : ((steepleref33_Conjugates.f k a0 0 a1_0 a1_1).bind fun t260 => (steepleref33_Least.l0 k y257 t260 0)) = some r := by first | (rw [hy257]; with_reducible exact H) | (have H2_ := (Option.bind_some _ _).symm.trans H; rw [hy257]; with_reducible exact H2_) | (have H2_ := (Option.bind_some _ _).symm.trans H; with_reducible exact H2_) | with_reducible exact H | (rw [hy257]; exact H) | exact H
 have Ny257 := Aside0.mk hy257
 clear hy257
 replace H := Option.bind_eq_some_iff.mp H
 obtain ⟨t260, A30, H⟩ := H
 replace H : (steepleref33_Least.l0 k y257 t260 0) = some r := H
 have A3 := Aside0.mk A30
 clear A30
 have H' := Aside0.mk H
 clear H
 go_enter Try.func18, Try.ntmps18
 go_wp2_with (first | ((with_reducible refine gate_dst (N := 3) rfl ?_); refine box_event ?hg (N := 3) ?hd (cs := #[.int .u64 a1_0, .int .u64 a1_1]) (t := 37) ?hr ?_; (case hd => rfl); (case hg => rfl); (case hr => first | (go_simp; done) | (go_simp; rfl)); intro gb256 hg w4 hbox hb; have BK256 := Aside0.mk hbox; have GW256 := ge hg HB; have GE256 := ge hg HB; replace HB := bh HB hb; clear hb hbox hg) | ((with_reducible refine gate_dst (N := 12) rfl ?_); refine Kd.R_lit k37 _ 37 ?hg (N := 12) ?hd (xs := ([(⟨0, 1⟩ : S37)] : List (S37))) (inner := [.int .u64 0, .int .u64 1]) (ok := fun _ => True) (okp := fun _ => True) ?hr ?hp (fun _ hk => hk) trivial (Below.refl _ _) (Nat.le_refl _) (by simp) ?_; (case hd => rfl); (case hg => rfl); (case hr => first | (go_simp; done) | (go_simp; rfl)); (case hp => exact (Reps.c2 (show Kd.M k37 _ _ _ (⟨0, 1⟩ : S37) [.int .u64 0, .int .u64 1] from (k37_mkM _ _ _ (⟨0, 1⟩ : S37) )) (Reps.none _ _))); intro v258 w5 ho6 hb hg_ hnew_; clear hg_ hnew_; (first | rw [← Ny257.out] at ho6 | (simp only [Int.reduceToNat] at ho6; rw [← Ny257.out] at ho6)); have HO259 := Aside0.mk (Kd.R_lower (Kd.R_newB ho6 (g := gb256) (o := .cells #[.int .u64 a1_0, .int .u64 a1_1] 37 (0, 0)) (bk BK256.out)) (below_size (bq HB.out))); replace BK256 := bb BK256 hb; replace HB := bh HB hb; clear hb ho6; obtain ⟨hcz7_0, hcz7_1⟩ := zc2 BK256; obtain ⟨hfz7_0, hfz7_1⟩ := zf2 BK256) | ((with_reducible refine gate_callee (f := 30) rfl ?_); refine goesL_ (some 15) rfl rfl Try.func30 (by kernel_rfl) rfl #[.int .i64 a0, .int .i64 0, .agg #[.int .u64 a1_0, .int .u64 a1_1]] rfl (by (try simp only [List.map_toArray, List.map_cons, List.map_nil]); first | done | rfl | (simp only [List.length_drop, List.length_take]; rfl)) ?_; (with_reducible refine (steepleref33_Conjugates.calls k a0 0 a1_0 a1_1 t260 _ A3.out).mono ?_); rintro e w8 ⟨v261, rfl, ho0, hb⟩; refine ⟨_, rfl, ?_⟩; have HO262 := Aside0.mk (Kd.R_lower (Kd.R_newB (Kd.R_new' ho0 (Kd.R_lt (kr HO259.out))) (g := gb256) (o := .cells #[.int .u64 a1_0, .int .u64 a1_1] 37 (0, 0)) (bk BK256.out)) (below_size (bq HB.out))); replace HO259 := Aside0.mk (Kd.R_elder' (kr HO259.out) (Kd.R_base ho0) hb); replace BK256 := bb BK256 hb; replace HB := bh HB hb; (try clear hb); (try clear hb2); (try clear hk); (try clear hi); (try clear ho0)))
 go_loopg [5, 7] k (fun kq v5 v7 w' => ∃ (x5_1 : List (S37)) (x7_1 : Int), v7 = .int .i64 x7_1 ∧ Aside0 (steepleref33_Least.l0 kq x5_1 t260 x7_1 = some r) ∧ Aside0 (kq ≤ k) ∧ Aside0 (Kd.R k37 37 w' w.heap.size (fun k_ => some k_ ≠ (v261 : Value).ownBlock ∧ k_ ≠ gb256) v5 x5_1) ∧ Aside0 (Kd.R k37 37 w' w.heap.size (fun k_ => some k_ ≠ (v5 : Value).ownBlock ∧ k_ ≠ gb256) v261 t260) ∧ Aside0 (w'.heap[gb256]? = some (.cells #[.int .u64 a1_0, .int .u64 a1_1] 37 (0, 0))) ∧ Aside0 (Below w.heap.size w w'))
 case atStart => exact ⟨(y257), (0), (by first | rfl | (simp; done) | (simp [*]; done)), H', ⟨Nat.le_refl _⟩, ⟨by (with_reducible repeat refine kl ?_); exact Kd.R_mono HO259.out (fun _ hk => ⟨hk.2, hk.1.2⟩)⟩, ⟨by (with_reducible repeat refine kl ?_); exact Kd.R_mono HO262.out (fun _ hk => ⟨hk.1.2, hk.2⟩)⟩, ⟨bk BK256.out⟩, ⟨bq HB.out⟩⟩
 case round =>
  clear H'
  try clear c1
  try clear c2
  try clear p2
  try clear c3
  try clear hcz7_0
  try clear hcz7_1
  try clear hfz7_0
  try clear hfz7_1
  obtain ⟨x5_1, x7_1, rfl, HA, HK1, HO_5, HO_6, BK256, HB⟩ := hrel
  cases gk with
  | zero => exact absurd HA.out (by simp [steepleref33_Least.l0])
  | succ k1 =>
   have H := HA.out
   clear HA
   simp only [steepleref33_Least.l0] at H
   by_cases c9 : x7_1 < (t260.length : Int)
   ·rw [if_pos c9] at H
    have c9b0 : decide (x7_1 < (t260.length : Int)) = true := decide_eq_true c9
    clear c9
    by_cases c10 : 0 ≤ x7_1
    ·rw [if_pos c10] at H
     have c10b0 := eq_true c10
     have c10b1 : decide (0 ≤ x7_1) = true := decide_eq_true c10
     clear c10
     by_cases c11 : x7_1 ≤ (t260.length : Int)
     ·rw [if_pos c11] at H
      have c11b0 := eq_true c11
      have c11b1 : decide (x7_1 ≤ (t260.length : Int)) = true := decide_eq_true c11
      clear c11
      obtain ⟨y263, hy263⟩ : ∃ y_ : List (S37), y_ = (t260.take (x7_1 : Int).toNat) := ⟨_, rfl⟩
      replace H : ((steepleref33_in.f k1 y263 ((rd_T37 t260 x7_1).f0) ((rd_T37 t260 x7_1).f1)).bind fun t268 => (if t268 = true then (steepleref33_Least.l0 k1 x5_1 t260 (wrap64 (x7_1 + 1))) else (steepleref33_Least.l1 k1 x5_1 t260 x7_1 ([] : List (S37)) 0))) = some r := by first | (rw [hy263]; with_reducible exact H) | (have H2_ := (Option.bind_some _ _).symm.trans H; rw [hy263]; with_reducible exact H2_) | (have H2_ := (Option.bind_some _ _).symm.trans H; with_reducible exact H2_) | with_reducible exact H | (rw [hy263]; exact H) | exact H
      have Ny263 := Aside0.mk hy263
      clear hy263
      replace H := Option.bind_eq_some_iff.mp H
      obtain ⟨t268, A120, H⟩ := H
      replace H : (if t268 = true then (steepleref33_Least.l0 k1 x5_1 t260 (wrap64 (x7_1 + 1))) else (steepleref33_Least.l1 k1 x5_1 t260 x7_1 ([] : List (S37)) 0)) = some r := H
      have A12 := Aside0.mk A120
      clear A120
      by_cases c13 : t268 = true
      ·subst c13
       have H1 : (steepleref33_Least.l0 k1 x5_1 t260 (wrap64 (x7_1 + 1))) = some r := by rw [if_pos rfl] at H; exact H
       clear H
       have H := H1
       clear H1
       have H' := Aside0.mk H
       clear H
       obtain ⟨Ao14, co14, eo14⟩ := Kd.R_slice HO_6.out
       subst eo14
       try go_wp2
       replace HO_5 := Aside0.mk (Kd.R_drew HO_5.out)
       replace HO_6 := Aside0.mk (Kd.R_drew HO_6.out)
       replace BK256 := Aside0.mk (blk_drew BK256.out)
       replace HB := Aside0.mk (below_drew1 HB.out)
       have q16 : (x7_1 : Int) ≤ ((t260.length : Int) : Int) := of_decide_eq_true (by first | (with_reducible assumption) | assumption)
       obtain ⟨i016, hi016, _, hsz16, _⟩ := info_parts info37
       have hroom16 : t260.length ≤ co14 := (Kd.R_reads' HO_6.out).2.1
       have hC16 : Kd.C k37 _ Ao14 t260.length t260 := (Kd.R_reads' HO_6.out).2.2
       have hcut16 := cut_to (P := Try.prog) 39 37 .i64 Try.underlying39 hi016 Ao14 t260.length co14 x7_1 (of_decide_eq_true (by first | (with_reducible assumption) | assumption)) q16 hroom16
       have hr16 := Kd.C_take (m := (x7_1 : Int).toNat) hC16 (by omega)
       have hy16 : y263.length = (x7_1 : Int).toNat := (by rw [Ny263.out, List.length_take]; omega)
       rw [← Ny263.out] at hr16
       rw [← hy16] at hcut16
       have HR266 := Aside0.mk hr16
       have HC266 := Aside0.mk (show y263.length ≤ co14 from by omega)
       clear hr16 hC16 hroom16 hi016 hsz16
       have KY16 := Aside0.mk hy16
       clear hy16
       have KL16 := Aside0.mk (show (x7_1 : Int).toNat ≤ t260.length from by omega)
       replace q16 := eq_true q16
       have p267 : 0 ≤ (x7_1 : Int) := of_decide_eq_true (by first | (with_reducible assumption) | assumption)
       have q267 : x7_1 < (t260.length : Int) := of_decide_eq_true (by first | (with_reducible assumption) | assumption)
       (try (obtain ⟨Ap_, cp_, ep_⟩ := Kd.R_slice HO_6.out; subst ep_))
       obtain ⟨ad267, e267, hx267_0, hx267_1⟩ := at_T37 (Kd.R_reads' HO_6.out).2.2 x7_1 p267 q267
       cases e267
       replace p267 := eq_true p267
       replace q267 := eq_true q267
       refine start_ (n := 8) (S := fun w' => w'.cell? (ad267.add ((x7_1).toNat * 2)) = some (.int .u64 ((rd_T37 t260 x7_1).f0)) ∧ w'.cell? ⟨(ad267.add ((x7_1).toNat * 2)).block, (ad267.add ((x7_1).toNat * 2)).off + 1, none⟩ = some (.int .u64 ((rd_T37 t260 x7_1).f1))) (ds := []) #[false, false, false, false, false, false, false, false] (by kernel_rfl) rfl rfl ⟨hx267_0, hx267_1⟩ (fun hHeld => ?_); refine with_tabW steepleref33_Least.tab6 steepleref33_Least.bits6 (fun HT_ HW_ => ?_)
       generalize wr.drew = w15 at HO_5 HO_6 BK256 HB HR266 hx267_0 hx267_1 hHeld ⊢
       refine pure_ (i := 0) (N := some 22) (v := ?_) (a' := ?_) #[true, false, false, false, false, false, false, false] rfl rfl (any_of HT_.out (by kernel_rfl)) (fun _ _ _ h => h) (Or.inl ⟨by rfl, ?_⟩) ?_ ?_
       rotate_left
       ·intro w'
        go_simp
        with_reducible rfl
       rotate_left
       ·simp only [Act.put, List.setIfInBounds_toArray, List.set_cons_zero, List.set_cons_succ, i64_w, i32_w]
        rfl
       refine pure_ (i := 1) (N := some 23) (v := ?_) (a' := ?_) #[true, true, false, false, false, false, false, false] rfl rfl (any_of HT_.out (by kernel_rfl)) (fun _ _ _ h => h) (Or.inl ⟨by rfl, ?_⟩) ?_ ?_
       rotate_left
       ·intro w'
        go_simp
        with_reducible rfl
       rotate_left
       ·simp only [Act.put, List.setIfInBounds_toArray, List.set_cons_zero, List.set_cons_succ, i64_w, i32_w]
        rfl
       refine pure_ (i := 2) (N := some 24) (v := ?_) (a' := ?_) #[true, true, true, false, false, false, false, false] rfl rfl (any_of HT_.out (by kernel_rfl)) (fun _ _ _ h => h) (Or.inl ⟨by rfl, ?_⟩) ?_ ?_
       rotate_left
       ·intro w'
        go_simp
        with_reducible rfl
       rotate_left
       ·simp only [Act.put, List.setIfInBounds_toArray, List.set_cons_zero, List.set_cons_succ, i64_w, i32_w]
        rfl
       refine pure_ (i := 3) (N := some 25) (v := ?_) (a' := ?_) #[true, true, true, true, false, false, false, false] rfl rfl (any_of HT_.out (by kernel_rfl)) (fun _ _ _ h => h) (Or.inl ⟨by rfl, ?_⟩) ?_ ?_
       rotate_left
       ·intro w'
        go_simp
        with_reducible rfl
       rotate_left
       ·simp only [Act.put, List.setIfInBounds_toArray, List.set_cons_zero, List.set_cons_succ, i64_w, i32_w]
        rfl
       refine pure_ (i := 4) (N := some 26) (v := ?_) (a' := ?_) #[true, true, true, true, true, false, false, false] rfl rfl (any_of HT_.out (by kernel_rfl)) (fun _ _ _ h => h) (Or.inl ⟨by rfl, ?_⟩) ?_ ?_
       rotate_left
       ·intro w'
        go_simp
        with_reducible rfl
       rotate_left
       ·simp only [Act.put, List.setIfInBounds_toArray, List.set_cons_zero, List.set_cons_succ, i64_w, i32_w]
        rfl
       refine pure_ (i := 5) (N := some 27) (v := ?_) (a' := ?_) #[true, true, true, true, true, true, false, false] rfl rfl (any_of HT_.out (by kernel_rfl)) (fun _ _ _ h => h) (Or.inl ⟨by rfl, ?_⟩) ?_ ?_
       rotate_left
       ·intro w'
        go_simp
        with_reducible rfl
       rotate_left
       ·simp only [Act.put, List.setIfInBounds_toArray, List.set_cons_zero, List.set_cons_succ, i64_w, i32_w]
        rfl
       refine take_ (i := 6) (N := some 28) (v := ?_) (a' := ?_) #[true, true, true, true, true, true, true, false] rfl rfl (take_ofW HT_.out HW_.out (by kernel_rfl)) (fun _ _ _ h => h) (Or.inl ⟨by rfl, ?_⟩) hHeld ?_ ?_
       rotate_left
       ·rintro w' ⟨s0, s1⟩
        go_simp
        with_reducible rfl
       rotate_left
       ·simp only [Act.put, List.setIfInBounds_toArray, List.set_cons_zero, List.set_cons_succ, i64_w, i32_w]
        rfl
       refine one_ (i := 7) (N := some 29) #[true, true, true, true, true, true, true, true] rfl rfl (one_of HT_.out (by kernel_rfl)) (by decide) (fun K hK => ?_)
       refine goes_ Try.func43 (by kernel_rfl) rfl #[.slice (some ad267) y263.length co14, .agg #[.int .u64 ((rd_T37 t260 x7_1).f0), .int .u64 ((rd_T37 t260 x7_1).f1)]] (by rfl) rfl rfl (by (try simp only [List.map_toArray, List.map_cons, List.map_nil]); first | done | rfl | (simp only [List.length_drop, List.length_take]; rfl)) ?_
       with_reducible refine (steepleref33_in.calls k1 _ _ y263 ((rd_T37 t260 x7_1).f0) ((rd_T37 t260 x7_1).f1) true _ ?side1 ?side2 A12.out).mono ?_
       (case side1 => repeat (first | exact (by repeat (first | (with_reducible exact HR266.out) | (with_reducible refine Kd.C_alloc ?_ _) | (with_reducible refine Kd.C_drewN ?_ _) | (with_reducible refine Kd.C_drew ?_) | exact HR266.out)) | (with_reducible refine Kd.C_alloc ?_ _) | (with_reducible refine Kd.C_drewN ?_ _) | (with_reducible refine Kd.C_drew ?_)))
       (case side2 => exact HC266.out)
       rintro e w17 ⟨rfl, hb⟩
       have HS0_ := (hb.cell (World.block_lt_of_cell? _ _ (hHeld.1))).trans (hHeld.1)
       have HS1_ := (hb.cell (World.block_lt_of_cell? _ _ (hHeld.2))).trans (hHeld.2)
       refine ⟨_, rfl, ?_⟩
       replace HO_5 := kb HO_5 hb
       replace HO_6 := kb HO_6 hb
       replace BK256 := bb BK256 hb
       replace HR266 := Aside0.mk (Kd.C_below (by repeat (first | (with_reducible exact HR266.out) | (with_reducible refine Kd.C_alloc ?_ _) | (with_reducible refine Kd.C_drewN ?_ _) | (with_reducible refine Kd.C_drew ?_) | exact HR266.out)) hb)
       replace HB := bh HB hb
       (try clear hb)
       (try clear hb2)
       (try clear hk)
       (try clear hi)
       refine hK.out _ _ ⟨HS0_, HS1_⟩ (fun hHeld => ?_)
       clear hK K
       refine norm_ (a' := ?_) ?_ ?_
       rotate_left
       ·show Act.put _ (some 29) _ = _
        simp only [Act.put, List.setIfInBounds_toArray, List.set_cons_zero, List.set_cons_succ, i64_w, i32_w]
        rfl
       refine done_ (done_of HT_.out (by kernel_rfl)) ?_
       try go_wp2
       go_roundg k1
       case measure => have := HK1.out; omega
       case rel => exact ⟨(x5_1), (wrap64 (x7_1 + 1)), (by first | rfl | (simp; done) | (simp [*]; done)), H', ⟨by have := HK1.out; omega⟩, ⟨kr HO_5.out⟩, ⟨kr HO_6.out⟩, ⟨bk BK256.out⟩, ⟨bq HB.out⟩⟩
      ·replace c13 := Bool.eq_false_iff.mpr c13
       subst c13
       have H1 : (steepleref33_Least.l1 k1 x5_1 t260 x7_1 ([] : List (S37)) 0) = some r := by rw [if_neg (show ¬ (false = true) by decide)] at H; exact H
       clear H
       have H := H1
       clear H1
       have H' := Aside0.mk H
       clear H
       obtain ⟨Ao18, co18, eo18⟩ := Kd.R_slice HO_6.out
       subst eo18
       try go_wp2
       replace HO_5 := Aside0.mk (Kd.R_drew HO_5.out)
       replace HO_6 := Aside0.mk (Kd.R_drew HO_6.out)
       replace BK256 := Aside0.mk (blk_drew BK256.out)
       replace HB := Aside0.mk (below_drew1 HB.out)
       have q20 : (x7_1 : Int) ≤ ((t260.length : Int) : Int) := of_decide_eq_true (by first | (with_reducible assumption) | assumption)
       obtain ⟨i020, hi020, _, hsz20, _⟩ := info_parts info37
       have hroom20 : t260.length ≤ co18 := (Kd.R_reads' HO_6.out).2.1
       have hC20 : Kd.C k37 _ Ao18 t260.length t260 := (Kd.R_reads' HO_6.out).2.2
       have hcut20 := cut_to (P := Try.prog) 39 37 .i64 Try.underlying39 hi020 Ao18 t260.length co18 x7_1 (of_decide_eq_true (by first | (with_reducible assumption) | assumption)) q20 hroom20
       have hr20 := Kd.C_take (m := (x7_1 : Int).toNat) hC20 (by omega)
       have hy20 : y263.length = (x7_1 : Int).toNat := (by rw [Ny263.out, List.length_take]; omega)
       rw [← Ny263.out] at hr20
       rw [← hy20] at hcut20
       have HR266 := Aside0.mk hr20
       have HC266 := Aside0.mk (show y263.length ≤ co18 from by omega)
       clear hr20 hC20 hroom20 hi020 hsz20
       have KY20 := Aside0.mk hy20
       clear hy20
       have KL20 := Aside0.mk (show (x7_1 : Int).toNat ≤ t260.length from by omega)
       replace q20 := eq_true q20
       have p267 : 0 ≤ (x7_1 : Int) := of_decide_eq_true (by first | (with_reducible assumption) | assumption)
       have q267 : x7_1 < (t260.length : Int) := of_decide_eq_true (by first | (with_reducible assumption) | assumption)
       (try (obtain ⟨Ap_, cp_, ep_⟩ := Kd.R_slice HO_6.out; subst ep_))
       obtain ⟨ad267, e267, hx267_0, hx267_1⟩ := at_T37 (Kd.R_reads' HO_6.out).2.2 x7_1 p267 q267
       cases e267
       replace p267 := eq_true p267
       replace q267 := eq_true q267
       refine start_ (n := 8) (S := fun w' => w'.cell? (ad267.add ((x7_1).toNat * 2)) = some (.int .u64 ((rd_T37 t260 x7_1).f0)) ∧ w'.cell? ⟨(ad267.add ((x7_1).toNat * 2)).block, (ad267.add ((x7_1).toNat * 2)).off + 1, none⟩ = some (.int .u64 ((rd_T37 t260 x7_1).f1))) (ds := []) #[false, false, false, false, false, false, false, false] (by kernel_rfl) rfl rfl ⟨hx267_0, hx267_1⟩ (fun hHeld => ?_); refine with_tabW steepleref33_Least.tab6 steepleref33_Least.bits6 (fun HT_ HW_ => ?_)
       generalize wr.drew = w19 at HO_5 HO_6 BK256 HB HR266 hx267_0 hx267_1 hHeld ⊢
       refine pure_ (i := 0) (N := some 22) (v := ?_) (a' := ?_) #[true, false, false, false, false, false, false, false] rfl rfl (any_of HT_.out (by kernel_rfl)) (fun _ _ _ h => h) (Or.inl ⟨by rfl, ?_⟩) ?_ ?_
       rotate_left
       ·intro w'
        go_simp
        with_reducible rfl
       rotate_left
       ·simp only [Act.put, List.setIfInBounds_toArray, List.set_cons_zero, List.set_cons_succ, i64_w, i32_w]
        rfl
       refine pure_ (i := 1) (N := some 23) (v := ?_) (a' := ?_) #[true, true, false, false, false, false, false, false] rfl rfl (any_of HT_.out (by kernel_rfl)) (fun _ _ _ h => h) (Or.inl ⟨by rfl, ?_⟩) ?_ ?_
       rotate_left
       ·intro w'
        go_simp
        with_reducible rfl
       rotate_left
       ·simp only [Act.put, List.setIfInBounds_toArray, List.set_cons_zero, List.set_cons_succ, i64_w, i32_w]
        rfl
       refine pure_ (i := 2) (N := some 24) (v := ?_) (a' := ?_) #[true, true, true, false, false, false, false, false] rfl rfl (any_of HT_.out (by kernel_rfl)) (fun _ _ _ h => h) (Or.inl ⟨by rfl, ?_⟩) ?_ ?_
       rotate_left
       ·intro w'
        go_simp
        with_reducible rfl
       rotate_left
       ·simp only [Act.put, List.setIfInBounds_toArray, List.set_cons_zero, List.set_cons_succ, i64_w, i32_w]
        rfl
       refine pure_ (i := 3) (N := some 25) (v := ?_) (a' := ?_) #[true, true, true, true, false, false, false, false] rfl rfl (any_of HT_.out (by kernel_rfl)) (fun _ _ _ h => h) (Or.inl ⟨by rfl, ?_⟩) ?_ ?_
       rotate_left
       ·intro w'
        go_simp
        with_reducible rfl
       rotate_left
       ·simp only [Act.put, List.setIfInBounds_toArray, List.set_cons_zero, List.set_cons_succ, i64_w, i32_w]
        rfl
       refine pure_ (i := 4) (N := some 26) (v := ?_) (a' := ?_) #[true, true, true, true, true, false, false, false] rfl rfl (any_of HT_.out (by kernel_rfl)) (fun _ _ _ h => h) (Or.inl ⟨by rfl, ?_⟩) ?_ ?_
       rotate_left
       ·intro w'
        go_simp
        with_reducible rfl
       rotate_left
       ·simp only [Act.put, List.setIfInBounds_toArray, List.set_cons_zero, List.set_cons_succ, i64_w, i32_w]
        rfl
       refine pure_ (i := 5) (N := some 27) (v := ?_) (a' := ?_) #[true, true, true, true, true, true, false, false] rfl rfl (any_of HT_.out (by kernel_rfl)) (fun _ _ _ h => h) (Or.inl ⟨by rfl, ?_⟩) ?_ ?_
       rotate_left
       ·intro w'
        go_simp
        with_reducible rfl
       rotate_left
       ·simp only [Act.put, List.setIfInBounds_toArray, List.set_cons_zero, List.set_cons_succ, i64_w, i32_w]
        rfl
       refine take_ (i := 6) (N := some 28) (v := ?_) (a' := ?_) #[true, true, true, true, true, true, true, false] rfl rfl (take_ofW HT_.out HW_.out (by kernel_rfl)) (fun _ _ _ h => h) (Or.inl ⟨by rfl, ?_⟩) hHeld ?_ ?_
       rotate_left
       ·rintro w' ⟨s0, s1⟩
        go_simp
        with_reducible rfl
       rotate_left
       ·simp only [Act.put, List.setIfInBounds_toArray, List.set_cons_zero, List.set_cons_succ, i64_w, i32_w]
        rfl
       refine one_ (i := 7) (N := some 29) #[true, true, true, true, true, true, true, true] rfl rfl (one_of HT_.out (by kernel_rfl)) (by decide) (fun K hK => ?_)
       refine goes_ Try.func43 (by kernel_rfl) rfl #[.slice (some ad267) y263.length co18, .agg #[.int .u64 ((rd_T37 t260 x7_1).f0), .int .u64 ((rd_T37 t260 x7_1).f1)]] (by rfl) rfl rfl (by (try simp only [List.map_toArray, List.map_cons, List.map_nil]); first | done | rfl | (simp only [List.length_drop, List.length_take]; rfl)) ?_
       with_reducible refine (steepleref33_in.calls k1 _ _ y263 ((rd_T37 t260 x7_1).f0) ((rd_T37 t260 x7_1).f1) false _ ?side1 ?side2 A12.out).mono ?_
       (case side1 => repeat (first | exact (by repeat (first | (with_reducible exact HR266.out) | (with_reducible refine Kd.C_alloc ?_ _) | (with_reducible refine Kd.C_drewN ?_ _) | (with_reducible refine Kd.C_drew ?_) | exact HR266.out)) | (with_reducible refine Kd.C_alloc ?_ _) | (with_reducible refine Kd.C_drewN ?_ _) | (with_reducible refine Kd.C_drew ?_)))
       (case side2 => exact HC266.out)
       rintro e w21 ⟨rfl, hb⟩
       have HS0_ := (hb.cell (World.block_lt_of_cell? _ _ (hHeld.1))).trans (hHeld.1)
       have HS1_ := (hb.cell (World.block_lt_of_cell? _ _ (hHeld.2))).trans (hHeld.2)
       refine ⟨_, rfl, ?_⟩
       replace HO_5 := kb HO_5 hb
       replace HO_6 := kb HO_6 hb
       replace BK256 := bb BK256 hb
       replace HR266 := Aside0.mk (Kd.C_below (by repeat (first | (with_reducible exact HR266.out) | (with_reducible refine Kd.C_alloc ?_ _) | (with_reducible refine Kd.C_drewN ?_ _) | (with_reducible refine Kd.C_drew ?_) | exact HR266.out)) hb)
       replace HB := bh HB hb
       (try clear hb)
       (try clear hb2)
       (try clear hk)
       (try clear hi)
       refine hK.out _ _ ⟨HS0_, HS1_⟩ (fun hHeld => ?_)
       clear hK K
       refine norm_ (a' := ?_) ?_ ?_
       rotate_left
       ·show Act.put _ (some 29) _ = _
        simp only [Act.put, List.setIfInBounds_toArray, List.set_cons_zero, List.set_cons_succ, i64_w, i32_w]
        rfl
       refine done_ (done_of HT_.out (by kernel_rfl)) ?_
       try go_wp2
       go_loopg [8, 9] k1 (fun kq v8 v9 w' => ∃ (x8_2 : List (S37)) (x9_2 : Int), v9 = .int .i64 x9_2 ∧ Aside0 (steepleref33_Least.l1 kq x5_1 t260 x7_1 x8_2 x9_2 = some r) ∧ Aside0 (kq ≤ k1) ∧ Aside0 (Kd.R k37 37 w' w.heap.size (fun k_ => some k_ ≠ ((.slice (some ad267) t260.length co18) : Value).ownBlock ∧ some k_ ≠ (v8 : Value).ownBlock ∧ k_ ≠ gb256) u5 x5_1) ∧ Aside0 (Kd.R k37 37 w' w.heap.size (fun k_ => some k_ ≠ (u5 : Value).ownBlock ∧ some k_ ≠ (v8 : Value).ownBlock ∧ k_ ≠ gb256) (.slice (some ad267) t260.length co18) t260) ∧ Aside0 (Kd.R k37 37 w' w.heap.size (fun k_ => some k_ ≠ (u5 : Value).ownBlock ∧ some k_ ≠ ((.slice (some ad267) t260.length co18) : Value).ownBlock ∧ k_ ≠ gb256) v8 x8_2) ∧ Aside0 (w'.heap[gb256]? = some (.cells #[.int .u64 a1_0, .int .u64 a1_1] 37 (0, 0))) ∧ Aside0 (Below w.heap.size w w'))
       case atStart => exact ⟨(([] : List (S37))), (0), (by first | rfl | (simp; done) | (simp [*]; done)), H', ⟨Nat.le_refl _⟩, ⟨by (with_reducible repeat refine kl ?_); exact Kd.R_mono HO_5.out (fun _ hk => ⟨hk.1, ⟨(by simp [Value.ownBlock]), hk.2⟩⟩)⟩, ⟨by (with_reducible repeat refine kl ?_); exact Kd.R_mono HO_6.out (fun _ hk => ⟨hk.1, ⟨(by simp [Value.ownBlock]), hk.2⟩⟩)⟩, ⟨by first | exact Kd.R_nil _ _ _ _ _ | exact Kd.N_nil _ _ _ _ _ | exact Kd.V_nil _ _ _ _ _ | exact Kd.Q_nil _ _ _ _ _ | exact Kd.S_nil _ _ _ _ _⟩, ⟨bk BK256.out⟩, ⟨bq HB.out⟩⟩
       case round =>
        clear H'
        try clear c1
        try clear q1
        try clear c2
        try clear p2
        try clear q2
        try clear hx2
        try clear c3
        try clear c4
        try clear p6
        try clear c9
        try clear c9b0
        try clear c10
        try clear c10b0
        try clear c10b1
        try clear c11
        try clear c11b0
        try clear c11b1
        try clear c13
        try clear q16
        try clear c18
        try clear q20
        try clear hcz7_0
        try clear hcz7_1
        try clear hfz7_0
        try clear hfz7_1
        try clear hx267_0
        try clear hx267_1
        try clear p2
        try clear p267
        try clear q16
        try clear q20
        try clear q267
        obtain ⟨x8_2, x9_2, rfl, HA, HK2, HO_5, HO_6, HO_8, BK256, HB⟩ := hrel
        cases gk with
        | zero => exact absurd HA.out (by simp [steepleref33_Least.l1])
        | succ k2 =>
         have H := HA.out
         clear HA
         simp only [steepleref33_Least.l1] at H
         by_cases c22 : x9_2 ≤ (x5_1.length : Int)
         ·rw [if_pos c22] at H
          have c22b0 : decide (x9_2 ≤ (x5_1.length : Int)) = true := decide_eq_true c22
          clear c22
          by_cases c23 : x9_2 < (x5_1.length : Int)
          ·rw [if_pos c23] at H
           have c23b0 : decide (x9_2 < (x5_1.length : Int)) = true := decide_eq_true c23
           clear c23
           by_cases c24 : 0 ≤ x7_1
           ·rw [if_pos c24] at H
            have c24b0 : decide (0 ≤ x7_1) = true := decide_eq_true c24
            clear c24
            by_cases c25 : x7_1 < (t260.length : Int)
            ·rw [if_pos c25] at H
             have c25b0 : decide (x7_1 < (t260.length : Int)) = true := decide_eq_true c25
             clear c25
             by_cases c26 : 0 ≤ x9_2
             ·rw [if_pos c26] at H
              have c26b0 : decide (0 ≤ x9_2) = true := decide_eq_true c26
              clear c26
              replace H := Option.bind_eq_some_iff.mp H
              obtain ⟨⟨t272, t273⟩, A270, H⟩ := H
              replace H : (if x9_2 > 0 then (if 0 ≤ (wrap64 (x9_2 - 1)) then (if (wrap64 (x9_2 - 1)) < (x5_1.length : Int) then ((steepleref02_Add.f t272 t273 ((rd_T37 x5_1 (wrap64 (x9_2 - 1))).f0) ((rd_T37 x5_1 (wrap64 (x9_2 - 1))).f1)).bind fun bt275 => (if x8_2.length < 8796093022208 then (steepleref33_Least.l1 k2 x5_1 t260 x7_1 (x8_2 ++ [(⟨bt275.1, bt275.2⟩ : S37)]) (wrap64 (x9_2 + 1))) else (none))) else (none)) else (none)) else (if x8_2.length < 8796093022208 then (steepleref33_Least.l1 k2 x5_1 t260 x7_1 (x8_2 ++ [(⟨t272, t273⟩ : S37)]) (wrap64 (x9_2 + 1))) else (none))) = some r := H
              have A27 := Aside0.mk A270
              clear A270
              by_cases c28 : x9_2 > 0
              ·rw [if_pos c28] at H
               have c28b0 : decide (0 < x9_2) = true := decide_eq_true c28
               clear c28
               obtain ⟨ji29, hji29⟩ : ∃ j_ : Int, (wrap64 (x9_2 - 1)) = j_ := ⟨_, rfl⟩
               replace H : (if 0 ≤ (ji29) then (if (ji29) < (x5_1.length : Int) then ((steepleref02_Add.f t272 t273 ((rd_T37 x5_1 (ji29)).f0) ((rd_T37 x5_1 (ji29)).f1)).bind fun bt275 => (if x8_2.length < 8796093022208 then (steepleref33_Least.l1 k2 x5_1 t260 x7_1 (x8_2 ++ [(⟨bt275.1, bt275.2⟩ : S37)]) (wrap64 (x9_2 + 1))) else (none))) else (none)) else (none)) = some r := by first | (rw [hji29] at H; exact H) | (simp only [hji29] at H ⊢; exact H)
               (try rw [hji29] at A27)
               have hji29w : (IntKind.i64.wrap (x9_2 - 1)) = ji29 := (i64_w _).trans hji29
               by_cases c30 : 0 ≤ (ji29)
               ·rw [if_pos c30] at H
                have c30b0 : decide (0 ≤ (ji29)) = true := decide_eq_true c30
                clear c30
                by_cases c31 : (ji29) < (x5_1.length : Int)
                ·rw [if_pos c31] at H
                 have c31b0 : decide ((ji29) < (x5_1.length : Int)) = true := decide_eq_true c31
                 clear c31
                 replace H := Option.bind_eq_some_iff.mp H
                 obtain ⟨⟨t275, t276⟩, A320, H⟩ := H
                 replace H : (if x8_2.length < 8796093022208 then (steepleref33_Least.l1 k2 x5_1 t260 x7_1 (x8_2 ++ [(⟨t275, t276⟩ : S37)]) (wrap64 (x9_2 + 1))) else (none)) = some r := H
                 have A32 := Aside0.mk A320
                 clear A320
                 by_cases c33 : x8_2.length < 8796093022208
                 ·rw [if_pos c33] at H
                  have LMc33 := Aside0.mk c33
                  clear c33
                  obtain ⟨y277, hy277⟩ : ∃ y_ : List (S37), y_ = (x8_2 ++ [(⟨t275, t276⟩ : S37)]) := ⟨_, rfl⟩
                  replace H : (steepleref33_Least.l1 k2 x5_1 t260 x7_1 y277 (wrap64 (x9_2 + 1))) = some r := by first | (rw [hy277]; with_reducible exact H) | (have H2_ := (Option.bind_some _ _).symm.trans H; rw [hy277]; with_reducible exact H2_) | (have H2_ := (Option.bind_some _ _).symm.trans H; with_reducible exact H2_) | with_reducible exact H | (rw [hy277]; exact H) | exact H
                  have Ny277 := Aside0.mk hy277
                  clear hy277
                  have H' := Aside0.mk H
                  clear H
                  obtain ⟨Ao34, co34, eo34⟩ := Kd.R_slice HO_5.out
                  subst eo34
                  try go_wp2_with (first | ((with_reducible refine gate_dst (N := 10) rfl ?_); refine box_event ?hg (N := 10) ?hd (cs := #[.int .u64 0, .int .u64 0]) (t := 37) ?hr ?_; (case hd => rfl); (case hg => rfl); (case hr => first | (go_simp; done) | (go_simp; rfl)); intro gb269 hg w35 hbox hb; have BK269 := Aside0.mk hbox; have GW269 := ge hg HB; have GE269 := ge hg HB; have NB256_269 := nl hg BK256; have NB269_256 := ng hg BK256; replace HO_5 := Aside0.mk (Kd.R_below (Kd.R_elderB (kr HO_5.out) gb269 (Nat.le_of_eq hg.symm)) hb); replace HO_6 := Aside0.mk (Kd.R_below (Kd.R_elderB (kr HO_6.out) gb269 (Nat.le_of_eq hg.symm)) hb); replace HO_8 := Aside0.mk (Kd.R_below (Kd.R_elderB (kr HO_8.out) gb269 (Nat.le_of_eq hg.symm)) hb); replace BK256 := bb BK256 hb; replace HB := bh HB hb; clear hb hbox hg))
                  replace HO_5 := Aside0.mk (Kd.R_drew HO_5.out)
                  replace HO_6 := Aside0.mk (Kd.R_drew HO_6.out)
                  replace HO_8 := Aside0.mk (Kd.R_drew HO_8.out)
                  replace BK256 := Aside0.mk (blk_drew BK256.out)
                  replace BK269 := Aside0.mk (blk_drew BK269.out)
                  replace HB := Aside0.mk (below_drew1 HB.out)
                  have p270 : 0 ≤ (x7_1 : Int) := of_decide_eq_true (by first | (with_reducible assumption) | assumption)
                  have q270 : x7_1 < (t260.length : Int) := of_decide_eq_true (by first | (with_reducible assumption) | assumption)
                  (try (obtain ⟨Ap_, cp_, ep_⟩ := Kd.R_slice HO_6.out; subst ep_))
                  obtain ⟨ad270, e270, hx270_0, hx270_1⟩ := at_T37 (Kd.R_reads' HO_6.out).2.2 x7_1 p270 q270
                  obtain rfl : ad267 = ad270 := (by injection e270)
                  replace p270 := eq_true p270
                  replace q270 := eq_true q270
                  have p271 : 0 ≤ (x9_2 : Int) := of_decide_eq_true (by first | (with_reducible assumption) | assumption)
                  have q271 : x9_2 < (x5_1.length : Int) := of_decide_eq_true (by first | (with_reducible assumption) | assumption)
                  (try (obtain ⟨Ap_, cp_, ep_⟩ := Kd.R_slice HO_5.out; subst ep_))
                  obtain ⟨ad271, e271, hx271_0, hx271_1⟩ := at_T37 (Kd.R_reads' HO_5.out).2.2 x9_2 p271 q271
                  cases e271
                  replace p271 := eq_true p271
                  replace q271 := eq_true q271
                  refine start_ (n := 10) (S := fun w' => w'.cell? (ad267.add ((x7_1).toNat * 2)) = some (.int .u64 ((rd_T37 t260 x7_1).f0)) ∧ w'.cell? ⟨(ad267.add ((x7_1).toNat * 2)).block, (ad267.add ((x7_1).toNat * 2)).off + 1, none⟩ = some (.int .u64 ((rd_T37 t260 x7_1).f1)) ∧ w'.cell? (ad271.add ((x9_2).toNat * 2)) = some (.int .u64 ((rd_T37 x5_1 x9_2).f0)) ∧ w'.cell? ⟨(ad271.add ((x9_2).toNat * 2)).block, (ad271.add ((x9_2).toNat * 2)).off + 1, none⟩ = some (.int .u64 ((rd_T37 x5_1 x9_2).f1))) (ds := []) #[false, false, false, false, false, false, false, false, false, false] (by kernel_rfl) rfl rfl ⟨hx270_0, hx270_1, hx271_0, hx271_1⟩ (fun hHeld => ?_); refine with_tabW steepleref33_Least.tab13 steepleref33_Least.bits13 (fun HT_ HW_ => ?_)
                  generalize w35.drew = w36 at HO_5 HO_6 HO_8 BK256 BK269 HB hx270_0 hx270_1 hx271_0 hx271_1 hHeld ⊢
                  refine pure_ (i := 0) (N := some 40) (v := ?_) (a' := ?_) #[true, false, false, false, false, false, false, false, false, false] rfl rfl (any_of HT_.out (by kernel_rfl)) (fun _ _ _ h => h) (Or.inl ⟨by rfl, ?_⟩) ?_ ?_
                  rotate_left
                  ·intro w'
                   go_simp
                   with_reducible rfl
                  rotate_left
                  ·simp only [Act.put, List.setIfInBounds_toArray, List.set_cons_zero, List.set_cons_succ, i64_w, i32_w]
                   rfl
                  refine pure_ (i := 1) (N := some 41) (v := ?_) (a' := ?_) #[true, true, false, false, false, false, false, false, false, false] rfl rfl (any_of HT_.out (by kernel_rfl)) (fun _ _ _ h => h) (Or.inl ⟨by rfl, ?_⟩) ?_ ?_
                  rotate_left
                  ·intro w'
                   go_simp
                   with_reducible rfl
                  rotate_left
                  ·simp only [Act.put, List.setIfInBounds_toArray, List.set_cons_zero, List.set_cons_succ, i64_w, i32_w]
                   rfl
                  refine pure_ (i := 2) (N := some 42) (v := ?_) (a' := ?_) #[true, true, true, false, false, false, false, false, false, false] rfl rfl (any_of HT_.out (by kernel_rfl)) (fun _ _ _ h => h) (Or.inl ⟨by rfl, ?_⟩) ?_ ?_
                  rotate_left
                  ·intro w'
                   go_simp
                   with_reducible rfl
                  rotate_left
                  ·simp only [Act.put, List.setIfInBounds_toArray, List.set_cons_zero, List.set_cons_succ, i64_w, i32_w]
                   rfl
                  refine pure_ (i := 4) (N := some 44) (v := ?_) (a' := ?_) #[true, true, true, false, true, false, false, false, false, false] rfl rfl (any_of HT_.out (by kernel_rfl)) (fun _ _ _ h => h) (Or.inl ⟨by rfl, ?_⟩) ?_ ?_
                  rotate_left
                  ·intro w'
                   go_simp
                   with_reducible rfl
                  rotate_left
                  ·simp only [Act.put, List.setIfInBounds_toArray, List.set_cons_zero, List.set_cons_succ, i64_w, i32_w]
                   rfl
                  refine pure_ (i := 5) (N := some 45) (v := ?_) (a' := ?_) #[true, true, true, false, true, true, false, false, false, false] rfl rfl (any_of HT_.out (by kernel_rfl)) (fun _ _ _ h => h) (Or.inl ⟨by rfl, ?_⟩) ?_ ?_
                  rotate_left
                  ·intro w'
                   go_simp
                   with_reducible rfl
                  rotate_left
                  ·simp only [Act.put, List.setIfInBounds_toArray, List.set_cons_zero, List.set_cons_succ, i64_w, i32_w]
                   rfl
                  refine pure_ (i := 6) (N := some 46) (v := ?_) (a' := ?_) #[true, true, true, false, true, true, true, false, false, false] rfl rfl (any_of HT_.out (by kernel_rfl)) (fun _ _ _ h => h) (Or.inl ⟨by rfl, ?_⟩) ?_ ?_
                  rotate_left
                  ·intro w'
                   go_simp
                   with_reducible rfl
                  rotate_left
                  ·simp only [Act.put, List.setIfInBounds_toArray, List.set_cons_zero, List.set_cons_succ, i64_w, i32_w]
                   rfl
                  refine take_ (i := 3) (N := some 43) (v := ?_) (a' := ?_) #[true, true, true, true, true, true, true, false, false, false] rfl rfl (take_ofW HT_.out HW_.out (by kernel_rfl)) (fun _ _ _ h => h) (Or.inl ⟨by rfl, ?_⟩) hHeld ?_ ?_
                  rotate_left
                  ·rintro w' ⟨s0, s1, s2, s3⟩
                   go_simp
                   with_reducible rfl
                  rotate_left
                  ·simp only [Act.put, List.setIfInBounds_toArray, List.set_cons_zero, List.set_cons_succ, i64_w, i32_w]
                   rfl
                  refine take_ (i := 7) (N := some 47) (v := ?_) (a' := ?_) #[true, true, true, true, true, true, true, true, false, false] rfl rfl (take_ofW HT_.out HW_.out (by kernel_rfl)) (fun _ _ _ h => h) (Or.inl ⟨by rfl, ?_⟩) hHeld ?_ ?_
                  rotate_left
                  ·rintro w' ⟨s0, s1, s2, s3⟩
                   go_simp
                   with_reducible rfl
                  rotate_left
                  ·simp only [Act.put, List.setIfInBounds_toArray, List.set_cons_zero, List.set_cons_succ, i64_w, i32_w]
                   rfl
                  refine one_ (i := 8) (N := some 48) #[true, true, true, true, true, true, true, true, true, false] rfl rfl (one_of HT_.out (by kernel_rfl)) (by decide) (fun K hK => ?_)
                  refine goes_ Try.func22 (by kernel_rfl) rfl #[.agg #[.int .u64 ((rd_T37 t260 x7_1).f0), .int .u64 ((rd_T37 t260 x7_1).f1)], .agg #[.int .u64 ((rd_T37 x5_1 x9_2).f0), .int .u64 ((rd_T37 x5_1 x9_2).f1)]] (by rfl) rfl rfl (by (try simp only [List.map_toArray, List.map_cons, List.map_nil]); first | done | rfl | (simp only [List.length_drop, List.length_take]; rfl)) ?_
                  with_reducible refine (steepleref02_Product.calls k2 ((rd_T37 t260 x7_1).f0) ((rd_T37 t260 x7_1).f1) ((rd_T37 x5_1 x9_2).f0) ((rd_T37 x5_1 x9_2).f1) t272 t273 _ A27.out).mono ?_
                  rintro e w37 ⟨rfl, hb⟩
                  have HS0_ := (hb.cell (World.block_lt_of_cell? _ _ (hHeld.1))).trans (hHeld.1)
                  have HS1_ := (hb.cell (World.block_lt_of_cell? _ _ (hHeld.2.1))).trans (hHeld.2.1)
                  have HS2_ := (hb.cell (World.block_lt_of_cell? _ _ (hHeld.2.2.1))).trans (hHeld.2.2.1)
                  have HS3_ := (hb.cell (World.block_lt_of_cell? _ _ (hHeld.2.2.2))).trans (hHeld.2.2.2)
                  refine ⟨_, rfl, ?_⟩
                  replace HO_5 := kb HO_5 hb
                  replace HO_6 := kb HO_6 hb
                  replace HO_8 := kb HO_8 hb
                  replace BK256 := bb BK256 hb
                  replace BK269 := bb BK269 hb
                  replace HB := bh HB hb
                  (try clear hb)
                  (try clear hb2)
                  (try clear hk)
                  (try clear hi)
                  refine hK.out _ _ ⟨HS0_, HS1_, HS2_, HS3_⟩ (fun hHeld => ?_)
                  clear hK K
                  refine norm_ (a' := ?_) ?_ ?_
                  rotate_left
                  ·show Act.put _ (some 48) _ = _
                   simp only [Act.put, List.setIfInBounds_toArray, List.set_cons_zero, List.set_cons_succ, i64_w, i32_w]
                   rfl
                  refine one_ (i := 9) (N := none) #[true, true, true, true, true, true, true, true, true, true] rfl rfl (one_of HT_.out (by kernel_rfl)) (by decide) (fun K hK => ?_)
                  have hs38 : w37.cell? ⟨gb269, 0, none⟩ = some (.int .u64 0) := (blk_cell BK269.out 0).trans rfl
                  have hfs38 := blk_frozen BK269.out 0
                  have hns38_0 := NB256_269.out
                  have hms38_0 := NB269_256.out
                  have hs39 : w37.cell? ⟨gb269, 1, none⟩ = some (.int .u64 0) := (blk_cell BK269.out 1).trans rfl
                  have hfs39 := blk_frozen BK269.out 1
                  have hns39_0 := NB256_269.out
                  have hms39_0 := NB269_256.out
                  refine skip_ (w1 := ?_) (by rfl) rfl ?_ ?_
                  rotate_left
                  ·go_simp
                   rfl
                  refine hK.out _ _ ⟨((cell_far (p := ⟨gb269, _, none⟩) (by first | exact Kd.own_blk (Kd.R_away HO_6.out (fun _ hk => hk.2)) | (rw [add_block]; exact Kd.own_blk (Kd.R_away HO_6.out (fun _ hk => hk.2))) | (show (Addr.add _ _).block ≠ _; rw [add_block]; exact Kd.own_blk (Kd.R_away HO_6.out (fun _ hk => hk.2))) | (dsimp only; exact Kd.own_blk (Kd.R_away HO_6.out (fun _ hk => hk.2)))) _).trans (((cell_far (p := ⟨gb269, _, none⟩) (by first | exact Kd.own_blk (Kd.R_away HO_6.out (fun _ hk => hk.2)) | (rw [add_block]; exact Kd.own_blk (Kd.R_away HO_6.out (fun _ hk => hk.2))) | (show (Addr.add _ _).block ≠ _; rw [add_block]; exact Kd.own_blk (Kd.R_away HO_6.out (fun _ hk => hk.2))) | (dsimp only; exact Kd.own_blk (Kd.R_away HO_6.out (fun _ hk => hk.2)))) _).trans (hHeld.1)))), ((cell_far (p := ⟨gb269, _, none⟩) (by first | exact Kd.own_blk (Kd.R_away HO_6.out (fun _ hk => hk.2)) | (rw [add_block]; exact Kd.own_blk (Kd.R_away HO_6.out (fun _ hk => hk.2))) | (show (Addr.add _ _).block ≠ _; rw [add_block]; exact Kd.own_blk (Kd.R_away HO_6.out (fun _ hk => hk.2))) | (dsimp only; exact Kd.own_blk (Kd.R_away HO_6.out (fun _ hk => hk.2)))) _).trans (((cell_far (p := ⟨gb269, _, none⟩) (by first | exact Kd.own_blk (Kd.R_away HO_6.out (fun _ hk => hk.2)) | (rw [add_block]; exact Kd.own_blk (Kd.R_away HO_6.out (fun _ hk => hk.2))) | (show (Addr.add _ _).block ≠ _; rw [add_block]; exact Kd.own_blk (Kd.R_away HO_6.out (fun _ hk => hk.2))) | (dsimp only; exact Kd.own_blk (Kd.R_away HO_6.out (fun _ hk => hk.2)))) _).trans (hHeld.2.1)))), ((cell_far (p := ⟨gb269, _, none⟩) (by first | exact Kd.own_blk (Kd.R_away HO_5.out (fun _ hk => hk.2)) | (rw [add_block]; exact Kd.own_blk (Kd.R_away HO_5.out (fun _ hk => hk.2))) | (show (Addr.add _ _).block ≠ _; rw [add_block]; exact Kd.own_blk (Kd.R_away HO_5.out (fun _ hk => hk.2))) | (dsimp only; exact Kd.own_blk (Kd.R_away HO_5.out (fun _ hk => hk.2)))) _).trans (((cell_far (p := ⟨gb269, _, none⟩) (by first | exact Kd.own_blk (Kd.R_away HO_5.out (fun _ hk => hk.2)) | (rw [add_block]; exact Kd.own_blk (Kd.R_away HO_5.out (fun _ hk => hk.2))) | (show (Addr.add _ _).block ≠ _; rw [add_block]; exact Kd.own_blk (Kd.R_away HO_5.out (fun _ hk => hk.2))) | (dsimp only; exact Kd.own_blk (Kd.R_away HO_5.out (fun _ hk => hk.2)))) _).trans (hHeld.2.2.1)))), ((cell_far (p := ⟨gb269, _, none⟩) (by first | exact Kd.own_blk (Kd.R_away HO_5.out (fun _ hk => hk.2)) | (rw [add_block]; exact Kd.own_blk (Kd.R_away HO_5.out (fun _ hk => hk.2))) | (show (Addr.add _ _).block ≠ _; rw [add_block]; exact Kd.own_blk (Kd.R_away HO_5.out (fun _ hk => hk.2))) | (dsimp only; exact Kd.own_blk (Kd.R_away HO_5.out (fun _ hk => hk.2)))) _).trans (((cell_far (p := ⟨gb269, _, none⟩) (by first | exact Kd.own_blk (Kd.R_away HO_5.out (fun _ hk => hk.2)) | (rw [add_block]; exact Kd.own_blk (Kd.R_away HO_5.out (fun _ hk => hk.2))) | (show (Addr.add _ _).block ≠ _; rw [add_block]; exact Kd.own_blk (Kd.R_away HO_5.out (fun _ hk => hk.2))) | (dsimp only; exact Kd.own_blk (Kd.R_away HO_5.out (fun _ hk => hk.2)))) _).trans (hHeld.2.2.2))))⟩ (fun hHeld => ?_)
                  clear hK K
                  refine done_ (done_of HT_.out (by kernel_rfl)) ?_
                  try go_wp2
                  have n0_ : Aside0 (Kd.R k37 37 ((w37.setCell ⟨gb269, 0, none⟩ (.int .u64 t272)).setCell ⟨gb269, 1, none⟩ (.int .u64 t273)) w.heap.size (fun k_ => some k_ ≠ (.slice (some ad267) t260.length co18 : Value).ownBlock ∧ some k_ ≠ (u8 : Value).ownBlock ∧ k_ ≠ gb256 ∧ k_ ≠ gb269) (.slice (some ad271) x5_1.length co34) x5_1) := ⟨by (with_reducible repeat refine kl ?_); exact Kd.R_mono (Kd.R_far (p := ⟨gb269, 1, none⟩) (Kd.R_far (p := ⟨gb269, 0, none⟩) (Kd.R_mono HO_5.out (fun k_ hk => (⟨hk, hk.2⟩ : _ ∧ k_ ≠ gb269))) (fun _ hk => hk.2) (.int .u64 t272)) (fun _ hk => hk.2) (.int .u64 t273)) (fun _ hk => ⟨hk.1.1.1, ⟨hk.1.1.2.1, ⟨hk.1.1.2.2, hk.1.2⟩⟩⟩)⟩
                  have n1_ : Aside0 (Kd.R k37 37 ((w37.setCell ⟨gb269, 0, none⟩ (.int .u64 t272)).setCell ⟨gb269, 1, none⟩ (.int .u64 t273)) w.heap.size (fun k_ => some k_ ≠ (.slice (some ad271) x5_1.length co34 : Value).ownBlock ∧ some k_ ≠ (u8 : Value).ownBlock ∧ k_ ≠ gb256 ∧ k_ ≠ gb269) (.slice (some ad267) t260.length co18) t260) := ⟨by (with_reducible repeat refine kl ?_); exact Kd.R_mono (Kd.R_far (p := ⟨gb269, 1, none⟩) (Kd.R_far (p := ⟨gb269, 0, none⟩) (Kd.R_mono HO_6.out (fun k_ hk => (⟨hk, hk.2⟩ : _ ∧ k_ ≠ gb269))) (fun _ hk => hk.2) (.int .u64 t272)) (fun _ hk => hk.2) (.int .u64 t273)) (fun _ hk => ⟨hk.1.1.1, ⟨hk.1.1.2.1, ⟨hk.1.1.2.2, hk.1.2⟩⟩⟩)⟩
                  have n2_ : Aside0 (Kd.R k37 37 ((w37.setCell ⟨gb269, 0, none⟩ (.int .u64 t272)).setCell ⟨gb269, 1, none⟩ (.int .u64 t273)) w.heap.size (fun k_ => some k_ ≠ (.slice (some ad271) x5_1.length co34 : Value).ownBlock ∧ some k_ ≠ (.slice (some ad267) t260.length co18 : Value).ownBlock ∧ k_ ≠ gb256 ∧ k_ ≠ gb269) u8 x8_2) := ⟨by (with_reducible repeat refine kl ?_); exact Kd.R_mono (Kd.R_far (p := ⟨gb269, 1, none⟩) (Kd.R_far (p := ⟨gb269, 0, none⟩) (Kd.R_mono HO_8.out (fun k_ hk => (⟨hk, hk.2⟩ : _ ∧ k_ ≠ gb269))) (fun _ hk => hk.2) (.int .u64 t272)) (fun _ hk => hk.2) (.int .u64 t273)) (fun _ hk => ⟨hk.1.1.1, ⟨hk.1.1.2.1, ⟨hk.1.1.2.2, hk.1.2⟩⟩⟩)⟩
                  have n3_ : Aside0 (((w37.setCell ⟨gb269, 0, none⟩ (.int .u64 t272)).setCell ⟨gb269, 1, none⟩ (.int .u64 t273)).heap[gb256]? = some (.cells #[.int .u64 a1_0, .int .u64 a1_1] 37 (0, 0))) := ⟨by (with_reducible repeat refine bl ?_); refine blk_far ?_ NB256_269.out _; (with_reducible repeat refine bl ?_); refine blk_far ?_ NB256_269.out _; (with_reducible repeat refine bl ?_); exact BK256.out⟩
                  have n4_ : Aside0 (((w37.setCell ⟨gb269, 0, none⟩ (.int .u64 t272)).setCell ⟨gb269, 1, none⟩ (.int .u64 t273)).heap[gb269]? = some (.cells #[.int .u64 t272, .int .u64 t273] 37 (0, 0))) := ⟨by (with_reducible repeat refine bl ?_); refine blk_put (cs := #[.int .u64 t272, .int .u64 0]) ?_ 1 _ rfl; (with_reducible repeat refine bl ?_); refine blk_put (cs := #[.int .u64 0, .int .u64 0]) ?_ 0 _ rfl; (with_reducible repeat refine bl ?_); exact BK269.out⟩
                  have n5_ : Aside0 (Below w.heap.size w ((w37.setCell ⟨gb269, 0, none⟩ (.int .u64 t272)).setCell ⟨gb269, 1, none⟩ (.int .u64 t273))) := ⟨bq HB.out⟩
                  (try clear HO_5)
                  (try clear HO_6)
                  (try clear HO_8)
                  (try clear BK256)
                  (try clear BK269)
                  (try clear HB)
                  generalize ((w37.setCell ⟨gb269, 0, none⟩ (.int .u64 t272)).setCell ⟨gb269, 1, none⟩ (.int .u64 t273)) = w40 at n0_ n1_ n2_ n3_ n4_ n5_ ⊢
                  have HO_5 := n0_
                  have HO_6 := n1_
                  have HO_8 := n2_
                  have BK256 := n3_
                  have BK269 := n4_
                  have HB := n5_
                  clear n0_ n1_ n2_ n3_ n4_ n5_
                  replace HO_5 := Aside0.mk (Kd.R_drew HO_5.out)
                  replace HO_6 := Aside0.mk (Kd.R_drew HO_6.out)
                  replace HO_8 := Aside0.mk (Kd.R_drew HO_8.out)
                  replace BK256 := Aside0.mk (blk_drew BK256.out)
                  replace BK269 := Aside0.mk (blk_drew BK269.out)
                  replace HB := Aside0.mk (below_drew1 HB.out)
                  have p274 : 0 ≤ ((ji29) : Int) := of_decide_eq_true (by first | (with_reducible assumption) | assumption)
                  have q274 : (ji29) < (x5_1.length : Int) := of_decide_eq_true (by first | (with_reducible assumption) | assumption)
                  (try (obtain ⟨Ap_, cp_, ep_⟩ := Kd.R_slice HO_5.out; subst ep_))
                  obtain ⟨ad274, e274, hx274_0, hx274_1⟩ := at_T37 (Kd.R_reads' HO_5.out).2.2 (ji29) p274 q274
                  obtain rfl : ad271 = ad274 := (by injection e274)
                  replace p274 := eq_true p274
                  replace q274 := eq_true q274
                  refine start_ (n := 8) (S := fun w' => w'.cell? ⟨gb269, 0, none⟩ = some (.int .u64 t272) ∧ w'.cell? ⟨gb269, 1, none⟩ = some (.int .u64 t273) ∧ w'.cell? (ad271.add (((ji29)).toNat * 2)) = some (.int .u64 ((rd_T37 x5_1 (ji29)).f0)) ∧ w'.cell? ⟨(ad271.add (((ji29)).toNat * 2)).block, (ad271.add (((ji29)).toNat * 2)).off + 1, none⟩ = some (.int .u64 ((rd_T37 x5_1 (ji29)).f1))) (ds := [7]) #[false, false, false, false, false, false, false, false] (by kernel_rfl) rfl rfl ⟨(blk_cell BK269.out 0).trans rfl, (blk_cell BK269.out 1).trans rfl, hx274_0, hx274_1⟩ (fun hHeld => ?_); refine with_tabW steepleref33_Least.tab15 steepleref33_Least.bits15 (fun HT_ HW_ => ?_)
                  generalize w40.drew = w41 at HO_5 HO_6 HO_8 BK256 BK269 HB hx274_0 hx274_1 hHeld ⊢
                  refine pure_ (i := 1) (N := some 52) (v := ?_) (a' := ?_) #[false, true, false, false, false, false, false, false] rfl rfl (any_of HT_.out (by kernel_rfl)) (fun _ _ _ h => h) (Or.inl ⟨by rfl, ?_⟩) ?_ ?_
                  rotate_left
                  ·intro w'
                   go_simp
                   with_reducible rfl
                  rotate_left
                  ·simp only [Act.put, List.setIfInBounds_toArray, List.set_cons_zero, List.set_cons_succ, i64_w, i32_w]
                   rfl
                  refine pure_ (i := 2) (N := some 53) (v := ?_) (a' := ?_) #[false, true, true, false, false, false, false, false] rfl rfl (any_of HT_.out (by kernel_rfl)) (fun _ _ _ h => h) (Or.inl ⟨by rfl, ?_⟩) ?_ ?_
                  rotate_left
                  ·intro w'
                   go_simp
                   with_reducible rfl
                  rotate_left
                  ·simp only [Act.put, List.setIfInBounds_toArray, List.set_cons_zero, List.set_cons_succ, i64_w, i32_w]
                   rfl
                  refine pure_ (i := 3) (N := some 54) (v := ?_) (a' := ?_) #[false, true, true, true, false, false, false, false] rfl rfl (any_of HT_.out (by kernel_rfl)) (fun _ _ _ h => h) (Or.inl ⟨by rfl, ?_⟩) ?_ ?_
                  rotate_left
                  ·intro w'
                   go_simp
                   with_reducible rfl
                  rotate_left
                  ·simp only [Act.put, List.setIfInBounds_toArray, List.set_cons_zero, List.set_cons_succ, i64_w, i32_w]
                   rfl
                  refine pure_ (i := 4) (N := some 55) (v := ?_) (a' := ?_) #[false, true, true, true, true, false, false, false] rfl rfl (any_of HT_.out (by kernel_rfl)) (fun _ _ _ h => h) (Or.inl ⟨by rfl, ?_⟩) ?_ ?_
                  rotate_left
                  ·intro w'
                   go_simp
                   with_reducible rfl
                  rotate_left
                  ·simp only [Act.put, List.setIfInBounds_toArray, List.set_cons_zero, List.set_cons_succ, i64_w, i32_w]
                   rfl
                  refine take_ (i := 0) (N := some 51) (v := ?_) (a' := ?_) #[true, true, true, true, true, false, false, false] rfl rfl (take_ofW HT_.out HW_.out (by kernel_rfl)) (fun _ _ _ h => h) (Or.inl ⟨by rfl, ?_⟩) hHeld ?_ ?_
                  rotate_left
                  ·rintro w' ⟨s0, s1, s2, s3⟩
                   go_simp
                   with_reducible rfl
                  rotate_left
                  ·simp only [Act.put, List.setIfInBounds_toArray, List.set_cons_zero, List.set_cons_succ, i64_w, i32_w]
                   rfl
                  refine take_ (i := 5) (N := some 56) (v := ?_) (a' := ?_) #[true, true, true, true, true, true, false, false] rfl rfl (take_ofW HT_.out HW_.out (by kernel_rfl)) (fun _ _ _ h => h) (Or.inl ⟨by rfl, ?_⟩) hHeld ?_ ?_
                  rotate_left
                  ·rintro w' ⟨s0, s1, s2, s3⟩
                   go_simp
                   with_reducible rfl
                  rotate_left
                  ·simp only [Act.put, List.setIfInBounds_toArray, List.set_cons_zero, List.set_cons_succ, i64_w, i32_w]
                   rfl
                  refine one_ (i := 6) (N := some 57) #[true, true, true, true, true, true, true, false] rfl rfl (one_of HT_.out (by kernel_rfl)) (by decide) (fun K hK => ?_)
                  refine goes_ Try.func21 (by kernel_rfl) rfl #[.agg #[.int .u64 t272, .int .u64 t273], .agg #[.int .u64 ((rd_T37 x5_1 (ji29)).f0), .int .u64 ((rd_T37 x5_1 (ji29)).f1)]] (by rfl) rfl rfl (by (try simp only [List.map_toArray, List.map_cons, List.map_nil]); first | done | (simp only [hji29]; rfl) | rfl | (simp only [List.length_drop, List.length_take]; rfl)) ?_
                  with_reducible refine (steepleref02_Add.calls t272 t273 ((rd_T37 x5_1 (ji29)).f0) ((rd_T37 x5_1 (ji29)).f1) t275 t276 _ A32.out).mono ?_
                  rintro e w42 ⟨rfl, hb⟩
                  have HS2_ := (hb.cell (World.block_lt_of_cell? _ _ (hHeld.2.2.1))).trans (hHeld.2.2.1)
                  have HS3_ := (hb.cell (World.block_lt_of_cell? _ _ (hHeld.2.2.2))).trans (hHeld.2.2.2)
                  refine ⟨_, rfl, ?_⟩
                  replace HO_5 := kb HO_5 hb
                  replace HO_6 := kb HO_6 hb
                  replace HO_8 := kb HO_8 hb
                  replace BK256 := bb BK256 hb
                  replace BK269 := bb BK269 hb
                  replace HB := bh HB hb
                  (try clear hb)
                  (try clear hb2)
                  (try clear hk)
                  (try clear hi)
                  refine hK.out _ _ ⟨(blk_cell BK269.out 0).trans rfl, (blk_cell BK269.out 1).trans rfl, HS2_, HS3_⟩ (fun hHeld => ?_)
                  clear hK K
                  refine norm_ (a' := ?_) ?_ ?_
                  rotate_left
                  ·show Act.put _ (some 57) _ = _
                   simp only [Act.put, List.setIfInBounds_toArray, List.set_cons_zero, List.set_cons_succ, i64_w, i32_w]
                   rfl
                  refine last_ (i := 7) (N := none) #[true, true, true, true, true, true, true, true] rfl rfl (one_of HT_.out (by kernel_rfl)) (by decide) (fun K hK => ?_)
                  have hs43 : w42.cell? ⟨gb269, 0, none⟩ = some (.int .u64 t272) := (blk_cell BK269.out 0).trans rfl
                  have hfs43 := blk_frozen BK269.out 0
                  have hns43_0 := NB256_269.out
                  have hms43_0 := NB269_256.out
                  have hs44 : w42.cell? ⟨gb269, 1, none⟩ = some (.int .u64 t273) := (blk_cell BK269.out 1).trans rfl
                  have hfs44 := blk_frozen BK269.out 1
                  have hns44_0 := NB256_269.out
                  have hms44_0 := NB269_256.out
                  refine skip_ (w1 := ?_) (by rfl) rfl ?_ ?_
                  rotate_left
                  ·go_simp
                   rfl
                  refine hK.out _ _ ?_
                  clear hK K
                  refine done_ (done_of HT_.out (by kernel_rfl)) ?_
                  have hnb45 := NB269_256.out
                  have hnc45 := NB256_269.out
                  obtain ⟨hcz46_0, hcz46_1⟩ := zc2 BK269
                  obtain ⟨hfz46_0, hfz46_1⟩ := zf2 BK269
                  try go_wp2_with (first | ((with_reducible refine gate_builtin (b := .append) (xs := #[.tmp 58, .tmp 60]) rfl ?_); at_builtin; refine Kd.R_append k37 (w0 := w) w.heap.size rfl (.tmp 58) (.tmp 60) 39 37 (.agg #[(.int .u64 0), (.int .u64 0)]) 16 rfl Try.underlying39 info37 rfl (by decide) (by omega) u8 x8_2 (⟨t275, t276⟩ : S37) [.int .u64 t275, .int .u64 t276] (fun k_ => some k_ ≠ (.slice (some ad271) x5_1.length co34 : Value).ownBlock ∧ some k_ ≠ (.slice (some ad267) t260.length co18 : Value).ownBlock ∧ k_ ≠ gb256 ∧ k_ ≠ gb269) (fun _ => False) rfl (by first | (go_simp; done) | (go_simp; rfl)) ?aP (fun _ hk => hk.elim) ?aF ?aO ?aB ?aS ?aL ?_; (case aP => exact k37_mkM _ _ _ (⟨t275, t276⟩ : S37)); (case aB => exact (bq HB.out)); (case aF => exact (fun k_ hk => ⟨Kd.fresh' (Kd.R_lt (by (with_reducible repeat refine kl ?_); exact (Kd.R_mono (Kd.R_far (p := ⟨gb269, 1, none⟩) (Kd.R_far (p := ⟨gb269, 0, none⟩) (Kd.R_mono HO_5.out (fun k_ hk => (⟨hk, hk.2.2.2⟩ : _ ∧ k_ ≠ gb269))) (fun _ hk => hk.2) (.int .u64 t275)) (fun _ hk => hk.2) (.int .u64 t276)) (fun _ h_ => h_.1)))) k_ hk, Kd.fresh' (Kd.R_lt (by (with_reducible repeat refine kl ?_); exact (Kd.R_mono (Kd.R_far (p := ⟨gb269, 1, none⟩) (Kd.R_far (p := ⟨gb269, 0, none⟩) (Kd.R_mono HO_6.out (fun k_ hk => (⟨hk, hk.2.2.2⟩ : _ ∧ k_ ≠ gb269))) (fun _ hk => hk.2) (.int .u64 t275)) (fun _ hk => hk.2) (.int .u64 t276)) (fun _ h_ => h_.1)))) k_ hk, Kd.freshB (g := gb256) (o := .cells #[.int .u64 a1_0, .int .u64 a1_1] 37 (0, 0)) (by (with_reducible repeat refine bl ?_); refine blk_far ?_ NB256_269.out _; (with_reducible repeat refine bl ?_); refine blk_far ?_ NB256_269.out _; (with_reducible repeat refine bl ?_); exact BK256.out) k_ hk, Kd.freshB (g := gb269) (o := .cells #[.int .u64 t275, .int .u64 t276] 37 (0, 0)) (by (with_reducible repeat refine bl ?_); refine blk_put (cs := #[.int .u64 t275, .int .u64 t273]) ?_ 1 _ rfl; (with_reducible repeat refine bl ?_); refine blk_put (cs := #[.int .u64 t272, .int .u64 t273]) ?_ 0 _ rfl; (with_reducible repeat refine bl ?_); exact BK269.out) k_ hk⟩)); (case aO => exact (by (with_reducible repeat refine kl ?_); exact Kd.R_mono (Kd.R_far (p := ⟨gb269, 1, none⟩) (Kd.R_far (p := ⟨gb269, 0, none⟩) (Kd.R_mono HO_8.out (fun k_ hk => (⟨hk, hk.2.2.2⟩ : _ ∧ k_ ≠ gb269))) (fun _ hk => hk.2) (.int .u64 t275)) (fun _ hk => hk.2) (.int .u64 t276)) (fun _ hk => ⟨hk.1.1, ⟨hk.1.2.1, ⟨hk.1.2.2.1, hk.1.2.2.2⟩⟩⟩))); (case aS => exact (below_size (bq HB.out))); (case aL => have := LMc33.out; omega); intro v278 w47 ho hb hg hat; rw [← Ny277.out] at ho; have HO279 := Aside0.mk ho; replace HO_5 := Aside0.mk (Kd.R_after (ok := (fun k_ => some k_ ≠ (.slice (some ad267) t260.length co18 : Value).ownBlock ∧ k_ ≠ gb256 ∧ k_ ≠ gb269)) (by (with_reducible repeat refine kl ?_); exact Kd.R_mono (Kd.R_far (p := ⟨gb269, 1, none⟩) (Kd.R_far (p := ⟨gb269, 0, none⟩) (Kd.R_mono HO_5.out (fun k_ hk => (⟨hk, hk.2.2.2⟩ : _ ∧ k_ ≠ gb269))) (fun _ hk => hk.2) (.int .u64 t275)) (fun _ hk => hk.2) (.int .u64 t276)) (fun _ hk => ⟨⟨hk.1.1, ⟨hk.1.2.2.1, hk.1.2.2.2⟩⟩, hk.1.2.1⟩)) hg hat); replace HO_6 := Aside0.mk (Kd.R_after (ok := (fun k_ => some k_ ≠ (.slice (some ad271) x5_1.length co34 : Value).ownBlock ∧ k_ ≠ gb256 ∧ k_ ≠ gb269)) (by (with_reducible repeat refine kl ?_); exact Kd.R_mono (Kd.R_far (p := ⟨gb269, 1, none⟩) (Kd.R_far (p := ⟨gb269, 0, none⟩) (Kd.R_mono HO_6.out (fun k_ hk => (⟨hk, hk.2.2.2⟩ : _ ∧ k_ ≠ gb269))) (fun _ hk => hk.2) (.int .u64 t275)) (fun _ hk => hk.2) (.int .u64 t276)) (fun _ hk => ⟨⟨hk.1.1, ⟨hk.1.2.2.1, hk.1.2.2.2⟩⟩, hk.1.2.1⟩)) hg hat); replace BK256 := Aside0.mk (blk_grown (g := gb256) (o := .cells #[.int .u64 a1_0, .int .u64 a1_1] 37 (0, 0)) (by (with_reducible repeat refine bl ?_); refine blk_far ?_ NB256_269.out _; (with_reducible repeat refine bl ?_); refine blk_far ?_ NB256_269.out _; (with_reducible repeat refine bl ?_); exact BK256.out) hg (Kd.R_away HO_8.out (fun _ hk => hk.2.2.1))); replace BK269 := Aside0.mk (blk_grown (g := gb269) (o := .cells #[.int .u64 t275, .int .u64 t276] 37 (0, 0)) (by (with_reducible repeat refine bl ?_); refine blk_put (cs := #[.int .u64 t275, .int .u64 t273]) ?_ 1 _ rfl; (with_reducible repeat refine bl ?_); refine blk_put (cs := #[.int .u64 t272, .int .u64 t273]) ?_ 0 _ rfl; (with_reducible repeat refine bl ?_); exact BK269.out) hg (Kd.R_away HO_8.out (fun _ hk => hk.2.2.2))); replace HB := Aside0.mk hb; clear HO_8; clear ho hb hg hat))
                  go_roundg k2
                  case measure => have := HK1.out; have := HK2.out; omega
                  case rel => exact ⟨(y277), (wrap64 (x9_2 + 1)), (by first | rfl | (simp; done) | (simp [*]; done)), H', ⟨by have := HK1.out; have := HK2.out; omega⟩, ⟨by (with_reducible repeat refine kl ?_); exact Kd.R_mono HO_5.out (fun _ hk => ⟨hk.1.1, ⟨hk.2, hk.1.2.1⟩⟩)⟩, ⟨by (with_reducible repeat refine kl ?_); exact Kd.R_mono HO_6.out (fun _ hk => ⟨hk.1.1, ⟨hk.2, hk.1.2.1⟩⟩)⟩, ⟨by (with_reducible repeat refine kl ?_); exact Kd.R_mono HO279.out (fun _ hk => ⟨hk.1, ⟨hk.2.1, hk.2.2.1⟩⟩)⟩, ⟨bk BK256.out⟩, ⟨bq HB.out⟩⟩
                 ·rw [if_neg c33] at H
                  exact absurd H (by simp)
                ·rw [if_neg c31] at H
                 exact absurd H (by simp)
               ·rw [if_neg c30] at H
                exact absurd H (by simp)
              ·rw [if_neg c28] at H
               have c28b0 : decide (0 < x9_2) = false := decide_eq_false c28
               clear c28
               by_cases c48 : x8_2.length < 8796093022208
               ·rw [if_pos c48] at H
                have LMc48 := Aside0.mk c48
                clear c48
                obtain ⟨y280, hy280⟩ : ∃ y_ : List (S37), y_ = (x8_2 ++ [(⟨t272, t273⟩ : S37)]) := ⟨_, rfl⟩
                replace H : (steepleref33_Least.l1 k2 x5_1 t260 x7_1 y280 (wrap64 (x9_2 + 1))) = some r := by first | (rw [hy280]; with_reducible exact H) | (have H2_ := (Option.bind_some _ _).symm.trans H; rw [hy280]; with_reducible exact H2_) | (have H2_ := (Option.bind_some _ _).symm.trans H; with_reducible exact H2_) | with_reducible exact H | (rw [hy280]; exact H) | exact H
                have Ny280 := Aside0.mk hy280
                clear hy280
                have H' := Aside0.mk H
                clear H
                obtain ⟨Ao49, co49, eo49⟩ := Kd.R_slice HO_5.out
                subst eo49
                try go_wp2_with (first | ((with_reducible refine gate_dst (N := 10) rfl ?_); refine box_event ?hg (N := 10) ?hd (cs := #[.int .u64 0, .int .u64 0]) (t := 37) ?hr ?_; (case hd => rfl); (case hg => rfl); (case hr => first | (go_simp; done) | (go_simp; rfl)); intro gb269 hg w50 hbox hb; have BK269 := Aside0.mk hbox; have GW269 := ge hg HB; have GE269 := ge hg HB; have NB256_269 := nl hg BK256; have NB269_256 := ng hg BK256; replace HO_5 := Aside0.mk (Kd.R_below (Kd.R_elderB (kr HO_5.out) gb269 (Nat.le_of_eq hg.symm)) hb); replace HO_6 := Aside0.mk (Kd.R_below (Kd.R_elderB (kr HO_6.out) gb269 (Nat.le_of_eq hg.symm)) hb); replace HO_8 := Aside0.mk (Kd.R_below (Kd.R_elderB (kr HO_8.out) gb269 (Nat.le_of_eq hg.symm)) hb); replace BK256 := bb BK256 hb; replace HB := bh HB hb; clear hb hbox hg))
                replace HO_5 := Aside0.mk (Kd.R_drew HO_5.out)
                replace HO_6 := Aside0.mk (Kd.R_drew HO_6.out)
                replace HO_8 := Aside0.mk (Kd.R_drew HO_8.out)
                replace BK256 := Aside0.mk (blk_drew BK256.out)
                replace BK269 := Aside0.mk (blk_drew BK269.out)
                replace HB := Aside0.mk (below_drew1 HB.out)
                have p270 : 0 ≤ (x7_1 : Int) := of_decide_eq_true (by first | (with_reducible assumption) | assumption)
                have q270 : x7_1 < (t260.length : Int) := of_decide_eq_true (by first | (with_reducible assumption) | assumption)
                (try (obtain ⟨Ap_, cp_, ep_⟩ := Kd.R_slice HO_6.out; subst ep_))
                obtain ⟨ad270, e270, hx270_0, hx270_1⟩ := at_T37 (Kd.R_reads' HO_6.out).2.2 x7_1 p270 q270
                obtain rfl : ad267 = ad270 := (by injection e270)
                replace p270 := eq_true p270
                replace q270 := eq_true q270
                have p271 : 0 ≤ (x9_2 : Int) := of_decide_eq_true (by first | (with_reducible assumption) | assumption)
                have q271 : x9_2 < (x5_1.length : Int) := of_decide_eq_true (by first | (with_reducible assumption) | assumption)
                (try (obtain ⟨Ap_, cp_, ep_⟩ := Kd.R_slice HO_5.out; subst ep_))
                obtain ⟨ad271, e271, hx271_0, hx271_1⟩ := at_T37 (Kd.R_reads' HO_5.out).2.2 x9_2 p271 q271
                cases e271
                replace p271 := eq_true p271
                replace q271 := eq_true q271
                refine start_ (n := 10) (S := fun w' => w'.cell? (ad267.add ((x7_1).toNat * 2)) = some (.int .u64 ((rd_T37 t260 x7_1).f0)) ∧ w'.cell? ⟨(ad267.add ((x7_1).toNat * 2)).block, (ad267.add ((x7_1).toNat * 2)).off + 1, none⟩ = some (.int .u64 ((rd_T37 t260 x7_1).f1)) ∧ w'.cell? (ad271.add ((x9_2).toNat * 2)) = some (.int .u64 ((rd_T37 x5_1 x9_2).f0)) ∧ w'.cell? ⟨(ad271.add ((x9_2).toNat * 2)).block, (ad271.add ((x9_2).toNat * 2)).off + 1, none⟩ = some (.int .u64 ((rd_T37 x5_1 x9_2).f1))) (ds := []) #[false, false, false, false, false, false, false, false, false, false] (by kernel_rfl) rfl rfl ⟨hx270_0, hx270_1, hx271_0, hx271_1⟩ (fun hHeld => ?_); refine with_tabW steepleref33_Least.tab13 steepleref33_Least.bits13 (fun HT_ HW_ => ?_)
                generalize w50.drew = w51 at HO_5 HO_6 HO_8 BK256 BK269 HB hx270_0 hx270_1 hx271_0 hx271_1 hHeld ⊢
                refine pure_ (i := 0) (N := some 40) (v := ?_) (a' := ?_) #[true, false, false, false, false, false, false, false, false, false] rfl rfl (any_of HT_.out (by kernel_rfl)) (fun _ _ _ h => h) (Or.inl ⟨by rfl, ?_⟩) ?_ ?_
                rotate_left
                ·intro w'
                 go_simp
                 with_reducible rfl
                rotate_left
                ·simp only [Act.put, List.setIfInBounds_toArray, List.set_cons_zero, List.set_cons_succ, i64_w, i32_w]
                 rfl
                refine pure_ (i := 1) (N := some 41) (v := ?_) (a' := ?_) #[true, true, false, false, false, false, false, false, false, false] rfl rfl (any_of HT_.out (by kernel_rfl)) (fun _ _ _ h => h) (Or.inl ⟨by rfl, ?_⟩) ?_ ?_
                rotate_left
                ·intro w'
                 go_simp
                 with_reducible rfl
                rotate_left
                ·simp only [Act.put, List.setIfInBounds_toArray, List.set_cons_zero, List.set_cons_succ, i64_w, i32_w]
                 rfl
                refine pure_ (i := 2) (N := some 42) (v := ?_) (a' := ?_) #[true, true, true, false, false, false, false, false, false, false] rfl rfl (any_of HT_.out (by kernel_rfl)) (fun _ _ _ h => h) (Or.inl ⟨by rfl, ?_⟩) ?_ ?_
                rotate_left
                ·intro w'
                 go_simp
                 with_reducible rfl
                rotate_left
                ·simp only [Act.put, List.setIfInBounds_toArray, List.set_cons_zero, List.set_cons_succ, i64_w, i32_w]
                 rfl
                refine pure_ (i := 4) (N := some 44) (v := ?_) (a' := ?_) #[true, true, true, false, true, false, false, false, false, false] rfl rfl (any_of HT_.out (by kernel_rfl)) (fun _ _ _ h => h) (Or.inl ⟨by rfl, ?_⟩) ?_ ?_
                rotate_left
                ·intro w'
                 go_simp
                 with_reducible rfl
                rotate_left
                ·simp only [Act.put, List.setIfInBounds_toArray, List.set_cons_zero, List.set_cons_succ, i64_w, i32_w]
                 rfl
                refine pure_ (i := 5) (N := some 45) (v := ?_) (a' := ?_) #[true, true, true, false, true, true, false, false, false, false] rfl rfl (any_of HT_.out (by kernel_rfl)) (fun _ _ _ h => h) (Or.inl ⟨by rfl, ?_⟩) ?_ ?_
                rotate_left
                ·intro w'
                 go_simp
                 with_reducible rfl
                rotate_left
                ·simp only [Act.put, List.setIfInBounds_toArray, List.set_cons_zero, List.set_cons_succ, i64_w, i32_w]
                 rfl
                refine pure_ (i := 6) (N := some 46) (v := ?_) (a' := ?_) #[true, true, true, false, true, true, true, false, false, false] rfl rfl (any_of HT_.out (by kernel_rfl)) (fun _ _ _ h => h) (Or.inl ⟨by rfl, ?_⟩) ?_ ?_
                rotate_left
                ·intro w'
                 go_simp
                 with_reducible rfl
                rotate_left
                ·simp only [Act.put, List.setIfInBounds_toArray, List.set_cons_zero, List.set_cons_succ, i64_w, i32_w]
                 rfl
                refine take_ (i := 3) (N := some 43) (v := ?_) (a' := ?_) #[true, true, true, true, true, true, true, false, false, false] rfl rfl (take_ofW HT_.out HW_.out (by kernel_rfl)) (fun _ _ _ h => h) (Or.inl ⟨by rfl, ?_⟩) hHeld ?_ ?_
                rotate_left
                ·rintro w' ⟨s0, s1, s2, s3⟩
                 go_simp
                 with_reducible rfl
                rotate_left
                ·simp only [Act.put, List.setIfInBounds_toArray, List.set_cons_zero, List.set_cons_succ, i64_w, i32_w]
                 rfl
                refine take_ (i := 7) (N := some 47) (v := ?_) (a' := ?_) #[true, true, true, true, true, true, true, true, false, false] rfl rfl (take_ofW HT_.out HW_.out (by kernel_rfl)) (fun _ _ _ h => h) (Or.inl ⟨by rfl, ?_⟩) hHeld ?_ ?_
                rotate_left
                ·rintro w' ⟨s0, s1, s2, s3⟩
                 go_simp
                 with_reducible rfl
                rotate_left
                ·simp only [Act.put, List.setIfInBounds_toArray, List.set_cons_zero, List.set_cons_succ, i64_w, i32_w]
                 rfl
                refine one_ (i := 8) (N := some 48) #[true, true, true, true, true, true, true, true, true, false] rfl rfl (one_of HT_.out (by kernel_rfl)) (by decide) (fun K hK => ?_)
                refine goes_ Try.func22 (by kernel_rfl) rfl #[.agg #[.int .u64 ((rd_T37 t260 x7_1).f0), .int .u64 ((rd_T37 t260 x7_1).f1)], .agg #[.int .u64 ((rd_T37 x5_1 x9_2).f0), .int .u64 ((rd_T37 x5_1 x9_2).f1)]] (by rfl) rfl rfl (by (try simp only [List.map_toArray, List.map_cons, List.map_nil]); first | done | rfl | (simp only [List.length_drop, List.length_take]; rfl)) ?_
                with_reducible refine (steepleref02_Product.calls k2 ((rd_T37 t260 x7_1).f0) ((rd_T37 t260 x7_1).f1) ((rd_T37 x5_1 x9_2).f0) ((rd_T37 x5_1 x9_2).f1) t272 t273 _ A27.out).mono ?_
                rintro e w52 ⟨rfl, hb⟩
                have HS0_ := (hb.cell (World.block_lt_of_cell? _ _ (hHeld.1))).trans (hHeld.1)
                have HS1_ := (hb.cell (World.block_lt_of_cell? _ _ (hHeld.2.1))).trans (hHeld.2.1)
                have HS2_ := (hb.cell (World.block_lt_of_cell? _ _ (hHeld.2.2.1))).trans (hHeld.2.2.1)
                have HS3_ := (hb.cell (World.block_lt_of_cell? _ _ (hHeld.2.2.2))).trans (hHeld.2.2.2)
                refine ⟨_, rfl, ?_⟩
                replace HO_5 := kb HO_5 hb
                replace HO_6 := kb HO_6 hb
                replace HO_8 := kb HO_8 hb
                replace BK256 := bb BK256 hb
                replace BK269 := bb BK269 hb
                replace HB := bh HB hb
                (try clear hb)
                (try clear hb2)
                (try clear hk)
                (try clear hi)
                refine hK.out _ _ ⟨HS0_, HS1_, HS2_, HS3_⟩ (fun hHeld => ?_)
                clear hK K
                refine norm_ (a' := ?_) ?_ ?_
                rotate_left
                ·show Act.put _ (some 48) _ = _
                 simp only [Act.put, List.setIfInBounds_toArray, List.set_cons_zero, List.set_cons_succ, i64_w, i32_w]
                 rfl
                refine one_ (i := 9) (N := none) #[true, true, true, true, true, true, true, true, true, true] rfl rfl (one_of HT_.out (by kernel_rfl)) (by decide) (fun K hK => ?_)
                have hs53 : w52.cell? ⟨gb269, 0, none⟩ = some (.int .u64 0) := (blk_cell BK269.out 0).trans rfl
                have hfs53 := blk_frozen BK269.out 0
                have hns53_0 := NB256_269.out
                have hms53_0 := NB269_256.out
                have hs54 : w52.cell? ⟨gb269, 1, none⟩ = some (.int .u64 0) := (blk_cell BK269.out 1).trans rfl
                have hfs54 := blk_frozen BK269.out 1
                have hns54_0 := NB256_269.out
                have hms54_0 := NB269_256.out
                refine skip_ (w1 := ?_) (by rfl) rfl ?_ ?_
                rotate_left
                ·go_simp
                 rfl
                refine hK.out _ _ ⟨((cell_far (p := ⟨gb269, _, none⟩) (by first | exact Kd.own_blk (Kd.R_away HO_6.out (fun _ hk => hk.2)) | (rw [add_block]; exact Kd.own_blk (Kd.R_away HO_6.out (fun _ hk => hk.2))) | (show (Addr.add _ _).block ≠ _; rw [add_block]; exact Kd.own_blk (Kd.R_away HO_6.out (fun _ hk => hk.2))) | (dsimp only; exact Kd.own_blk (Kd.R_away HO_6.out (fun _ hk => hk.2)))) _).trans (((cell_far (p := ⟨gb269, _, none⟩) (by first | exact Kd.own_blk (Kd.R_away HO_6.out (fun _ hk => hk.2)) | (rw [add_block]; exact Kd.own_blk (Kd.R_away HO_6.out (fun _ hk => hk.2))) | (show (Addr.add _ _).block ≠ _; rw [add_block]; exact Kd.own_blk (Kd.R_away HO_6.out (fun _ hk => hk.2))) | (dsimp only; exact Kd.own_blk (Kd.R_away HO_6.out (fun _ hk => hk.2)))) _).trans (hHeld.1)))), ((cell_far (p := ⟨gb269, _, none⟩) (by first | exact Kd.own_blk (Kd.R_away HO_6.out (fun _ hk => hk.2)) | (rw [add_block]; exact Kd.own_blk (Kd.R_away HO_6.out (fun _ hk => hk.2))) | (show (Addr.add _ _).block ≠ _; rw [add_block]; exact Kd.own_blk (Kd.R_away HO_6.out (fun _ hk => hk.2))) | (dsimp only; exact Kd.own_blk (Kd.R_away HO_6.out (fun _ hk => hk.2)))) _).trans (((cell_far (p := ⟨gb269, _, none⟩) (by first | exact Kd.own_blk (Kd.R_away HO_6.out (fun _ hk => hk.2)) | (rw [add_block]; exact Kd.own_blk (Kd.R_away HO_6.out (fun _ hk => hk.2))) | (show (Addr.add _ _).block ≠ _; rw [add_block]; exact Kd.own_blk (Kd.R_away HO_6.out (fun _ hk => hk.2))) | (dsimp only; exact Kd.own_blk (Kd.R_away HO_6.out (fun _ hk => hk.2)))) _).trans (hHeld.2.1)))), ((cell_far (p := ⟨gb269, _, none⟩) (by first | exact Kd.own_blk (Kd.R_away HO_5.out (fun _ hk => hk.2)) | (rw [add_block]; exact Kd.own_blk (Kd.R_away HO_5.out (fun _ hk => hk.2))) | (show (Addr.add _ _).block ≠ _; rw [add_block]; exact Kd.own_blk (Kd.R_away HO_5.out (fun _ hk => hk.2))) | (dsimp only; exact Kd.own_blk (Kd.R_away HO_5.out (fun _ hk => hk.2)))) _).trans (((cell_far (p := ⟨gb269, _, none⟩) (by first | exact Kd.own_blk (Kd.R_away HO_5.out (fun _ hk => hk.2)) | (rw [add_block]; exact Kd.own_blk (Kd.R_away HO_5.out (fun _ hk => hk.2))) | (show (Addr.add _ _).block ≠ _; rw [add_block]; exact Kd.own_blk (Kd.R_away HO_5.out (fun _ hk => hk.2))) | (dsimp only; exact Kd.own_blk (Kd.R_away HO_5.out (fun _ hk => hk.2)))) _).trans (hHeld.2.2.1)))), ((cell_far (p := ⟨gb269, _, none⟩) (by first | exact Kd.own_blk (Kd.R_away HO_5.out (fun _ hk => hk.2)) | (rw [add_block]; exact Kd.own_blk (Kd.R_away HO_5.out (fun _ hk => hk.2))) | (show (Addr.add _ _).block ≠ _; rw [add_block]; exact Kd.own_blk (Kd.R_away HO_5.out (fun _ hk => hk.2))) | (dsimp only; exact Kd.own_blk (Kd.R_away HO_5.out (fun _ hk => hk.2)))) _).trans (((cell_far (p := ⟨gb269, _, none⟩) (by first | exact Kd.own_blk (Kd.R_away HO_5.out (fun _ hk => hk.2)) | (rw [add_block]; exact Kd.own_blk (Kd.R_away HO_5.out (fun _ hk => hk.2))) | (show (Addr.add _ _).block ≠ _; rw [add_block]; exact Kd.own_blk (Kd.R_away HO_5.out (fun _ hk => hk.2))) | (dsimp only; exact Kd.own_blk (Kd.R_away HO_5.out (fun _ hk => hk.2)))) _).trans (hHeld.2.2.2))))⟩ (fun hHeld => ?_)
                clear hK K
                refine done_ (done_of HT_.out (by kernel_rfl)) ?_
                have hnb55 := NB269_256.out
                have hnc55 := NB256_269.out
                obtain ⟨hcz56_0, hcz56_1⟩ := zc2 BK269
                obtain ⟨hfz56_0, hfz56_1⟩ := zf2 BK269
                try go_wp2_with (first | ((with_reducible refine gate_builtin (b := .append) (xs := #[.tmp 58, .tmp 60]) rfl ?_); at_builtin; refine Kd.R_append k37 (w0 := w) w.heap.size rfl (.tmp 58) (.tmp 60) 39 37 (.agg #[(.int .u64 0), (.int .u64 0)]) 16 rfl Try.underlying39 info37 rfl (by decide) (by omega) u8 x8_2 (⟨t272, t273⟩ : S37) [.int .u64 t272, .int .u64 t273] (fun k_ => some k_ ≠ (.slice (some ad271) x5_1.length co49 : Value).ownBlock ∧ some k_ ≠ (.slice (some ad267) t260.length co18 : Value).ownBlock ∧ k_ ≠ gb256 ∧ k_ ≠ gb269) (fun _ => False) rfl (by first | (go_simp; done) | (go_simp; rfl)) ?aP (fun _ hk => hk.elim) ?aF ?aO ?aB ?aS ?aL ?_; (case aP => exact k37_mkM _ _ _ (⟨t272, t273⟩ : S37)); (case aB => exact (bq HB.out)); (case aF => exact (fun k_ hk => ⟨Kd.fresh' (Kd.R_lt (by (with_reducible repeat refine kl ?_); exact (Kd.R_mono (Kd.R_far (p := ⟨gb269, 1, none⟩) (Kd.R_far (p := ⟨gb269, 0, none⟩) (Kd.R_mono HO_5.out (fun k_ hk => (⟨hk, hk.2⟩ : _ ∧ k_ ≠ gb269))) (fun _ hk => hk.2) (.int .u64 t272)) (fun _ hk => hk.2) (.int .u64 t273)) (fun _ h_ => h_.1)))) k_ hk, Kd.fresh' (Kd.R_lt (by (with_reducible repeat refine kl ?_); exact (Kd.R_mono (Kd.R_far (p := ⟨gb269, 1, none⟩) (Kd.R_far (p := ⟨gb269, 0, none⟩) (Kd.R_mono HO_6.out (fun k_ hk => (⟨hk, hk.2⟩ : _ ∧ k_ ≠ gb269))) (fun _ hk => hk.2) (.int .u64 t272)) (fun _ hk => hk.2) (.int .u64 t273)) (fun _ h_ => h_.1)))) k_ hk, Kd.freshB (g := gb256) (o := .cells #[.int .u64 a1_0, .int .u64 a1_1] 37 (0, 0)) (by (with_reducible repeat refine bl ?_); refine blk_far ?_ NB256_269.out _; (with_reducible repeat refine bl ?_); refine blk_far ?_ NB256_269.out _; (with_reducible repeat refine bl ?_); exact BK256.out) k_ hk, Kd.freshB (g := gb269) (o := .cells #[.int .u64 t272, .int .u64 t273] 37 (0, 0)) (by (with_reducible repeat refine bl ?_); refine blk_put (cs := #[.int .u64 t272, .int .u64 0]) ?_ 1 _ rfl; (with_reducible repeat refine bl ?_); refine blk_put (cs := #[.int .u64 0, .int .u64 0]) ?_ 0 _ rfl; (with_reducible repeat refine bl ?_); exact BK269.out) k_ hk⟩)); (case aO => exact (by (with_reducible repeat refine kl ?_); exact Kd.R_mono (Kd.R_far (p := ⟨gb269, 1, none⟩) (Kd.R_far (p := ⟨gb269, 0, none⟩) (Kd.R_mono HO_8.out (fun k_ hk => (⟨hk, hk.2⟩ : _ ∧ k_ ≠ gb269))) (fun _ hk => hk.2) (.int .u64 t272)) (fun _ hk => hk.2) (.int .u64 t273)) (fun _ hk => ⟨hk.1.1.1, ⟨hk.1.1.2.1, ⟨hk.1.1.2.2, hk.1.2⟩⟩⟩))); (case aS => exact (below_size (bq HB.out))); (case aL => have := LMc48.out; omega); intro v281 w57 ho hb hg hat; rw [← Ny280.out] at ho; have HO282 := Aside0.mk ho; replace HO_5 := Aside0.mk (Kd.R_after (ok := (fun k_ => some k_ ≠ (.slice (some ad267) t260.length co18 : Value).ownBlock ∧ k_ ≠ gb256 ∧ k_ ≠ gb269)) (by (with_reducible repeat refine kl ?_); exact Kd.R_mono (Kd.R_far (p := ⟨gb269, 1, none⟩) (Kd.R_far (p := ⟨gb269, 0, none⟩) (Kd.R_mono HO_5.out (fun k_ hk => (⟨hk, hk.2⟩ : _ ∧ k_ ≠ gb269))) (fun _ hk => hk.2) (.int .u64 t272)) (fun _ hk => hk.2) (.int .u64 t273)) (fun _ hk => ⟨⟨hk.1.1.1, ⟨hk.1.1.2.2, hk.1.2⟩⟩, hk.1.1.2.1⟩)) hg hat); replace HO_6 := Aside0.mk (Kd.R_after (ok := (fun k_ => some k_ ≠ (.slice (some ad271) x5_1.length co49 : Value).ownBlock ∧ k_ ≠ gb256 ∧ k_ ≠ gb269)) (by (with_reducible repeat refine kl ?_); exact Kd.R_mono (Kd.R_far (p := ⟨gb269, 1, none⟩) (Kd.R_far (p := ⟨gb269, 0, none⟩) (Kd.R_mono HO_6.out (fun k_ hk => (⟨hk, hk.2⟩ : _ ∧ k_ ≠ gb269))) (fun _ hk => hk.2) (.int .u64 t272)) (fun _ hk => hk.2) (.int .u64 t273)) (fun _ hk => ⟨⟨hk.1.1.1, ⟨hk.1.1.2.2, hk.1.2⟩⟩, hk.1.1.2.1⟩)) hg hat); replace BK256 := Aside0.mk (blk_grown (g := gb256) (o := .cells #[.int .u64 a1_0, .int .u64 a1_1] 37 (0, 0)) (by (with_reducible repeat refine bl ?_); refine blk_far ?_ NB256_269.out _; (with_reducible repeat refine bl ?_); refine blk_far ?_ NB256_269.out _; (with_reducible repeat refine bl ?_); exact BK256.out) hg (Kd.R_away HO_8.out (fun _ hk => hk.1.2.2))); replace BK269 := Aside0.mk (blk_grown (g := gb269) (o := .cells #[.int .u64 t272, .int .u64 t273] 37 (0, 0)) (by (with_reducible repeat refine bl ?_); refine blk_put (cs := #[.int .u64 t272, .int .u64 0]) ?_ 1 _ rfl; (with_reducible repeat refine bl ?_); refine blk_put (cs := #[.int .u64 0, .int .u64 0]) ?_ 0 _ rfl; (with_reducible repeat refine bl ?_); exact BK269.out) hg (Kd.R_away HO_8.out (fun _ hk => hk.2))); replace HB := Aside0.mk hb; clear HO_8; clear ho hb hg hat))
                go_roundg k2
                case measure => have := HK1.out; have := HK2.out; omega
                case rel => exact ⟨(y280), (wrap64 (x9_2 + 1)), (by first | rfl | (simp; done) | (simp [*]; done)), H', ⟨by have := HK1.out; have := HK2.out; omega⟩, ⟨by (with_reducible repeat refine kl ?_); exact Kd.R_mono HO_5.out (fun _ hk => ⟨hk.1.1, ⟨hk.2, hk.1.2.1⟩⟩)⟩, ⟨by (with_reducible repeat refine kl ?_); exact Kd.R_mono HO_6.out (fun _ hk => ⟨hk.1.1, ⟨hk.2, hk.1.2.1⟩⟩)⟩, ⟨by (with_reducible repeat refine kl ?_); exact Kd.R_mono HO282.out (fun _ hk => ⟨hk.1, ⟨hk.2.1, hk.2.2.1⟩⟩)⟩, ⟨bk BK256.out⟩, ⟨bq HB.out⟩⟩
               ·rw [if_neg c48] at H
                exact absurd H (by simp)
             ·rw [if_neg c26] at H
              exact absurd H (by simp)
            ·rw [if_neg c25] at H
             exact absurd H (by simp)
           ·rw [if_neg c24] at H
            exact absurd H (by simp)
          ·rw [if_neg c23] at H
           have c23b0 : decide (x9_2 < (x5_1.length : Int)) = false := decide_eq_false c23
           clear c23
           by_cases c58 : x9_2 > 0
           ·rw [if_pos c58] at H
            have c58b0 : decide (0 < x9_2) = true := decide_eq_true c58
            clear c58
            obtain ⟨ji59, hji59⟩ : ∃ j_ : Int, (wrap64 (x9_2 - 1)) = j_ := ⟨_, rfl⟩
            replace H : (if 0 ≤ (ji59) then (if (ji59) < (x5_1.length : Int) then ((steepleref02_Add.f 0 0 ((rd_T37 x5_1 (ji59)).f0) ((rd_T37 x5_1 (ji59)).f1)).bind fun bt284 => (if x8_2.length < 8796093022208 then (steepleref33_Least.l1 k2 x5_1 t260 x7_1 (x8_2 ++ [(⟨bt284.1, bt284.2⟩ : S37)]) (wrap64 (x9_2 + 1))) else (none))) else (none)) else (none)) = some r := by first | (rw [hji59] at H; exact H) | (simp only [hji59] at H ⊢; exact H)
            have hji59w : (IntKind.i64.wrap (x9_2 - 1)) = ji59 := (i64_w _).trans hji59
            by_cases c60 : 0 ≤ (ji59)
            ·rw [if_pos c60] at H
             have c60b0 : decide (0 ≤ (ji59)) = true := decide_eq_true c60
             clear c60
             by_cases c61 : (ji59) < (x5_1.length : Int)
             ·rw [if_pos c61] at H
              have c61b0 : decide ((ji59) < (x5_1.length : Int)) = true := decide_eq_true c61
              clear c61
              replace H := Option.bind_eq_some_iff.mp H
              obtain ⟨⟨t284, t285⟩, A620, H⟩ := H
              replace H : (if x8_2.length < 8796093022208 then (steepleref33_Least.l1 k2 x5_1 t260 x7_1 (x8_2 ++ [(⟨t284, t285⟩ : S37)]) (wrap64 (x9_2 + 1))) else (none)) = some r := H
              have A62 := Aside0.mk A620
              clear A620
              by_cases c63 : x8_2.length < 8796093022208
              ·rw [if_pos c63] at H
               have LMc63 := Aside0.mk c63
               clear c63
               obtain ⟨y286, hy286⟩ : ∃ y_ : List (S37), y_ = (x8_2 ++ [(⟨t284, t285⟩ : S37)]) := ⟨_, rfl⟩
               replace H : (steepleref33_Least.l1 k2 x5_1 t260 x7_1 y286 (wrap64 (x9_2 + 1))) = some r := by first | (rw [hy286]; with_reducible exact H) | (have H2_ := (Option.bind_some _ _).symm.trans H; rw [hy286]; with_reducible exact H2_) | (have H2_ := (Option.bind_some _ _).symm.trans H; with_reducible exact H2_) | with_reducible exact H | (rw [hy286]; exact H) | exact H
               have Ny286 := Aside0.mk hy286
               clear hy286
               have H' := Aside0.mk H
               clear H
               obtain ⟨Ao64, co64, eo64⟩ := Kd.R_slice HO_5.out
               subst eo64
               try go_wp2_with (first | ((with_reducible refine gate_dst (N := 10) rfl ?_); refine box_event ?hg (N := 10) ?hd (cs := #[.int .u64 0, .int .u64 0]) (t := 37) ?hr ?_; (case hd => rfl); (case hg => rfl); (case hr => first | (go_simp; done) | (go_simp; rfl)); intro gb269 hg w65 hbox hb; have BK269 := Aside0.mk hbox; have GW269 := ge hg HB; have GE269 := ge hg HB; have NB256_269 := nl hg BK256; have NB269_256 := ng hg BK256; replace HO_5 := Aside0.mk (Kd.R_below (Kd.R_elderB (kr HO_5.out) gb269 (Nat.le_of_eq hg.symm)) hb); replace HO_6 := Aside0.mk (Kd.R_below (Kd.R_elderB (kr HO_6.out) gb269 (Nat.le_of_eq hg.symm)) hb); replace HO_8 := Aside0.mk (Kd.R_below (Kd.R_elderB (kr HO_8.out) gb269 (Nat.le_of_eq hg.symm)) hb); replace BK256 := bb BK256 hb; replace HB := bh HB hb; clear hb hbox hg))
               replace HO_5 := Aside0.mk (Kd.R_drew HO_5.out)
               replace HO_6 := Aside0.mk (Kd.R_drew HO_6.out)
               replace HO_8 := Aside0.mk (Kd.R_drew HO_8.out)
               replace BK256 := Aside0.mk (blk_drew BK256.out)
               replace BK269 := Aside0.mk (blk_drew BK269.out)
               replace HB := Aside0.mk (below_drew1 HB.out)
               have p283 : 0 ≤ ((ji59) : Int) := of_decide_eq_true (by first | (with_reducible assumption) | assumption)
               have q283 : (ji59) < (x5_1.length : Int) := of_decide_eq_true (by first | (with_reducible assumption) | assumption)
               (try (obtain ⟨Ap_, cp_, ep_⟩ := Kd.R_slice HO_5.out; subst ep_))
               obtain ⟨ad283, e283, hx283_0, hx283_1⟩ := at_T37 (Kd.R_reads' HO_5.out).2.2 (ji59) p283 q283
               cases e283
               replace p283 := eq_true p283
               replace q283 := eq_true q283
               refine start_ (n := 8) (S := fun w' => w'.cell? ⟨gb269, 0, none⟩ = some (.int .u64 0) ∧ w'.cell? ⟨gb269, 1, none⟩ = some (.int .u64 0) ∧ w'.cell? (ad283.add (((ji59)).toNat * 2)) = some (.int .u64 ((rd_T37 x5_1 (ji59)).f0)) ∧ w'.cell? ⟨(ad283.add (((ji59)).toNat * 2)).block, (ad283.add (((ji59)).toNat * 2)).off + 1, none⟩ = some (.int .u64 ((rd_T37 x5_1 (ji59)).f1))) (ds := [7]) #[false, false, false, false, false, false, false, false] (by kernel_rfl) rfl rfl ⟨(blk_cell BK269.out 0).trans rfl, (blk_cell BK269.out 1).trans rfl, hx283_0, hx283_1⟩ (fun hHeld => ?_); refine with_tabW steepleref33_Least.tab15 steepleref33_Least.bits15 (fun HT_ HW_ => ?_)
               generalize w65.drew = w66 at HO_5 HO_6 HO_8 BK256 BK269 HB hx283_0 hx283_1 hHeld ⊢
               refine pure_ (i := 1) (N := some 52) (v := ?_) (a' := ?_) #[false, true, false, false, false, false, false, false] rfl rfl (any_of HT_.out (by kernel_rfl)) (fun _ _ _ h => h) (Or.inl ⟨by rfl, ?_⟩) ?_ ?_
               rotate_left
               ·intro w'
                go_simp
                with_reducible rfl
               rotate_left
               ·simp only [Act.put, List.setIfInBounds_toArray, List.set_cons_zero, List.set_cons_succ, i64_w, i32_w]
                rfl
               refine pure_ (i := 2) (N := some 53) (v := ?_) (a' := ?_) #[false, true, true, false, false, false, false, false] rfl rfl (any_of HT_.out (by kernel_rfl)) (fun _ _ _ h => h) (Or.inl ⟨by rfl, ?_⟩) ?_ ?_
               rotate_left
               ·intro w'
                go_simp
                with_reducible rfl
               rotate_left
               ·simp only [Act.put, List.setIfInBounds_toArray, List.set_cons_zero, List.set_cons_succ, i64_w, i32_w]
                rfl
               refine pure_ (i := 3) (N := some 54) (v := ?_) (a' := ?_) #[false, true, true, true, false, false, false, false] rfl rfl (any_of HT_.out (by kernel_rfl)) (fun _ _ _ h => h) (Or.inl ⟨by rfl, ?_⟩) ?_ ?_
               rotate_left
               ·intro w'
                go_simp
                with_reducible rfl
               rotate_left
               ·simp only [Act.put, List.setIfInBounds_toArray, List.set_cons_zero, List.set_cons_succ, i64_w, i32_w]
                rfl
               refine pure_ (i := 4) (N := some 55) (v := ?_) (a' := ?_) #[false, true, true, true, true, false, false, false] rfl rfl (any_of HT_.out (by kernel_rfl)) (fun _ _ _ h => h) (Or.inl ⟨by rfl, ?_⟩) ?_ ?_
               rotate_left
               ·intro w'
                go_simp
                with_reducible rfl
               rotate_left
               ·simp only [Act.put, List.setIfInBounds_toArray, List.set_cons_zero, List.set_cons_succ, i64_w, i32_w]
                rfl
               refine take_ (i := 0) (N := some 51) (v := ?_) (a' := ?_) #[true, true, true, true, true, false, false, false] rfl rfl (take_ofW HT_.out HW_.out (by kernel_rfl)) (fun _ _ _ h => h) (Or.inl ⟨by rfl, ?_⟩) hHeld ?_ ?_
               rotate_left
               ·rintro w' ⟨s0, s1, s2, s3⟩
                go_simp
                with_reducible rfl
               rotate_left
               ·simp only [Act.put, List.setIfInBounds_toArray, List.set_cons_zero, List.set_cons_succ, i64_w, i32_w]
                rfl
               refine take_ (i := 5) (N := some 56) (v := ?_) (a' := ?_) #[true, true, true, true, true, true, false, false] rfl rfl (take_ofW HT_.out HW_.out (by kernel_rfl)) (fun _ _ _ h => h) (Or.inl ⟨by rfl, ?_⟩) hHeld ?_ ?_
               rotate_left
               ·rintro w' ⟨s0, s1, s2, s3⟩
                go_simp
                with_reducible rfl
               rotate_left
               ·simp only [Act.put, List.setIfInBounds_toArray, List.set_cons_zero, List.set_cons_succ, i64_w, i32_w]
                rfl
               refine one_ (i := 6) (N := some 57) #[true, true, true, true, true, true, true, false] rfl rfl (one_of HT_.out (by kernel_rfl)) (by decide) (fun K hK => ?_)
               refine goes_ Try.func21 (by kernel_rfl) rfl #[.agg #[.int .u64 0, .int .u64 0], .agg #[.int .u64 ((rd_T37 x5_1 (ji59)).f0), .int .u64 ((rd_T37 x5_1 (ji59)).f1)]] (by rfl) rfl rfl (by (try simp only [List.map_toArray, List.map_cons, List.map_nil]); first | done | (simp only [hji59]; rfl) | rfl | (simp only [List.length_drop, List.length_take]; rfl)) ?_
               with_reducible refine (steepleref02_Add.calls 0 0 ((rd_T37 x5_1 (ji59)).f0) ((rd_T37 x5_1 (ji59)).f1) t284 t285 _ A62.out).mono ?_
               rintro e w67 ⟨rfl, hb⟩
               have HS2_ := (hb.cell (World.block_lt_of_cell? _ _ (hHeld.2.2.1))).trans (hHeld.2.2.1)
               have HS3_ := (hb.cell (World.block_lt_of_cell? _ _ (hHeld.2.2.2))).trans (hHeld.2.2.2)
               refine ⟨_, rfl, ?_⟩
               replace HO_5 := kb HO_5 hb
               replace HO_6 := kb HO_6 hb
               replace HO_8 := kb HO_8 hb
               replace BK256 := bb BK256 hb
               replace BK269 := bb BK269 hb
               replace HB := bh HB hb
               (try clear hb)
               (try clear hb2)
               (try clear hk)
               (try clear hi)
               refine hK.out _ _ ⟨(blk_cell BK269.out 0).trans rfl, (blk_cell BK269.out 1).trans rfl, HS2_, HS3_⟩ (fun hHeld => ?_)
               clear hK K
               refine norm_ (a' := ?_) ?_ ?_
               rotate_left
               ·show Act.put _ (some 57) _ = _
                simp only [Act.put, List.setIfInBounds_toArray, List.set_cons_zero, List.set_cons_succ, i64_w, i32_w]
                rfl
               refine last_ (i := 7) (N := none) #[true, true, true, true, true, true, true, true] rfl rfl (one_of HT_.out (by kernel_rfl)) (by decide) (fun K hK => ?_)
               have hs68 : w67.cell? ⟨gb269, 0, none⟩ = some (.int .u64 0) := (blk_cell BK269.out 0).trans rfl
               have hfs68 := blk_frozen BK269.out 0
               have hns68_0 := NB256_269.out
               have hms68_0 := NB269_256.out
               have hs69 : w67.cell? ⟨gb269, 1, none⟩ = some (.int .u64 0) := (blk_cell BK269.out 1).trans rfl
               have hfs69 := blk_frozen BK269.out 1
               have hns69_0 := NB256_269.out
               have hms69_0 := NB269_256.out
               refine skip_ (w1 := ?_) (by rfl) rfl ?_ ?_
               rotate_left
               ·go_simp
                rfl
               refine hK.out _ _ ?_
               clear hK K
               refine done_ (done_of HT_.out (by kernel_rfl)) ?_
               have hnb70 := NB269_256.out
               have hnc70 := NB256_269.out
               obtain ⟨hcz71_0, hcz71_1⟩ := zc2 BK269
               obtain ⟨hfz71_0, hfz71_1⟩ := zf2 BK269
               try go_wp2_with (first | ((with_reducible refine gate_builtin (b := .append) (xs := #[.tmp 58, .tmp 60]) rfl ?_); at_builtin; refine Kd.R_append k37 (w0 := w) w.heap.size rfl (.tmp 58) (.tmp 60) 39 37 (.agg #[(.int .u64 0), (.int .u64 0)]) 16 rfl Try.underlying39 info37 rfl (by decide) (by omega) u8 x8_2 (⟨t284, t285⟩ : S37) [.int .u64 t284, .int .u64 t285] (fun k_ => some k_ ≠ (.slice (some ad283) x5_1.length co64 : Value).ownBlock ∧ some k_ ≠ (.slice (some ad267) t260.length co18 : Value).ownBlock ∧ k_ ≠ gb256 ∧ k_ ≠ gb269) (fun _ => False) rfl (by first | (go_simp; done) | (go_simp; rfl)) ?aP (fun _ hk => hk.elim) ?aF ?aO ?aB ?aS ?aL ?_; (case aP => exact k37_mkM _ _ _ (⟨t284, t285⟩ : S37)); (case aB => exact (bq HB.out)); (case aF => exact (fun k_ hk => ⟨Kd.fresh' (Kd.R_lt (by (with_reducible repeat refine kl ?_); exact (Kd.R_mono (Kd.R_far (p := ⟨gb269, 1, none⟩) (Kd.R_far (p := ⟨gb269, 0, none⟩) (Kd.R_mono HO_5.out (fun k_ hk => (⟨hk, hk.2⟩ : _ ∧ k_ ≠ gb269))) (fun _ hk => hk.2) (.int .u64 t284)) (fun _ hk => hk.2) (.int .u64 t285)) (fun _ h_ => h_.1)))) k_ hk, Kd.fresh' (Kd.R_lt (by (with_reducible repeat refine kl ?_); exact (Kd.R_mono (Kd.R_far (p := ⟨gb269, 1, none⟩) (Kd.R_far (p := ⟨gb269, 0, none⟩) (Kd.R_mono HO_6.out (fun k_ hk => (⟨hk, hk.2⟩ : _ ∧ k_ ≠ gb269))) (fun _ hk => hk.2) (.int .u64 t284)) (fun _ hk => hk.2) (.int .u64 t285)) (fun _ h_ => h_.1)))) k_ hk, Kd.freshB (g := gb256) (o := .cells #[.int .u64 a1_0, .int .u64 a1_1] 37 (0, 0)) (by (with_reducible repeat refine bl ?_); refine blk_far ?_ NB256_269.out _; (with_reducible repeat refine bl ?_); refine blk_far ?_ NB256_269.out _; (with_reducible repeat refine bl ?_); exact BK256.out) k_ hk, Kd.freshB (g := gb269) (o := .cells #[.int .u64 t284, .int .u64 t285] 37 (0, 0)) (by (with_reducible repeat refine bl ?_); refine blk_put (cs := #[.int .u64 t284, .int .u64 0]) ?_ 1 _ rfl; (with_reducible repeat refine bl ?_); refine blk_put (cs := #[.int .u64 0, .int .u64 0]) ?_ 0 _ rfl; (with_reducible repeat refine bl ?_); exact BK269.out) k_ hk⟩)); (case aO => exact (by (with_reducible repeat refine kl ?_); exact Kd.R_mono (Kd.R_far (p := ⟨gb269, 1, none⟩) (Kd.R_far (p := ⟨gb269, 0, none⟩) (Kd.R_mono HO_8.out (fun k_ hk => (⟨hk, hk.2⟩ : _ ∧ k_ ≠ gb269))) (fun _ hk => hk.2) (.int .u64 t284)) (fun _ hk => hk.2) (.int .u64 t285)) (fun _ hk => ⟨hk.1.1.1, ⟨hk.1.1.2.1, ⟨hk.1.1.2.2, hk.1.2⟩⟩⟩))); (case aS => exact (below_size (bq HB.out))); (case aL => have := LMc63.out; omega); intro v287 w72 ho hb hg hat; rw [← Ny286.out] at ho; have HO288 := Aside0.mk ho; replace HO_5 := Aside0.mk (Kd.R_after (ok := (fun k_ => some k_ ≠ (.slice (some ad267) t260.length co18 : Value).ownBlock ∧ k_ ≠ gb256 ∧ k_ ≠ gb269)) (by (with_reducible repeat refine kl ?_); exact Kd.R_mono (Kd.R_far (p := ⟨gb269, 1, none⟩) (Kd.R_far (p := ⟨gb269, 0, none⟩) (Kd.R_mono HO_5.out (fun k_ hk => (⟨hk, hk.2⟩ : _ ∧ k_ ≠ gb269))) (fun _ hk => hk.2) (.int .u64 t284)) (fun _ hk => hk.2) (.int .u64 t285)) (fun _ hk => ⟨⟨hk.1.1.1, ⟨hk.1.1.2.2, hk.1.2⟩⟩, hk.1.1.2.1⟩)) hg hat); replace HO_6 := Aside0.mk (Kd.R_after (ok := (fun k_ => some k_ ≠ (.slice (some ad283) x5_1.length co64 : Value).ownBlock ∧ k_ ≠ gb256 ∧ k_ ≠ gb269)) (by (with_reducible repeat refine kl ?_); exact Kd.R_mono (Kd.R_far (p := ⟨gb269, 1, none⟩) (Kd.R_far (p := ⟨gb269, 0, none⟩) (Kd.R_mono HO_6.out (fun k_ hk => (⟨hk, hk.2⟩ : _ ∧ k_ ≠ gb269))) (fun _ hk => hk.2) (.int .u64 t284)) (fun _ hk => hk.2) (.int .u64 t285)) (fun _ hk => ⟨⟨hk.1.1.1, ⟨hk.1.1.2.2, hk.1.2⟩⟩, hk.1.1.2.1⟩)) hg hat); replace BK256 := Aside0.mk (blk_grown (g := gb256) (o := .cells #[.int .u64 a1_0, .int .u64 a1_1] 37 (0, 0)) (by (with_reducible repeat refine bl ?_); refine blk_far ?_ NB256_269.out _; (with_reducible repeat refine bl ?_); refine blk_far ?_ NB256_269.out _; (with_reducible repeat refine bl ?_); exact BK256.out) hg (Kd.R_away HO_8.out (fun _ hk => hk.1.2.2))); replace BK269 := Aside0.mk (blk_grown (g := gb269) (o := .cells #[.int .u64 t284, .int .u64 t285] 37 (0, 0)) (by (with_reducible repeat refine bl ?_); refine blk_put (cs := #[.int .u64 t284, .int .u64 0]) ?_ 1 _ rfl; (with_reducible repeat refine bl ?_); refine blk_put (cs := #[.int .u64 0, .int .u64 0]) ?_ 0 _ rfl; (with_reducible repeat refine bl ?_); exact BK269.out) hg (Kd.R_away HO_8.out (fun _ hk => hk.2))); replace HB := Aside0.mk hb; clear HO_8; clear ho hb hg hat))
               go_roundg k2
               case measure => have := HK1.out; have := HK2.out; omega
               case rel => exact ⟨(y286), (wrap64 (x9_2 + 1)), (by first | rfl | (simp; done) | (simp [*]; done)), H', ⟨by have := HK1.out; have := HK2.out; omega⟩, ⟨by (with_reducible repeat refine kl ?_); exact Kd.R_mono HO_5.out (fun _ hk => ⟨hk.1.1, ⟨hk.2, hk.1.2.1⟩⟩)⟩, ⟨by (with_reducible repeat refine kl ?_); exact Kd.R_mono HO_6.out (fun _ hk => ⟨hk.1.1, ⟨hk.2, hk.1.2.1⟩⟩)⟩, ⟨by (with_reducible repeat refine kl ?_); exact Kd.R_mono HO288.out (fun _ hk => ⟨hk.1, ⟨hk.2.1, hk.2.2.1⟩⟩)⟩, ⟨bk BK256.out⟩, ⟨bq HB.out⟩⟩
              ·rw [if_neg c63] at H
               exact absurd H (by simp)
             ·rw [if_neg c61] at H
              exact absurd H (by simp)
            ·rw [if_neg c60] at H
             exact absurd H (by simp)
           ·rw [if_neg c58] at H
            have c58b0 : decide (0 < x9_2) = false := decide_eq_false c58
            clear c58
            by_cases c73 : x8_2.length < 8796093022208
            ·rw [if_pos c73] at H
             have LMc73 := Aside0.mk c73
             clear c73
             obtain ⟨y289, hy289⟩ : ∃ y_ : List (S37), y_ = (x8_2 ++ [(⟨0, 0⟩ : S37)]) := ⟨_, rfl⟩
             replace H : (steepleref33_Least.l1 k2 x5_1 t260 x7_1 y289 (wrap64 (x9_2 + 1))) = some r := by first | (rw [hy289]; with_reducible exact H) | (have H2_ := (Option.bind_some _ _).symm.trans H; rw [hy289]; with_reducible exact H2_) | (have H2_ := (Option.bind_some _ _).symm.trans H; with_reducible exact H2_) | with_reducible exact H | (rw [hy289]; exact H) | exact H
             have Ny289 := Aside0.mk hy289
             clear hy289
             have H' := Aside0.mk H
             clear H
             obtain ⟨Ao74, co74, eo74⟩ := Kd.R_slice HO_5.out
             subst eo74
             go_wp2_with (first | ((with_reducible refine gate_dst (N := 10) rfl ?_); refine box_event ?hg (N := 10) ?hd (cs := #[.int .u64 0, .int .u64 0]) (t := 37) ?hr ?_; (case hd => rfl); (case hg => rfl); (case hr => first | (go_simp; done) | (go_simp; rfl)); intro gb269 hg w75 hbox hb; have BK269 := Aside0.mk hbox; have GW269 := ge hg HB; have GE269 := ge hg HB; have NB256_269 := nl hg BK256; have NB269_256 := ng hg BK256; replace HO_5 := Aside0.mk (Kd.R_below (Kd.R_elderB (kr HO_5.out) gb269 (Nat.le_of_eq hg.symm)) hb); replace HO_6 := Aside0.mk (Kd.R_below (Kd.R_elderB (kr HO_6.out) gb269 (Nat.le_of_eq hg.symm)) hb); replace HO_8 := Aside0.mk (Kd.R_below (Kd.R_elderB (kr HO_8.out) gb269 (Nat.le_of_eq hg.symm)) hb); replace BK256 := bb BK256 hb; replace HB := bh HB hb; clear hb hbox hg; have hnb76 := NB269_256.out; have hnc76 := NB256_269.out; obtain ⟨hcz77_0, hcz77_1⟩ := zc2 BK269; obtain ⟨hfz77_0, hfz77_1⟩ := zf2 BK269) | ((with_reducible refine gate_builtin (b := .append) (xs := #[.tmp 58, .tmp 60]) rfl ?_); at_builtin; refine Kd.R_append k37 (w0 := w) w.heap.size rfl (.tmp 58) (.tmp 60) 39 37 (.agg #[(.int .u64 0), (.int .u64 0)]) 16 rfl Try.underlying39 info37 rfl (by decide) (by omega) u8 x8_2 (⟨0, 0⟩ : S37) [.int .u64 0, .int .u64 0] (fun k_ => some k_ ≠ (.slice Ao74 x5_1.length co74 : Value).ownBlock ∧ some k_ ≠ (.slice (some ad267) t260.length co18 : Value).ownBlock ∧ k_ ≠ gb256 ∧ k_ ≠ gb269) (fun _ => False) rfl rfl ?aP (fun _ hk => hk.elim) ?aF ?aO ?aB ?aS ?aL ?_; (case aP => exact k37_mkM _ _ _ (⟨0, 0⟩ : S37)); (case aB => exact (bq HB.out)); (case aF => exact (fun k_ hk => ⟨Kd.fresh' (Kd.R_lt (kr HO_5.out)) k_ hk, Kd.fresh' (Kd.R_lt (kr HO_6.out)) k_ hk, Kd.freshB (g := gb256) (o := .cells #[.int .u64 a1_0, .int .u64 a1_1] 37 (0, 0)) (bk BK256.out) k_ hk, Kd.freshB (g := gb269) (o := .cells #[.int .u64 0, .int .u64 0] 37 (0, 0)) (bk BK269.out) k_ hk⟩)); (case aO => exact (by (with_reducible repeat refine kl ?_); exact Kd.R_mono HO_8.out (fun _ hk => ⟨hk.1.1, ⟨hk.1.2.1, ⟨hk.1.2.2, hk.2⟩⟩⟩))); (case aS => exact (below_size (bq HB.out))); (case aL => have := LMc73.out; omega); intro v290 w78 ho hb hg hat; rw [← Ny289.out] at ho; have HO291 := Aside0.mk ho; replace HO_5 := Aside0.mk (Kd.R_after (ok := (fun k_ => some k_ ≠ (.slice (some ad267) t260.length co18 : Value).ownBlock ∧ k_ ≠ gb256 ∧ k_ ≠ gb269)) (by (with_reducible repeat refine kl ?_); exact Kd.R_mono HO_5.out (fun _ hk => ⟨⟨hk.1.1, ⟨hk.1.2.2, hk.2⟩⟩, hk.1.2.1⟩)) hg hat); replace HO_6 := Aside0.mk (Kd.R_after (ok := (fun k_ => some k_ ≠ (.slice Ao74 x5_1.length co74 : Value).ownBlock ∧ k_ ≠ gb256 ∧ k_ ≠ gb269)) (by (with_reducible repeat refine kl ?_); exact Kd.R_mono HO_6.out (fun _ hk => ⟨⟨hk.1.1, ⟨hk.1.2.2, hk.2⟩⟩, hk.1.2.1⟩)) hg hat); replace BK256 := Aside0.mk (blk_grown (g := gb256) (o := .cells #[.int .u64 a1_0, .int .u64 a1_1] 37 (0, 0)) (bk BK256.out) hg (Kd.R_away HO_8.out (fun _ hk => hk.1.2.2))); replace BK269 := Aside0.mk (blk_grown (g := gb269) (o := .cells #[.int .u64 0, .int .u64 0] 37 (0, 0)) (bk BK269.out) hg (Kd.R_away HO_8.out (fun _ hk => hk.2))); replace HB := Aside0.mk hb; clear HO_8; clear ho hb hg hat))
             go_roundg k2
             case measure => have := HK1.out; have := HK2.out; omega
             case rel => exact ⟨(y289), (wrap64 (x9_2 + 1)), (by first | rfl | (simp; done) | (simp [*]; done)), H', ⟨by have := HK1.out; have := HK2.out; omega⟩, ⟨by (with_reducible repeat refine kl ?_); exact Kd.R_mono HO_5.out (fun _ hk => ⟨hk.1.1, ⟨hk.2, hk.1.2.1⟩⟩)⟩, ⟨by (with_reducible repeat refine kl ?_); exact Kd.R_mono HO_6.out (fun _ hk => ⟨hk.1.1, ⟨hk.2, hk.1.2.1⟩⟩)⟩, ⟨by (with_reducible repeat refine kl ?_); exact Kd.R_mono HO291.out (fun _ hk => ⟨hk.1, ⟨hk.2.1, hk.2.2.1⟩⟩)⟩, ⟨bk BK256.out⟩, ⟨bq HB.out⟩⟩
            ·rw [if_neg c73] at H
             exact absurd H (by simp)
         ·rw [if_neg c22] at H
          have c22b0 : decide (x9_2 ≤ (x5_1.length : Int)) = false := decide_eq_false c22
          clear c22
          have H' := Aside0.mk H
          clear H
          obtain ⟨Ao79, co79, eo79⟩ := Kd.R_slice HO_5.out
          subst eo79
          go_wp2
          go_roundg k2
          case measure => have := HK1.out; have := HK2.out; omega
          case rel => exact ⟨(x8_2), (wrap64 (x7_1 + 1)), (by first | rfl | (simp; done) | (simp [*]; done)), H', ⟨by have := HK1.out; have := HK2.out; omega⟩, ⟨by (with_reducible repeat refine kl ?_); exact Kd.R_mono HO_8.out (fun _ hk => ⟨hk.2.1, hk.2.2⟩)⟩, ⟨by (with_reducible repeat refine kl ?_); exact Kd.R_mono HO_6.out (fun _ hk => ⟨hk.2.1, hk.2.2⟩)⟩, ⟨bk BK256.out⟩, ⟨bq HB.out⟩⟩
     ·rw [if_neg c11] at H
      exact absurd H (by simp)
    ·rw [if_neg c10] at H
     exact absurd H (by simp)
   ·rw [if_neg c9] at H
    have c9b0 : decide (x7_1 < (t260.length : Int)) = false := decide_eq_false c9
    clear c9
    obtain rfl := Option.some.inj H
    obtain ⟨Ao80, co80, eo80⟩ := Kd.R_slice HO_6.out
    subst eo80
    go_wp2
    go_ret
    exact ⟨_, by first | rfl | (simp [errW_none, errW_some] <;> rfl) | (simp [*, errW_none, errW_some] <;> rfl), by (with_reducible repeat refine kl ?_); exact Kd.R_mono HO_5.out (fun _ hk => trivial), bq HB.out⟩

end Go.Proofs.Ytlegcabfgkccmaa.P
