/- Written by a program of this session: functions that the law reaches, as Lean functions, and that the code comes to their answers. Conditions: those that each theorem names. -/
import Derived.Test.YtbfncpcpmigidaaPx0
import Derived.Test.YtbfncpcpmigidaaPx6
namespace Go.Proofs.Ytbfncpcpmigidaa.P
open Go.RowKit Go.Proofs.YtbfncpcpmigidaaX Go.Proofs.YtbfncpcpmigidaaW.PrintWords Go.Proofs.YtbfncpcpmigidaaW.PrintLast Go.Proofs.YtbfncpcpmigidaaW.PrintMore
attribute [local go_sem] max2_int min2_int max_two min_two max_three min_three max_four min_four   -- for this text's walks alone
set_option linter.unusedVariables false
set_option linter.unusedSimpArgs false

/-! ### steepleref10_Way: function 19 -/
mutual
def steepleref10_Way.l0 : Nat → ByteArray → Bool → List Int → Int → List Int → List (List Int) → Option (ByteArray)
 | 0, _, _, _, _, _, _ => none
 | k + 1, x1, x2, x7, x8, x284000, x284001 => if x8 < 64 then (if 0 ≤ x8 then (if x8 < (x1.size : Int) then (if x7.length < 17592186044416 then (steepleref10_Way.l0 k x1 x2 (x7 ++ [wrap64 (bt x1 x8)]) (wrap64 (x8 + 1)) x284000 x284001) else (none)) else (none)) else (none)) else (steepleref10_Way.l1 k x2 x7 0 x284000 x284001)
def steepleref10_Way.l1 : Nat → Bool → List Int → Int → List Int → List (List Int) → Option (ByteArray)
 | 0, _, _, _, _, _ => none
 | k + 1, x2, x7, x9, x284000, x284001 => if x9 < 6 then ((steepleref10_round.f k x284000 x284001 x7 x2 x9).bind fun t287 => (steepleref10_Way.l1 k x2 t287 (wrap64 (x9 + 1)) x284000 x284001)) else (steepleref10_Way.l2 k x7 ([] : List Int) 0)
def steepleref10_Way.l2 : Nat → List Int → List Int → Int → Option (ByteArray)
 | 0, _, _, _ => none
 | k + 1, x7, x10, x11 => if x11 < 64 then (if 0 ≤ x11 then (if x11 < (x7.length : Int) then (if x10.length < 140737488355328 then (steepleref10_Way.l2 k x7 (x10 ++ [(rd x7 x11) % 256]) (wrap64 (x11 + 1))) else (none)) else (none)) else (none)) else (some (strOfNums x10))
end
def steepleref10_Way.f (k : Nat) (l0_0 : List Int) (l0_1 : List (List Int)) (a1 : ByteArray) (a2 : Bool) : Option (ByteArray) := steepleref10_Way.l0 k a1 a2 ([] : List Int) 0 l0_0 l0_1
theorem steepleref10_Way.mono_l : ∀ k, (∀ y0 y1 y2 y3 y4 y5, LeO (steepleref10_Way.l0 k y0 y1 y2 y3 y4 y5) (steepleref10_Way.l0 (k + 1) y0 y1 y2 y3 y4 y5)) ∧ (∀ y0 y1 y2 y3 y4, LeO (steepleref10_Way.l1 k y0 y1 y2 y3 y4) (steepleref10_Way.l1 (k + 1) y0 y1 y2 y3 y4)) ∧ (∀ y0 y1 y2, LeO (steepleref10_Way.l2 k y0 y1 y2) (steepleref10_Way.l2 (k + 1) y0 y1 y2))
 | 0 => ⟨fun _ _ _ _ _ _ r h => by simp [steepleref10_Way.l0] at h, fun _ _ _ _ _ r h => by simp [steepleref10_Way.l1] at h, fun _ _ _ r h => by simp [steepleref10_Way.l2] at h⟩
 | k + 1 => by
  obtain ⟨ih0, ih1, ih2⟩ := steepleref10_Way.mono_l k
  refine ⟨?_, ?_, ?_⟩
  ·intro y0 y1 y2 y3 y4 y5
   unfold steepleref10_Way.l0
   repeat' first
   | (with_reducible exact ih0 _ _ _ _ _ _)
   | (with_reducible exact ih1 _ _ _ _ _)
   | (with_reducible exact ih2 _ _ _)
   | (with_reducible exact steepleref10_round.mono _ _ _ _ _ _)
   | (with_reducible exact LeO.refl _)
   | (with_reducible exact LeO.none _)
   | (with_reducible refine LeO.ite ?_ ?_)
   | (with_reducible refine LeO.bind ?_ (fun _ => ?_))
   | exact ih0 _ _ _ _ _ _
   | exact ih1 _ _ _ _ _
   | exact ih2 _ _ _
   | exact steepleref10_round.mono _ _ _ _ _ _
   | exact LeO.none _
   | refine LeO.ite ?_ ?_
   | refine LeO.bind ?_ (fun _ => ?_)
  ·intro y0 y1 y2 y3 y4
   unfold steepleref10_Way.l1
   repeat' first
   | (with_reducible exact ih0 _ _ _ _ _ _)
   | (with_reducible exact ih1 _ _ _ _ _)
   | (with_reducible exact ih2 _ _ _)
   | (with_reducible exact steepleref10_round.mono _ _ _ _ _ _)
   | (with_reducible exact LeO.refl _)
   | (with_reducible exact LeO.none _)
   | (with_reducible refine LeO.ite ?_ ?_)
   | (with_reducible refine LeO.bind ?_ (fun _ => ?_))
   | exact ih0 _ _ _ _ _ _
   | exact ih1 _ _ _ _ _
   | exact ih2 _ _ _
   | exact steepleref10_round.mono _ _ _ _ _ _
   | exact LeO.none _
   | refine LeO.ite ?_ ?_
   | refine LeO.bind ?_ (fun _ => ?_)
  ·intro y0 y1 y2
   unfold steepleref10_Way.l2
   repeat' first
   | (with_reducible exact ih0 _ _ _ _ _ _)
   | (with_reducible exact ih1 _ _ _ _ _)
   | (with_reducible exact ih2 _ _ _)
   | (with_reducible exact steepleref10_round.mono _ _ _ _ _ _)
   | (with_reducible exact LeO.refl _)
   | (with_reducible exact LeO.none _)
   | (with_reducible refine LeO.ite ?_ ?_)
   | (with_reducible refine LeO.bind ?_ (fun _ => ?_))
   | exact ih0 _ _ _ _ _ _
   | exact ih1 _ _ _ _ _
   | exact ih2 _ _ _
   | exact steepleref10_round.mono _ _ _ _ _ _
   | exact LeO.none _
   | refine LeO.ite ?_ ?_
   | refine LeO.bind ?_ (fun _ => ?_)
theorem steepleref10_Way.mono : ∀ a0 a1 a2 a3 k, LeO (steepleref10_Way.f k a0 a1 a2 a3) (steepleref10_Way.f (k + 1) a0 a1 a2 a3) := by
 intro a0 a1 a2 a3 k
 obtain ⟨ih0, ih1, ih2⟩ := steepleref10_Way.mono_l k
 unfold steepleref10_Way.f
 repeat' first
   | (with_reducible exact ih0 _ _ _ _ _ _)
   | (with_reducible exact ih1 _ _ _ _ _)
   | (with_reducible exact ih2 _ _ _)
   | (with_reducible exact steepleref10_round.mono _ _ _ _ _ _)
   | (with_reducible exact LeO.refl _)
   | (with_reducible exact LeO.none _)
   | (with_reducible refine LeO.ite ?_ ?_)
   | (with_reducible refine LeO.bind ?_ (fun _ => ?_))
   | exact ih0 _ _ _ _ _ _
   | exact ih1 _ _ _ _ _
   | exact ih2 _ _ _
   | exact steepleref10_round.mono _ _ _ _ _ _
   | exact LeO.none _
   | refine LeO.ite ?_ ?_
   | refine LeO.bind ?_ (fun _ => ?_)
set_option maxHeartbeats 8000000 in
set_option maxRecDepth 100000 in
theorem steepleref10_Way.calls (k : Nat) (A0_0 : Option Addr) (c0_0 : Nat) (l0_0 : List Int) (A0_1 : Option Addr) (c0_1 : Nat) (l0_1 : List (List Int)) (a1 : ByteArray) (a2 : Bool) (r : ByteArray) (w : World) (hr0_0 : Kd.C (Kd.int .i64) w A0_0 l0_0.length l0_0) (hc0_0 : l0_0.length ≤ c0_0) (hr0_1 : Kd.C (Kd.slice 3 (Kd.int .i64)) w A0_1 l0_1.length l0_1) (hc0_1 : l0_1.length ≤ c0_1) (h : steepleref10_Way.f k l0_0 l0_1 a1 a2 = some r) :
  Calls Try.prog 19 #[.agg #[.slice A0_0 l0_0.length c0_0, .slice A0_1 l0_1.length c0_1], .string a1, .bool a2] w fun e w' => e = .returned (.string r) ∧ Below w.heap.size w w' := by
 have hu37 := Try.underlying37
 have HR0_0 := Aside0.mk hr0_0
 have HC0_0 := Aside0.mk hc0_0
 clear hr0_0 hc0_0
 have HR0_1 := Aside0.mk hr0_1
 have HC0_1 := Aside0.mk hc0_1
 clear hr0_1 hc0_1
 have HB := Aside0.mk (Below.refl w.heap.size w)
 have H : (steepleref10_Way.l0 k a1 a2 ([] : List Int) 0 l0_0 l0_1) = some r := h
 clear h
 have H' := Aside0.mk H
 clear H
 go_enter Try.func19, Try.ntmps19
 go_wp2_with (first | ((with_reducible refine gate_dst (N := 3) rfl ?_); refine box_event ?hg (N := 3) ?hd (cs := #[.slice A0_0 l0_0.length c0_0, .slice A0_1 l0_1.length c0_1]) (t := 37) ?hr ?_; (case hd => rfl); (case hg => rfl); (case hr => first | (go_simp; done) | (go_simp; rfl)); intro gb283 hg w4 hbox hb; have BK283 := Aside0.mk hbox; have GW283 := ge hg HB; have GE283 := ge hg HB; replace HB := bh HB hb; clear hb hbox hg))
 go_loopg [7, 8] k (fun kq v7 v8 w' => ∃ (x7_1 : List Int) (x8_1 : Int), v8 = .int .i64 x8_1 ∧ Aside0 (steepleref10_Way.l0 kq a1 a2 x7_1 x8_1 l0_0 l0_1 = some r) ∧ Aside0 (kq ≤ k) ∧ Aside0 (Kd.R (Kd.int .i64) 3 w' w.heap.size (fun _ => True) v7 x7_1) ∧ Aside0 (w'.heap[gb283]? = some (.cells #[(.slice A0_0 l0_0.length c0_0), (.slice A0_1 l0_1.length c0_1)] 37 (0, 0))) ∧ Aside0 (Below w.heap.size w w'))
 case atStart => exact ⟨(([] : List Int)), (0), (by first | rfl | (simp; done) | (simp [*]; done)), H', ⟨Nat.le_refl _⟩, ⟨by first | exact Kd.R_nil _ _ _ _ _ | exact Kd.N_nil _ _ _ _ _ | exact Kd.V_nil _ _ _ _ _ | exact Kd.Q_nil _ _ _ _ _ | exact Kd.S_nil _ _ _ _ _⟩, ⟨bk BK283.out⟩, ⟨bq HB.out⟩⟩
 case round =>
  clear H'
  try clear c1
  try clear p2
  obtain ⟨x7_1, x8_1, rfl, HA, HK1, HO_7, BK283, HB⟩ := hrel
  cases gk with
  | zero => exact absurd HA.out (by simp [steepleref10_Way.l0])
  | succ k1 =>
   have H := HA.out
   clear HA
   simp only [steepleref10_Way.l0] at H
   by_cases c5 : x8_1 < 64
   ·rw [if_pos c5] at H
    have c5b0 : decide (x8_1 < 64) = true := decide_eq_true c5
    clear c5
    by_cases c6 : 0 ≤ x8_1
    ·rw [if_pos c6] at H
     have c6b0 : decide (0 ≤ x8_1) = true := decide_eq_true c6
     clear c6
     by_cases c7 : x8_1 < (a1.size : Int)
     ·rw [if_pos c7] at H
      have c7b0 : decide (x8_1 < (a1.size : Int)) = true := decide_eq_true c7
      clear c7
      by_cases c9 : x7_1.length < 17592186044416
      ·rw [if_pos c9] at H
       have LMc9 := Aside0.mk c9
       clear c9
       obtain ⟨y284, hy284⟩ : ∃ y_ : List Int, y_ = (x7_1 ++ [wrap64 (bt a1 x8_1)]) := ⟨_, rfl⟩
       replace H : (steepleref10_Way.l0 k1 a1 a2 y284 (wrap64 (x8_1 + 1)) l0_0 l0_1) = some r := by first | (rw [hy284]; with_reducible exact H) | (have H2_ := (Option.bind_some _ _).symm.trans H; rw [hy284]; with_reducible exact H2_) | (have H2_ := (Option.bind_some _ _).symm.trans H; with_reducible exact H2_) | with_reducible exact H | (rw [hy284]; exact H) | exact H
       have Ny284 := Aside0.mk hy284
       clear hy284
       have H' := Aside0.mk H
       clear H
       have p8 : 0 ≤ (x8_1 : Int) := of_decide_eq_true (by first | (with_reducible assumption) | assumption)
       have q8 : x8_1 < (a1.size : Int) := of_decide_eq_true (by first | (with_reducible assumption) | assumption)
       have hx8 := bt_at a1 x8_1
       replace p8 := eq_true p8
       replace q8 := eq_true q8
       go_wp2_with (first | ((with_reducible refine gate_builtin (b := .append) (xs := #[.tmp 16, .tmp 21]) rfl ?_); at_builtin; refine Kd.R_append (Kd.int .i64) (w0 := w) w.heap.size rfl (.tmp 16) (.tmp 21) 30 3 (.int .i64 0) 8 rfl Try.underlying30 info3 rfl (by decide) (by omega) u7 x7_1 (wrap64 (bt a1 x8_1)) [.int .i64 (wrap64 (bt a1 x8_1))] (fun _ => True) (fun _ => False) rfl rfl ?aP (fun _ hk => hk.elim) ?aF ?aO ?aB ?aS ?aL ?_; (case aP => exact rfl); (case aB => exact (bq HB.out)); (case aF => exact (fun _ _ => trivial)); (case aO => exact (kr HO_7.out)); (case aS => exact (below_size (bq HB.out))); (case aL => have := LMc9.out; omega); intro v285 w10 ho hb hg hat; rw [← Ny284.out] at ho; have HO286 := Aside0.mk ho; replace BK283 := Aside0.mk (blk_grown (g := gb283) (o := .cells #[.slice A0_0 l0_0.length c0_0, .slice A0_1 l0_1.length c0_1] 37 (0, 0)) (bk BK283.out) hg (Kd.R_ne HO_7.out BK283.out (by decide))); replace HB := Aside0.mk hb; clear HO_7; clear ho hb hg hat))
       go_roundg k1
       case measure => have := HK1.out; omega
       case rel => exact ⟨(y284), (wrap64 (x8_1 + 1)), (by first | rfl | (simp; done) | (simp [*]; done)), H', ⟨by have := HK1.out; omega⟩, ⟨kr HO286.out⟩, ⟨bk BK283.out⟩, ⟨bq HB.out⟩⟩
      ·rw [if_neg c9] at H
       exact absurd H (by simp)
     ·rw [if_neg c7] at H
      exact absurd H (by simp)
    ·rw [if_neg c6] at H
     exact absurd H (by simp)
   ·rw [if_neg c5] at H
    have c5b0 : decide (x8_1 < 64) = false := decide_eq_false c5
    clear c5
    have H' := Aside0.mk H
    clear H
    go_wp2
    go_loopg [7, 9] k1 (fun kq v7 v9 w' => ∃ (x7_2 : List Int) (x9_2 : Int), v9 = .int .i64 x9_2 ∧ Aside0 (steepleref10_Way.l1 kq a2 x7_2 x9_2 l0_0 l0_1 = some r) ∧ Aside0 (kq ≤ k1) ∧ Aside0 (Kd.R (Kd.int .i64) 3 w' w.heap.size (fun _ => True) v7 x7_2) ∧ Aside0 (w'.heap[gb283]? = some (.cells #[(.slice A0_0 l0_0.length c0_0), (.slice A0_1 l0_1.length c0_1)] 37 (0, 0))) ∧ Aside0 (Below w.heap.size w w'))
    case atStart => exact ⟨(x7_1), (0), (by first | rfl | (simp; done) | (simp [*]; done)), H', ⟨Nat.le_refl _⟩, ⟨kr HO_7.out⟩, ⟨bk BK283.out⟩, ⟨bq HB.out⟩⟩
    case round =>
     clear H'
     try clear c1
     try clear p2
     try clear c5
     try clear c5b0
     try clear c6
     try clear c6b0
     try clear p6
     try clear c7
     try clear c7b0
     try clear p8
     try clear q8
     try clear hx8
     try clear c9
     try clear p2
     try clear p8
     try clear q8
     obtain ⟨x7_2, x9_2, rfl, HA, HK2, HO_7, BK283, HB⟩ := hrel
     cases gk with
     | zero => exact absurd HA.out (by simp [steepleref10_Way.l1])
     | succ k2 =>
      have H := HA.out
      clear HA
      simp only [steepleref10_Way.l1] at H
      by_cases c11 : x9_2 < 6
      ·rw [if_pos c11] at H
       have c11b0 : decide (x9_2 < 6) = true := decide_eq_true c11
       clear c11
       replace H := Option.bind_eq_some_iff.mp H
       obtain ⟨t287, A120, H⟩ := H
       replace H : (steepleref10_Way.l1 k2 a2 t287 (wrap64 (x9_2 + 1)) l0_0 l0_1) = some r := H
       have A12 := Aside0.mk A120
       clear A120
       have H' := Aside0.mk H
       clear H
       obtain ⟨hcz13_0, hcz13_1⟩ := zc2 BK283
       obtain ⟨hfz13_0, hfz13_1⟩ := zf2 BK283
       obtain ⟨Ao14, co14, eo14⟩ := Kd.R_slice HO_7.out
       subst eo14
       go_wp2_with (first | ((with_reducible refine gate_callee (f := 29) rfl ?_); refine goesL_ (some 31) rfl rfl Try.func29 (by kernel_rfl) rfl #[.agg #[.slice A0_0 l0_0.length c0_0, .slice A0_1 l0_1.length c0_1], .slice Ao14 x7_2.length co14, .bool a2, .int .i64 x9_2] rfl (by (try simp only [List.map_toArray, List.map_cons, List.map_nil]); first | done | rfl | (simp only [List.length_drop, List.length_take]; rfl)) ?_; (with_reducible refine (steepleref10_round.calls k2 _ _ l0_0 _ _ l0_1 _ _ x7_2 a2 x9_2 t287 _ ?side1 ?side2 ?side3 ?side4 ?side5 ?side6 A12.out).mono ?_); (case side1 => repeat (first | exact (Kd.C_below HR0_0.out HB.out) | (with_reducible refine Kd.C_alloc ?_ _) | (with_reducible refine Kd.C_drewN ?_ _) | (with_reducible refine Kd.C_drew ?_))); (case side2 => exact HC0_0.out); (case side3 => repeat (first | exact (Kd.C_below HR0_1.out HB.out) | (with_reducible refine Kd.C_alloc ?_ _) | (with_reducible refine Kd.C_drewN ?_ _) | (with_reducible refine Kd.C_drew ?_))); (case side4 => exact HC0_1.out); (case side5 => repeat (first | exact (Kd.R_reads' HO_7.out).2.2 | (with_reducible refine Kd.C_alloc ?_ _) | (with_reducible refine Kd.C_drewN ?_ _) | (with_reducible refine Kd.C_drew ?_))); (case side6 => exact (Kd.R_reads' HO_7.out).2.1); rintro e w15 ⟨v288, rfl, ho0, hb⟩; refine ⟨_, rfl, ?_⟩; have HO289 := Aside0.mk (Kd.R_lower (Kd.R_new' ho0 (Kd.R_lt (kr HO_7.out))) (below_size (bq HB.out))); replace HO_7 := Aside0.mk (Kd.R_elder' (kr HO_7.out) (Kd.R_base ho0) hb); replace BK283 := bb BK283 hb; replace HB := bh HB hb; (try clear hb); (try clear hb2); (try clear hk); (try clear hi); (try clear ho0)))
       go_roundg k2
       case measure => have := HK1.out; have := HK2.out; omega
       case rel => exact ⟨(t287), (wrap64 (x9_2 + 1)), (by first | rfl | (simp; done) | (simp [*]; done)), H', ⟨by have := HK1.out; have := HK2.out; omega⟩, ⟨by (with_reducible repeat refine kl ?_); exact Kd.R_mono HO289.out (fun _ hk => trivial)⟩, ⟨bk BK283.out⟩, ⟨bq HB.out⟩⟩
      ·rw [if_neg c11] at H
       have c11b0 : decide (x9_2 < 6) = false := decide_eq_false c11
       clear c11
       have H' := Aside0.mk H
       clear H
       go_wp2
       go_loopg [10, 11] k2 (fun kq v10 v11 w' => ∃ (x10_3 : List Int) (x11_3 : Int), v11 = .int .i64 x11_3 ∧ Aside0 (steepleref10_Way.l2 kq x7_2 x10_3 x11_3 = some r) ∧ Aside0 (kq ≤ k2) ∧ Aside0 (Kd.R (Kd.int .i64) 3 w' w.heap.size (fun _ => True) u7 x7_2) ∧ Aside0 (Kd.R (Kd.int .u8) 5 w' w.heap.size (fun _ => True) v10 x10_3) ∧ Aside0 (w'.heap[gb283]? = some (.cells #[(.slice A0_0 l0_0.length c0_0), (.slice A0_1 l0_1.length c0_1)] 37 (0, 0))) ∧ Aside0 (Below w.heap.size w w'))
       case atStart => exact ⟨(([] : List Int)), (0), (by first | rfl | (simp; done) | (simp [*]; done)), H', ⟨Nat.le_refl _⟩, ⟨kr HO_7.out⟩, ⟨by first | exact Kd.R_nil _ _ _ _ _ | exact Kd.N_nil _ _ _ _ _ | exact Kd.V_nil _ _ _ _ _ | exact Kd.Q_nil _ _ _ _ _ | exact Kd.S_nil _ _ _ _ _⟩, ⟨bk BK283.out⟩, ⟨bq HB.out⟩⟩
       case round =>
        clear H'
        try clear c1
        try clear c2
        try clear p2
        try clear c5
        try clear c5b0
        try clear c6
        try clear c6b0
        try clear p6
        try clear c7
        try clear c7b0
        try clear p8
        try clear q8
        try clear hx8
        try clear c9
        try clear c11
        try clear c11b0
        try clear hcz13_0
        try clear hcz13_1
        try clear hfz13_0
        try clear hfz13_1
        try clear p2
        try clear p6
        try clear p8
        try clear q8
        obtain ⟨x10_3, x11_3, rfl, HA, HK3, HO_7, HO_10, BK283, HB⟩ := hrel
        cases gk with
        | zero => exact absurd HA.out (by simp [steepleref10_Way.l2])
        | succ k3 =>
         have H := HA.out
         clear HA
         simp only [steepleref10_Way.l2] at H
         by_cases c16 : x11_3 < 64
         ·rw [if_pos c16] at H
          have c16b0 : decide (x11_3 < 64) = true := decide_eq_true c16
          clear c16
          by_cases c17 : 0 ≤ x11_3
          ·rw [if_pos c17] at H
           have c17b0 : decide (0 ≤ x11_3) = true := decide_eq_true c17
           clear c17
           by_cases c18 : x11_3 < (x7_2.length : Int)
           ·rw [if_pos c18] at H
            have c18b0 : decide (x11_3 < (x7_2.length : Int)) = true := decide_eq_true c18
            clear c18
            by_cases c19 : x10_3.length < 140737488355328
            ·rw [if_pos c19] at H
             have LMc19 := Aside0.mk c19
             clear c19
             obtain ⟨y291, hy291⟩ : ∃ y_ : List Int, y_ = (x10_3 ++ [(rd x7_2 x11_3) % 256]) := ⟨_, rfl⟩
             replace H : (steepleref10_Way.l2 k3 x7_2 y291 (wrap64 (x11_3 + 1))) = some r := by first | (rw [hy291]; with_reducible exact H) | (have H2_ := (Option.bind_some _ _).symm.trans H; rw [hy291]; with_reducible exact H2_) | (have H2_ := (Option.bind_some _ _).symm.trans H; with_reducible exact H2_) | with_reducible exact H | (rw [hy291]; exact H) | exact H
             have Ny291 := Aside0.mk hy291
             clear hy291
             have H' := Aside0.mk H
             clear H
             obtain ⟨Ao20, co20, eo20⟩ := Kd.R_slice HO_7.out
             subst eo20
             have p290 : 0 ≤ (x11_3 : Int) := of_decide_eq_true (by first | (with_reducible assumption) | assumption)
             have q290 : x11_3 < (x7_2.length : Int) := of_decide_eq_true (by first | (with_reducible assumption) | assumption)
             (try (obtain ⟨Ap_, cp_, ep_⟩ := Kd.R_slice HO_7.out; subst ep_))
             obtain ⟨ad290, e290, hx290_0⟩ := Kd.at_int (Kd.R_reads' HO_7.out).2.2 x11_3 p290 q290
             cases e290
             replace p290 := eq_true p290
             replace q290 := eq_true q290
             go_wp2_with (first | ((with_reducible refine gate_builtin (b := .append) (xs := #[.tmp 36, .tmp 42]) rfl ?_); at_builtin; refine Kd.R_append (Kd.int .u8) (w0 := w) w.heap.size rfl (.tmp 36) (.tmp 42) 58 5 (.int .u8 0) 1 rfl Try.underlying58 info5 rfl (by decide) (by omega) u10 x10_3 ((rd x7_2 x11_3) % 256) [.int .u8 ((rd x7_2 x11_3) % 256)] (fun _ => True) (fun _ => False) rfl rfl ?aP (fun _ hk => hk.elim) ?aF ?aO ?aB ?aS ?aL ?_; (case aP => exact rfl); (case aB => exact (bq HB.out)); (case aF => exact (fun _ _ => trivial)); (case aO => exact (kr HO_10.out)); (case aS => exact (below_size (bq HB.out))); (case aL => have := LMc19.out; omega); intro v292 w21 ho hb hg hat; rw [← Ny291.out] at ho; have HO293 := Aside0.mk ho; replace HO_7 := Aside0.mk (Kd.R_over' (kr HO_7.out) (Kd.R_typed (kr HO_10.out)) (by decide) hg); replace BK283 := Aside0.mk (blk_grown (g := gb283) (o := .cells #[.slice A0_0 l0_0.length c0_0, .slice A0_1 l0_1.length c0_1] 37 (0, 0)) (bk BK283.out) hg (Kd.R_ne HO_10.out BK283.out (by decide))); replace HB := Aside0.mk hb; clear HO_10; clear ho hb hg hat))
             go_roundg k3
             case measure => have := HK1.out; have := HK2.out; have := HK3.out; omega
             case rel => exact ⟨(y291), (wrap64 (x11_3 + 1)), (by first | rfl | (simp; done) | (simp [*]; done)), H', ⟨by have := HK1.out; have := HK2.out; have := HK3.out; omega⟩, ⟨kr HO_7.out⟩, ⟨kr HO293.out⟩, ⟨bk BK283.out⟩, ⟨bq HB.out⟩⟩
            ·rw [if_neg c19] at H
             exact absurd H (by simp)
           ·rw [if_neg c18] at H
            exact absurd H (by simp)
          ·rw [if_neg c17] at H
           exact absurd H (by simp)
         ·rw [if_neg c16] at H
          have c16b0 : decide (x11_3 < 64) = false := decide_eq_false c16
          clear c16
          obtain rfl := Option.some.inj H
          have hcv22 := own_string (P := Try.prog) Try.underlying58 Try.underlying5 Try.underlying9 (Kd.own_of_R HO_10.out)
          go_wp2
          go_ret
          exact ⟨by first | rfl | (simp [errW_none, errW_some] <;> rfl) | (simp [*, errW_none, errW_some] <;> rfl), bq HB.out⟩

-- NOT PRINTED: function 5 (steeplelaw10_PermWays)

-- NOT PRINTED: function 6 (steeplelaw10_PermBack)

-- NOT PRINTED: function 7 (steeplelaw10_PermNil)

end Go.Proofs.Ytbfncpcpmigidaa.P
