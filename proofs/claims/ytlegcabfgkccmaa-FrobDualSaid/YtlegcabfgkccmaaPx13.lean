/- Written by a program of this session: functions that the law reaches, as Lean functions, and that the code comes to their answers. Conditions: those that each theorem names. -/
import Derived.Test.YtlegcabfgkccmaaPx0
import Derived.Test.YtlegcabfgkccmaaPx1
import Derived.Test.YtlegcabfgkccmaaPx3
import Derived.Test.YtlegcabfgkccmaaPx4
import Derived.Test.YtlegcabfgkccmaaPx8
import Derived.Test.YtlegcabfgkccmaaPx10
import Derived.Test.YtlegcabfgkccmaaPx12
import Derived.Test.YtlegcabfgkccmaaHTrace
import Derived.Test.YtlegcabfgkccmaaHWithin
namespace Go.Proofs.Ytlegcabfgkccmaa.P
open Go.RowKit Go.Proofs.YtlegcabfgkccmaaX Go.Proofs.YtlegcabfgkccmaaW.PrintWords Go.Proofs.YtlegcabfgkccmaaW.PrintLast Go.Proofs.YtlegcabfgkccmaaW.PrintMore
attribute [local go_sem] max2_int min2_int max_two min_two max_three min_three max_four min_four   -- for this text's walks alone
set_option linter.unusedVariables false
set_option linter.unusedSimpArgs false

attribute [local go_sem high] eqA24
/-! ### span_Back: function 50 -/
mutual
def span_Back.l0 : Nat → List (S24) → List (S24) → Int → Int → Option ((List (S24)) × Int)
 | 0, _, _, _, _ => none
 | k + 1, x0, x4, x22, x23 => if x23 < x22 then ((tower_Bit.f k x23).bind fun bt306 => ((span_Solve.f k x0 bt306.1 bt306.2).bind fun bt308 => (if bt308.2 = true then (span_Back.l1 k x0 x4 x22 x23 bt308.1 (bt308.1.length : Int) 0 0 0) else (some (([] : List (S24)), 7))))) else (some (x4, 0))
def span_Back.l1 : Nat → List (S24) → List (S24) → Int → Int → List Bool → Int → Int → Int → Int → Option ((List (S24)) × Int)
 | 0, _, _, _, _, _, _, _, _, _ => none
 | k + 1, x0, x4, x22, x23, x35, x36, x37, x313000, x313001 => if x37 < x36 then (if 0 ≤ x37 then (if x37 < (x35.length : Int) then (if rdOf false x35 x37 = true then ((tower_Bit.f k x37).bind fun bt317 => ((tower_Add.f x313000 x313001 bt317.1 bt317.2).bind fun bt319 => (span_Back.l1 k x0 x4 x22 x23 x35 x36 (wrap64 (x37 + 1)) bt319.1 bt319.2))) else (span_Back.l1 k x0 x4 x22 x23 x35 x36 (wrap64 (x37 + 1)) x313000 x313001)) else (none)) else (none)) else (if x4.length < 8796093022208 then (span_Back.l0 k x0 (x4 ++ [(⟨x313000, x313001⟩ : S24)]) x22 (wrap64 (x23 + 1))) else (none))
end
def span_Back.f (k : Nat) (l0 : List (S24)) : Option ((List (S24)) × Int) := if (l0.length : Int) > 128 then (some (([] : List (S24)), 1)) else ((span_within.f k l0 (l0.length : Int)).bind fun t305 => (if t305 = true then (span_Back.l0 k l0 ([] : List (S24)) (l0.length : Int) 0) else (some (([] : List (S24)), 6))))
theorem span_Back.mono_l : ∀ k, (∀ y0 y1 y2 y3, LeO (span_Back.l0 k y0 y1 y2 y3) (span_Back.l0 (k + 1) y0 y1 y2 y3)) ∧ (∀ y0 y1 y2 y3 y4 y5 y6 y7 y8, LeO (span_Back.l1 k y0 y1 y2 y3 y4 y5 y6 y7 y8) (span_Back.l1 (k + 1) y0 y1 y2 y3 y4 y5 y6 y7 y8))
 | 0 => ⟨fun _ _ _ _ r h => by simp [span_Back.l0] at h, fun _ _ _ _ _ _ _ _ _ r h => by simp [span_Back.l1] at h⟩
 | k + 1 => by
  obtain ⟨ih0, ih1⟩ := span_Back.mono_l k
  refine ⟨?_, ?_⟩
  ·intro y0 y1 y2 y3
   unfold span_Back.l0
   repeat' first
   | (with_reducible exact ih0 _ _ _ _)
   | (with_reducible exact ih1 _ _ _ _ _ _ _ _ _)
   | (with_reducible exact span_Solve.mono _ _ _ _)
   | (with_reducible exact span_within.mono _ _ _)
   | (with_reducible exact tower_Bit.mono _ _)
   | (with_reducible exact LeO.refl _)
   | (with_reducible exact LeO.none _)
   | (with_reducible refine LeO.ite ?_ ?_)
   | (with_reducible refine LeO.bind ?_ (fun _ => ?_))
   | exact ih0 _ _ _ _
   | exact ih1 _ _ _ _ _ _ _ _ _
   | exact span_Solve.mono _ _ _ _
   | exact span_within.mono _ _ _
   | exact tower_Bit.mono _ _
   | exact LeO.none _
   | refine LeO.ite ?_ ?_
   | refine LeO.bind ?_ (fun _ => ?_)
  ·intro y0 y1 y2 y3 y4 y5 y6 y7 y8
   unfold span_Back.l1
   repeat' first
   | (with_reducible exact ih0 _ _ _ _)
   | (with_reducible exact ih1 _ _ _ _ _ _ _ _ _)
   | (with_reducible exact span_Solve.mono _ _ _ _)
   | (with_reducible exact span_within.mono _ _ _)
   | (with_reducible exact tower_Bit.mono _ _)
   | (with_reducible exact LeO.refl _)
   | (with_reducible exact LeO.none _)
   | (with_reducible refine LeO.ite ?_ ?_)
   | (with_reducible refine LeO.bind ?_ (fun _ => ?_))
   | exact ih0 _ _ _ _
   | exact ih1 _ _ _ _ _ _ _ _ _
   | exact span_Solve.mono _ _ _ _
   | exact span_within.mono _ _ _
   | exact tower_Bit.mono _ _
   | exact LeO.none _
   | refine LeO.ite ?_ ?_
   | refine LeO.bind ?_ (fun _ => ?_)
theorem span_Back.mono : ∀ a0 k, LeO (span_Back.f k a0) (span_Back.f (k + 1) a0) := by
 intro a0 k
 obtain ⟨ih0, ih1⟩ := span_Back.mono_l k
 unfold span_Back.f
 repeat' first
   | (with_reducible exact ih0 _ _ _ _)
   | (with_reducible exact ih1 _ _ _ _ _ _ _ _ _)
   | (with_reducible exact span_Solve.mono _ _ _ _)
   | (with_reducible exact span_within.mono _ _ _)
   | (with_reducible exact tower_Bit.mono _ _)
   | (with_reducible exact LeO.refl _)
   | (with_reducible exact LeO.none _)
   | (with_reducible refine LeO.ite ?_ ?_)
   | (with_reducible refine LeO.bind ?_ (fun _ => ?_))
   | exact ih0 _ _ _ _
   | exact ih1 _ _ _ _ _ _ _ _ _
   | exact span_Solve.mono _ _ _ _
   | exact span_within.mono _ _ _
   | exact tower_Bit.mono _ _
   | exact LeO.none _
   | refine LeO.ite ?_ ?_
   | refine LeO.bind ?_ (fun _ => ?_)
set_option maxHeartbeats 8000000 in
set_option maxRecDepth 100000 in
theorem span_Back.calls (k : Nat) (A0 : Option Addr) (c0 : Nat) (l0 : List (S24)) (r1 : List (S24)) (r2 : Int) (w : World) (hr0 : Kd.C k24 w A0 l0.length l0) (hc0 : l0.length ≤ c0) (h : span_Back.f k l0 = some (r1, r2)) :
  Calls Try.prog 50 #[.slice A0 l0.length c0] w fun e w' => ∃ v0_ : Value, e = .returned (.tuple #[v0_, .int .i64 r2]) ∧ Kd.R k24 24 w' w.heap.size (fun _ => True) v0_ r1 ∧ Below w.heap.size w w' := by
 have hu24 := Try.underlying24
 have HR0 := Aside0.mk hr0
 have HC0 := Aside0.mk hc0
 clear hr0 hc0
 have HB := Aside0.mk (Below.refl w.heap.size w)
 have H : (if (l0.length : Int) > 128 then (some (([] : List (S24)), 1)) else ((span_within.f k l0 (l0.length : Int)).bind fun t305 => (if t305 = true then (span_Back.l0 k l0 ([] : List (S24)) (l0.length : Int) 0) else (some (([] : List (S24)), 6))))) = some (r1, r2) := h
 clear h
 by_cases c2 : (l0.length : Int) > 128
 ·rw [if_pos c2] at H
  have c2b0 : decide (128 < (l0.length : Int)) = true := decide_eq_true c2
  have c2b1 : decide (128 < l0.length) = true := decide_eq_true (by omega)
  clear c2
  simp only [Option.some.injEq, Prod.mk.injEq] at H
  obtain ⟨rfl, rfl⟩ := H
  go_enter Try.func50, Try.ntmps50
  go_wp2
  go_ret2
  exact ⟨_, by first | rfl | (simp [errW_none, errW_some] <;> rfl) | (simp [*, errW_none, errW_some] <;> rfl), by first | exact Kd.R_nil _ _ _ _ _ | exact Kd.N_nil _ _ _ _ _ | exact Kd.V_nil _ _ _ _ _ | exact Kd.Q_nil _ _ _ _ _ | exact Kd.S_nil _ _ _ _ _, bq HB.out⟩
 ·rw [if_neg c2] at H
  have c2b0 : decide (128 < (l0.length : Int)) = false := decide_eq_false c2
  have c2b1 : decide (128 < l0.length) = false := decide_eq_false (by omega)
  clear c2
  replace H := Option.bind_eq_some_iff.mp H
  obtain ⟨t305, A30, H⟩ := H
  replace H : (if t305 = true then (span_Back.l0 k l0 ([] : List (S24)) (l0.length : Int) 0) else (some (([] : List (S24)), 6))) = some (r1, r2) := H
  have A3 := Aside0.mk A30
  clear A30
  by_cases c4 : t305 = true
  ·subst c4
   have H1 : (span_Back.l0 k l0 ([] : List (S24)) (l0.length : Int) 0) = some (r1, r2) := by rw [if_pos rfl] at H; exact H
   clear H
   have H := H1
   clear H1
   have H' := Aside0.mk H
   clear H
   go_enter Try.func50, Try.ntmps50
   go_wp2_with (first | ((with_reducible refine gate_callee (f := 61) rfl ?_); refine goesL_ (some 19) rfl rfl Try.func61 (by kernel_rfl) rfl #[.slice A0 l0.length c0, .int .i64 (l0.length : Int)] rfl (by (try simp only [List.map_toArray, List.map_cons, List.map_nil]); first | done | rfl | (simp only [List.length_drop, List.length_take]; rfl)) ?_; (with_reducible refine (span_within.calls k _ _ l0 (l0.length : Int) true _ ?side1 ?side2 A3.out).mono ?_); (case side1 => repeat (first | exact HR0.out | (with_reducible refine Kd.C_alloc ?_ _) | (with_reducible refine Kd.C_drewN ?_ _) | (with_reducible refine Kd.C_drew ?_))); (case side2 => exact HC0.out); rintro e w5 ⟨rfl, hb⟩; refine ⟨_, rfl, ?_⟩; replace HB := bh HB hb; (try clear hb); (try clear hb2); (try clear hk); (try clear hi)))
   go_loopg [4, 23] k (fun kq v4 v23 w' => ∃ (x4_1 : List (S24)) (x23_1 : Int), v23 = .int .i64 x23_1 ∧ Aside0 (span_Back.l0 kq l0 x4_1 (l0.length : Int) x23_1 = some (r1, r2)) ∧ Aside0 (kq ≤ k) ∧ Aside0 (Kd.R k24 24 w' w.heap.size (fun _ => True) v4 x4_1) ∧ Aside0 (Below w.heap.size w w'))
   case atStart => exact ⟨(([] : List (S24))), (0), (by first | rfl | (simp; done) | (simp [*]; done)), H', ⟨Nat.le_refl _⟩, ⟨by first | exact Kd.R_nil _ _ _ _ _ | exact Kd.N_nil _ _ _ _ _ | exact Kd.V_nil _ _ _ _ _ | exact Kd.Q_nil _ _ _ _ _ | exact Kd.S_nil _ _ _ _ _⟩, ⟨bq HB.out⟩⟩
   case round =>
    clear H'
    try clear c2
    try clear c2b0
    try clear c2b1
    try clear p2
    try clear c4
    try clear c5
    obtain ⟨x4_1, x23_1, rfl, HA, HK1, HO_4, HB⟩ := hrel
    cases gk with
    | zero => exact absurd HA.out (by simp [span_Back.l0])
    | succ k1 =>
     have H := HA.out
     clear HA
     simp only [span_Back.l0] at H
     by_cases c6 : x23_1 < (l0.length : Int)
     ·rw [if_pos c6] at H
      have c6b0 : decide (x23_1 < (l0.length : Int)) = true := decide_eq_true c6
      clear c6
      replace H := Option.bind_eq_some_iff.mp H
      obtain ⟨⟨t306, t307⟩, A70, H⟩ := H
      replace H : ((span_Solve.f k1 l0 t306 t307).bind fun bt308 => (if bt308.2 = true then (span_Back.l1 k1 l0 x4_1 (l0.length : Int) x23_1 bt308.1 (bt308.1.length : Int) 0 0 0) else (some (([] : List (S24)), 7)))) = some (r1, r2) := H
      have A7 := Aside0.mk A70
      clear A70
      replace H := Option.bind_eq_some_iff.mp H
      obtain ⟨⟨t308, t311⟩, A80, H⟩ := H
      replace H : (if t311 = true then (span_Back.l1 k1 l0 x4_1 (l0.length : Int) x23_1 t308 (t308.length : Int) 0 0 0) else (some (([] : List (S24)), 7))) = some (r1, r2) := H
      have A8 := Aside0.mk A80
      clear A80
      by_cases c9 : t311 = true
      ·subst c9
       have H1 : (span_Back.l1 k1 l0 x4_1 (l0.length : Int) x23_1 t308 (t308.length : Int) 0 0 0) = some (r1, r2) := by rw [if_pos rfl] at H; exact H
       clear H
       have H := H1
       clear H1
       have H' := Aside0.mk H
       clear H
       go_wp2_with (first | ((with_reducible refine gate_callee (f := 47) rfl ?_); refine goesL_ (some 29) rfl rfl Try.func47 (by kernel_rfl) rfl #[.int .i64 x23_1] rfl (by (try simp only [List.map_toArray, List.map_cons, List.map_nil]); first | done | rfl | (simp only [List.length_drop, List.length_take]; rfl)) ?_; (with_reducible refine (tower_Bit.calls k1 x23_1 t306 t307 _ A7.out).mono ?_); rintro e w10 ⟨rfl, hb⟩; refine ⟨_, rfl, ?_⟩; replace HO_4 := kb HO_4 hb; replace HB := bh HB hb; (try clear hb); (try clear hb2); (try clear hk); (try clear hi)) | ((with_reducible refine gate_callee (f := 48) rfl ?_); refine goesL_ (some 30) rfl rfl Try.func48 (by kernel_rfl) rfl #[.slice A0 l0.length c0, .agg #[.int .u64 t306, .int .u64 t307]] rfl (by (try simp only [List.map_toArray, List.map_cons, List.map_nil]); first | done | rfl | (simp only [List.length_drop, List.length_take]; rfl)) ?_; (with_reducible refine (span_Solve.calls k1 _ _ l0 t306 t307 t308 true _ ?side1 ?side2 A8.out).mono ?_); (case side1 => repeat (first | exact (Kd.C_below HR0.out HB.out) | (with_reducible refine Kd.C_alloc ?_ _) | (with_reducible refine Kd.C_drewN ?_ _) | (with_reducible refine Kd.C_drew ?_))); (case side2 => exact HC0.out); rintro e w11 ⟨v309, rfl, ho0, hb⟩; refine ⟨_, rfl, ?_⟩; have HO310 := kw ho0 HB; replace HO_4 := kb HO_4 hb; replace HB := bh HB hb; (try clear hb); (try clear hb2); (try clear hk); (try clear hi); (try clear ho0)) | ((with_reducible refine gate_dst (N := 8) rfl ?_); refine box_event ?hg (N := 8) ?hd (cs := #[.int .u64 0, .int .u64 0]) (t := 24) ?hr ?_; (case hd => rfl); (case hg => rfl); (case hr => first | (go_simp; done) | (go_simp; rfl)); intro gb312 hg w12 hbox hb; have BK312 := Aside0.mk hbox; have GW312 := ge hg HB; have GE312 := ge hg HB; replace HO_4 := Aside0.mk (Kd.R_below (Kd.R_elderB (kr HO_4.out) gb312 (Nat.le_of_eq hg.symm)) hb); replace HO310 := kb HO310 hb; replace HB := bh HB hb; clear hb hbox hg; obtain ⟨Ao13, co13, eo13⟩ := Kd.R_slice HO310.out; subst eo13))
       go_loopg [37] k1 (fun kq v37 w' => ∃ (x37_2 : Int) (x313000_2 : Int) (x313001_2 : Int), v37 = .int .i64 x37_2 ∧ Aside0 (span_Back.l1 kq l0 x4_1 (l0.length : Int) x23_1 t308 (t308.length : Int) x37_2 x313000_2 x313001_2 = some (r1, r2)) ∧ Aside0 (kq ≤ k1) ∧ Aside0 (Kd.R k24 24 w' w.heap.size (fun k_ => k_ ≠ gb312) u4 x4_1) ∧ Aside0 (Kd.R Kd.bool 4 w' w.heap.size (fun _ => True) (.slice Ao13 t308.length co13) t308) ∧ Aside0 (w'.heap[gb312]? = some (.cells #[.int .u64 x313000_2, .int .u64 x313001_2] 24 (0, 0))) ∧ Aside0 (Below w.heap.size w w'))
       case atStart => exact ⟨(0), (0), (0), (by first | rfl | (simp; done) | (simp [*]; done)), H', ⟨Nat.le_refl _⟩, ⟨by (with_reducible repeat refine kl ?_); exact Kd.R_mono HO_4.out (fun _ hk => hk.2)⟩, ⟨kr HO310.out⟩, ⟨bk BK312.out⟩, ⟨bq HB.out⟩⟩
       case round =>
        clear H'
        try clear c2
        try clear c2b0
        try clear c2b1
        try clear p2
        try clear c4
        try clear c5
        try clear c6
        try clear c6b0
        try clear c9
        try clear p2
        obtain ⟨x37_2, x313000_2, x313001_2, rfl, HA, HK2, HO_4, HO_35, BK312, HB⟩ := hrel
        cases gk with
        | zero => exact absurd HA.out (by simp [span_Back.l1])
        | succ k2 =>
         have H := HA.out
         clear HA
         simp only [span_Back.l1] at H
         by_cases c14 : x37_2 < (t308.length : Int)
         ·rw [if_pos c14] at H
          have c14b0 : decide (x37_2 < (t308.length : Int)) = true := decide_eq_true c14
          clear c14
          by_cases c15 : 0 ≤ x37_2
          ·rw [if_pos c15] at H
           have c15b0 : decide (0 ≤ x37_2) = true := decide_eq_true c15
           clear c15
           by_cases c16 : x37_2 < (t308.length : Int)
           ·rw [if_pos c16] at H
            have c16b0 : decide (x37_2 < (t308.length : Int)) = true := decide_eq_true c16
            clear c16
            obtain ⟨bq17, hbq17⟩ : ∃ b_ : Bool, b_ = (rdOf false t308 x37_2) := ⟨_, rfl⟩
            replace H : (if bq17 = true then ((tower_Bit.f k2 x37_2).bind fun bt317 => ((tower_Add.f x313000_2 x313001_2 bt317.1 bt317.2).bind fun bt319 => (span_Back.l1 k2 l0 x4_1 (l0.length : Int) x23_1 t308 (t308.length : Int) (wrap64 (x37_2 + 1)) bt319.1 bt319.2))) else (span_Back.l1 k2 l0 x4_1 (l0.length : Int) x23_1 t308 (t308.length : Int) (wrap64 (x37_2 + 1)) x313000_2 x313001_2)) = some (r1, r2) := by rw [← hbq17] at H; exact H
            have Nbq17 := Aside0.mk hbq17
            clear hbq17
            by_cases c18 : bq17 = true
            ·subst c18
             have H1 : ((tower_Bit.f k2 x37_2).bind fun bt317 => ((tower_Add.f x313000_2 x313001_2 bt317.1 bt317.2).bind fun bt319 => (span_Back.l1 k2 l0 x4_1 (l0.length : Int) x23_1 t308 (t308.length : Int) (wrap64 (x37_2 + 1)) bt319.1 bt319.2))) = some (r1, r2) := by rw [if_pos rfl] at H; exact H
             clear H
             have H := H1
             clear H1
             replace H := Option.bind_eq_some_iff.mp H
             obtain ⟨⟨t317, t318⟩, A190, H⟩ := H
             replace H : ((tower_Add.f x313000_2 x313001_2 t317 t318).bind fun bt319 => (span_Back.l1 k2 l0 x4_1 (l0.length : Int) x23_1 t308 (t308.length : Int) (wrap64 (x37_2 + 1)) bt319.1 bt319.2)) = some (r1, r2) := H
             have A19 := Aside0.mk A190
             clear A190
             replace H := Option.bind_eq_some_iff.mp H
             obtain ⟨⟨t319, t320⟩, A200, H⟩ := H
             replace H : (span_Back.l1 k2 l0 x4_1 (l0.length : Int) x23_1 t308 (t308.length : Int) (wrap64 (x37_2 + 1)) t319 t320) = some (r1, r2) := H
             have A20 := Aside0.mk A200
             clear A200
             have H' := Aside0.mk H
             clear H
             have p316 : 0 ≤ (x37_2 : Int) := of_decide_eq_true (by first | (with_reducible assumption) | assumption)
             have q316 : x37_2 < (t308.length : Int) := of_decide_eq_true (by first | (with_reducible assumption) | assumption)
             (try (obtain ⟨Ap_, cp_, ep_⟩ := Kd.R_slice HO_35.out; subst ep_))
             obtain ⟨ad316, e316, hx316_0⟩ := Kd.at_bool (Kd.R_reads' HO_35.out).2.2 x37_2 p316 q316
             (try rw [← Nbq17.out] at hx316_0)
             cases e316
             replace p316 := eq_true p316
             replace q316 := eq_true q316
             try go_wp2
             replace HO_4 := Aside0.mk (Kd.R_drew HO_4.out)
             replace HO_35 := Aside0.mk (Kd.R_drew HO_35.out)
             replace BK312 := Aside0.mk (blk_drew BK312.out)
             replace HB := Aside0.mk (below_drew1 HB.out)
             refine start_ (n := 5) (S := fun w' => w'.cell? ⟨gb312, 0, none⟩ = some (.int .u64 x313000_2) ∧ w'.cell? ⟨gb312, 1, none⟩ = some (.int .u64 x313001_2)) (ds := [4]) #[false, false, false, false, false] (by kernel_rfl) rfl rfl ⟨(blk_cell BK312.out 0).trans rfl, (blk_cell BK312.out 1).trans rfl⟩ (fun hHeld => ?_)
             generalize wr.drew = w21 at HO_4 HO_35 BK312 HB hHeld ⊢
             refine pure_ (i := 1) (N := some 44) (v := ?_) (a' := ?_) #[false, true, false, false, false] rfl rfl (by kernel_rfl) (fun _ _ _ h => h) (Or.inl ⟨by rfl, ?_⟩) ?_ ?_
             rotate_left
             ·intro w'
              go_simp
              with_reducible rfl
             rotate_left
             ·simp only [Act.put, List.setIfInBounds_toArray, List.set_cons_zero, List.set_cons_succ, i64_w, i32_w]
              rfl
             refine take_ (i := 0) (N := some 43) (v := ?_) (a' := ?_) #[true, true, false, false, false] rfl rfl (by kernel_rfl) (fun _ _ _ h => h) (Or.inl ⟨by rfl, ?_⟩) hHeld ?_ ?_
             rotate_left
             ·rintro w' ⟨s0, s1⟩
              go_simp
              with_reducible rfl
             rotate_left
             ·simp only [Act.put, List.setIfInBounds_toArray, List.set_cons_zero, List.set_cons_succ, i64_w, i32_w]
              rfl
             refine one_ (i := 2) (N := some 45) #[true, true, true, false, false] rfl rfl (by kernel_rfl) (by decide) (fun K hK => ?_)
             refine goes_ Try.func47 (by kernel_rfl) rfl #[.int .i64 x37_2] (by rfl) rfl rfl (by (try simp only [List.map_toArray, List.map_cons, List.map_nil]); first | done | rfl | (simp only [List.length_drop, List.length_take]; rfl)) ?_
             with_reducible refine (tower_Bit.calls k2 x37_2 t317 t318 _ A19.out).mono ?_
             rintro e w22 ⟨rfl, hb⟩
             refine ⟨_, rfl, ?_⟩
             replace HO_4 := kb HO_4 hb
             replace HO_35 := kb HO_35 hb
             replace BK312 := bb BK312 hb
             replace HB := bh HB hb
             (try clear hb)
             (try clear hb2)
             (try clear hk)
             (try clear hi)
             refine hK.out _ _ ⟨(blk_cell BK312.out 0).trans rfl, (blk_cell BK312.out 1).trans rfl⟩ (fun hHeld => ?_)
             clear hK K
             refine norm_ (a' := ?_) ?_ ?_
             rotate_left
             ·show Act.put _ (some 45) _ = _
              simp only [Act.put, List.setIfInBounds_toArray, List.set_cons_zero, List.set_cons_succ, i64_w, i32_w]
              rfl
             refine one_ (i := 3) (N := some 46) #[true, true, true, true, false] rfl rfl (by kernel_rfl) (by decide) (fun K hK => ?_)
             refine goes_ Try.func12 (by kernel_rfl) rfl #[.agg #[.int .u64 x313000_2, .int .u64 x313001_2], .agg #[.int .u64 t317, .int .u64 t318]] (by rfl) rfl rfl (by (try simp only [List.map_toArray, List.map_cons, List.map_nil]); first | done | rfl | (simp only [List.length_drop, List.length_take]; rfl)) ?_
             with_reducible refine (tower_Add.calls x313000_2 x313001_2 t317 t318 t319 t320 _ A20.out).mono ?_
             rintro e w23 ⟨rfl, hb⟩
             refine ⟨_, rfl, ?_⟩
             replace HO_4 := kb HO_4 hb
             replace HO_35 := kb HO_35 hb
             replace BK312 := bb BK312 hb
             replace HB := bh HB hb
             (try clear hb)
             (try clear hb2)
             (try clear hk)
             (try clear hi)
             refine hK.out _ _ ⟨(blk_cell BK312.out 0).trans rfl, (blk_cell BK312.out 1).trans rfl⟩ (fun hHeld => ?_)
             clear hK K
             refine norm_ (a' := ?_) ?_ ?_
             rotate_left
             ·show Act.put _ (some 46) _ = _
              simp only [Act.put, List.setIfInBounds_toArray, List.set_cons_zero, List.set_cons_succ, i64_w, i32_w]
              rfl
             refine last_ (i := 4) (N := none) #[true, true, true, true, true] rfl rfl (by kernel_rfl) (by decide) (fun K hK => ?_)
             have hs24 : w23.cell? ⟨gb312, 0, none⟩ = some (.int .u64 x313000_2) := (blk_cell BK312.out 0).trans rfl
             have hfs24 := blk_frozen BK312.out 0
             have hs25 : w23.cell? ⟨gb312, 1, none⟩ = some (.int .u64 x313001_2) := (blk_cell BK312.out 1).trans rfl
             have hfs25 := blk_frozen BK312.out 1
             refine skip_ (w1 := ?_) (by rfl) rfl ?_ ?_
             rotate_left
             ·go_simp
              rfl
             refine hK.out _ _ ?_
             clear hK K
             refine done_ (by kernel_rfl) ?_
             try go_wp2
             go_roundg k2
             case measure => have := HK1.out; have := HK2.out; omega
             case rel => exact ⟨(wrap64 (x37_2 + 1)), (t319), (t320), (by first | rfl | (simp; done) | (simp [*]; done)), H', ⟨by have := HK1.out; have := HK2.out; omega⟩, ⟨by (with_reducible repeat refine kl ?_); exact Kd.R_mono (Kd.R_far (p := ⟨gb312, 1, none⟩) (Kd.R_far (p := ⟨gb312, 0, none⟩) (Kd.R_mono HO_4.out (fun k_ hk => (⟨hk, hk⟩ : _ ∧ k_ ≠ gb312))) (fun _ hk => hk.2) (.int .u64 t319)) (fun _ hk => hk.2) (.int .u64 t320)) (fun _ hk => hk.1)⟩, ⟨by (with_reducible repeat refine kl ?_); exact Kd.R_mono (Kd.R_far (p := ⟨gb312, 1, none⟩) (Kd.R_far (p := ⟨gb312, 0, none⟩) (Kd.R_types HO_35.out BK312.out (by decide)) (fun _ hk => hk.2) (.int .u64 t319)) (fun _ hk => hk.2) (.int .u64 t320)) (fun _ hk => trivial)⟩, ⟨by (with_reducible repeat refine bl ?_); refine blk_put (cs := #[.int .u64 t319, .int .u64 x313001_2]) ?_ 1 _ rfl; (with_reducible repeat refine bl ?_); refine blk_put (cs := #[.int .u64 x313000_2, .int .u64 x313001_2]) ?_ 0 _ rfl; (with_reducible repeat refine bl ?_); exact BK312.out⟩, ⟨bq HB.out⟩⟩
            ·replace c18 := Bool.eq_false_iff.mpr c18
             subst c18
             have H1 : (span_Back.l1 k2 l0 x4_1 (l0.length : Int) x23_1 t308 (t308.length : Int) (wrap64 (x37_2 + 1)) x313000_2 x313001_2) = some (r1, r2) := by rw [if_neg (show ¬ (false = true) by decide)] at H; exact H
             clear H
             have H := H1
             clear H1
             have H' := Aside0.mk H
             clear H
             have p316 : 0 ≤ (x37_2 : Int) := of_decide_eq_true (by first | (with_reducible assumption) | assumption)
             have q316 : x37_2 < (t308.length : Int) := of_decide_eq_true (by first | (with_reducible assumption) | assumption)
             (try (obtain ⟨Ap_, cp_, ep_⟩ := Kd.R_slice HO_35.out; subst ep_))
             obtain ⟨ad316, e316, hx316_0⟩ := Kd.at_bool (Kd.R_reads' HO_35.out).2.2 x37_2 p316 q316
             (try rw [← Nbq17.out] at hx316_0)
             cases e316
             replace p316 := eq_true p316
             replace q316 := eq_true q316
             go_wp2
             go_roundg k2
             case measure => have := HK1.out; have := HK2.out; omega
             case rel => exact ⟨(wrap64 (x37_2 + 1)), (x313000_2), (x313001_2), (by first | rfl | (simp; done) | (simp [*]; done)), H', ⟨by have := HK1.out; have := HK2.out; omega⟩, ⟨kr HO_4.out⟩, ⟨kr HO_35.out⟩, ⟨bk BK312.out⟩, ⟨bq HB.out⟩⟩
           ·rw [if_neg c16] at H
            exact absurd H (by simp)
          ·rw [if_neg c15] at H
           exact absurd H (by simp)
         ·rw [if_neg c14] at H
          have c14b0 : decide (x37_2 < (t308.length : Int)) = false := decide_eq_false c14
          clear c14
          by_cases c26 : x4_1.length < 8796093022208
          ·rw [if_pos c26] at H
           have LMc26 := Aside0.mk c26
           clear c26
           obtain ⟨y313, hy313⟩ : ∃ y_ : List (S24), y_ = (x4_1 ++ [(⟨x313000_2, x313001_2⟩ : S24)]) := ⟨_, rfl⟩
           replace H : (span_Back.l0 k2 l0 y313 (l0.length : Int) (wrap64 (x23_1 + 1))) = some (r1, r2) := by first | (rw [hy313]; with_reducible exact H) | (have H2_ := (Option.bind_some _ _).symm.trans H; rw [hy313]; with_reducible exact H2_) | (have H2_ := (Option.bind_some _ _).symm.trans H; with_reducible exact H2_) | with_reducible exact H | (rw [hy313]; exact H) | exact H
           have Ny313 := Aside0.mk hy313
           clear hy313
           have H' := Aside0.mk H
           clear H
           obtain ⟨hcz27_0, hcz27_1⟩ := zc2 BK312
           obtain ⟨hfz27_0, hfz27_1⟩ := zf2 BK312
           go_wp2_with (first | ((with_reducible refine gate_builtin (b := .append) (xs := #[.tmp 48, .tmp 50]) rfl ?_); at_builtin; refine Kd.R_append k24 (w0 := w) w.heap.size rfl (.tmp 48) (.tmp 50) 48 24 (.agg #[(.int .u64 0), (.int .u64 0)]) 16 rfl Try.underlying48 info24 rfl (by decide) (by omega) u4 x4_1 (⟨x313000_2, x313001_2⟩ : S24) [.int .u64 x313000_2, .int .u64 x313001_2] (fun k_ => k_ ≠ gb312) (fun _ => False) rfl rfl ?aP (fun _ hk => hk.elim) ?aF ?aO ?aB ?aS ?aL ?_; (case aP => exact k24_mkM _ _ _ (⟨x313000_2, x313001_2⟩ : S24)); (case aB => exact (bq HB.out)); (case aF => exact (fun k_ hk => Kd.freshB (g := gb312) (o := .cells #[.int .u64 x313000_2, .int .u64 x313001_2] 24 (0, 0)) (bk BK312.out) k_ hk)); (case aO => exact (kr HO_4.out)); (case aS => exact (below_size (bq HB.out))); (case aL => have := LMc26.out; omega); intro v314 w28 ho hb hg hat; rw [← Ny313.out] at ho; have HO315 := Aside0.mk ho; replace HO_35 := Aside0.mk (Kd.R_over' (kr HO_35.out) (Kd.R_typed (kr HO_4.out)) (by decide) hg); replace BK312 := Aside0.mk (blk_grown (g := gb312) (o := .cells #[.int .u64 x313000_2, .int .u64 x313001_2] 24 (0, 0)) (bk BK312.out) hg (Kd.R_away HO_4.out (fun _ hk => hk))); replace HB := Aside0.mk hb; clear HO_4; clear ho hb hg hat))
           go_roundg k2
           case measure => have := HK1.out; have := HK2.out; omega
           case rel => exact ⟨(y313), (wrap64 (x23_1 + 1)), (by first | rfl | (simp; done) | (simp [*]; done)), H', ⟨by have := HK1.out; have := HK2.out; omega⟩, ⟨by (with_reducible repeat refine kl ?_); exact Kd.R_mono HO315.out (fun _ hk => trivial)⟩, ⟨bq HB.out⟩⟩
          ·rw [if_neg c26] at H
           exact absurd H (by simp)
      ·replace c9 := Bool.eq_false_iff.mpr c9
       subst c9
       have H1 : (some (([] : List (S24)), 7)) = some (r1, r2) := by rw [if_neg (show ¬ (false = true) by decide)] at H; exact H
       clear H
       have H := H1
       clear H1
       simp only [Option.some.injEq, Prod.mk.injEq] at H
       obtain ⟨rfl, rfl⟩ := H
       go_wp2_with (first | ((with_reducible refine gate_callee (f := 47) rfl ?_); refine goesL_ (some 29) rfl rfl Try.func47 (by kernel_rfl) rfl #[.int .i64 x23_1] rfl (by (try simp only [List.map_toArray, List.map_cons, List.map_nil]); first | done | rfl | (simp only [List.length_drop, List.length_take]; rfl)) ?_; (with_reducible refine (tower_Bit.calls k1 x23_1 t306 t307 _ A7.out).mono ?_); rintro e w29 ⟨rfl, hb⟩; refine ⟨_, rfl, ?_⟩; replace HO_4 := kb HO_4 hb; replace HB := bh HB hb; (try clear hb); (try clear hb2); (try clear hk); (try clear hi)) | ((with_reducible refine gate_callee (f := 48) rfl ?_); refine goesL_ (some 30) rfl rfl Try.func48 (by kernel_rfl) rfl #[.slice A0 l0.length c0, .agg #[.int .u64 t306, .int .u64 t307]] rfl (by (try simp only [List.map_toArray, List.map_cons, List.map_nil]); first | done | rfl | (simp only [List.length_drop, List.length_take]; rfl)) ?_; (with_reducible refine (span_Solve.calls k1 _ _ l0 t306 t307 t308 false _ ?side1 ?side2 A8.out).mono ?_); (case side1 => repeat (first | exact (Kd.C_below HR0.out HB.out) | (with_reducible refine Kd.C_alloc ?_ _) | (with_reducible refine Kd.C_drewN ?_ _) | (with_reducible refine Kd.C_drew ?_))); (case side2 => exact HC0.out); rintro e w30 ⟨v309, rfl, ho0, hb⟩; refine ⟨_, rfl, ?_⟩; have HO310 := kw ho0 HB; replace HO_4 := kb HO_4 hb; replace HB := bh HB hb; (try clear hb); (try clear hb2); (try clear hk); (try clear hi); (try clear ho0)))
       go_ret2
       exact ⟨_, by first | rfl | (simp [errW_none, errW_some] <;> rfl) | (simp [*, errW_none, errW_some] <;> rfl), by first | exact Kd.R_nil _ _ _ _ _ | exact Kd.N_nil _ _ _ _ _ | exact Kd.V_nil _ _ _ _ _ | exact Kd.Q_nil _ _ _ _ _ | exact Kd.S_nil _ _ _ _ _, bq HB.out⟩
     ·rw [if_neg c6] at H
      have c6b0 : decide (x23_1 < (l0.length : Int)) = false := decide_eq_false c6
      clear c6
      simp only [Option.some.injEq, Prod.mk.injEq] at H
      obtain ⟨rfl, rfl⟩ := H
      go_wp2
      go_ret2
      exact ⟨_, by first | rfl | (simp [errW_none, errW_some] <;> rfl) | (simp [*, errW_none, errW_some] <;> rfl), by (with_reducible repeat refine kl ?_); exact HO_4.out, bq HB.out⟩
  ·replace c4 := Bool.eq_false_iff.mpr c4
   subst c4
   have H1 : (some (([] : List (S24)), 6)) = some (r1, r2) := by rw [if_neg (show ¬ (false = true) by decide)] at H; exact H
   clear H
   have H := H1
   clear H1
   simp only [Option.some.injEq, Prod.mk.injEq] at H
   obtain ⟨rfl, rfl⟩ := H
   go_enter Try.func50, Try.ntmps50
   go_wp2_with (first | ((with_reducible refine gate_callee (f := 61) rfl ?_); refine goesL_ (some 19) rfl rfl Try.func61 (by kernel_rfl) rfl #[.slice A0 l0.length c0, .int .i64 (l0.length : Int)] rfl (by (try simp only [List.map_toArray, List.map_cons, List.map_nil]); first | done | rfl | (simp only [List.length_drop, List.length_take]; rfl)) ?_; (with_reducible refine (span_within.calls k _ _ l0 (l0.length : Int) false _ ?side1 ?side2 A3.out).mono ?_); (case side1 => repeat (first | exact HR0.out | (with_reducible refine Kd.C_alloc ?_ _) | (with_reducible refine Kd.C_drewN ?_ _) | (with_reducible refine Kd.C_drew ?_))); (case side2 => exact HC0.out); rintro e w31 ⟨rfl, hb⟩; refine ⟨_, rfl, ?_⟩; replace HB := bh HB hb; (try clear hb); (try clear hb2); (try clear hk); (try clear hi)))
   go_ret2
   exact ⟨_, by first | rfl | (simp [errW_none, errW_some] <;> rfl) | (simp [*, errW_none, errW_some] <;> rfl), by first | exact Kd.R_nil _ _ _ _ _ | exact Kd.N_nil _ _ _ _ _ | exact Kd.V_nil _ _ _ _ _ | exact Kd.Q_nil _ _ _ _ _ | exact Kd.S_nil _ _ _ _ _, bq HB.out⟩

/-! ### frob_Dual: function 34 -/
mutual
def frob_Dual.l0 : Nat → Int → Int → List (S24) → Int → Int → Option ((List (S24)))
 | 0, _, _, _, _, _ => none
 | k + 1, x0, x3, x4, x16, x17 => if x17 < x16 then (frob_Dual.l1 k x0 x3 x4 x17 x16 x17 x3 0) else ((span_Back.f k x4).bind fun bt325 => (some bt325.1))
def frob_Dual.l1 : Nat → Int → Int → List (S24) → Int → Int → Int → Int → Int → Option ((List (S24)))
 | 0, _, _, _, _, _, _, _, _ => none
 | k + 1, x0, x3, x4, x5, x16, x17, x20, x21 => if x21 < x20 then ((tower_Bit.f k x5).bind fun bt329 => ((tower_Bit.f k x21).bind fun bt331 => ((tower_Mul.f k x0 bt329.1 bt329.2 bt331.1 bt331.2).bind fun bt333 => ((frob_Trace.f k x0 0 bt333.1 bt333.2).bind fun bt335 => ((tower_One.f).bind fun bt337 => (if (bt335.1 == bt337.1 && (bt335.2 == bt337.2)) = true then (if 0 ≤ x21 then (if x21 < (x4.length : Int) then ((tower_Bit.f k x5).bind fun bt340 => ((tower_Add.f ((rd_T24 x4 x21).f0) ((rd_T24 x4 x21).f1) bt340.1 bt340.2).bind fun bt342 => (frob_Dual.l1 k x0 x3 (x4.set (x21 : Int).toNat (⟨bt342.1, bt342.2⟩ : S24)) x5 x16 x17 x20 (wrap64 (x21 + 1))))) else (none)) else (none)) else (frob_Dual.l1 k x0 x3 x4 x5 x16 x17 x20 (wrap64 (x21 + 1))))))))) else (frob_Dual.l0 k x0 x3 x4 x16 (wrap64 (x17 + 1)))
end
def frob_Dual.f (k : Nat) (a0 : Int) : Option ((List (S24))) := (octet_Wide.f k a0).bind fun t321 => (if t321 = 0 then (some ([] : List (S24))) else (if 0 ≤ a0 then (if 0 ≤ (shl .i64 1 a0) then (if (shl .i64 1 a0 : Int).toNat ≤ 17592186044416 then (frob_Dual.l0 k a0 (shl .i64 1 a0) (List.replicate (shl .i64 1 a0 : Int).toNat z24) (shl .i64 1 a0) 0) else (none)) else (none)) else (none)))
theorem frob_Dual.mono_l : ∀ k, (∀ y0 y1 y2 y3 y4, LeO (frob_Dual.l0 k y0 y1 y2 y3 y4) (frob_Dual.l0 (k + 1) y0 y1 y2 y3 y4)) ∧ (∀ y0 y1 y2 y3 y4 y5 y6 y7, LeO (frob_Dual.l1 k y0 y1 y2 y3 y4 y5 y6 y7) (frob_Dual.l1 (k + 1) y0 y1 y2 y3 y4 y5 y6 y7))
 | 0 => ⟨fun _ _ _ _ _ r h => by simp [frob_Dual.l0] at h, fun _ _ _ _ _ _ _ _ r h => by simp [frob_Dual.l1] at h⟩
 | k + 1 => by
  obtain ⟨ih0, ih1⟩ := frob_Dual.mono_l k
  refine ⟨?_, ?_⟩
  ·intro y0 y1 y2 y3 y4
   unfold frob_Dual.l0
   repeat' first
   | (with_reducible exact ih0 _ _ _ _ _)
   | (with_reducible exact ih1 _ _ _ _ _ _ _ _)
   | (with_reducible exact frob_Trace.mono _ _ _ _ _)
   | (with_reducible exact octet_Wide.mono _ _)
   | (with_reducible exact span_Back.mono _ _)
   | (with_reducible exact tower_Bit.mono _ _)
   | (with_reducible exact tower_Mul.mono _ _ _ _ _ _)
   | (with_reducible exact LeO.refl _)
   | (with_reducible exact LeO.none _)
   | (with_reducible refine LeO.ite ?_ ?_)
   | (with_reducible refine LeO.bind ?_ (fun _ => ?_))
   | exact ih0 _ _ _ _ _
   | exact ih1 _ _ _ _ _ _ _ _
   | exact frob_Trace.mono _ _ _ _ _
   | exact octet_Wide.mono _ _
   | exact span_Back.mono _ _
   | exact tower_Bit.mono _ _
   | exact tower_Mul.mono _ _ _ _ _ _
   | exact LeO.none _
   | refine LeO.ite ?_ ?_
   | refine LeO.bind ?_ (fun _ => ?_)
  ·intro y0 y1 y2 y3 y4 y5 y6 y7
   unfold frob_Dual.l1
   repeat' first
   | (with_reducible exact ih0 _ _ _ _ _)
   | (with_reducible exact ih1 _ _ _ _ _ _ _ _)
   | (with_reducible exact frob_Trace.mono _ _ _ _ _)
   | (with_reducible exact octet_Wide.mono _ _)
   | (with_reducible exact span_Back.mono _ _)
   | (with_reducible exact tower_Bit.mono _ _)
   | (with_reducible exact tower_Mul.mono _ _ _ _ _ _)
   | (with_reducible exact LeO.refl _)
   | (with_reducible exact LeO.none _)
   | (with_reducible refine LeO.ite ?_ ?_)
   | (with_reducible refine LeO.bind ?_ (fun _ => ?_))
   | exact ih0 _ _ _ _ _
   | exact ih1 _ _ _ _ _ _ _ _
   | exact frob_Trace.mono _ _ _ _ _
   | exact octet_Wide.mono _ _
   | exact span_Back.mono _ _
   | exact tower_Bit.mono _ _
   | exact tower_Mul.mono _ _ _ _ _ _
   | exact LeO.none _
   | refine LeO.ite ?_ ?_
   | refine LeO.bind ?_ (fun _ => ?_)
theorem frob_Dual.mono : ∀ a0 k, LeO (frob_Dual.f k a0) (frob_Dual.f (k + 1) a0) := by
 intro a0 k
 obtain ⟨ih0, ih1⟩ := frob_Dual.mono_l k
 unfold frob_Dual.f
 repeat' first
   | (with_reducible exact ih0 _ _ _ _ _)
   | (with_reducible exact ih1 _ _ _ _ _ _ _ _)
   | (with_reducible exact frob_Trace.mono _ _ _ _ _)
   | (with_reducible exact octet_Wide.mono _ _)
   | (with_reducible exact span_Back.mono _ _)
   | (with_reducible exact tower_Bit.mono _ _)
   | (with_reducible exact tower_Mul.mono _ _ _ _ _ _)
   | (with_reducible exact LeO.refl _)
   | (with_reducible exact LeO.none _)
   | (with_reducible refine LeO.ite ?_ ?_)
   | (with_reducible refine LeO.bind ?_ (fun _ => ?_))
   | exact ih0 _ _ _ _ _
   | exact ih1 _ _ _ _ _ _ _ _
   | exact frob_Trace.mono _ _ _ _ _
   | exact octet_Wide.mono _ _
   | exact span_Back.mono _ _
   | exact tower_Bit.mono _ _
   | exact tower_Mul.mono _ _ _ _ _ _
   | exact LeO.none _
   | refine LeO.ite ?_ ?_
   | refine LeO.bind ?_ (fun _ => ?_)
def frob_Dual.T12 : Bool × List (List Nat × List Nat) := (true, [([], []), ([], []), ([], []), ([], []), ([2, 3], [2, 3]), ([4], [4]), ([], []), ([6], [6]), ([5, 7, 7], [5, 7]), ([0, 1, 0, 1, 2, 3, 4, 5, 6, 7, 8], [0, 1]), ([9, 8, 8, 0, 1, 2, 3, 4, 5, 6, 7, 8], [8, 9])])
def frob_Dual.B12 : List Nat := [0, 0, 0, 0, 12, 28, 0, 64, 252, 511, 1023]
theorem frob_Dual.tab12 : rtab .any (opsOf Try.f34 12) = frob_Dual.T12 := by kernel_rfl
theorem frob_Dual.bits12 : waitsOk frob_Dual.T12.2 frob_Dual.B12 = true := by kernel_rfl
set_option maxHeartbeats 8000000 in
set_option maxRecDepth 100000 in
theorem frob_Dual.calls (k : Nat) (a0 : Int) (r : List (S24)) (w : World) (h : frob_Dual.f k a0 = some r) :
  Calls Try.prog 34 #[.int .i64 a0] w fun e w' => ∃ v0_ : Value, e = .returned (v0_) ∧ Kd.R k24 24 w' w.heap.size (fun _ => True) v0_ r ∧ Below w.heap.size w w' := by
 have hu24 := Try.underlying24
 have HB := Aside0.mk (Below.refl w.heap.size w)
 have H : ((octet_Wide.f k a0).bind fun t321 => (if t321 = 0 then (some ([] : List (S24))) else (if 0 ≤ a0 then (if 0 ≤ (shl .i64 1 a0) then (if (shl .i64 1 a0 : Int).toNat ≤ 17592186044416 then (frob_Dual.l0 k a0 (shl .i64 1 a0) (List.replicate (shl .i64 1 a0 : Int).toNat z24) (shl .i64 1 a0) 0) else (none)) else (none)) else (none)))) = some r := h
 clear h
 replace H := Option.bind_eq_some_iff.mp H
 obtain ⟨t321, A20, H⟩ := H
 replace H : (if t321 = 0 then (some ([] : List (S24))) else (if 0 ≤ a0 then (if 0 ≤ (shl .i64 1 a0) then (if (shl .i64 1 a0 : Int).toNat ≤ 17592186044416 then (frob_Dual.l0 k a0 (shl .i64 1 a0) (List.replicate (shl .i64 1 a0 : Int).toNat z24) (shl .i64 1 a0) 0) else (none)) else (none)) else (none))) = some r := H
 have A2 := Aside0.mk A20
 clear A20
 by_cases c3 : t321 = 0
 ·rw [if_pos c3] at H
  have c3b0 : (t321 == 0) = true := beq_iff_eq.mpr c3
  have c3b1 : (t321 != 0) = false := bne_eq_false_iff_eq.mpr c3
  clear c3
  obtain rfl := Option.some.inj H
  go_enter Try.func34, Try.ntmps34
  go_wp2_with (first | ((with_reducible refine gate_callee (f := 49) rfl ?_); refine goesL_ (some 10) rfl rfl Try.func49 (by kernel_rfl) rfl #[.int .i64 a0] rfl (by (try simp only [List.map_toArray, List.map_cons, List.map_nil]); first | done | rfl | (simp only [List.length_drop, List.length_take]; rfl)) ?_; (with_reducible refine (octet_Wide.calls k a0 t321 _ A2.out).mono ?_); rintro e w' ⟨rfl, ⟨nd, rfl⟩⟩; refine ⟨_, rfl, ?_⟩))
  go_ret
  exact ⟨_, by first | rfl | (simp [errW_none, errW_some] <;> rfl) | (simp [*, errW_none, errW_some] <;> rfl), by first | exact Kd.R_nil _ _ _ _ _ | exact Kd.N_nil _ _ _ _ _ | exact Kd.V_nil _ _ _ _ _ | exact Kd.Q_nil _ _ _ _ _ | exact Kd.S_nil _ _ _ _ _, bq HB.out⟩
 ·rw [if_neg c3] at H
  have c3b0 : (t321 == 0) = false := beq_eq_false_iff_ne.mpr c3
  have c3b1 : (t321 != 0) = true := bne_iff_ne.mpr c3
  by_cases c4 : 0 ≤ a0
  ·rw [if_pos c4] at H
   have c4b0 := eq_true c4
   have c4b1 : decide (0 ≤ a0) = true := decide_eq_true c4
   clear c4
   obtain ⟨ji5, hji5⟩ : ∃ j_ : Int, (shl .i64 1 a0) = j_ := ⟨_, rfl⟩
   replace H : (if 0 ≤ (ji5) then (if (ji5 : Int).toNat ≤ 17592186044416 then (frob_Dual.l0 k a0 ji5 (List.replicate (ji5 : Int).toNat z24) ji5 0) else (none)) else (none)) = some r := by first | (rw [hji5] at H; exact H) | (simp only [hji5] at H ⊢; exact H)
   (try rw [hji5] at A2)
   have hji5_ : (IntKind.i64.wrap (1 * 2 ^ min a0.toNat 64)) = ji5 := hji5
   have hji5z : a0 ≤ 64 → (IntKind.i64.wrap (1 * 2 ^ a0.toNat)) = ji5 := shl_small hji5
   have hji5u : (IntKind.i64.wrap (2 ^ min a0.toNat 64)) = ji5 := by have h_ := hji5_; rw [Int.one_mul] at h_; exact h_
   have hji5v : a0 ≤ 64 → (IntKind.i64.wrap (2 ^ a0.toNat)) = ji5 := fun hle_ => by have h_ := hji5z hle_; rw [Int.one_mul] at h_; exact h_
   have hji5y : (wrap64 (1 * 2 ^ min a0.toNat 64)) = ji5 := (i64_w _).symm.trans hji5_
   have hji5x : a0 ≤ 64 → (wrap64 (1 * 2 ^ a0.toNat)) = ji5 := fun h_ => (i64_w _).symm.trans (hji5z h_)
   by_cases c6 : 0 ≤ (ji5)
   ·rw [if_pos c6] at H
    have c6b0 := eq_true c6
    have c6b1 : decide (0 ≤ (ji5)) = true := decide_eq_true c6
    clear c6
    by_cases c7 : (ji5 : Int).toNat ≤ 17592186044416
    ·rw [if_pos c7] at H
     have c7b0 := eq_true c7
     have c7b1 : decide ((ji5 : Int).toNat ≤ 17592186044416) = true := decide_eq_true c7
     clear c7
     obtain ⟨y322, hy322⟩ : ∃ y_ : List (S24), y_ = (List.replicate (ji5 : Int).toNat z24) := ⟨_, rfl⟩
     replace H : (frob_Dual.l0 k a0 ji5 y322 ji5 0) = some r := by first | (rw [hy322]; with_reducible exact H) | (have H2_ := (Option.bind_some _ _).symm.trans H; rw [hy322]; with_reducible exact H2_) | (have H2_ := (Option.bind_some _ _).symm.trans H; with_reducible exact H2_) | with_reducible exact H | (rw [hy322]; exact H) | exact H
     have Ny322 := Aside0.mk hy322
     clear hy322
     have H' := Aside0.mk H
     clear H
     go_enter Try.func34, Try.ntmps34
     go_wp2_with (first | ((with_reducible refine gate_callee (f := 49) rfl ?_); refine goesL_ (some 10) rfl rfl Try.func49 (by kernel_rfl) rfl #[.int .i64 a0] rfl (by (try simp only [List.map_toArray, List.map_cons, List.map_nil]); first | done | rfl | (simp only [List.length_drop, List.length_take]; rfl)) ?_; (with_reducible refine (octet_Wide.calls k a0 t321 _ A2.out).mono ?_); rintro e w' ⟨rfl, ⟨nd, rfl⟩⟩; refine ⟨_, rfl, ?_⟩) | ((with_reducible refine gate_dst (N := 15) rfl ?_); refine Kd.R_make k24 _ 24 rfl (N := 15) rfl 48 _ _ rfl ji5 rfl rfl Try.underlying48 (.agg #[(.int .u64 0), (.int .u64 0)]) 16 info24 rfl (by decide) (by omega) z24 (ok := fun _ => True) (okp := fun _ => True) (k24_mkM _ _ _ z24 ) (fun _ hk => hk) trivial (of_decide_eq_true (by first | (with_reducible assumption) | assumption)) (Nat.le_trans (Nat.mul_le_mul_right _ (of_decide_eq_true (by first | (with_reducible assumption) | assumption) : ji5.toNat ≤ 17592186044416)) (by omega)) (Below.refl _ _) (Nat.le_refl _) ?_; intro v323 w8 ho9 hb hg_ hnew_; clear hg_ hnew_; (first | rw [← Ny322.out] at ho9 | (simp only [Int.reduceToNat] at ho9; rw [← Ny322.out] at ho9)); have HO324 := kw ho9 HB; replace HB := bh HB hb; clear hb ho9))
     go_loopg [17] k (fun kq v17 w' => ∃ (x4_1 : List (S24)) (x17_1 : Int), v17 = .int .i64 x17_1 ∧ Aside0 (frob_Dual.l0 kq a0 ji5 x4_1 ji5 x17_1 = some r) ∧ Aside0 (kq ≤ k) ∧ Aside0 (Kd.R k24 24 w' w.heap.size (fun _ => True) v323 x4_1) ∧ Aside0 (Below w.heap.size w w'))
     case atStart => exact ⟨(y322), (0), (by first | rfl | (simp; done) | (simp [*]; done)), H', ⟨Nat.le_refl _⟩, ⟨kr HO324.out⟩, ⟨bq HB.out⟩⟩
     case round =>
      clear H'
      try clear p2
      try clear c3
      try clear c3b0
      try clear c3b1
      try clear c4
      try clear c4b0
      try clear c4b1
      try clear c6
      try clear c6b0
      try clear c6b1
      try clear p6
      try clear c7
      try clear c7b0
      try clear c7b1
      obtain ⟨x4_1, x17_1, rfl, HA, HK1, HO_4, HB⟩ := hrel
      cases gk with
      | zero => exact absurd HA.out (by simp [frob_Dual.l0])
      | succ k1 =>
       have H := HA.out
       clear HA
       simp only [frob_Dual.l0] at H
       by_cases c10 : x17_1 < ji5
       ·rw [if_pos c10] at H
        have c10b0 : decide (x17_1 < ji5) = true := decide_eq_true c10
        clear c10
        have H' := Aside0.mk H
        clear H
        go_wp2
        go_loopg [21] k1 (fun kq v21 w' => ∃ (x4_2 : List (S24)) (x21_2 : Int), v21 = .int .i64 x21_2 ∧ Aside0 (frob_Dual.l1 kq a0 ji5 x4_2 x17_1 ji5 x17_1 ji5 x21_2 = some r) ∧ Aside0 (kq ≤ k1) ∧ Aside0 (Kd.R k24 24 w' w.heap.size (fun _ => True) v323 x4_2) ∧ Aside0 (Below w.heap.size w w'))
        case atStart => exact ⟨(x4_1), (0), (by first | rfl | (simp; done) | (simp [*]; done)), H', ⟨Nat.le_refl _⟩, ⟨kr HO_4.out⟩, ⟨bq HB.out⟩⟩
        case round =>
         clear H'
         try clear c1
         try clear p2
         try clear c3
         try clear c3b0
         try clear c3b1
         try clear c4
         try clear c4b0
         try clear c4b1
         try clear c6
         try clear c6b0
         try clear c6b1
         try clear p6
         try clear c7
         try clear c7b0
         try clear c7b1
         try clear c10
         try clear c10b0
         try clear p2
         try clear p6
         obtain ⟨x4_2, x21_2, rfl, HA, HK2, HO_4, HB⟩ := hrel
         cases gk with
         | zero => exact absurd HA.out (by simp [frob_Dual.l1])
         | succ k2 =>
          have H := HA.out
          clear HA
          simp only [frob_Dual.l1] at H
          by_cases c11 : x21_2 < ji5
          ·rw [if_pos c11] at H
           have c11b0 : decide (x21_2 < ji5) = true := decide_eq_true c11
           clear c11
           replace H := Option.bind_eq_some_iff.mp H
           obtain ⟨⟨t329, t330⟩, A120, H⟩ := H
           replace H : ((tower_Bit.f k2 x21_2).bind fun bt331 => ((tower_Mul.f k2 a0 t329 t330 bt331.1 bt331.2).bind fun bt333 => ((frob_Trace.f k2 a0 0 bt333.1 bt333.2).bind fun bt335 => ((tower_One.f).bind fun bt337 => (if (bt335.1 == bt337.1 && (bt335.2 == bt337.2)) = true then (if 0 ≤ x21_2 then (if x21_2 < (x4_2.length : Int) then ((tower_Bit.f k2 x17_1).bind fun bt340 => ((tower_Add.f ((rd_T24 x4_2 x21_2).f0) ((rd_T24 x4_2 x21_2).f1) bt340.1 bt340.2).bind fun bt342 => (frob_Dual.l1 k2 a0 ji5 (x4_2.set (x21_2 : Int).toNat (⟨bt342.1, bt342.2⟩ : S24)) x17_1 ji5 x17_1 ji5 (wrap64 (x21_2 + 1))))) else (none)) else (none)) else (frob_Dual.l1 k2 a0 ji5 x4_2 x17_1 ji5 x17_1 ji5 (wrap64 (x21_2 + 1)))))))) = some r := H
           have A12 := Aside0.mk A120
           clear A120
           replace H := Option.bind_eq_some_iff.mp H
           obtain ⟨⟨t331, t332⟩, A130, H⟩ := H
           replace H : ((tower_Mul.f k2 a0 t329 t330 t331 t332).bind fun bt333 => ((frob_Trace.f k2 a0 0 bt333.1 bt333.2).bind fun bt335 => ((tower_One.f).bind fun bt337 => (if (bt335.1 == bt337.1 && (bt335.2 == bt337.2)) = true then (if 0 ≤ x21_2 then (if x21_2 < (x4_2.length : Int) then ((tower_Bit.f k2 x17_1).bind fun bt340 => ((tower_Add.f ((rd_T24 x4_2 x21_2).f0) ((rd_T24 x4_2 x21_2).f1) bt340.1 bt340.2).bind fun bt342 => (frob_Dual.l1 k2 a0 ji5 (x4_2.set (x21_2 : Int).toNat (⟨bt342.1, bt342.2⟩ : S24)) x17_1 ji5 x17_1 ji5 (wrap64 (x21_2 + 1))))) else (none)) else (none)) else (frob_Dual.l1 k2 a0 ji5 x4_2 x17_1 ji5 x17_1 ji5 (wrap64 (x21_2 + 1))))))) = some r := H
           have A13 := Aside0.mk A130
           clear A130
           replace H := Option.bind_eq_some_iff.mp H
           obtain ⟨⟨t333, t334⟩, A140, H⟩ := H
           replace H : ((frob_Trace.f k2 a0 0 t333 t334).bind fun bt335 => ((tower_One.f).bind fun bt337 => (if (bt335.1 == bt337.1 && (bt335.2 == bt337.2)) = true then (if 0 ≤ x21_2 then (if x21_2 < (x4_2.length : Int) then ((tower_Bit.f k2 x17_1).bind fun bt340 => ((tower_Add.f ((rd_T24 x4_2 x21_2).f0) ((rd_T24 x4_2 x21_2).f1) bt340.1 bt340.2).bind fun bt342 => (frob_Dual.l1 k2 a0 ji5 (x4_2.set (x21_2 : Int).toNat (⟨bt342.1, bt342.2⟩ : S24)) x17_1 ji5 x17_1 ji5 (wrap64 (x21_2 + 1))))) else (none)) else (none)) else (frob_Dual.l1 k2 a0 ji5 x4_2 x17_1 ji5 x17_1 ji5 (wrap64 (x21_2 + 1)))))) = some r := H
           have A14 := Aside0.mk A140
           clear A140
           replace H := Option.bind_eq_some_iff.mp H
           obtain ⟨⟨t335, t336⟩, A150, H⟩ := H
           replace H : ((tower_One.f).bind fun bt337 => (if (t335 == bt337.1 && (t336 == bt337.2)) = true then (if 0 ≤ x21_2 then (if x21_2 < (x4_2.length : Int) then ((tower_Bit.f k2 x17_1).bind fun bt340 => ((tower_Add.f ((rd_T24 x4_2 x21_2).f0) ((rd_T24 x4_2 x21_2).f1) bt340.1 bt340.2).bind fun bt342 => (frob_Dual.l1 k2 a0 ji5 (x4_2.set (x21_2 : Int).toNat (⟨bt342.1, bt342.2⟩ : S24)) x17_1 ji5 x17_1 ji5 (wrap64 (x21_2 + 1))))) else (none)) else (none)) else (frob_Dual.l1 k2 a0 ji5 x4_2 x17_1 ji5 x17_1 ji5 (wrap64 (x21_2 + 1))))) = some r := H
           have A15 := Aside0.mk A150
           clear A150
           replace H := Option.bind_eq_some_iff.mp H
           obtain ⟨⟨t337, t338⟩, A160, H⟩ := H
           replace H : (if (t335 == t337 && (t336 == t338)) = true then (if 0 ≤ x21_2 then (if x21_2 < (x4_2.length : Int) then ((tower_Bit.f k2 x17_1).bind fun bt340 => ((tower_Add.f ((rd_T24 x4_2 x21_2).f0) ((rd_T24 x4_2 x21_2).f1) bt340.1 bt340.2).bind fun bt342 => (frob_Dual.l1 k2 a0 ji5 (x4_2.set (x21_2 : Int).toNat (⟨bt342.1, bt342.2⟩ : S24)) x17_1 ji5 x17_1 ji5 (wrap64 (x21_2 + 1))))) else (none)) else (none)) else (frob_Dual.l1 k2 a0 ji5 x4_2 x17_1 ji5 x17_1 ji5 (wrap64 (x21_2 + 1)))) = some r := H
           have A16 := Aside0.mk A160
           clear A160
           by_cases c17 : (t335 == t337 && (t336 == t338)) = true
           ·rw [if_pos c17] at H
            have c17b0 : (t335 == t337 && (t336 == t338)) = true := c17
            (try (have c17b1 : decide (t335 = t337 && (t336 == t338)) = true := by simpa using c17))
            (try (have c17b2 : (t335 == t337 && (t336 == t338)) = true := by simpa using c17))
            clear c17
            by_cases c18 : 0 ≤ x21_2
            ·rw [if_pos c18] at H
             have c18b0 : decide (0 ≤ x21_2) = true := decide_eq_true c18
             clear c18
             by_cases c19 : x21_2 < (x4_2.length : Int)
             ·rw [if_pos c19] at H
              have c19b0 : decide (x21_2 < (x4_2.length : Int)) = true := decide_eq_true c19
              clear c19
              replace H := Option.bind_eq_some_iff.mp H
              obtain ⟨⟨t340, t341⟩, A200, H⟩ := H
              replace H : ((tower_Add.f ((rd_T24 x4_2 x21_2).f0) ((rd_T24 x4_2 x21_2).f1) t340 t341).bind fun bt342 => (frob_Dual.l1 k2 a0 ji5 (x4_2.set (x21_2 : Int).toNat (⟨bt342.1, bt342.2⟩ : S24)) x17_1 ji5 x17_1 ji5 (wrap64 (x21_2 + 1)))) = some r := H
              have A20 := Aside0.mk A200
              clear A200
              replace H := Option.bind_eq_some_iff.mp H
              obtain ⟨⟨t342, t343⟩, A210, H⟩ := H
              replace H : (frob_Dual.l1 k2 a0 ji5 (x4_2.set (x21_2 : Int).toNat (⟨t342, t343⟩ : S24)) x17_1 ji5 x17_1 ji5 (wrap64 (x21_2 + 1))) = some r := H
              have A21 := Aside0.mk A210
              clear A210
              obtain ⟨y344, hy344⟩ : ∃ y_ : List (S24), y_ = (x4_2.set (x21_2 : Int).toNat (⟨t342, t343⟩ : S24)) := ⟨_, rfl⟩
              replace H : (frob_Dual.l1 k2 a0 ji5 y344 x17_1 ji5 x17_1 ji5 (wrap64 (x21_2 + 1))) = some r := by first | (rw [hy344]; with_reducible exact H) | (have H2_ := (Option.bind_some _ _).symm.trans H; rw [hy344]; with_reducible exact H2_) | (have H2_ := (Option.bind_some _ _).symm.trans H; with_reducible exact H2_) | with_reducible exact H | (rw [hy344]; exact H) | exact H
              have Ny344 := Aside0.mk hy344
              clear hy344
              have H' := Aside0.mk H
              clear H
              try go_wp2_with (first | ((with_reducible refine gate_callee (f := 47) rfl ?_); refine goesL_ (some 27) rfl rfl Try.func47 (by kernel_rfl) rfl #[.int .i64 x17_1] rfl (by (try simp only [List.map_toArray, List.map_cons, List.map_nil]); first | done | rfl | (simp only [List.length_drop, List.length_take]; rfl)) ?_; (with_reducible refine (tower_Bit.calls k2 x17_1 t329 t330 _ A12.out).mono ?_); rintro e w23 ⟨rfl, hb⟩; refine ⟨_, rfl, ?_⟩; replace HO_4 := kb HO_4 hb; replace HB := bh HB hb; (try clear hb); (try clear hb2); (try clear hk); (try clear hi)) | ((with_reducible refine gate_callee (f := 47) rfl ?_); refine goesL_ (some 29) rfl rfl Try.func47 (by kernel_rfl) rfl #[.int .i64 x21_2] rfl (by (try simp only [List.map_toArray, List.map_cons, List.map_nil]); first | done | rfl | (simp only [List.length_drop, List.length_take]; rfl)) ?_; (with_reducible refine (tower_Bit.calls k2 x21_2 t331 t332 _ A13.out).mono ?_); rintro e w24 ⟨rfl, hb⟩; refine ⟨_, rfl, ?_⟩; replace HO_4 := kb HO_4 hb; replace HB := bh HB hb; (try clear hb); (try clear hb2); (try clear hk); (try clear hi)) | ((with_reducible refine gate_callee (f := 13) rfl ?_); refine goesL_ (some 30) rfl rfl Try.func13 (by kernel_rfl) rfl #[.int .i64 a0, .agg #[.int .u64 t329, .int .u64 t330], .agg #[.int .u64 t331, .int .u64 t332]] rfl (by (try simp only [List.map_toArray, List.map_cons, List.map_nil]); first | done | rfl | (simp only [List.length_drop, List.length_take]; rfl)) ?_; (with_reducible refine (tower_Mul.calls k2 a0 t329 t330 t331 t332 t333 t334 _ A14.out).mono ?_); rintro e w25 ⟨rfl, hb⟩; refine ⟨_, rfl, ?_⟩; replace HO_4 := kb HO_4 hb; replace HB := bh HB hb; (try clear hb); (try clear hb2); (try clear hk); (try clear hi)) | ((with_reducible refine gate_callee (f := 11) rfl ?_); refine goesL_ (some 31) rfl rfl Try.func11 (by kernel_rfl) rfl #[.int .i64 a0, .int .i64 0, .agg #[.int .u64 t333, .int .u64 t334]] rfl (by (try simp only [List.map_toArray, List.map_cons, List.map_nil]); first | done | rfl | (simp only [List.length_drop, List.length_take]; rfl)) ?_; (with_reducible refine (frob_Trace.calls k2 a0 0 t333 t334 t335 t336 _ A15.out).mono ?_); rintro e w26 ⟨rfl, hb⟩; refine ⟨_, rfl, ?_⟩; replace HO_4 := kb HO_4 hb; replace HB := bh HB hb; (try clear hb); (try clear hb2); (try clear hk); (try clear hi)) | ((with_reducible refine gate_callee (f := 40) rfl ?_); refine goesL_ (some 32) rfl rfl Try.func40 (by kernel_rfl) rfl #[] rfl (by (try simp only [List.map_toArray, List.map_cons, List.map_nil]); first | done | rfl | (simp only [List.length_drop, List.length_take]; rfl)) ?_; (with_reducible refine (tower_One.calls  t337 t338 _ A16.out).mono ?_); rintro e w27 ⟨rfl, hb⟩; refine ⟨_, rfl, ?_⟩; replace HO_4 := kb HO_4 hb; replace HB := bh HB hb; (try clear hb); (try clear hb2); (try clear hk); (try clear hi)))
              replace HO_4 := Aside0.mk (Kd.R_drew HO_4.out)
              replace HB := Aside0.mk (below_drew1 HB.out)
              obtain ⟨Ao29, co29, eo29⟩ := Kd.R_slice HO_4.out
              (first | subst eo29 | (injection eo29 with f1_ f2_ f3_; have f4_ := f1_.symm; have f5_ := f3_.symm; clear f1_ f2_ f3_; subst f4_; subst f5_))
              have p339 : 0 ≤ (x21_2 : Int) := of_decide_eq_true (by first | (with_reducible assumption) | assumption)
              have q339 : x21_2 < (x4_2.length : Int) := of_decide_eq_true (by first | (with_reducible assumption) | assumption)
              (try (obtain ⟨Ap_, cp_, ep_⟩ := Kd.R_slice HO_4.out; subst ep_))
              obtain ⟨ad339, e339, hx339_0, hx339_1⟩ := at_T24 (Kd.R_reads' HO_4.out).2.2 x21_2 p339 q339
              cases e339
              replace p339 := eq_true p339
              replace q339 := eq_true q339
              refine start_ (n := 11) (S := fun w' => w'.cell? (ad339.add ((x21_2).toNat * 2)) = some (.int .u64 ((rd_T24 x4_2 x21_2).f0)) ∧ w'.cell? ⟨(ad339.add ((x21_2).toNat * 2)).block, (ad339.add ((x21_2).toNat * 2)).off + 1, none⟩ = some (.int .u64 ((rd_T24 x4_2 x21_2).f1))) (ds := [10]) #[false, false, false, false, false, false, false, false, false, false, false] (by kernel_rfl) rfl rfl ⟨hx339_0, hx339_1⟩ (fun hHeld => ?_); refine with_tabW frob_Dual.tab12 frob_Dual.bits12 (fun HT_ HW_ => ?_)
              generalize w27.drew = w28 at HO_4 HB hx339_0 hx339_1 hHeld ⊢
              refine pure_ (i := 0) (N := some 34) (v := ?_) (a' := ?_) #[true, false, false, false, false, false, false, false, false, false, false] rfl rfl (any_of HT_.out (by kernel_rfl)) (fun _ _ _ h => h) (Or.inl ⟨by rfl, ?_⟩) ?_ ?_
              rotate_left
              ·intro w'
               go_simp
               with_reducible rfl
              rotate_left
              ·simp only [Act.put, List.setIfInBounds_toArray, List.set_cons_zero, List.set_cons_succ, i64_w, i32_w]
               rfl
              refine pure_ (i := 1) (N := some 35) (v := ?_) (a' := ?_) #[true, true, false, false, false, false, false, false, false, false, false] rfl rfl (any_of HT_.out (by kernel_rfl)) (fun _ _ _ h => h) (Or.inl ⟨by rfl, ?_⟩) ?_ ?_
              rotate_left
              ·intro w'
               go_simp
               with_reducible rfl
              rotate_left
              ·simp only [Act.put, List.setIfInBounds_toArray, List.set_cons_zero, List.set_cons_succ, i64_w, i32_w]
               rfl
              refine pure_ (i := 2) (N := some 36) (v := ?_) (a' := ?_) #[true, true, true, false, false, false, false, false, false, false, false] rfl rfl (any_of HT_.out (by kernel_rfl)) (fun _ _ _ h => h) (Or.inl ⟨by rfl, ?_⟩) ?_ ?_
              rotate_left
              ·intro w'
               go_simp
               with_reducible rfl
              rotate_left
              ·simp only [Act.put, List.setIfInBounds_toArray, List.set_cons_zero, List.set_cons_succ, i64_w, i32_w]
               rfl
              refine pure_ (i := 3) (N := some 37) (v := ?_) (a' := ?_) #[true, true, true, true, false, false, false, false, false, false, false] rfl rfl (any_of HT_.out (by kernel_rfl)) (fun _ _ _ h => h) (Or.inl ⟨by rfl, ?_⟩) ?_ ?_
              rotate_left
              ·intro w'
               go_simp
               with_reducible rfl
              rotate_left
              ·simp only [Act.put, List.setIfInBounds_toArray, List.set_cons_zero, List.set_cons_succ, i64_w, i32_w]
               rfl
              refine pure_ (i := 4) (N := some 38) (v := ?_) (a' := ?_) #[true, true, true, true, true, false, false, false, false, false, false] rfl rfl (any_of HT_.out (by kernel_rfl)) (fun _ _ _ h => h) (Or.inl ⟨by rfl, ?_⟩) ?_ ?_
              rotate_left
              ·intro w'
               go_simp
               with_reducible rfl
              rotate_left
              ·simp only [Act.put, List.setIfInBounds_toArray, List.set_cons_zero, List.set_cons_succ, i64_w, i32_w]
               rfl
              refine pure_ (i := 6) (N := some 40) (v := ?_) (a' := ?_) #[true, true, true, true, true, false, true, false, false, false, false] rfl rfl (any_of HT_.out (by kernel_rfl)) (fun _ _ _ h => h) (Or.inl ⟨by rfl, ?_⟩) ?_ ?_
              rotate_left
              ·intro w'
               go_simp
               with_reducible rfl
              rotate_left
              ·simp only [Act.put, List.setIfInBounds_toArray, List.set_cons_zero, List.set_cons_succ, i64_w, i32_w]
               rfl
              refine take_ (i := 5) (N := some 39) (v := ?_) (a' := ?_) #[true, true, true, true, true, true, true, false, false, false, false] rfl rfl (take_ofW HT_.out HW_.out (by kernel_rfl)) (fun _ _ _ h => h) (Or.inl ⟨by rfl, ?_⟩) hHeld ?_ ?_
              rotate_left
              ·rintro w' ⟨s0, s1⟩
               go_simp
               with_reducible rfl
              rotate_left
              ·simp only [Act.put, List.setIfInBounds_toArray, List.set_cons_zero, List.set_cons_succ, i64_w, i32_w]
               rfl
              refine one_ (i := 7) (N := some 41) #[true, true, true, true, true, true, true, true, false, false, false] rfl rfl (one_of HT_.out (by kernel_rfl)) (by decide) (fun K hK => ?_)
              refine goes_ Try.func47 (by kernel_rfl) rfl #[.int .i64 x17_1] (by rfl) rfl rfl (by (try simp only [List.map_toArray, List.map_cons, List.map_nil]); first | done | rfl | (simp only [List.length_drop, List.length_take]; rfl)) ?_
              with_reducible refine (tower_Bit.calls k2 x17_1 t340 t341 _ A20.out).mono ?_
              rintro e w30 ⟨rfl, hb⟩
              have HS0_ := (hb.cell (World.block_lt_of_cell? _ _ (hHeld.1))).trans (hHeld.1)
              have HS1_ := (hb.cell (World.block_lt_of_cell? _ _ (hHeld.2))).trans (hHeld.2)
              refine ⟨_, rfl, ?_⟩
              replace HO_4 := kb HO_4 hb
              replace HB := bh HB hb
              (try clear hb)
              (try clear hb2)
              (try clear hk)
              (try clear hi)
              refine hK.out _ _ ⟨HS0_, HS1_⟩ (fun hHeld => ?_)
              clear hK K
              refine norm_ (a' := ?_) ?_ ?_
              rotate_left
              ·show Act.put _ (some 41) _ = _
               simp only [Act.put, List.setIfInBounds_toArray, List.set_cons_zero, List.set_cons_succ, i64_w, i32_w]
               rfl
              refine one_ (i := 8) (N := some 42) #[true, true, true, true, true, true, true, true, true, false, false] rfl rfl (one_of HT_.out (by kernel_rfl)) (by decide) (fun K hK => ?_)
              refine goes_ Try.func12 (by kernel_rfl) rfl #[.agg #[.int .u64 ((rd_T24 x4_2 x21_2).f0), .int .u64 ((rd_T24 x4_2 x21_2).f1)], .agg #[.int .u64 t340, .int .u64 t341]] (by rfl) rfl rfl (by (try simp only [List.map_toArray, List.map_cons, List.map_nil]); first | done | rfl | (simp only [List.length_drop, List.length_take]; rfl)) ?_
              with_reducible refine (tower_Add.calls ((rd_T24 x4_2 x21_2).f0) ((rd_T24 x4_2 x21_2).f1) t340 t341 t342 t343 _ A21.out).mono ?_
              rintro e w31 ⟨rfl, hb⟩
              have HS0_ := (hb.cell (World.block_lt_of_cell? _ _ (hHeld.1))).trans (hHeld.1)
              have HS1_ := (hb.cell (World.block_lt_of_cell? _ _ (hHeld.2))).trans (hHeld.2)
              refine ⟨_, rfl, ?_⟩
              replace HO_4 := kb HO_4 hb
              replace HB := bh HB hb
              (try clear hb)
              (try clear hb2)
              (try clear hk)
              (try clear hi)
              have p22 : 0 ≤ (x21_2 : Int) := of_decide_eq_true (by first | (with_reducible assumption) | assumption)
              have q22 : (x21_2 : Int) < ((x4_2.length : Int) : Int) := of_decide_eq_true (by first | (with_reducible assumption) | assumption)
              obtain ⟨go22, co22, eo22, gb22, gl22, cl22, HG22⟩ := Kd.R_form HO_4.out (by omega)
              (first | cases eo22 | (injection eo22 with ea_ en_ ec_; (first | subst ea_ | (injection ea_ with ea_; subst ea_)); subst ec_; clear en_))
              have GB22 := Aside0.mk gb22
              have GG22 := Aside0.mk HG22
              clear gb22 gl22 HG22
              (first | simp only [add_plain] at hx339_0 | skip)
              (first | simp only [add_plain] at hx339_1 | skip)
              obtain ⟨ce22, hcl22, hM22, hcc22, hfr22⟩ := Kd.R_elem HO_4.out z24 (x21_2 : Int) p22 q22
              obtain rfl := k24_openM hM22
              have hx22_0 : World.cell? _ ⟨go22, (x21_2 : Int).toNat * 2, none⟩ = some (.int .u64 ((rd_T24 x4_2 x21_2).f0)) := hcc22 0 _ rfl
              have hx22_1 : World.cell? _ ⟨go22, (x21_2 : Int).toNat * 2 + 1, none⟩ = some (.int .u64 ((rd_T24 x4_2 x21_2).f1)) := hcc22 1 _ rfl
              have hf22_0 : World.frozen? _ ⟨go22, (x21_2 : Int).toNat * 2, none⟩ = false := hfr22 0
              have hf22_1 : World.frozen? _ ⟨go22, (x21_2 : Int).toNat * 2 + 1, none⟩ = false := hfr22 1
              clear hcl22 hcc22 hfr22 hM22
              replace p22 := eq_true p22
              replace q22 := eq_true q22
              obtain ⟨ce32, hcl32, hM32, hcc32, hfr32⟩ := Kd.R_elem HO_4.out z24 (x21_2 : Int) (of_decide_eq_true (by first | (with_reducible assumption) | assumption)) (by have h_ : (x21_2 : Int) < ((x4_2.length : Int) : Int) := of_decide_eq_true (by first | (with_reducible assumption) | assumption); first | exact h_ | (have e_ := (Kd.R_reads' HO_4.out).1; omega) | simpa using h_)
              obtain rfl := k24_openM hM32
              have HP32 := (Kd.R_seg HO_4.out (x21_2 : Int) (of_decide_eq_true (by first | (with_reducible assumption) | assumption)) (by have h_ : (x21_2 : Int) < ((x4_2.length : Int) : Int) := of_decide_eq_true (by first | (with_reducible assumption) | assumption); first | exact h_ | (have e_ := (Kd.R_reads' HO_4.out).1; omega) | simpa using h_) (seg := [.int .u64 t342, .int .u64 t343]) (j := 0) hcl32 hcc32 (show 2 ≤ 2 from by decide) (x' := (⟨t342, t343⟩ : S24)) (k24_mkM _ _ _ (⟨t342, t343⟩ : S24) ) (fun _ hk => hk)).1
              rw [← Ny344.out] at HP32
              have HQ32 := Aside0.mk HP32
              clear hcl32 hcc32 hfr32 hM32 HP32
              refine hK.out _ _ ⟨HS0_, HS1_⟩ (fun hHeld => ?_)
              clear hK K
              refine norm_ (a' := ?_) ?_ ?_
              rotate_left
              ·show Act.put _ (some 42) _ = _
               simp only [Act.put, List.setIfInBounds_toArray, List.set_cons_zero, List.set_cons_succ, i64_w, i32_w]
               rfl
              refine pure_ (i := 9) (N := some 43) (v := ?_) (a' := ?_) #[true, true, true, true, true, true, true, true, true, true, false] rfl rfl (any_of HT_.out (by kernel_rfl)) (fun _ _ _ h => h) (Or.inl ⟨by rfl, ?_⟩) ?_ ?_
              rotate_left
              ·intro w'
               go_simp
               with_reducible rfl
              rotate_left
              ·simp only [Act.put, List.setIfInBounds_toArray, List.set_cons_zero, List.set_cons_succ, i64_w, i32_w]
               rfl
              refine last_ (i := 10) (N := none) #[true, true, true, true, true, true, true, true, true, true, true] rfl rfl (one_of HT_.out (by kernel_rfl)) (by decide) (fun K hK => ?_)
              refine skip_ (w1 := ?_) (by rfl) rfl ?_ ?_
              rotate_left
              ·go_simp
               rfl
              refine hK.out _ _ ?_
              clear hK K
              refine done_ (done_of HT_.out (by kernel_rfl)) ?_
              try go_wp2
              go_roundg k2
              case measure => have := HK1.out; have := HK2.out; omega
              case rel => exact ⟨(y344), (wrap64 (x21_2 + 1)), (by first | rfl | (simp; done) | (simp [*]; done)), H', ⟨by have := HK1.out; have := HK2.out; omega⟩, ⟨by (with_reducible repeat refine kl ?_); exact HQ32.out⟩, ⟨by repeat (first | (with_reducible first | exact HB.out | apply below_alloc | apply pw_below_drewN | apply below_drew1 | refine below_set ?_ GB22.out | refine below_set ?_ GB22.out) | exact HB.out)⟩⟩
             ·rw [if_neg c19] at H
              exact absurd H (by simp)
            ·rw [if_neg c18] at H
             exact absurd H (by simp)
           ·rw [if_neg c17] at H
            have c17b0 : (t335 == t337 && (t336 == t338)) = false := by simpa using c17
            (try (have c17b1 : decide (t335 = t337 && (t336 == t338)) = false := by simpa using c17))
            (try (have c17b2 : (t335 == t337 && (t336 == t338)) = false := by simpa using c17))
            (try (have c17b3 : ¬ (t335 = t337 && (t336 == t338)) := by simpa using c17))
            clear c17
            have H' := Aside0.mk H
            clear H
            go_wp2_with (first | ((with_reducible refine gate_callee (f := 47) rfl ?_); refine goesL_ (some 27) rfl rfl Try.func47 (by kernel_rfl) rfl #[.int .i64 x17_1] rfl (by (try simp only [List.map_toArray, List.map_cons, List.map_nil]); first | done | rfl | (simp only [List.length_drop, List.length_take]; rfl)) ?_; (with_reducible refine (tower_Bit.calls k2 x17_1 t329 t330 _ A12.out).mono ?_); rintro e w33 ⟨rfl, hb⟩; refine ⟨_, rfl, ?_⟩; replace HO_4 := kb HO_4 hb; replace HB := bh HB hb; (try clear hb); (try clear hb2); (try clear hk); (try clear hi)) | ((with_reducible refine gate_callee (f := 47) rfl ?_); refine goesL_ (some 29) rfl rfl Try.func47 (by kernel_rfl) rfl #[.int .i64 x21_2] rfl (by (try simp only [List.map_toArray, List.map_cons, List.map_nil]); first | done | rfl | (simp only [List.length_drop, List.length_take]; rfl)) ?_; (with_reducible refine (tower_Bit.calls k2 x21_2 t331 t332 _ A13.out).mono ?_); rintro e w34 ⟨rfl, hb⟩; refine ⟨_, rfl, ?_⟩; replace HO_4 := kb HO_4 hb; replace HB := bh HB hb; (try clear hb); (try clear hb2); (try clear hk); (try clear hi)) | ((with_reducible refine gate_callee (f := 13) rfl ?_); refine goesL_ (some 30) rfl rfl Try.func13 (by kernel_rfl) rfl #[.int .i64 a0, .agg #[.int .u64 t329, .int .u64 t330], .agg #[.int .u64 t331, .int .u64 t332]] rfl (by (try simp only [List.map_toArray, List.map_cons, List.map_nil]); first | done | rfl | (simp only [List.length_drop, List.length_take]; rfl)) ?_; (with_reducible refine (tower_Mul.calls k2 a0 t329 t330 t331 t332 t333 t334 _ A14.out).mono ?_); rintro e w35 ⟨rfl, hb⟩; refine ⟨_, rfl, ?_⟩; replace HO_4 := kb HO_4 hb; replace HB := bh HB hb; (try clear hb); (try clear hb2); (try clear hk); (try clear hi)) | ((with_reducible refine gate_callee (f := 11) rfl ?_); refine goesL_ (some 31) rfl rfl Try.func11 (by kernel_rfl) rfl #[.int .i64 a0, .int .i64 0, .agg #[.int .u64 t333, .int .u64 t334]] rfl (by (try simp only [List.map_toArray, List.map_cons, List.map_nil]); first | done | rfl | (simp only [List.length_drop, List.length_take]; rfl)) ?_; (with_reducible refine (frob_Trace.calls k2 a0 0 t333 t334 t335 t336 _ A15.out).mono ?_); rintro e w36 ⟨rfl, hb⟩; refine ⟨_, rfl, ?_⟩; replace HO_4 := kb HO_4 hb; replace HB := bh HB hb; (try clear hb); (try clear hb2); (try clear hk); (try clear hi)) | ((with_reducible refine gate_callee (f := 40) rfl ?_); refine goesL_ (some 32) rfl rfl Try.func40 (by kernel_rfl) rfl #[] rfl (by (try simp only [List.map_toArray, List.map_cons, List.map_nil]); first | done | rfl | (simp only [List.length_drop, List.length_take]; rfl)) ?_; (with_reducible refine (tower_One.calls  t337 t338 _ A16.out).mono ?_); rintro e w37 ⟨rfl, hb⟩; refine ⟨_, rfl, ?_⟩; replace HO_4 := kb HO_4 hb; replace HB := bh HB hb; (try clear hb); (try clear hb2); (try clear hk); (try clear hi)))
            go_roundg k2
            case measure => have := HK1.out; have := HK2.out; omega
            case rel => exact ⟨(x4_2), (wrap64 (x21_2 + 1)), (by first | rfl | (simp; done) | (simp [*]; done)), H', ⟨by have := HK1.out; have := HK2.out; omega⟩, ⟨kr HO_4.out⟩, ⟨bq HB.out⟩⟩
          ·rw [if_neg c11] at H
           have c11b0 : decide (x21_2 < ji5) = false := decide_eq_false c11
           clear c11
           have H' := Aside0.mk H
           clear H
           go_wp2
           go_roundg k2
           case measure => have := HK1.out; have := HK2.out; omega
           case rel => exact ⟨(x4_2), (wrap64 (x17_1 + 1)), (by first | rfl | (simp; done) | (simp [*]; done)), H', ⟨by have := HK1.out; have := HK2.out; omega⟩, ⟨kr HO_4.out⟩, ⟨bq HB.out⟩⟩
       ·rw [if_neg c10] at H
        have c10b0 : decide (x17_1 < ji5) = false := decide_eq_false c10
        clear c10
        replace H := Option.bind_eq_some_iff.mp H
        obtain ⟨⟨t325, t326⟩, A380, H⟩ := H
        replace H : (some t325) = some r := H
        have A38 := Aside0.mk A380
        clear A380
        obtain rfl := Option.some.inj H
        obtain ⟨Ao39, co39, eo39⟩ := Kd.R_slice HO_4.out
        subst eo39
        go_wp2_with (first | ((with_reducible refine gate_callee (f := 50) rfl ?_); refine goesL_ (some 48) rfl rfl Try.func50 (by kernel_rfl) rfl #[.slice Ao39 x4_1.length co39] rfl (by (try simp only [List.map_toArray, List.map_cons, List.map_nil]); first | done | rfl | (simp only [List.length_drop, List.length_take]; rfl)) ?_; (with_reducible refine (span_Back.calls k1 _ _ x4_1 t325 t326 _ ?side1 ?side2 A38.out).mono ?_); (case side1 => repeat (first | exact (Kd.R_reads' HO_4.out).2.2 | (with_reducible refine Kd.C_alloc ?_ _) | (with_reducible refine Kd.C_drewN ?_ _) | (with_reducible refine Kd.C_drew ?_))); (case side2 => exact (Kd.R_reads' HO_4.out).2.1); rintro e w40 ⟨v327, rfl, ho0, hb⟩; refine ⟨_, rfl, ?_⟩; have HO328 := Aside0.mk (Kd.R_lower (Kd.R_new' ho0 (Kd.R_lt (kr HO_4.out))) (below_size (bq HB.out))); replace HO_4 := Aside0.mk (Kd.R_elder' (kr HO_4.out) (Kd.R_base ho0) hb); replace HB := bh HB hb; (try clear hb); (try clear hb2); (try clear hk); (try clear hi); (try clear ho0)))
        go_ret
        exact ⟨_, by first | rfl | (simp [errW_none, errW_some] <;> rfl) | (simp only [← hji5]; first | rfl | (simp [errW_none, errW_some] <;> rfl)) | (simp [*, errW_none, errW_some] <;> rfl), by (with_reducible repeat refine kl ?_); exact Kd.R_mono HO328.out (fun _ hk => trivial), bq HB.out⟩
    ·rw [if_neg c7] at H
     exact absurd H (by simp)
   ·rw [if_neg c6] at H
    exact absurd H (by simp)
  ·rw [if_neg c4] at H
   exact absurd H (by simp)

end Go.Proofs.Ytlegcabfgkccmaa.P
