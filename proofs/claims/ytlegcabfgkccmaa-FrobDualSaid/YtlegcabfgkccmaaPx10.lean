/- Written by a program of this session: functions that the law reaches, as Lean functions, and that the code comes to their answers. Conditions: those that each theorem names. -/
import Derived.Test.YtlegcabfgkccmaaPx0
import Derived.Test.YtlegcabfgkccmaaPx1
import Derived.Test.YtlegcabfgkccmaaPx3
import Derived.Test.YtlegcabfgkccmaaPx8
import Derived.Test.YtlegcabfgkccmaaPx9
namespace Go.Proofs.Ytlegcabfgkccmaa.P
open Go.RowKit Go.Proofs.YtlegcabfgkccmaaX Go.Proofs.YtlegcabfgkccmaaW.PrintWords Go.Proofs.YtlegcabfgkccmaaW.PrintLast Go.Proofs.YtlegcabfgkccmaaW.PrintMore
attribute [local go_sem] max2_int min2_int max_two min_two max_three min_three max_four min_four   -- for this text's walks alone
set_option linter.unusedVariables false
set_option linter.unusedSimpArgs false

attribute [local go_sem high] eqA24
/-! ### span_Solve: function 48 -/
mutual
def span_Solve.l0 : Nat → List (S24) → List (S85) → List (S24) → Int → Int → Int → Int → Option (List Bool × Bool)
 | 0, _, _, _, _, _, _, _ => none
 | k + 1, x0, x6, x15, x16, x17, x232000, x232001 => if x17 < x16 then (if 0 ≤ x17 then (if x17 < (x15.length : Int) then (if 0 ≤ (x0.length : Int) then (if ((x0.length : Int) : Int).toNat ≤ 281474976710656 then ((some (List.replicate ((x0.length : Int) : Int).toNat false : List Bool)).bind fun y234 => (if x17 < (y234.length : Int) then (span_Solve.l1 k x0 x6 x15 x16 x17 x6 (x6.length : Int) 0 x232000 x232001 ((rd_T24 x15 x17).f0) ((rd_T24 x15 x17).f1) (y234.set (x17 : Int).toNat true)) else (none))) else (none)) else (none)) else (none)) else (none)) else (if 0 ≤ (x0.length : Int) then (if ((x0.length : Int) : Int).toNat ≤ 281474976710656 then (span_Solve.l2 k (List.replicate ((x0.length : Int) : Int).toNat false) x6 (x6.length : Int) 0 x232000 x232001) else (none)) else (none))
def span_Solve.l1 : Nat → List (S24) → List (S85) → List (S24) → Int → Int → List (S85) → Int → Int → Int → Int → Int → Int → List Bool → Option (List Bool × Bool)
 | 0, _, _, _, _, _, _, _, _, _, _, _, _, _ => none
 | k + 1, x0, x6, x15, x16, x17, x31, x32, x33, x232000, x232001, x238000, x238001, x238002 => if x33 < x32 then (if 0 ≤ x33 then (if x33 < (x31.length : Int) then ((span_lead.f ((rd_T85 x31 x33).f0.f0) ((rd_T85 x31 x33).f0.f1)).bind fun t244 => ((span_has.f k x238000 x238001 t244).bind fun t245 => (if t245 = true then ((tower_Add.f x238000 x238001 ((rd_T85 x31 x33).f0.f0) ((rd_T85 x31 x33).f0.f1)).bind fun bt246 => ((span_flip.f k x238002 ((rd_T85 x31 x33).f1)).bind fun t248 => (span_Solve.l1 k x0 x6 x15 x16 x17 x31 x32 (wrap64 (x33 + 1)) x232000 x232001 bt246.1 bt246.2 t248))) else (span_Solve.l1 k x0 x6 x15 x16 x17 x31 x32 (wrap64 (x33 + 1)) x232000 x232001 x238000 x238001 x238002)))) else (none)) else (none)) else (if (!(x238000 == 0) || (!(x238001 == 0))) = true then (if x6.length < 3518437208883 then (span_Solve.l0 k x0 (x6 ++ [(⟨(⟨x238000, x238001⟩ : S24), x238002⟩ : S85)]) x15 x16 (wrap64 (x17 + 1)) x232000 x232001) else (none)) else (span_Solve.l0 k x0 x6 x15 x16 (wrap64 (x17 + 1)) x232000 x232001))
def span_Solve.l2 : Nat → List Bool → List (S85) → Int → Int → Int → Int → Option (List Bool × Bool)
 | 0, _, _, _, _, _, _ => none
 | k + 1, x12, x67, x68, x69, x232000, x232001 => if x69 < x68 then (if 0 ≤ x69 then (if x69 < (x67.length : Int) then ((span_lead.f ((rd_T85 x67 x69).f0.f0) ((rd_T85 x67 x69).f0.f1)).bind fun t254 => ((span_has.f k x232000 x232001 t254).bind fun t255 => (if t255 = true then ((tower_Add.f x232000 x232001 ((rd_T85 x67 x69).f0.f0) ((rd_T85 x67 x69).f0.f1)).bind fun bt256 => ((span_flip.f k x12 ((rd_T85 x67 x69).f1)).bind fun t258 => (span_Solve.l2 k t258 x67 x68 (wrap64 (x69 + 1)) bt256.1 bt256.2))) else (span_Solve.l2 k x12 x67 x68 (wrap64 (x69 + 1)) x232000 x232001)))) else (none)) else (none)) else (if (!(x232000 == 0) || (!(x232001 == 0))) = true then (some (([] : List Bool), false)) else (some (x12, true)))
end
def span_Solve.f (k : Nat) (l0 : List (S24)) (a1_0 : Int) (a1_1 : Int) : Option (List Bool × Bool) := span_Solve.l0 k l0 ([] : List (S85)) l0 (l0.length : Int) 0 a1_0 a1_1
theorem span_Solve.mono_l : ∀ k, (∀ y0 y1 y2 y3 y4 y5 y6, LeO (span_Solve.l0 k y0 y1 y2 y3 y4 y5 y6) (span_Solve.l0 (k + 1) y0 y1 y2 y3 y4 y5 y6)) ∧ (∀ y0 y1 y2 y3 y4 y5 y6 y7 y8 y9 y10 y11 y12, LeO (span_Solve.l1 k y0 y1 y2 y3 y4 y5 y6 y7 y8 y9 y10 y11 y12) (span_Solve.l1 (k + 1) y0 y1 y2 y3 y4 y5 y6 y7 y8 y9 y10 y11 y12)) ∧ (∀ y0 y1 y2 y3 y4 y5, LeO (span_Solve.l2 k y0 y1 y2 y3 y4 y5) (span_Solve.l2 (k + 1) y0 y1 y2 y3 y4 y5))
 | 0 => ⟨fun _ _ _ _ _ _ _ r h => by simp [span_Solve.l0] at h, fun _ _ _ _ _ _ _ _ _ _ _ _ _ r h => by simp [span_Solve.l1] at h, fun _ _ _ _ _ _ r h => by simp [span_Solve.l2] at h⟩
 | k + 1 => by
  obtain ⟨ih0, ih1, ih2⟩ := span_Solve.mono_l k
  refine ⟨?_, ?_, ?_⟩
  ·intro y0 y1 y2 y3 y4 y5 y6
   unfold span_Solve.l0
   repeat' first
   | (with_reducible exact ih0 _ _ _ _ _ _ _)
   | (with_reducible exact ih1 _ _ _ _ _ _ _ _ _ _ _ _ _)
   | (with_reducible exact ih2 _ _ _ _ _ _)
   | (with_reducible exact span_flip.mono _ _ _)
   | (with_reducible exact span_has.mono _ _ _ _)
   | (with_reducible exact LeO.refl _)
   | (with_reducible exact LeO.none _)
   | (with_reducible refine LeO.ite ?_ ?_)
   | (with_reducible refine LeO.bind ?_ (fun _ => ?_))
   | exact ih0 _ _ _ _ _ _ _
   | exact ih1 _ _ _ _ _ _ _ _ _ _ _ _ _
   | exact ih2 _ _ _ _ _ _
   | exact span_flip.mono _ _ _
   | exact span_has.mono _ _ _ _
   | exact LeO.none _
   | refine LeO.ite ?_ ?_
   | refine LeO.bind ?_ (fun _ => ?_)
  ·intro y0 y1 y2 y3 y4 y5 y6 y7 y8 y9 y10 y11 y12
   unfold span_Solve.l1
   repeat' first
   | (with_reducible exact ih0 _ _ _ _ _ _ _)
   | (with_reducible exact ih1 _ _ _ _ _ _ _ _ _ _ _ _ _)
   | (with_reducible exact ih2 _ _ _ _ _ _)
   | (with_reducible exact span_flip.mono _ _ _)
   | (with_reducible exact span_has.mono _ _ _ _)
   | (with_reducible exact LeO.refl _)
   | (with_reducible exact LeO.none _)
   | (with_reducible refine LeO.ite ?_ ?_)
   | (with_reducible refine LeO.bind ?_ (fun _ => ?_))
   | exact ih0 _ _ _ _ _ _ _
   | exact ih1 _ _ _ _ _ _ _ _ _ _ _ _ _
   | exact ih2 _ _ _ _ _ _
   | exact span_flip.mono _ _ _
   | exact span_has.mono _ _ _ _
   | exact LeO.none _
   | refine LeO.ite ?_ ?_
   | refine LeO.bind ?_ (fun _ => ?_)
  ·intro y0 y1 y2 y3 y4 y5
   unfold span_Solve.l2
   repeat' first
   | (with_reducible exact ih0 _ _ _ _ _ _ _)
   | (with_reducible exact ih1 _ _ _ _ _ _ _ _ _ _ _ _ _)
   | (with_reducible exact ih2 _ _ _ _ _ _)
   | (with_reducible exact span_flip.mono _ _ _)
   | (with_reducible exact span_has.mono _ _ _ _)
   | (with_reducible exact LeO.refl _)
   | (with_reducible exact LeO.none _)
   | (with_reducible refine LeO.ite ?_ ?_)
   | (with_reducible refine LeO.bind ?_ (fun _ => ?_))
   | exact ih0 _ _ _ _ _ _ _
   | exact ih1 _ _ _ _ _ _ _ _ _ _ _ _ _
   | exact ih2 _ _ _ _ _ _
   | exact span_flip.mono _ _ _
   | exact span_has.mono _ _ _ _
   | exact LeO.none _
   | refine LeO.ite ?_ ?_
   | refine LeO.bind ?_ (fun _ => ?_)
theorem span_Solve.mono : ∀ a0 a1 a2 k, LeO (span_Solve.f k a0 a1 a2) (span_Solve.f (k + 1) a0 a1 a2) := by
 intro a0 a1 a2 k
 obtain ⟨ih0, ih1, ih2⟩ := span_Solve.mono_l k
 unfold span_Solve.f
 repeat' first
   | (with_reducible exact ih0 _ _ _ _ _ _ _)
   | (with_reducible exact ih1 _ _ _ _ _ _ _ _ _ _ _ _ _)
   | (with_reducible exact ih2 _ _ _ _ _ _)
   | (with_reducible exact span_flip.mono _ _ _)
   | (with_reducible exact span_has.mono _ _ _ _)
   | (with_reducible exact LeO.refl _)
   | (with_reducible exact LeO.none _)
   | (with_reducible refine LeO.ite ?_ ?_)
   | (with_reducible refine LeO.bind ?_ (fun _ => ?_))
   | exact ih0 _ _ _ _ _ _ _
   | exact ih1 _ _ _ _ _ _ _ _ _ _ _ _ _
   | exact ih2 _ _ _ _ _ _
   | exact span_flip.mono _ _ _
   | exact span_has.mono _ _ _ _
   | exact LeO.none _
   | refine LeO.ite ?_ ?_
   | refine LeO.bind ?_ (fun _ => ?_)
set_option maxHeartbeats 8000000 in
set_option maxRecDepth 100000 in
theorem span_Solve.calls (k : Nat) (A0 : Option Addr) (c0 : Nat) (l0 : List (S24)) (a1_0 : Int) (a1_1 : Int) (r1 : List Bool) (r2 : Bool) (w : World) (hr0 : Kd.C k24 w A0 l0.length l0) (hc0 : l0.length ≤ c0) (h : span_Solve.f k l0 a1_0 a1_1 = some (r1, r2)) :
  Calls Try.prog 48 #[.slice A0 l0.length c0, .agg #[.int .u64 a1_0, .int .u64 a1_1]] w fun e w' => ∃ v0_ : Value, e = .returned (.tuple #[v0_, .bool r2]) ∧ Kd.R Kd.bool 4 w' w.heap.size (fun _ => True) v0_ r1 ∧ Below w.heap.size w w' := by
 have hu24 := Try.underlying24
 have hu85 := Try.underlying85
 have HR0 := Aside0.mk hr0
 have HC0 := Aside0.mk hc0
 clear hr0 hc0
 have HB := Aside0.mk (Below.refl w.heap.size w)
 have H : (span_Solve.l0 k l0 ([] : List (S85)) l0 (l0.length : Int) 0 a1_0 a1_1) = some (r1, r2) := h
 clear h
 have H' := Aside0.mk H
 clear H
 go_enter Try.func48, Try.ntmps48
 go_wp2_with (first | ((with_reducible refine gate_dst (N := 3) rfl ?_); refine box_event ?hg (N := 3) ?hd (cs := #[.int .u64 a1_0, .int .u64 a1_1]) (t := 24) ?hr ?_; (case hd => rfl); (case hg => rfl); (case hr => first | (go_simp; done) | (go_simp; rfl)); intro gb231 hg w3 hbox hb; have BK231 := Aside0.mk hbox; have GW231 := ge hg HB; have GE231 := ge hg HB; replace HB := bh HB hb; clear hb hbox hg))
 go_loopg [6, 17] k (fun kq v6 v17 w' => ∃ (x6_1 : List (S85)) (x17_1 : Int), v17 = .int .i64 x17_1 ∧ Aside0 (span_Solve.l0 kq l0 x6_1 l0 (l0.length : Int) x17_1 a1_0 a1_1 = some (r1, r2)) ∧ Aside0 (kq ≤ k) ∧ Aside0 (Kd.S k85 85 w' w.heap.size (fun _ => True) v6 x6_1) ∧ Aside0 (w'.heap[gb231]? = some (.cells #[.int .u64 a1_0, .int .u64 a1_1] 24 (0, 0))) ∧ Aside0 (Below w.heap.size w w'))
 case atStart => exact ⟨(([] : List (S85))), (0), (by first | rfl | (simp; done) | (simp [*]; done)), H', ⟨Nat.le_refl _⟩, ⟨by first | exact Kd.S_nil _ _ _ _ _ | exact Kd.N_nil _ _ _ _ _ | exact Kd.V_nil _ _ _ _ _ | exact Kd.Q_nil _ _ _ _ _ | exact Kd.R_nil _ _ _ _ _⟩, ⟨bk BK231.out⟩, ⟨bq HB.out⟩⟩
 case round =>
  clear H'
  try clear p2
  obtain ⟨x6_1, x17_1, rfl, HA, HK1, HO_6, BK231, HB⟩ := hrel
  cases gk with
  | zero => exact absurd HA.out (by simp [span_Solve.l0])
  | succ k1 =>
   have H := HA.out
   clear HA
   simp only [span_Solve.l0] at H
   by_cases c4 : x17_1 < (l0.length : Int)
   ·rw [if_pos c4] at H
    have c4b0 : decide (x17_1 < (l0.length : Int)) = true := decide_eq_true c4
    clear c4
    by_cases c5 : 0 ≤ x17_1
    ·rw [if_pos c5] at H
     have c5b0 : decide (0 ≤ x17_1) = true := decide_eq_true c5
     clear c5
     by_cases c6 : x17_1 < (l0.length : Int)
     ·rw [if_pos c6] at H
      have c6b0 : decide (x17_1 < (l0.length : Int)) = true := decide_eq_true c6
      clear c6
      by_cases c7 : 0 ≤ (l0.length : Int)
      ·rw [if_pos c7] at H
       have c7b0 := eq_true c7
       have c7b1 : decide (0 ≤ (l0.length : Int)) = true := decide_eq_true c7
       clear c7
       by_cases c8 : ((l0.length : Int) : Int).toNat ≤ 281474976710656
       ·rw [if_pos c8] at H
        have c8b0 := eq_true c8
        have c8b1 : decide (((l0.length : Int) : Int).toNat ≤ 281474976710656) = true := decide_eq_true c8
        clear c8
        obtain ⟨y234, hy234⟩ : ∃ y_ : List Bool, y_ = (List.replicate ((l0.length : Int) : Int).toNat false) := ⟨_, rfl⟩
        replace H : (if x17_1 < (y234.length : Int) then (span_Solve.l1 k1 l0 x6_1 l0 (l0.length : Int) x17_1 x6_1 (x6_1.length : Int) 0 a1_0 a1_1 ((rd_T24 l0 x17_1).f0) ((rd_T24 l0 x17_1).f1) (y234.set (x17_1 : Int).toNat true)) else (none)) = some (r1, r2) := by first | (rw [hy234]; with_reducible exact H) | (have H2_ := (Option.bind_some _ _).symm.trans H; rw [hy234]; with_reducible exact H2_) | (have H2_ := (Option.bind_some _ _).symm.trans H; with_reducible exact H2_) | with_reducible exact H | (rw [hy234]; exact H) | exact H
        have Ny234 := Aside0.mk hy234
        clear hy234
        by_cases c9 : x17_1 < (y234.length : Int)
        ·rw [if_pos c9] at H
         have c9b0 : decide (x17_1 < (y234.length : Int)) = true := decide_eq_true c9
         clear c9
         obtain ⟨y238, hy238⟩ : ∃ y_ : List Bool, y_ = (y234.set (x17_1 : Int).toNat true) := ⟨_, rfl⟩
         replace H : (span_Solve.l1 k1 l0 x6_1 l0 (l0.length : Int) x17_1 x6_1 (x6_1.length : Int) 0 a1_0 a1_1 ((rd_T24 l0 x17_1).f0) ((rd_T24 l0 x17_1).f1) y238) = some (r1, r2) := by first | (rw [hy238]; with_reducible exact H) | (have H2_ := (Option.bind_some _ _).symm.trans H; rw [hy238]; with_reducible exact H2_) | (have H2_ := (Option.bind_some _ _).symm.trans H; with_reducible exact H2_) | with_reducible exact H | (rw [hy238]; exact H) | exact H
         have Ny238 := Aside0.mk hy238
         clear hy238
         have H' := Aside0.mk H
         clear H
         have p232 : 0 ≤ (x17_1 : Int) := of_decide_eq_true (by first | (with_reducible assumption) | assumption)
         have q232 : x17_1 < (l0.length : Int) := of_decide_eq_true (by first | (with_reducible assumption) | assumption)
         obtain ⟨ad232, e232, hx232_0, hx232_1⟩ := at_T24 HR0.out x17_1 p232 q232
         cases e232
         replace hx232_0 := (HB.out.cell (World.block_lt_of_cell? w _ hx232_0)).trans hx232_0
         replace hx232_1 := (HB.out.cell (World.block_lt_of_cell? w _ hx232_1)).trans hx232_1
         replace p232 := eq_true p232
         replace q232 := eq_true q232
         try go_wp2_with (first | ((with_reducible refine gate_dst (N := 8) rfl ?_); refine box_event ?hg (N := 8) ?hd (cs := #[.int .u64 0, .int .u64 0]) (t := 24) ?hr ?_; (case hd => rfl); (case hg => rfl); (case hr => first | (go_simp; done) | (go_simp; rfl)); intro gb233 hg w11 hbox hb; have BK233 := Aside0.mk hbox; have GW233 := ge hg HB; have GE233 := ge hg HB; have NB231_233 := nl hg BK231; have NB233_231 := ng hg BK231; replace HO_6 := Aside0.mk (Kd.S_below (by (with_reducible repeat (first | apply Kd.S_alloc | apply Kd.S_drewN | apply Kd.S_drew)); exact HO_6.out) hb); replace BK231 := bb BK231 hb; replace HB := bh HB hb; clear hb hbox hg; have hnb12 := NB233_231.out; have hnc12 := NB231_233.out; obtain ⟨hcz13_0, hcz13_1⟩ := zc2 BK233; obtain ⟨hfz13_0, hfz13_1⟩ := zf2 BK233))
         have n0_ : Aside0 (Kd.S k85 85 ((w11.setCell ⟨gb233, 0, none⟩ (.int .u64 ((rd_T24 l0 x17_1).f0))).setCell ⟨gb233, 1, none⟩ (.int .u64 ((rd_T24 l0 x17_1).f1))) w.heap.size (fun _ => True) u6 x6_1) := ⟨by (with_reducible repeat (first | apply Kd.S_alloc | apply Kd.S_drewN | apply Kd.S_drew)); exact Kd.S_mono (Kd.S_far (p := ⟨gb233, 1, none⟩) (Kd.S_far (p := ⟨gb233, 0, none⟩) (Kd.S_types HO_6.out BK233.out (by decide)) (fun _ hk => hk.2) (.int .u64 ((rd_T24 l0 x17_1).f0))) (fun _ hk => hk.2) (.int .u64 ((rd_T24 l0 x17_1).f1))) (fun _ hk => trivial)⟩
         have n1_ : Aside0 (((w11.setCell ⟨gb233, 0, none⟩ (.int .u64 ((rd_T24 l0 x17_1).f0))).setCell ⟨gb233, 1, none⟩ (.int .u64 ((rd_T24 l0 x17_1).f1))).heap[gb231]? = some (.cells #[.int .u64 a1_0, .int .u64 a1_1] 24 (0, 0))) := ⟨by (with_reducible repeat refine bl ?_); refine blk_far ?_ NB231_233.out _; (with_reducible repeat refine bl ?_); refine blk_far ?_ NB231_233.out _; (with_reducible repeat refine bl ?_); exact BK231.out⟩
         have n2_ : Aside0 (((w11.setCell ⟨gb233, 0, none⟩ (.int .u64 ((rd_T24 l0 x17_1).f0))).setCell ⟨gb233, 1, none⟩ (.int .u64 ((rd_T24 l0 x17_1).f1))).heap[gb233]? = some (.cells #[.int .u64 ((rd_T24 l0 x17_1).f0), .int .u64 ((rd_T24 l0 x17_1).f1)] 24 (0, 0))) := ⟨by (with_reducible repeat refine bl ?_); refine blk_put (cs := #[.int .u64 ((rd_T24 l0 x17_1).f0), .int .u64 0]) ?_ 1 _ rfl; (with_reducible repeat refine bl ?_); refine blk_put (cs := #[.int .u64 0, .int .u64 0]) ?_ 0 _ rfl; (with_reducible repeat refine bl ?_); exact BK233.out⟩
         have n3_ : Aside0 (Below w.heap.size w ((w11.setCell ⟨gb233, 0, none⟩ (.int .u64 ((rd_T24 l0 x17_1).f0))).setCell ⟨gb233, 1, none⟩ (.int .u64 ((rd_T24 l0 x17_1).f1)))) := ⟨bq HB.out⟩
         (try clear HO_6)
         (try clear BK231)
         (try clear BK233)
         (try clear HB)
         generalize ((w11.setCell ⟨gb233, 0, none⟩ (.int .u64 ((rd_T24 l0 x17_1).f0))).setCell ⟨gb233, 1, none⟩ (.int .u64 ((rd_T24 l0 x17_1).f1))) = w14 at n0_ n1_ n2_ n3_ ⊢
         have HO_6 := n0_
         have BK231 := n1_
         have BK233 := n2_
         have HB := n3_
         clear n0_ n1_ n2_ n3_
         replace HO_6 := Aside0.mk (Kd.S_drew HO_6.out)
         replace BK231 := Aside0.mk (blk_drew BK231.out)
         replace BK233 := Aside0.mk (blk_drew BK233.out)
         replace HB := Aside0.mk (below_drew1 HB.out)
         refine start_ (n := 7) (S := fun w' => w'.cell? ⟨gb233, 0, none⟩ = some (.int .u64 ((rd_T24 l0 x17_1).f0)) ∧ w'.cell? ⟨gb233, 1, none⟩ = some (.int .u64 ((rd_T24 l0 x17_1).f1))) (ds := []) #[false, false, false, false, false, false, false] (by kernel_rfl) rfl rfl ⟨(blk_cell BK233.out 0).trans rfl, (blk_cell BK233.out 1).trans rfl⟩ (fun hHeld => ?_)
         generalize w14.drew = w15 at HO_6 BK231 BK233 HB hHeld ⊢
         refine pure_ (i := 1) (N := some 23) (v := ?_) (a' := ?_) #[false, true, false, false, false, false, false] rfl rfl (by kernel_rfl) (fun _ _ _ h => h) (Or.inl ⟨by rfl, ?_⟩) ?_ ?_
         rotate_left
         ·intro w'
          go_simp
          with_reducible rfl
         rotate_left
         ·simp only [Act.put, List.setIfInBounds_toArray, List.set_cons_zero, List.set_cons_succ, i64_w, i32_w]
          rfl
         refine pure_ (i := 2) (N := some 24) (v := ?_) (a' := ?_) #[false, true, true, false, false, false, false] rfl rfl (by kernel_rfl) (fun _ _ _ h => h) (Or.inl ⟨by rfl, ?_⟩) ?_ ?_
         rotate_left
         ·intro w'
          go_simp
          with_reducible rfl
         rotate_left
         ·simp only [Act.put, List.setIfInBounds_toArray, List.set_cons_zero, List.set_cons_succ, i64_w, i32_w]
          rfl
         refine take_ (i := 0) (N := some 22) (v := ?_) (a' := ?_) #[true, true, true, false, false, false, false] rfl rfl (by kernel_rfl) (fun _ _ _ h => h) (Or.inl ⟨by rfl, ?_⟩) hHeld ?_ ?_
         rotate_left
         ·rintro w' ⟨s0, s1⟩
          go_simp
          with_reducible rfl
         rotate_left
         ·simp only [Act.put, List.setIfInBounds_toArray, List.set_cons_zero, List.set_cons_succ, i64_w, i32_w]
          rfl
         refine join_ (σ := Value × Nat) 1 #[true, true, true, true, true, true, false] (fun s_ => [(25, s_.1), (9, .pointer (some ⟨s_.2, 0, none⟩)), (26, .agg #[.int .u64 ((rd_T24 l0 x17_1).f0), .int .u64 ((rd_T24 l0 x17_1).f1), s_.1])]) (fun s_ w' => (w'.cell? ⟨gb233, 0, none⟩ = some (.int .u64 ((rd_T24 l0 x17_1).f0)) ∧ w'.cell? ⟨gb233, 1, none⟩ = some (.int .u64 ((rd_T24 l0 x17_1).f1))) ∧ (Kd.R Kd.bool 4 w' w.heap.size (fun _ => True) s_.1 y234) ∧ (Kd.S k85 85 w' w.heap.size (fun k_ => some k_ ≠ (s_.1 : Value).ownBlock ∧ k_ ≠ s_.2) u6 x6_1) ∧ (w'.heap[gb231]? = some (.cells #[.int .u64 a1_0, .int .u64 a1_1] 24 (0, 0))) ∧ (w'.heap[gb233]? = some (.cells #[.int .u64 ((rd_T24 l0 x17_1).f0), .int .u64 ((rd_T24 l0 x17_1).f1)] 24 (0, 0))) ∧ (w'.heap[s_.2]? = some (.cells #[.int .u64 0, .int .u64 0, .slice none 0 0] 85 (0, 0))) ∧ (w.heap.size ≤ s_.2) ∧ (w.heap.size ≤ s_.2) ∧ (gb231 ≠ s_.2) ∧ (s_.2 ≠ gb231) ∧ (gb233 ≠ s_.2) ∧ (s_.2 ≠ gb233) ∧ (Below w.heap.size w w')) ?_ ?_
         rotate_left
         ·intro hCont
          refine two_ (i := 3) (j := 5) (Ni := some 25) (Nj := some 9) #[true, true, true, true, false, false, false] #[true, true, true, false, false, true, false] rfl rfl rfl rfl (by kernel_rfl) (by decide) (by decide) (fun K hK => ?_) (fun K hK => ?_)
          ·skip
           refine Kd.R_make_step Kd.bool _ 4 (by rfl) (N := 25) rfl 35 _ _ rfl (l0.length : Int) rfl rfl Try.underlying35 (.bool false) 1 info4 rfl (by decide) (by omega) false (ok := fun _ => True) (okp := fun _ => True) rfl (fun _ hk => hk) trivial (of_decide_eq_true (by first | (with_reducible assumption) | assumption)) (Nat.le_trans (Nat.mul_le_mul_right _ (of_decide_eq_true (by first | (with_reducible assumption) | assumption) : (l0.length : Int).toNat ≤ 281474976710656)) (by omega)) (Below.refl _ _) (Nat.le_refl _) ?_
           intro v235 w16 ho17 hb hg_ hnew_
           clear hg_ hnew_
           (first | rw [← Ny234.out] at ho17 | (simp only [Int.reduceToNat] at ho17; rw [← Ny234.out] at ho17))
           have HO236 := kw ho17 HB
           replace HO_6 := Aside0.mk (Kd.S_elder' (by (with_reducible repeat (first | apply Kd.S_alloc | apply Kd.S_drewN | apply Kd.S_drew)); exact HO_6.out) (Kd.R_base ho17) hb)
           replace BK231 := bb BK231 hb
           replace BK233 := bb BK233 hb
           replace HB := bh HB hb
           clear hb ho17
           obtain ⟨Ao18, co18, eo18⟩ := Kd.R_slice HO236.out
           (first | subst eo18 | (injection eo18 with f1_ f2_ f3_; have f4_ := f1_.symm; have f5_ := f3_.symm; clear f1_ f2_ f3_; subst f4_; subst f5_))
           refine hK.out _ _ ⟨(blk_cell BK233.out 0).trans rfl, (blk_cell BK233.out 1).trans rfl⟩ (fun hHeld => ?_)
           clear hK K
           refine norm_ (a' := ?_) ?_ ?_
           rotate_left
           ·show Act.put _ (some 25) _ = _
            simp only [Act.put, List.setIfInBounds_toArray, List.set_cons_zero, List.set_cons_succ, i64_w, i32_w]
            rfl
           refine pure_ (i := 4) (N := some 26) (v := ?_) (a' := ?_) #[true, true, true, true, true, false, false] rfl rfl (by kernel_rfl) (fun _ _ _ h => h) (Or.inl ⟨by rfl, ?_⟩) ?_ ?_
           rotate_left
           ·intro w'
            go_simp
            with_reducible rfl
           rotate_left
           ·simp only [Act.put, List.setIfInBounds_toArray, List.set_cons_zero, List.set_cons_succ, i64_w, i32_w]
            rfl
           refine one_ (i := 5) (N := some 9) #[true, true, true, true, true, true, false] rfl rfl (by kernel_rfl) (by decide) (fun K hK => ?_)
           refine box_step ?hg (N := 9) ?hd (cs := #[.int .u64 0, .int .u64 0, .slice none 0 0]) (t := 85) ?hr ?_; (case hd => rfl); (case hg => rfl); (case hr => first | (go_simp; done) | (go_simp; rfl))
           intro gb237 hg w19 hbox hb
           have BK237 := Aside0.mk hbox
           have GW237 := ge hg HB
           have GE237 := ge hg HB
           have NB231_237 := nl hg BK231
           have NB237_231 := ng hg BK231
           have NB233_237 := nl hg BK233
           have NB237_233 := ng hg BK233
           replace HO_6 := Aside0.mk (Kd.S_below (Kd.S_elderB (by (with_reducible repeat (first | apply Kd.S_alloc | apply Kd.S_drewN | apply Kd.S_drew)); exact HO_6.out) gb237 (Nat.le_of_eq hg.symm)) hb)
           replace HO236 := kb HO236 hb
           replace BK231 := bb BK231 hb
           replace BK233 := bb BK233 hb
           replace HB := bh HB hb
           clear hb hbox hg
           refine hK.out _ _ ⟨(blk_cell BK233.out 0).trans rfl, (blk_cell BK233.out 1).trans rfl⟩ (fun hHeld => ?_)
           clear hK K
           refine norm_ (a' := ?_) ?_ ?_
           rotate_left
           ·show Act.put _ (some 9) _ = _
            simp only [Act.put, List.setIfInBounds_toArray, List.set_cons_zero, List.set_cons_succ, i64_w, i32_w]
            rfl
           exact norm_ (by simp only [putAll, Act.put, List.setIfInBounds_toArray, List.set_cons_zero, List.set_cons_succ]) (hCont (.slice Ao18 y234.length co18, gb237) _ ⟨hHeld, (kr HO236.out), (by (with_reducible repeat (first | apply Kd.S_alloc | apply Kd.S_drewN | apply Kd.S_drew)); exact Kd.S_mono HO_6.out (fun _ hk => ⟨hk.1.2, hk.2⟩)), (bk BK231.out), (bk BK233.out), (bk BK237.out), GW237.out, GE237.out, NB231_237.out, NB237_231.out, NB233_237.out, NB237_233.out, (bq HB.out)⟩)
          ·skip
           refine box_step ?hg (N := 9) ?hd (cs := #[.int .u64 0, .int .u64 0, .slice none 0 0]) (t := 85) ?hr ?_; (case hd => rfl); (case hg => rfl); (case hr => first | (go_simp; done) | (go_simp; rfl))
           intro gb237 hg w16 hbox hb
           have BK237 := Aside0.mk hbox
           have GW237 := ge hg HB
           have GE237 := ge hg HB
           have NB231_237 := nl hg BK231
           have NB237_231 := ng hg BK231
           have NB233_237 := nl hg BK233
           have NB237_233 := ng hg BK233
           replace HO_6 := Aside0.mk (Kd.S_below (Kd.S_elderB (by (with_reducible repeat (first | apply Kd.S_alloc | apply Kd.S_drewN | apply Kd.S_drew)); exact HO_6.out) gb237 (Nat.le_of_eq hg.symm)) hb)
           replace BK231 := bb BK231 hb
           replace BK233 := bb BK233 hb
           replace HB := bh HB hb
           clear hb hbox hg
           refine hK.out _ _ ⟨(blk_cell BK233.out 0).trans rfl, (blk_cell BK233.out 1).trans rfl⟩ (fun hHeld => ?_)
           clear hK K
           refine norm_ (a' := ?_) ?_ ?_
           rotate_left
           ·show Act.put _ (some 9) _ = _
            simp only [Act.put, List.setIfInBounds_toArray, List.set_cons_zero, List.set_cons_succ, i64_w, i32_w]
            rfl
           refine one_ (i := 3) (N := some 25) #[true, true, true, true, false, true, false] rfl rfl (by kernel_rfl) (by decide) (fun K hK => ?_)
           refine Kd.R_make_step Kd.bool _ 4 (by rfl) (N := 25) rfl 35 _ _ rfl (l0.length : Int) rfl rfl Try.underlying35 (.bool false) 1 info4 rfl (by decide) (by omega) false (ok := fun _ => True) (okp := fun _ => True) rfl (fun _ hk => hk) trivial (of_decide_eq_true (by first | (with_reducible assumption) | assumption)) (Nat.le_trans (Nat.mul_le_mul_right _ (of_decide_eq_true (by first | (with_reducible assumption) | assumption) : (l0.length : Int).toNat ≤ 281474976710656)) (by omega)) (Below.refl _ _) (Nat.le_refl _) ?_
           intro v235 w17 ho18 hb hg_ hnew_
           clear hg_ hnew_
           (first | rw [← Ny234.out] at ho18 | (simp only [Int.reduceToNat] at ho18; rw [← Ny234.out] at ho18))
           have HO236 := kw ho18 HB
           replace HO_6 := Aside0.mk (Kd.S_elder' (by (with_reducible repeat (first | apply Kd.S_alloc | apply Kd.S_drewN | apply Kd.S_drew)); exact HO_6.out) (Kd.R_base ho18) hb)
           replace BK231 := bb BK231 hb
           replace BK233 := bb BK233 hb
           replace BK237 := bb BK237 hb
           replace HB := bh HB hb
           clear hb ho18
           obtain ⟨Ao19, co19, eo19⟩ := Kd.R_slice HO236.out
           (first | subst eo19 | (injection eo19 with f1_ f2_ f3_; have f4_ := f1_.symm; have f5_ := f3_.symm; clear f1_ f2_ f3_; subst f4_; subst f5_))
           refine hK.out _ _ ⟨(blk_cell BK233.out 0).trans rfl, (blk_cell BK233.out 1).trans rfl⟩ (fun hHeld => ?_)
           clear hK K
           refine norm_ (a' := ?_) ?_ ?_
           rotate_left
           ·show Act.put _ (some 25) _ = _
            simp only [Act.put, List.setIfInBounds_toArray, List.set_cons_zero, List.set_cons_succ, i64_w, i32_w]
            rfl
           refine pure_ (i := 4) (N := some 26) (v := ?_) (a' := ?_) #[true, true, true, true, true, true, false] rfl rfl (by kernel_rfl) (fun _ _ _ h => h) (Or.inl ⟨by rfl, ?_⟩) ?_ ?_
           rotate_left
           ·intro w'
            go_simp
            with_reducible rfl
           rotate_left
           ·simp only [Act.put, List.setIfInBounds_toArray, List.set_cons_zero, List.set_cons_succ, i64_w, i32_w]
            rfl
           exact norm_ (by simp only [putAll, Act.put, List.setIfInBounds_toArray, List.set_cons_zero, List.set_cons_succ]) (hCont (.slice Ao19 y234.length co19, gb237) _ ⟨hHeld, (kr HO236.out), (by (with_reducible repeat (first | apply Kd.S_alloc | apply Kd.S_drewN | apply Kd.S_drew)); exact Kd.S_mono HO_6.out (fun _ hk => ⟨hk.2, hk.1.2⟩)), (bk BK231.out), (bk BK233.out), (bk BK237.out), GW237.out, GE237.out, NB231_237.out, NB237_231.out, NB233_237.out, NB237_233.out, (bq HB.out)⟩)
         rintro ⟨v235, gb237⟩ w20 ⟨hS_, h0_, h1_, h2_, h3_, h4_, h5_, h6_, h7_, h8_, h9_, h10_, h11_⟩
         have n0_ : Aside0 (Kd.R Kd.bool 4 w20 w.heap.size (fun _ => True) v235 y234) := ⟨h0_⟩
         have n1_ : Aside0 (Kd.S k85 85 w20 w.heap.size (fun k_ => some k_ ≠ (v235 : Value).ownBlock ∧ k_ ≠ gb237) u6 x6_1) := ⟨h1_⟩
         have n2_ : Aside0 (w20.heap[gb231]? = some (.cells #[.int .u64 a1_0, .int .u64 a1_1] 24 (0, 0))) := ⟨h2_⟩
         have n3_ : Aside0 (w20.heap[gb233]? = some (.cells #[.int .u64 ((rd_T24 l0 x17_1).f0), .int .u64 ((rd_T24 l0 x17_1).f1)] 24 (0, 0))) := ⟨h3_⟩
         have n4_ : Aside0 (w20.heap[gb237]? = some (.cells #[.int .u64 0, .int .u64 0, .slice none 0 0] 85 (0, 0))) := ⟨h4_⟩
         have n5_ : Aside0 (w.heap.size ≤ gb237) := ⟨h5_⟩
         have n6_ : Aside0 (w.heap.size ≤ gb237) := ⟨h6_⟩
         have n7_ : Aside0 (gb231 ≠ gb237) := ⟨h7_⟩
         have n8_ : Aside0 (gb237 ≠ gb231) := ⟨h8_⟩
         have n9_ : Aside0 (gb233 ≠ gb237) := ⟨h9_⟩
         have n10_ : Aside0 (gb237 ≠ gb233) := ⟨h10_⟩
         have n11_ : Aside0 (Below w.heap.size w w20) := ⟨h11_⟩
         clear HO_6
         clear BK231
         clear BK233
         clear HB
         clear h0_ h1_ h2_ h3_ h4_ h5_ h6_ h7_ h8_ h9_ h10_ h11_
         have HO236 := n0_
         have HO_6 := n1_
         have BK231 := n2_
         have BK233 := n3_
         have BK237 := n4_
         have GW237 := Aside1.mk n5_.out
         have GE237 := Aside1.mk n6_.out
         have NB231_237 := n7_
         have NB237_231 := n8_
         have NB233_237 := n9_
         have NB237_233 := n10_
         have HB := n11_
         clear n0_ n1_ n2_ n3_ n4_ n5_ n6_ n7_ n8_ n9_ n10_ n11_
         have hHeld : w20.cell? ⟨gb233, 0, none⟩ = some (.int .u64 ((rd_T24 l0 x17_1).f0)) ∧ w20.cell? ⟨gb233, 1, none⟩ = some (.int .u64 ((rd_T24 l0 x17_1).f1)) := hS_
         obtain ⟨Ao21, co21, eo21⟩ := Kd.R_slice HO236.out
         (first | subst eo21 | (injection eo21 with f1_ f2_ f3_; have f4_ := f1_.symm; have f5_ := f3_.symm; clear f1_ f2_ f3_; subst f4_; subst f5_))
         refine norm_ (a' := ?_) ?_ ?_
         rotate_left
         ·simp only [putAll, Act.put, List.setIfInBounds_toArray, List.set_cons_zero, List.set_cons_succ]
          rfl
         refine one_ (i := 6) (N := none) #[true, true, true, true, true, true, true] rfl rfl (by kernel_rfl) (by decide) (fun K hK => ?_)
         have hs22 : w20.cell? ⟨gb237, 0, none⟩ = some (.int .u64 0) := (blk_cell BK237.out 0).trans rfl
         have hfs22 := blk_frozen BK237.out 0
         have hns22_0 := NB231_237.out
         have hns22_1 := NB233_237.out
         have hms22_0 := NB237_231.out
         have hms22_1 := NB237_233.out
         have hs23 : w20.cell? ⟨gb237, 1, none⟩ = some (.int .u64 0) := (blk_cell BK237.out 1).trans rfl
         have hfs23 := blk_frozen BK237.out 1
         have hns23_0 := NB231_237.out
         have hns23_1 := NB233_237.out
         have hms23_0 := NB237_231.out
         have hms23_1 := NB237_233.out
         have hs24 : w20.cell? ⟨gb237, 2, none⟩ = some (.slice none 0 0) := (blk_cell BK237.out 2).trans rfl
         have hfs24 := blk_frozen BK237.out 2
         have hns24_0 := NB231_237.out
         have hns24_1 := NB233_237.out
         have hms24_0 := NB237_231.out
         have hms24_1 := NB237_233.out
         refine skip_ (w1 := ?_) (by rfl) rfl ?_ ?_
         rotate_left
         ·go_simp
          rfl
         refine hK.out _ _ ⟨((cell_far (p := ⟨gb237, _, none⟩) NB233_237.out _).trans (((cell_far (p := ⟨gb237, _, none⟩) NB233_237.out _).trans (((cell_far (p := ⟨gb237, _, none⟩) NB233_237.out _).trans (hHeld.1)))))), ((cell_far (p := ⟨gb237, _, none⟩) NB233_237.out _).trans (((cell_far (p := ⟨gb237, _, none⟩) NB233_237.out _).trans (((cell_far (p := ⟨gb237, _, none⟩) NB233_237.out _).trans (hHeld.2))))))⟩ (fun hHeld => ?_)
         clear hK K
         refine done_ (by kernel_rfl) ?_
         have n0_ : Aside0 (Kd.S k85 85 (((w20.setCell ⟨gb237, 0, none⟩ (.int .u64 ((rd_T24 l0 x17_1).f0))).setCell ⟨gb237, 1, none⟩ (.int .u64 ((rd_T24 l0 x17_1).f1))).setCell ⟨gb237, 2, none⟩ (.slice Ao21 y234.length co21)) w.heap.size (fun k_ => some k_ ≠ (.slice Ao21 y234.length co21 : Value).ownBlock ∧ k_ ≠ gb237) u6 x6_1) := ⟨by (with_reducible repeat (first | apply Kd.S_alloc | apply Kd.S_drewN | apply Kd.S_drew)); exact Kd.S_mono (Kd.S_far (p := ⟨gb237, 2, none⟩) (Kd.S_far (p := ⟨gb237, 1, none⟩) (Kd.S_far (p := ⟨gb237, 0, none⟩) (Kd.S_mono HO_6.out (fun k_ hk => (⟨hk, hk.2⟩ : _ ∧ k_ ≠ gb237))) (fun _ hk => hk.2) (.int .u64 ((rd_T24 l0 x17_1).f0))) (fun _ hk => hk.2) (.int .u64 ((rd_T24 l0 x17_1).f1))) (fun _ hk => hk.2) (.slice Ao21 y234.length co21)) (fun _ hk => ⟨hk.1.1, hk.1.2⟩)⟩
         have n1_ : Aside0 (Kd.R Kd.bool 4 (((w20.setCell ⟨gb237, 0, none⟩ (.int .u64 ((rd_T24 l0 x17_1).f0))).setCell ⟨gb237, 1, none⟩ (.int .u64 ((rd_T24 l0 x17_1).f1))).setCell ⟨gb237, 2, none⟩ (.slice Ao21 y234.length co21)) w.heap.size (fun _ => True) (.slice Ao21 y234.length co21) y234) := ⟨by (with_reducible repeat refine kl ?_); exact Kd.R_mono (Kd.R_far (p := ⟨gb237, 2, none⟩) (Kd.R_far (p := ⟨gb237, 1, none⟩) (Kd.R_far (p := ⟨gb237, 0, none⟩) (Kd.R_types HO236.out BK237.out (by decide)) (fun _ hk => hk.2) (.int .u64 ((rd_T24 l0 x17_1).f0))) (fun _ hk => hk.2) (.int .u64 ((rd_T24 l0 x17_1).f1))) (fun _ hk => hk.2) (.slice Ao21 y234.length co21)) (fun _ hk => trivial)⟩
         have n2_ : Aside0 ((((w20.setCell ⟨gb237, 0, none⟩ (.int .u64 ((rd_T24 l0 x17_1).f0))).setCell ⟨gb237, 1, none⟩ (.int .u64 ((rd_T24 l0 x17_1).f1))).setCell ⟨gb237, 2, none⟩ (.slice Ao21 y234.length co21)).heap[gb231]? = some (.cells #[.int .u64 a1_0, .int .u64 a1_1] 24 (0, 0))) := ⟨by (with_reducible repeat refine bl ?_); refine blk_far ?_ NB231_237.out _; (with_reducible repeat refine bl ?_); refine blk_far ?_ NB231_237.out _; (with_reducible repeat refine bl ?_); refine blk_far ?_ NB231_237.out _; (with_reducible repeat refine bl ?_); exact BK231.out⟩
         have n3_ : Aside0 ((((w20.setCell ⟨gb237, 0, none⟩ (.int .u64 ((rd_T24 l0 x17_1).f0))).setCell ⟨gb237, 1, none⟩ (.int .u64 ((rd_T24 l0 x17_1).f1))).setCell ⟨gb237, 2, none⟩ (.slice Ao21 y234.length co21)).heap[gb233]? = some (.cells #[.int .u64 ((rd_T24 l0 x17_1).f0), .int .u64 ((rd_T24 l0 x17_1).f1)] 24 (0, 0))) := ⟨by (with_reducible repeat refine bl ?_); refine blk_far ?_ NB233_237.out _; (with_reducible repeat refine bl ?_); refine blk_far ?_ NB233_237.out _; (with_reducible repeat refine bl ?_); refine blk_far ?_ NB233_237.out _; (with_reducible repeat refine bl ?_); exact BK233.out⟩
         have n4_ : Aside0 ((((w20.setCell ⟨gb237, 0, none⟩ (.int .u64 ((rd_T24 l0 x17_1).f0))).setCell ⟨gb237, 1, none⟩ (.int .u64 ((rd_T24 l0 x17_1).f1))).setCell ⟨gb237, 2, none⟩ (.slice Ao21 y234.length co21)).heap[gb237]? = some (.cells #[.int .u64 ((rd_T24 l0 x17_1).f0), .int .u64 ((rd_T24 l0 x17_1).f1), .slice Ao21 y234.length co21] 85 (0, 0))) := ⟨by (with_reducible repeat refine bl ?_); refine blk_put (cs := #[.int .u64 ((rd_T24 l0 x17_1).f0), .int .u64 ((rd_T24 l0 x17_1).f1), .slice none 0 0]) ?_ 2 _ rfl; (with_reducible repeat refine bl ?_); refine blk_put (cs := #[.int .u64 ((rd_T24 l0 x17_1).f0), .int .u64 0, .slice none 0 0]) ?_ 1 _ rfl; (with_reducible repeat refine bl ?_); refine blk_put (cs := #[.int .u64 0, .int .u64 0, .slice none 0 0]) ?_ 0 _ rfl; (with_reducible repeat refine bl ?_); exact BK237.out⟩
         have n5_ : Aside0 (Below w.heap.size w (((w20.setCell ⟨gb237, 0, none⟩ (.int .u64 ((rd_T24 l0 x17_1).f0))).setCell ⟨gb237, 1, none⟩ (.int .u64 ((rd_T24 l0 x17_1).f1))).setCell ⟨gb237, 2, none⟩ (.slice Ao21 y234.length co21))) := ⟨bq HB.out⟩
         (try clear HO_6)
         (try clear HO236)
         (try clear BK231)
         (try clear BK233)
         (try clear BK237)
         (try clear HB)
         generalize (((w20.setCell ⟨gb237, 0, none⟩ (.int .u64 ((rd_T24 l0 x17_1).f0))).setCell ⟨gb237, 1, none⟩ (.int .u64 ((rd_T24 l0 x17_1).f1))).setCell ⟨gb237, 2, none⟩ (.slice Ao21 y234.length co21)) = w25 at n0_ n1_ n2_ n3_ n4_ n5_ ⊢
         have HO_6 := n0_
         have HO236 := n1_
         have BK231 := n2_
         have BK233 := n3_
         have BK237 := n4_
         have HB := n5_
         clear n0_ n1_ n2_ n3_ n4_ n5_
         have hnb26 := NB237_231.out
         have hnc26 := NB231_237.out
         have hnb27 := NB237_233.out
         have hnc27 := NB233_237.out
         obtain ⟨hcz28_0, hcz28_1, hcz28_2⟩ := zc3 BK237
         obtain ⟨hfz28_0, hfz28_1, hfz28_2⟩ := zf3 BK237
         have p10 : 0 ≤ (x17_1 : Int) := of_decide_eq_true (by first | (with_reducible assumption) | assumption)
         have q10 : (x17_1 : Int) < ((y234.length : Int) : Int) := of_decide_eq_true (by first | (with_reducible assumption) | assumption)
         obtain ⟨go10, co10, eo10, gb10, gl10, cl10, HG10⟩ := Kd.R_form HO236.out (by omega)
         (first | cases eo10 | (injection eo10 with ea_ en_ ec_; (first | subst ea_ | (injection ea_ with ea_; subst ea_)); subst ec_; clear en_))
         have GB10 := Aside0.mk gb10
         have GG10 := Aside0.mk HG10
         clear gb10 gl10 HG10
         obtain ⟨hx10_0, hf10_0⟩ := Kd.R_celln false HO236.out (x17_1 : Int) p10 q10
         replace p10 := eq_true p10
         replace q10 := eq_true q10
         obtain ⟨hy29_, hz29_⟩ := Kd.R_celln false HO236.out (x17_1 : Int) (of_decide_eq_true (by first | (with_reducible assumption) | assumption)) (of_decide_eq_true (by first | (with_reducible assumption) | assumption))
         have HP29 := Kd.R_putg HO236.out (x17_1 : Int) true
         try go_wp2_with (first | ((with_reducible refine gate_store (t := 4) (p := 30) rfl ?_); refine store_event (t := 4) (p := 30) (v := ?vo_w30) (w1 := (w25.setCell ⟨go10, (x17_1 : Int).toNat, none⟩ (.bool true))) ?hg ?ho ?hn ?hr ?_; (case ho => rfl); (case hg => rfl); (case hn => rfl); (case hr => first | (go_simp; done) | (go_simp; rfl)); intro w30 hw; have hg : w25.grownBy w30 (some go10) := (by rw [hw]; exact HP29.2); have hp_ : Kd.R Kd.bool 4 w30 w.heap.size (fun _ => True) (.slice (some ⟨go10, 0, none⟩) y234.length co21) y238 := (by rw [hw, Ny238.out]; exact HP29.1); clear HP29; replace HO_6 := Aside0.mk (Kd.S_after (v := (.slice (some ⟨go10, 0, none⟩) y234.length co21)) (v1 := (.slice (some ⟨go10, 0, none⟩) y234.length co21)) (ok := (fun k_ => k_ ≠ gb237)) (by (with_reducible repeat (first | apply Kd.S_alloc | apply Kd.S_drewN | apply Kd.S_drew)); exact Kd.S_mono HO_6.out (fun _ hk => ⟨hk.2, hk.1⟩)) hg (.inl rfl)); replace BK231 := Aside0.mk (blk_grown (g := gb231) (o := .cells #[.int .u64 a1_0, .int .u64 a1_1] 24 (0, 0)) (bk BK231.out) hg (Kd.R_ne HO236.out BK231.out (by decide))); replace BK233 := Aside0.mk (blk_grown (g := gb233) (o := .cells #[.int .u64 ((rd_T24 l0 x17_1).f0), .int .u64 ((rd_T24 l0 x17_1).f1)] 24 (0, 0)) (bk BK233.out) hg (Kd.R_ne HO236.out BK233.out (by decide))); replace BK237 := Aside0.mk (blk_grown (g := gb237) (o := .cells #[.int .u64 ((rd_T24 l0 x17_1).f0), .int .u64 ((rd_T24 l0 x17_1).f1), .slice (some ⟨go10, 0, none⟩) y234.length co21] 85 (0, 0)) (bk BK237.out) hg (Kd.R_ne HO236.out BK237.out (by decide))); replace HO236 := Aside0.mk hp_; replace HB := Aside0.mk ((by rw [hw]; exact below_set (HB.out) GB10.out : Below w.heap.size w w30)); clear hg hw hp_; obtain ⟨Ao31, co31, eo31⟩ := Kd.S_slice HO_6.out; subst eo31))
         go_loopg [33] k1 (fun kq v33 w' => ∃ (x33_2 : Int) (x238000_2 : Int) (x238001_2 : Int) (x238002_2 : List Bool) (u238002 : Value), v33 = .int .i64 x33_2 ∧ Aside0 (span_Solve.l1 kq l0 x6_1 l0 (l0.length : Int) x17_1 x6_1 (x6_1.length : Int) x33_2 a1_0 a1_1 x238000_2 x238001_2 x238002_2 = some (r1, r2)) ∧ Aside0 (kq ≤ k1) ∧ Aside0 (Kd.S k85 85 w' w.heap.size (fun k_ => some k_ ≠ (u238002 : Value).ownBlock ∧ k_ ≠ gb237) (.slice Ao31 x6_1.length co31) x6_1) ∧ Aside0 (Kd.S k85 85 w' w.heap.size (fun k_ => some k_ ≠ (u238002 : Value).ownBlock ∧ k_ ≠ gb237) (.slice Ao31 x6_1.length co31) x6_1) ∧ Aside0 (Kd.R Kd.bool 4 w' w.heap.size (fun _ => True) u238002 x238002_2) ∧ Aside0 (w'.heap[gb231]? = some (.cells #[.int .u64 a1_0, .int .u64 a1_1] 24 (0, 0))) ∧ Aside0 (w'.heap[gb233]? = some (.cells #[.int .u64 ((rd_T24 l0 x17_1).f0), .int .u64 ((rd_T24 l0 x17_1).f1)] 24 (0, 0))) ∧ Aside0 (w'.heap[gb237]? = some (.cells #[.int .u64 x238000_2, .int .u64 x238001_2, u238002] 85 (0, 0))) ∧ Aside0 (Below w.heap.size w w'))
         case atStart => exact ⟨(0), ((rd_T24 l0 x17_1).f0), ((rd_T24 l0 x17_1).f1), (y238), (.slice (some ⟨go10, 0, none⟩) y234.length co21), (by first | rfl | (simp; done) | (simp [*]; done)), H', ⟨Nat.le_refl _⟩, ⟨by (with_reducible repeat (first | apply Kd.S_alloc | apply Kd.S_drewN | apply Kd.S_drew)); exact Kd.S_mono HO_6.out (fun _ hk => ⟨hk.2, hk.1⟩)⟩, ⟨by (with_reducible repeat (first | apply Kd.S_alloc | apply Kd.S_drewN | apply Kd.S_drew)); exact Kd.S_mono HO_6.out (fun _ hk => ⟨hk.2, hk.1⟩)⟩, ⟨kr HO236.out⟩, ⟨bk BK231.out⟩, ⟨bk BK233.out⟩, ⟨bk BK237.out⟩, ⟨bq HB.out⟩⟩
         case round =>
          clear H'
          try clear c1
          try clear p1
          try clear q1
          try clear hx1
          try clear c2
          try clear p2
          try clear q2
          try clear hx2
          try clear c4
          try clear c4b0
          try clear c5
          try clear c5b0
          try clear c6
          try clear c6b0
          try clear c7
          try clear c7b0
          try clear c7b1
          try clear c8
          try clear c8b0
          try clear c8b1
          try clear c9
          try clear c9b0
          try clear p10
          try clear q10
          try clear hx10
          try clear hf10
          try clear c12
          try clear p23
          try clear q23
          try clear hx23
          try clear c26
          try clear c27
          try clear hcz13_0
          try clear hcz13_1
          try clear hcz28_0
          try clear hcz28_1
          try clear hcz28_2
          try clear hfz13_0
          try clear hfz13_1
          try clear hfz28_0
          try clear hfz28_1
          try clear hfz28_2
          try clear hx10_0
          try clear hx232_0
          try clear hx232_1
          try clear p10
          try clear p2
          try clear p232
          try clear q10
          try clear q232
          obtain ⟨x33_2, x238000_2, x238001_2, x238002_2, u238002, rfl, HA, HK2, HO_6, HO_31, HO_238002, BK231, BK233, BK237, HB⟩ := hrel
          cases gk with
          | zero => exact absurd HA.out (by simp [span_Solve.l1])
          | succ k2 =>
           have H := HA.out
           clear HA
           simp only [span_Solve.l1] at H
           by_cases c32 : x33_2 < (x6_1.length : Int)
           ·rw [if_pos c32] at H
            have c32b0 : decide (x33_2 < (x6_1.length : Int)) = true := decide_eq_true c32
            clear c32
            by_cases c33 : 0 ≤ x33_2
            ·rw [if_pos c33] at H
             have c33b0 : decide (0 ≤ x33_2) = true := decide_eq_true c33
             clear c33
             by_cases c34 : x33_2 < (x6_1.length : Int)
             ·rw [if_pos c34] at H
              have c34b0 : decide (x33_2 < (x6_1.length : Int)) = true := decide_eq_true c34
              clear c34
              replace H := Option.bind_eq_some_iff.mp H
              obtain ⟨t244, A350, H⟩ := H
              replace H : ((span_has.f k2 x238000_2 x238001_2 t244).bind fun t245 => (if t245 = true then ((tower_Add.f x238000_2 x238001_2 ((rd_T85 x6_1 x33_2).f0.f0) ((rd_T85 x6_1 x33_2).f0.f1)).bind fun bt246 => ((span_flip.f k2 x238002_2 ((rd_T85 x6_1 x33_2).f1)).bind fun t248 => (span_Solve.l1 k2 l0 x6_1 l0 (l0.length : Int) x17_1 x6_1 (x6_1.length : Int) (wrap64 (x33_2 + 1)) a1_0 a1_1 bt246.1 bt246.2 t248))) else (span_Solve.l1 k2 l0 x6_1 l0 (l0.length : Int) x17_1 x6_1 (x6_1.length : Int) (wrap64 (x33_2 + 1)) a1_0 a1_1 x238000_2 x238001_2 x238002_2))) = some (r1, r2) := H
              have A35 := Aside0.mk A350
              clear A350
              replace H := Option.bind_eq_some_iff.mp H
              obtain ⟨t245, A360, H⟩ := H
              replace H : (if t245 = true then ((tower_Add.f x238000_2 x238001_2 ((rd_T85 x6_1 x33_2).f0.f0) ((rd_T85 x6_1 x33_2).f0.f1)).bind fun bt246 => ((span_flip.f k2 x238002_2 ((rd_T85 x6_1 x33_2).f1)).bind fun t248 => (span_Solve.l1 k2 l0 x6_1 l0 (l0.length : Int) x17_1 x6_1 (x6_1.length : Int) (wrap64 (x33_2 + 1)) a1_0 a1_1 bt246.1 bt246.2 t248))) else (span_Solve.l1 k2 l0 x6_1 l0 (l0.length : Int) x17_1 x6_1 (x6_1.length : Int) (wrap64 (x33_2 + 1)) a1_0 a1_1 x238000_2 x238001_2 x238002_2)) = some (r1, r2) := H
              have A36 := Aside0.mk A360
              clear A360
              by_cases c37 : t245 = true
              ·subst c37
               have H1 : ((tower_Add.f x238000_2 x238001_2 ((rd_T85 x6_1 x33_2).f0.f0) ((rd_T85 x6_1 x33_2).f0.f1)).bind fun bt246 => ((span_flip.f k2 x238002_2 ((rd_T85 x6_1 x33_2).f1)).bind fun t248 => (span_Solve.l1 k2 l0 x6_1 l0 (l0.length : Int) x17_1 x6_1 (x6_1.length : Int) (wrap64 (x33_2 + 1)) a1_0 a1_1 bt246.1 bt246.2 t248))) = some (r1, r2) := by rw [if_pos rfl] at H; exact H
               clear H
               have H := H1
               clear H1
               replace H := Option.bind_eq_some_iff.mp H
               obtain ⟨⟨t246, t247⟩, A380, H⟩ := H
               replace H : ((span_flip.f k2 x238002_2 ((rd_T85 x6_1 x33_2).f1)).bind fun t248 => (span_Solve.l1 k2 l0 x6_1 l0 (l0.length : Int) x17_1 x6_1 (x6_1.length : Int) (wrap64 (x33_2 + 1)) a1_0 a1_1 t246 t247 t248)) = some (r1, r2) := H
               have A38 := Aside0.mk A380
               clear A380
               replace H := Option.bind_eq_some_iff.mp H
               obtain ⟨t248, A390, H⟩ := H
               replace H : (span_Solve.l1 k2 l0 x6_1 l0 (l0.length : Int) x17_1 x6_1 (x6_1.length : Int) (wrap64 (x33_2 + 1)) a1_0 a1_1 t246 t247 t248) = some (r1, r2) := H
               have A39 := Aside0.mk A390
               clear A390
               have H' := Aside0.mk H
               clear H
               have p242 : 0 ≤ (x33_2 : Int) := of_decide_eq_true (by first | (with_reducible assumption) | assumption)
               have q242 : x33_2 < (x6_1.length : Int) := of_decide_eq_true (by first | (with_reducible assumption) | assumption)
               obtain ⟨ad242, A242_2, c242_2, e242, hx242_0, hx242_1, hx242_2, hl242_2, hi242_2⟩ := at_T85 (Kd.S_reads' HO_31.out).2.2 x33_2 p242 q242
               cases e242
               obtain ⟨ce242, hce242, hMe242, hcc242⟩ := Kd.S_get HO_31.out z85 x33_2 p242 (by first | exact q242 | exact of_decide_eq_true (by first | (with_reducible assumption) | assumption) | (have e_ := (Kd.S_reads' HO_31.out).1; omega))
               obtain ⟨ve242_2, rfl, ge242_2⟩ := k85_openM hMe242
               have hv242_2 := hcc242 2 _ rfl
               rw [add_field _ _ 2 (by omega)] at hv242_2
               replace hv242_2 := Option.some.inj (hv242_2.symm.trans hx242_2)
               rw [hv242_2] at ge242_2
               have HL242_2 := Aside0.mk (show Kd.R Kd.bool 4 _ _ _ _ ((rd_T85 x6_1 x33_2).f1) from ge242_2)
               clear hv242_2 ge242_2
               clear hcc242 hce242
               have HR242_2 := Aside0.mk hi242_2
               have HC242_2 := Aside0.mk hl242_2
               clear hi242_2 hl242_2
               replace p242 := eq_true p242
               replace q242 := eq_true q242
               try go_wp2_with (first | ((with_reducible refine gate_dst (N := 11) rfl ?_); refine box_event ?hg (N := 11) ?hd (cs := #[.int .u64 0, .int .u64 0, .slice none 0 0]) (t := 85) ?hr ?_; (case hd => rfl); (case hg => rfl); (case hr => first | (go_simp; done) | (go_simp; rfl)); intro gb243 hg w40 hbox hb; have BK243 := Aside0.mk hbox; have GW243 := ge hg HB; have GE243 := ge hg HB; have NB231_243 := nl hg BK231; have NB243_231 := ng hg BK231; have NB233_243 := nl hg BK233; have NB243_233 := ng hg BK233; have NB237_243 := nl hg BK237; have NB243_237 := ng hg BK237; replace HO_6 := Aside0.mk (Kd.S_below (Kd.S_elderB (by (with_reducible repeat (first | apply Kd.S_alloc | apply Kd.S_drewN | apply Kd.S_drew)); exact HO_6.out) gb243 (Nat.le_of_eq hg.symm)) hb); replace HO_31 := Aside0.mk (Kd.S_below (Kd.S_elderB (by (with_reducible repeat (first | apply Kd.S_alloc | apply Kd.S_drewN | apply Kd.S_drew)); exact HO_31.out) gb243 (Nat.le_of_eq hg.symm)) hb); replace HO_238002 := kb HO_238002 hb; replace HL242_2 := Aside0.mk (Kd.R_below (by (with_reducible repeat refine kl ?_); exact HL242_2.out) hb); replace BK231 := bb BK231 hb; replace BK233 := bb BK233 hb; replace BK237 := bb BK237 hb; replace HR242_2 := Aside0.mk (Kd.C_below (by repeat (first | (with_reducible exact HR242_2.out) | (with_reducible refine Kd.C_alloc ?_ _) | (with_reducible refine Kd.C_drewN ?_ _) | (with_reducible refine Kd.C_drew ?_) | exact HR242_2.out)) hb); replace HB := bh HB hb; clear hb hbox hg; have hnb41 := NB243_231.out; have hnc41 := NB231_243.out; have hnb42 := NB243_233.out; have hnc42 := NB233_243.out; have hnb43 := NB243_237.out; have hnc43 := NB237_243.out; obtain ⟨hcz44_0, hcz44_1, hcz44_2⟩ := zc3 BK243; obtain ⟨hfz44_0, hfz44_1, hfz44_2⟩ := zf3 BK243))
               have n0_ : Aside0 (Kd.S k85 85 (((w40.setCell ⟨gb243, 0, none⟩ (.int .u64 ((rd_T85 x6_1 x33_2).f0.f0))).setCell ⟨gb243, 1, none⟩ (.int .u64 ((rd_T85 x6_1 x33_2).f0.f1))).setCell ⟨gb243, 2, none⟩ (.slice A242_2 ((rd_T85 x6_1 x33_2).f1).length c242_2)) w.heap.size (fun k_ => some k_ ≠ (u238002 : Value).ownBlock ∧ k_ ≠ gb237 ∧ k_ ≠ gb243) (.slice (some ad242) x6_1.length co31) x6_1) := ⟨by (with_reducible repeat (first | apply Kd.S_alloc | apply Kd.S_drewN | apply Kd.S_drew)); exact Kd.S_mono (Kd.S_far (p := ⟨gb243, 2, none⟩) (Kd.S_far (p := ⟨gb243, 1, none⟩) (Kd.S_far (p := ⟨gb243, 0, none⟩) (Kd.S_mono HO_6.out (fun k_ hk => (⟨hk, hk.2⟩ : _ ∧ k_ ≠ gb243))) (fun _ hk => hk.2) (.int .u64 ((rd_T85 x6_1 x33_2).f0.f0))) (fun _ hk => hk.2) (.int .u64 ((rd_T85 x6_1 x33_2).f0.f1))) (fun _ hk => hk.2) (.slice A242_2 ((rd_T85 x6_1 x33_2).f1).length c242_2)) (fun _ hk => ⟨hk.1.1.1, ⟨hk.1.1.2, hk.1.2⟩⟩)⟩
               have n1_ : Aside0 (Kd.S k85 85 (((w40.setCell ⟨gb243, 0, none⟩ (.int .u64 ((rd_T85 x6_1 x33_2).f0.f0))).setCell ⟨gb243, 1, none⟩ (.int .u64 ((rd_T85 x6_1 x33_2).f0.f1))).setCell ⟨gb243, 2, none⟩ (.slice A242_2 ((rd_T85 x6_1 x33_2).f1).length c242_2)) w.heap.size (fun k_ => some k_ ≠ (u238002 : Value).ownBlock ∧ k_ ≠ gb237 ∧ k_ ≠ gb243) (.slice (some ad242) x6_1.length co31) x6_1) := ⟨by (with_reducible repeat (first | apply Kd.S_alloc | apply Kd.S_drewN | apply Kd.S_drew)); exact Kd.S_mono (Kd.S_far (p := ⟨gb243, 2, none⟩) (Kd.S_far (p := ⟨gb243, 1, none⟩) (Kd.S_far (p := ⟨gb243, 0, none⟩) (Kd.S_mono HO_31.out (fun k_ hk => (⟨hk, hk.2⟩ : _ ∧ k_ ≠ gb243))) (fun _ hk => hk.2) (.int .u64 ((rd_T85 x6_1 x33_2).f0.f0))) (fun _ hk => hk.2) (.int .u64 ((rd_T85 x6_1 x33_2).f0.f1))) (fun _ hk => hk.2) (.slice A242_2 ((rd_T85 x6_1 x33_2).f1).length c242_2)) (fun _ hk => ⟨hk.1.1.1, ⟨hk.1.1.2, hk.1.2⟩⟩)⟩
               have n2_ : Aside0 (Kd.R Kd.bool 4 (((w40.setCell ⟨gb243, 0, none⟩ (.int .u64 ((rd_T85 x6_1 x33_2).f0.f0))).setCell ⟨gb243, 1, none⟩ (.int .u64 ((rd_T85 x6_1 x33_2).f0.f1))).setCell ⟨gb243, 2, none⟩ (.slice A242_2 ((rd_T85 x6_1 x33_2).f1).length c242_2)) w.heap.size (fun _ => True) u238002 x238002_2) := ⟨by (with_reducible repeat refine kl ?_); exact Kd.R_mono (Kd.R_far (p := ⟨gb243, 2, none⟩) (Kd.R_far (p := ⟨gb243, 1, none⟩) (Kd.R_far (p := ⟨gb243, 0, none⟩) (Kd.R_types HO_238002.out BK243.out (by decide)) (fun _ hk => hk.2) (.int .u64 ((rd_T85 x6_1 x33_2).f0.f0))) (fun _ hk => hk.2) (.int .u64 ((rd_T85 x6_1 x33_2).f0.f1))) (fun _ hk => hk.2) (.slice A242_2 ((rd_T85 x6_1 x33_2).f1).length c242_2)) (fun _ hk => trivial)⟩
               have n3_ : Aside0 (Kd.R Kd.bool 4 (((w40.setCell ⟨gb243, 0, none⟩ (.int .u64 ((rd_T85 x6_1 x33_2).f0.f0))).setCell ⟨gb243, 1, none⟩ (.int .u64 ((rd_T85 x6_1 x33_2).f0.f1))).setCell ⟨gb243, 2, none⟩ (.slice A242_2 ((rd_T85 x6_1 x33_2).f1).length c242_2)) w.heap.size (fun k_ => some k_ ≠ (.slice (some ad242) x6_1.length co31 : Value).ownBlock ∧ some k_ ≠ (u238002 : Value).ownBlock ∧ k_ ≠ gb237) (.slice A242_2 ((rd_T85 x6_1 x33_2).f1).length c242_2) ((rd_T85 x6_1 x33_2).f1)) := ⟨by (with_reducible repeat refine kl ?_); exact Kd.R_mono (Kd.R_far (p := ⟨gb243, 2, none⟩) (Kd.R_far (p := ⟨gb243, 1, none⟩) (Kd.R_far (p := ⟨gb243, 0, none⟩) (Kd.R_types HL242_2.out BK243.out (by decide)) (fun _ hk => hk.2) (.int .u64 ((rd_T85 x6_1 x33_2).f0.f0))) (fun _ hk => hk.2) (.int .u64 ((rd_T85 x6_1 x33_2).f0.f1))) (fun _ hk => hk.2) (.slice A242_2 ((rd_T85 x6_1 x33_2).f1).length c242_2)) (fun _ hk => ⟨hk.1.2, ⟨hk.1.1.1, hk.1.1.2⟩⟩)⟩
               have n4_ : Aside0 ((((w40.setCell ⟨gb243, 0, none⟩ (.int .u64 ((rd_T85 x6_1 x33_2).f0.f0))).setCell ⟨gb243, 1, none⟩ (.int .u64 ((rd_T85 x6_1 x33_2).f0.f1))).setCell ⟨gb243, 2, none⟩ (.slice A242_2 ((rd_T85 x6_1 x33_2).f1).length c242_2)).heap[gb231]? = some (.cells #[.int .u64 a1_0, .int .u64 a1_1] 24 (0, 0))) := ⟨by (with_reducible repeat refine bl ?_); refine blk_far ?_ NB231_243.out _; (with_reducible repeat refine bl ?_); refine blk_far ?_ NB231_243.out _; (with_reducible repeat refine bl ?_); refine blk_far ?_ NB231_243.out _; (with_reducible repeat refine bl ?_); exact BK231.out⟩
               have n5_ : Aside0 ((((w40.setCell ⟨gb243, 0, none⟩ (.int .u64 ((rd_T85 x6_1 x33_2).f0.f0))).setCell ⟨gb243, 1, none⟩ (.int .u64 ((rd_T85 x6_1 x33_2).f0.f1))).setCell ⟨gb243, 2, none⟩ (.slice A242_2 ((rd_T85 x6_1 x33_2).f1).length c242_2)).heap[gb233]? = some (.cells #[.int .u64 ((rd_T24 l0 x17_1).f0), .int .u64 ((rd_T24 l0 x17_1).f1)] 24 (0, 0))) := ⟨by (with_reducible repeat refine bl ?_); refine blk_far ?_ NB233_243.out _; (with_reducible repeat refine bl ?_); refine blk_far ?_ NB233_243.out _; (with_reducible repeat refine bl ?_); refine blk_far ?_ NB233_243.out _; (with_reducible repeat refine bl ?_); exact BK233.out⟩
               have n6_ : Aside0 ((((w40.setCell ⟨gb243, 0, none⟩ (.int .u64 ((rd_T85 x6_1 x33_2).f0.f0))).setCell ⟨gb243, 1, none⟩ (.int .u64 ((rd_T85 x6_1 x33_2).f0.f1))).setCell ⟨gb243, 2, none⟩ (.slice A242_2 ((rd_T85 x6_1 x33_2).f1).length c242_2)).heap[gb237]? = some (.cells #[.int .u64 x238000_2, .int .u64 x238001_2, u238002] 85 (0, 0))) := ⟨by (with_reducible repeat refine bl ?_); refine blk_far ?_ NB237_243.out _; (with_reducible repeat refine bl ?_); refine blk_far ?_ NB237_243.out _; (with_reducible repeat refine bl ?_); refine blk_far ?_ NB237_243.out _; (with_reducible repeat refine bl ?_); exact BK237.out⟩
               have n7_ : Aside0 ((((w40.setCell ⟨gb243, 0, none⟩ (.int .u64 ((rd_T85 x6_1 x33_2).f0.f0))).setCell ⟨gb243, 1, none⟩ (.int .u64 ((rd_T85 x6_1 x33_2).f0.f1))).setCell ⟨gb243, 2, none⟩ (.slice A242_2 ((rd_T85 x6_1 x33_2).f1).length c242_2)).heap[gb243]? = some (.cells #[.int .u64 ((rd_T85 x6_1 x33_2).f0.f0), .int .u64 ((rd_T85 x6_1 x33_2).f0.f1), .slice A242_2 ((rd_T85 x6_1 x33_2).f1).length c242_2] 85 (0, 0))) := ⟨by (with_reducible repeat refine bl ?_); refine blk_put (cs := #[.int .u64 ((rd_T85 x6_1 x33_2).f0.f0), .int .u64 ((rd_T85 x6_1 x33_2).f0.f1), .slice none 0 0]) ?_ 2 _ rfl; (with_reducible repeat refine bl ?_); refine blk_put (cs := #[.int .u64 ((rd_T85 x6_1 x33_2).f0.f0), .int .u64 0, .slice none 0 0]) ?_ 1 _ rfl; (with_reducible repeat refine bl ?_); refine blk_put (cs := #[.int .u64 0, .int .u64 0, .slice none 0 0]) ?_ 0 _ rfl; (with_reducible repeat refine bl ?_); exact BK243.out⟩
               have n8_ : Aside0 (Below w.heap.size w (((w40.setCell ⟨gb243, 0, none⟩ (.int .u64 ((rd_T85 x6_1 x33_2).f0.f0))).setCell ⟨gb243, 1, none⟩ (.int .u64 ((rd_T85 x6_1 x33_2).f0.f1))).setCell ⟨gb243, 2, none⟩ (.slice A242_2 ((rd_T85 x6_1 x33_2).f1).length c242_2))) := ⟨bq HB.out⟩
               (try clear HO_6)
               (try clear HO_31)
               (try clear HO_238002)
               (try clear HL242_2)
               (try clear BK231)
               (try clear BK233)
               (try clear BK237)
               (try clear BK243)
               (try clear HB)
               generalize (((w40.setCell ⟨gb243, 0, none⟩ (.int .u64 ((rd_T85 x6_1 x33_2).f0.f0))).setCell ⟨gb243, 1, none⟩ (.int .u64 ((rd_T85 x6_1 x33_2).f0.f1))).setCell ⟨gb243, 2, none⟩ (.slice A242_2 ((rd_T85 x6_1 x33_2).f1).length c242_2)) = w45 at n0_ n1_ n2_ n3_ n4_ n5_ n6_ n7_ n8_ ⊢
               have HO_6 := n0_
               have HO_31 := n1_
               have HO_238002 := n2_
               have HL242_2 := n3_
               have BK231 := n4_
               have BK233 := n5_
               have BK237 := n6_
               have BK243 := n7_
               have HB := n8_
               clear n0_ n1_ n2_ n3_ n4_ n5_ n6_ n7_ n8_
               replace HO_6 := Aside0.mk (Kd.S_drew HO_6.out)
               replace HO_31 := Aside0.mk (Kd.S_drew HO_31.out)
               replace HO_238002 := Aside0.mk (Kd.R_drew HO_238002.out)
               replace HL242_2 := Aside0.mk (Kd.R_drew HL242_2.out)
               replace BK231 := Aside0.mk (blk_drew BK231.out)
               replace BK233 := Aside0.mk (blk_drew BK233.out)
               replace BK237 := Aside0.mk (blk_drew BK237.out)
               replace BK243 := Aside0.mk (blk_drew BK243.out)
               replace HB := Aside0.mk (below_drew1 HB.out)
               refine start_ (n := 6) (S := fun w' => w'.cell? ⟨gb237, 0, none⟩ = some (.int .u64 x238000_2) ∧ w'.cell? ⟨gb237, 1, none⟩ = some (.int .u64 x238001_2) ∧ w'.cell? ⟨gb237, 2, none⟩ = some (u238002) ∧ w'.cell? ⟨gb243, 0, none⟩ = some (.int .u64 ((rd_T85 x6_1 x33_2).f0.f0)) ∧ w'.cell? ⟨gb243, 1, none⟩ = some (.int .u64 ((rd_T85 x6_1 x33_2).f0.f1)) ∧ w'.cell? ⟨gb243, 2, none⟩ = some (.slice A242_2 ((rd_T85 x6_1 x33_2).f1).length c242_2)) (ds := []) #[false, false, false, false, false, false] (by kernel_rfl) rfl rfl ⟨(blk_cell BK237.out 0).trans rfl, (blk_cell BK237.out 1).trans rfl, (blk_cell BK237.out 2).trans rfl, (blk_cell BK243.out 0).trans rfl, (blk_cell BK243.out 1).trans rfl, (blk_cell BK243.out 2).trans rfl⟩ (fun hHeld => ?_)
               generalize w45.drew = w46 at HO_6 HO_31 HO_238002 HL242_2 BK231 BK233 BK237 BK243 HB hHeld ⊢
               refine pure_ (i := 0) (N := some 37) (v := ?_) (a' := ?_) #[true, false, false, false, false, false] rfl rfl (by kernel_rfl) (fun _ _ _ h => h) (Or.inl ⟨by rfl, ?_⟩) ?_ ?_
               rotate_left
               ·intro w'
                go_simp
                with_reducible rfl
               rotate_left
               ·simp only [Act.put, List.setIfInBounds_toArray, List.set_cons_zero, List.set_cons_succ, i64_w, i32_w]
                rfl
               refine pure_ (i := 2) (N := some 39) (v := ?_) (a' := ?_) #[true, false, true, false, false, false] rfl rfl (by kernel_rfl) (fun _ _ _ h => h) (Or.inl ⟨by rfl, ?_⟩) ?_ ?_
               rotate_left
               ·intro w'
                go_simp
                with_reducible rfl
               rotate_left
               ·simp only [Act.put, List.setIfInBounds_toArray, List.set_cons_zero, List.set_cons_succ, i64_w, i32_w]
                rfl
               refine take_ (i := 1) (N := some 38) (v := ?_) (a' := ?_) #[true, true, true, false, false, false] rfl rfl (by kernel_rfl) (fun _ _ _ h => h) (Or.inl ⟨by rfl, ?_⟩) hHeld ?_ ?_
               rotate_left
               ·rintro w' ⟨s0, s1, s2, s3, s4, s5⟩
                go_simp
                with_reducible rfl
               rotate_left
               ·simp only [Act.put, List.setIfInBounds_toArray, List.set_cons_zero, List.set_cons_succ, i64_w, i32_w]
                rfl
               refine take_ (i := 3) (N := some 40) (v := ?_) (a' := ?_) #[true, true, true, true, false, false] rfl rfl (by kernel_rfl) (fun _ _ _ h => h) (Or.inl ⟨by rfl, ?_⟩) hHeld ?_ ?_
               rotate_left
               ·rintro w' ⟨s0, s1, s2, s3, s4, s5⟩
                go_simp
                with_reducible rfl
               rotate_left
               ·simp only [Act.put, List.setIfInBounds_toArray, List.set_cons_zero, List.set_cons_succ, i64_w, i32_w]
                rfl
               refine one_ (i := 4) (N := some 41) #[true, true, true, true, true, false] rfl rfl (by kernel_rfl) (by decide) (fun K hK => ?_)
               refine goes_ Try.func59 (by kernel_rfl) rfl #[.agg #[.int .u64 ((rd_T85 x6_1 x33_2).f0.f0), .int .u64 ((rd_T85 x6_1 x33_2).f0.f1)]] (by rfl) rfl rfl (by (try simp only [List.map_toArray, List.map_cons, List.map_nil]); first | done | rfl | (simp only [List.length_drop, List.length_take]; rfl)) ?_
               with_reducible refine (span_lead.calls ((rd_T85 x6_1 x33_2).f0.f0) ((rd_T85 x6_1 x33_2).f0.f1) t244 _ A35.out).mono ?_
               rintro e w47 ⟨rfl, hb⟩
               refine ⟨_, rfl, ?_⟩
               replace HO_6 := Aside0.mk (Kd.S_below (by (with_reducible repeat (first | apply Kd.S_alloc | apply Kd.S_drewN | apply Kd.S_drew)); exact HO_6.out) hb)
               replace HO_31 := Aside0.mk (Kd.S_below (by (with_reducible repeat (first | apply Kd.S_alloc | apply Kd.S_drewN | apply Kd.S_drew)); exact HO_31.out) hb)
               replace HO_238002 := kb HO_238002 hb
               replace HL242_2 := Aside0.mk (Kd.R_below (by (with_reducible repeat refine kl ?_); exact HL242_2.out) hb)
               replace BK231 := bb BK231 hb
               replace BK233 := bb BK233 hb
               replace BK237 := bb BK237 hb
               replace BK243 := bb BK243 hb
               replace HB := bh HB hb
               (try clear hb)
               (try clear hb2)
               (try clear hk)
               (try clear hi)
               refine hK.out _ _ ⟨(blk_cell BK237.out 0).trans rfl, (blk_cell BK237.out 1).trans rfl, (blk_cell BK237.out 2).trans rfl, (blk_cell BK243.out 0).trans rfl, (blk_cell BK243.out 1).trans rfl, (blk_cell BK243.out 2).trans rfl⟩ (fun hHeld => ?_)
               clear hK K
               refine norm_ (a' := ?_) ?_ ?_
               rotate_left
               ·show Act.put _ (some 41) _ = _
                simp only [Act.put, List.setIfInBounds_toArray, List.set_cons_zero, List.set_cons_succ, i64_w, i32_w]
                rfl
               refine one_ (i := 5) (N := some 42) #[true, true, true, true, true, true] rfl rfl (by kernel_rfl) (by decide) (fun K hK => ?_)
               refine goes_ Try.func58 (by kernel_rfl) rfl #[.agg #[.int .u64 x238000_2, .int .u64 x238001_2], .int .i64 t244] (by rfl) rfl rfl (by (try simp only [List.map_toArray, List.map_cons, List.map_nil]); first | done | rfl | (simp only [List.length_drop, List.length_take]; rfl)) ?_
               with_reducible refine (span_has.calls k2 x238000_2 x238001_2 t244 true _ A36.out).mono ?_
               rintro e w48 ⟨rfl, hb⟩
               refine ⟨_, rfl, ?_⟩
               replace HO_6 := Aside0.mk (Kd.S_below (by (with_reducible repeat (first | apply Kd.S_alloc | apply Kd.S_drewN | apply Kd.S_drew)); exact HO_6.out) hb)
               replace HO_31 := Aside0.mk (Kd.S_below (by (with_reducible repeat (first | apply Kd.S_alloc | apply Kd.S_drewN | apply Kd.S_drew)); exact HO_31.out) hb)
               replace HO_238002 := kb HO_238002 hb
               replace HL242_2 := Aside0.mk (Kd.R_below (by (with_reducible repeat refine kl ?_); exact HL242_2.out) hb)
               replace BK231 := bb BK231 hb
               replace BK233 := bb BK233 hb
               replace BK237 := bb BK237 hb
               replace BK243 := bb BK243 hb
               replace HB := bh HB hb
               (try clear hb)
               (try clear hb2)
               (try clear hk)
               (try clear hi)
               refine hK.out _ _ ⟨(blk_cell BK237.out 0).trans rfl, (blk_cell BK237.out 1).trans rfl, (blk_cell BK237.out 2).trans rfl, (blk_cell BK243.out 0).trans rfl, (blk_cell BK243.out 1).trans rfl, (blk_cell BK243.out 2).trans rfl⟩ (fun hHeld => ?_)
               clear hK K
               refine norm_ (a' := ?_) ?_ ?_
               rotate_left
               ·show Act.put _ (some 42) _ = _
                simp only [Act.put, List.setIfInBounds_toArray, List.set_cons_zero, List.set_cons_succ, i64_w, i32_w]
                rfl
               refine done_ (by kernel_rfl) ?_
               have hnb49 := NB237_231.out
               have hnc49 := NB231_237.out
               have hnb50 := NB237_233.out
               have hnc50 := NB233_237.out
               obtain ⟨hcz51_0, hcz51_1, hcz51_2⟩ := zc3 BK237
               obtain ⟨hfz51_0, hfz51_1, hfz51_2⟩ := zf3 BK237
               obtain ⟨hcz52_0, hcz52_1, hcz52_2⟩ := zc3 BK243
               obtain ⟨hfz52_0, hfz52_1, hfz52_2⟩ := zf3 BK243
               try go_wp2_with (first | ((with_reducible refine gate_callee (f := 12) rfl ?_); refine goesL_ (some 47) rfl rfl Try.func12 (by kernel_rfl) rfl #[.agg #[.int .u64 x238000_2, .int .u64 x238001_2], .agg #[.int .u64 ((rd_T85 x6_1 x33_2).f0.f0), .int .u64 ((rd_T85 x6_1 x33_2).f0.f1)]] rfl (by (try simp only [List.map_toArray, List.map_cons, List.map_nil]); first | done | rfl | (simp only [List.length_drop, List.length_take]; rfl)) ?_; (with_reducible refine (tower_Add.calls x238000_2 x238001_2 ((rd_T85 x6_1 x33_2).f0.f0) ((rd_T85 x6_1 x33_2).f0.f1) t246 t247 _ A38.out).mono ?_); rintro e w53 ⟨rfl, hb⟩; refine ⟨_, rfl, ?_⟩; replace HO_6 := Aside0.mk (Kd.S_below (by (with_reducible repeat (first | apply Kd.S_alloc | apply Kd.S_drewN | apply Kd.S_drew)); exact HO_6.out) hb); replace HO_31 := Aside0.mk (Kd.S_below (by (with_reducible repeat (first | apply Kd.S_alloc | apply Kd.S_drewN | apply Kd.S_drew)); exact HO_31.out) hb); replace HO_238002 := kb HO_238002 hb; replace HL242_2 := Aside0.mk (Kd.R_below (by (with_reducible repeat refine kl ?_); exact HL242_2.out) hb); replace BK231 := bb BK231 hb; replace BK233 := bb BK233 hb; replace BK237 := bb BK237 hb; replace BK243 := bb BK243 hb; replace HB := bh HB hb; (try clear hb); (try clear hb2); (try clear hk); (try clear hi); obtain ⟨hcz54_0, hcz54_1, hcz54_2⟩ := zc3 BK237; obtain ⟨hfz54_0, hfz54_1, hfz54_2⟩ := zf3 BK237) | ((with_reducible refine gate_store (t := 24) (p := 48) rfl ?_); refine store_event (t := 24) (p := 48) (v := ?vo_w55) (w1 := ((w53.setCell ⟨gb237, 0, none⟩ (.int .u64 t246)).setCell ⟨gb237, 1, none⟩ (.int .u64 t247))) ?hg ?ho ?hn ?hr ?_; (case ho => rfl); (case hg => rfl); (case hn => rfl); (case hr => first | (go_simp; done) | (go_simp; rfl)); intro w55 hw; have n0_ : Aside0 (Kd.S k85 85 w55 w.heap.size (fun k_ => some k_ ≠ (u238002 : Value).ownBlock ∧ k_ ≠ gb237 ∧ k_ ≠ gb243) (.slice (some ad242) x6_1.length co31) x6_1) := ⟨(by rw [hw]; exact (by (with_reducible repeat (first | apply Kd.S_alloc | apply Kd.S_drewN | apply Kd.S_drew)); exact Kd.S_mono (Kd.S_far (p := ⟨gb237, 1, none⟩) (Kd.S_far (p := ⟨gb237, 0, none⟩) (Kd.S_mono HO_6.out (fun k_ hk => (⟨hk, hk.2.1⟩ : _ ∧ k_ ≠ gb237))) (fun _ hk => hk.2) (.int .u64 t246)) (fun _ hk => hk.2) (.int .u64 t247)) (fun _ hk => ⟨hk.1.1, ⟨hk.1.2.1, hk.1.2.2⟩⟩)))⟩; have n1_ : Aside0 (Kd.S k85 85 w55 w.heap.size (fun k_ => some k_ ≠ (u238002 : Value).ownBlock ∧ k_ ≠ gb237 ∧ k_ ≠ gb243) (.slice (some ad242) x6_1.length co31) x6_1) := ⟨(by rw [hw]; exact (by (with_reducible repeat (first | apply Kd.S_alloc | apply Kd.S_drewN | apply Kd.S_drew)); exact Kd.S_mono (Kd.S_far (p := ⟨gb237, 1, none⟩) (Kd.S_far (p := ⟨gb237, 0, none⟩) (Kd.S_mono HO_31.out (fun k_ hk => (⟨hk, hk.2.1⟩ : _ ∧ k_ ≠ gb237))) (fun _ hk => hk.2) (.int .u64 t246)) (fun _ hk => hk.2) (.int .u64 t247)) (fun _ hk => ⟨hk.1.1, ⟨hk.1.2.1, hk.1.2.2⟩⟩)))⟩; have n2_ : Aside0 (Kd.R Kd.bool 4 w55 w.heap.size (fun _ => True) u238002 x238002_2) := ⟨(by rw [hw]; exact (by (with_reducible repeat refine kl ?_); exact Kd.R_mono (Kd.R_far (p := ⟨gb237, 1, none⟩) (Kd.R_far (p := ⟨gb237, 0, none⟩) (Kd.R_types HO_238002.out BK237.out (by decide)) (fun _ hk => hk.2) (.int .u64 t246)) (fun _ hk => hk.2) (.int .u64 t247)) (fun _ hk => trivial)))⟩; have n3_ : Aside0 (Kd.R Kd.bool 4 w55 w.heap.size (fun k_ => some k_ ≠ (.slice (some ad242) x6_1.length co31 : Value).ownBlock ∧ some k_ ≠ (u238002 : Value).ownBlock ∧ k_ ≠ gb237) (.slice A242_2 ((rd_T85 x6_1 x33_2).f1).length c242_2) ((rd_T85 x6_1 x33_2).f1)) := ⟨(by rw [hw]; exact (by (with_reducible repeat refine kl ?_); exact Kd.R_mono (Kd.R_far (p := ⟨gb237, 1, none⟩) (Kd.R_far (p := ⟨gb237, 0, none⟩) (Kd.R_types HL242_2.out BK237.out (by decide)) (fun _ hk => hk.2) (.int .u64 t246)) (fun _ hk => hk.2) (.int .u64 t247)) (fun _ hk => ⟨hk.1.1, ⟨hk.1.2.1, hk.1.2.2⟩⟩)))⟩; have n4_ : Aside0 (w55.heap[gb231]? = some (.cells #[.int .u64 a1_0, .int .u64 a1_1] 24 (0, 0))) := ⟨(by rw [hw]; exact (by (with_reducible repeat refine bl ?_); refine blk_far ?_ NB231_237.out _; (with_reducible repeat refine bl ?_); refine blk_far ?_ NB231_237.out _; (with_reducible repeat refine bl ?_); exact BK231.out))⟩; have n5_ : Aside0 (w55.heap[gb233]? = some (.cells #[.int .u64 ((rd_T24 l0 x17_1).f0), .int .u64 ((rd_T24 l0 x17_1).f1)] 24 (0, 0))) := ⟨(by rw [hw]; exact (by (with_reducible repeat refine bl ?_); refine blk_far ?_ NB233_237.out _; (with_reducible repeat refine bl ?_); refine blk_far ?_ NB233_237.out _; (with_reducible repeat refine bl ?_); exact BK233.out))⟩; have n6_ : Aside0 (w55.heap[gb237]? = some (.cells #[.int .u64 t246, .int .u64 t247, u238002] 85 (0, 0))) := ⟨(by rw [hw]; exact (by (with_reducible repeat refine bl ?_); refine blk_put (cs := #[.int .u64 t246, .int .u64 x238001_2, u238002]) ?_ 1 _ rfl; (with_reducible repeat refine bl ?_); refine blk_put (cs := #[.int .u64 x238000_2, .int .u64 x238001_2, u238002]) ?_ 0 _ rfl; (with_reducible repeat refine bl ?_); exact BK237.out))⟩; have n7_ : Aside0 (w55.heap[gb243]? = some (.cells #[.int .u64 ((rd_T85 x6_1 x33_2).f0.f0), .int .u64 ((rd_T85 x6_1 x33_2).f0.f1), .slice A242_2 ((rd_T85 x6_1 x33_2).f1).length c242_2] 85 (0, 0))) := ⟨(by rw [hw]; exact (by (with_reducible repeat refine bl ?_); refine blk_far ?_ NB243_237.out _; (with_reducible repeat refine bl ?_); refine blk_far ?_ NB243_237.out _; (with_reducible repeat refine bl ?_); exact BK243.out))⟩; have n8_ : Aside0 (Below w.heap.size w w55) := ⟨(by rw [hw]; exact (bq HB.out))⟩; clear hw; clear HO_6; clear HO_31; clear HO_238002; clear HL242_2; clear BK231; clear BK233; clear BK237; clear BK243; clear HB; have HO_6 := n0_; have HO_31 := n1_; have HO_238002 := n2_; have HL242_2 := n3_; have BK231 := n4_; have BK233 := n5_; have BK237 := n6_; have BK243 := n7_; have HB := n8_; clear n0_ n1_ n2_ n3_ n4_ n5_ n6_ n7_ n8_; obtain ⟨hcz56_0, hcz56_1, hcz56_2⟩ := zc3 BK237; obtain ⟨hfz56_0, hfz56_1, hfz56_2⟩ := zf3 BK237; obtain ⟨hcz57_0, hcz57_1, hcz57_2⟩ := zc3 BK243; obtain ⟨hfz57_0, hfz57_1, hfz57_2⟩ := zf3 BK243; obtain ⟨Ao58, co58, eo58⟩ := Kd.R_slice HO_238002.out; subst eo58) | ((with_reducible refine gate_callee (f := 60) rfl ?_); refine goesL_ (some 53) rfl rfl Try.func60 (by kernel_rfl) rfl #[.slice Ao58 x238002_2.length co58, .slice A242_2 ((rd_T85 x6_1 x33_2).f1).length c242_2] rfl (by (try simp only [List.map_toArray, List.map_cons, List.map_nil]); first | done | rfl | (simp only [List.length_drop, List.length_take]; rfl)) ?_; (with_reducible refine (span_flip.calls k2 (fun k_ => some k_ = (.slice Ao58 x238002_2.length co58 : Value).ownBlock) (.slice Ao58 x238002_2.length co58) x238002_2 _ _ ((rd_T85 x6_1 x33_2).f1) t248 w _ ?side1 ?side2 ?side3 ?side4 A39.out).mono ?_); (case side1 => repeat (first | (with_reducible first | exact HB.out | apply below_alloc | apply pw_below_drewN | apply below_drew1 | refine below_set ?_ GE231.out | refine below_set ?_ GE233.out | refine below_set ?_ GE237.out | refine below_set ?_ GE243.out) | exact HB.out)); (case side2 => exact Kd.R_tight rfl HO_238002.out); (case side3 => exact Kd.C_kept_own (HL242_2.out) (fun k_ hk_ hs_ => (hk_.2.1) hs_)); (case side4 => exact HC242_2.out); rintro e w59 ⟨rfl, hy0, hb, hkp⟩; refine ⟨_, rfl, ?_⟩; replace HO_6 := Aside0.mk (Kd.S_mono (ok' := fun k_ => some k_ ≠ (.slice Ao58 x238002_2.length co58 : Value).ownBlock ∧ k_ ≠ gb237 ∧ k_ ≠ gb243) (Kd.S_keptB (HO_6.out) hkp (fun k_ hk_ hs_ => (hk_.1) hs_)) (fun k_ hk_ => ⟨hk_.1.1, hk_.1.2.1, hk_.1.2.2⟩)); replace HO_31 := Aside0.mk (Kd.S_mono (ok' := fun k_ => some k_ ≠ (.slice Ao58 x238002_2.length co58 : Value).ownBlock ∧ k_ ≠ gb237 ∧ k_ ≠ gb243) (Kd.S_keptB (HO_31.out) hkp (fun k_ hk_ hs_ => (hk_.1) hs_)) (fun k_ hk_ => ⟨hk_.1.1, hk_.1.2.1, hk_.1.2.2⟩)); replace BK231 := Aside0.mk (blk_kept (bk BK231.out) hkp (fun hs_ => (fun e_ => (Kd.R_ne HO_238002.out BK231.out (by decide)) e_) hs_)); replace BK233 := Aside0.mk (blk_kept (bk BK233.out) hkp (fun hs_ => (fun e_ => (Kd.R_ne HO_238002.out BK233.out (by decide)) e_) hs_)); replace BK237 := Aside0.mk (blk_kept (bk BK237.out) hkp (fun hs_ => (fun e_ => (Kd.R_ne HO_238002.out BK237.out (by decide)) e_) hs_)); replace BK243 := Aside0.mk (blk_kept (bk BK243.out) hkp (fun hs_ => (fun e_ => (Kd.R_ne HO_238002.out BK243.out (by decide)) e_) hs_)); replace HO_238002 := Aside0.mk (Kd.R_reok rfl hy0 (fun k_ e_ => HO_238002.out.1 k_ e_)); replace HB := Aside0.mk hb; clear HL242_2; (try clear hb); (try clear hkp); (try clear hy0)))
               go_roundg k2
               case measure => have := HK1.out; have := HK2.out; omega
               case rel => exact ⟨(wrap64 (x33_2 + 1)), (t246), (t247), (t248), (.slice Ao58 x238002_2.length co58), (by first | rfl | (simp; done) | (simp [*]; done)), H', ⟨by have := HK1.out; have := HK2.out; omega⟩, ⟨by (with_reducible repeat (first | apply Kd.S_alloc | apply Kd.S_drewN | apply Kd.S_drew)); exact Kd.S_mono HO_6.out (fun _ hk => ⟨hk.1, hk.2.1⟩)⟩, ⟨by (with_reducible repeat (first | apply Kd.S_alloc | apply Kd.S_drewN | apply Kd.S_drew)); exact Kd.S_mono HO_31.out (fun _ hk => ⟨hk.1, hk.2.1⟩)⟩, ⟨kr HO_238002.out⟩, ⟨bk BK231.out⟩, ⟨bk BK233.out⟩, ⟨bk BK237.out⟩, ⟨bq HB.out⟩⟩
              ·replace c37 := Bool.eq_false_iff.mpr c37
               subst c37
               have H1 : (span_Solve.l1 k2 l0 x6_1 l0 (l0.length : Int) x17_1 x6_1 (x6_1.length : Int) (wrap64 (x33_2 + 1)) a1_0 a1_1 x238000_2 x238001_2 x238002_2) = some (r1, r2) := by rw [if_neg (show ¬ (false = true) by decide)] at H; exact H
               clear H
               have H := H1
               clear H1
               have H' := Aside0.mk H
               clear H
               have p242 : 0 ≤ (x33_2 : Int) := of_decide_eq_true (by first | (with_reducible assumption) | assumption)
               have q242 : x33_2 < (x6_1.length : Int) := of_decide_eq_true (by first | (with_reducible assumption) | assumption)
               obtain ⟨ad242, A242_2, c242_2, e242, hx242_0, hx242_1, hx242_2, hl242_2, hi242_2⟩ := at_T85 (Kd.S_reads' HO_31.out).2.2 x33_2 p242 q242
               cases e242
               obtain ⟨ce242, hce242, hMe242, hcc242⟩ := Kd.S_get HO_31.out z85 x33_2 p242 (by first | exact q242 | exact of_decide_eq_true (by first | (with_reducible assumption) | assumption) | (have e_ := (Kd.S_reads' HO_31.out).1; omega))
               obtain ⟨ve242_2, rfl, ge242_2⟩ := k85_openM hMe242
               have hv242_2 := hcc242 2 _ rfl
               rw [add_field _ _ 2 (by omega)] at hv242_2
               replace hv242_2 := Option.some.inj (hv242_2.symm.trans hx242_2)
               rw [hv242_2] at ge242_2
               have HL242_2 := Aside0.mk (show Kd.R Kd.bool 4 _ _ _ _ ((rd_T85 x6_1 x33_2).f1) from ge242_2)
               clear hv242_2 ge242_2
               clear hcc242 hce242
               have HR242_2 := Aside0.mk hi242_2
               have HC242_2 := Aside0.mk hl242_2
               clear hi242_2 hl242_2
               replace p242 := eq_true p242
               replace q242 := eq_true q242
               try go_wp2_with (first | ((with_reducible refine gate_dst (N := 11) rfl ?_); refine box_event ?hg (N := 11) ?hd (cs := #[.int .u64 0, .int .u64 0, .slice none 0 0]) (t := 85) ?hr ?_; (case hd => rfl); (case hg => rfl); (case hr => first | (go_simp; done) | (go_simp; rfl)); intro gb243 hg w60 hbox hb; have BK243 := Aside0.mk hbox; have GW243 := ge hg HB; have GE243 := ge hg HB; have NB231_243 := nl hg BK231; have NB243_231 := ng hg BK231; have NB233_243 := nl hg BK233; have NB243_233 := ng hg BK233; have NB237_243 := nl hg BK237; have NB243_237 := ng hg BK237; replace HO_6 := Aside0.mk (Kd.S_below (Kd.S_elderB (by (with_reducible repeat (first | apply Kd.S_alloc | apply Kd.S_drewN | apply Kd.S_drew)); exact HO_6.out) gb243 (Nat.le_of_eq hg.symm)) hb); replace HO_31 := Aside0.mk (Kd.S_below (Kd.S_elderB (by (with_reducible repeat (first | apply Kd.S_alloc | apply Kd.S_drewN | apply Kd.S_drew)); exact HO_31.out) gb243 (Nat.le_of_eq hg.symm)) hb); replace HO_238002 := kb HO_238002 hb; replace HL242_2 := Aside0.mk (Kd.R_below (by (with_reducible repeat refine kl ?_); exact HL242_2.out) hb); replace BK231 := bb BK231 hb; replace BK233 := bb BK233 hb; replace BK237 := bb BK237 hb; replace HR242_2 := Aside0.mk (Kd.C_below (by repeat (first | (with_reducible exact HR242_2.out) | (with_reducible refine Kd.C_alloc ?_ _) | (with_reducible refine Kd.C_drewN ?_ _) | (with_reducible refine Kd.C_drew ?_) | exact HR242_2.out)) hb); replace HB := bh HB hb; clear hb hbox hg; have hnb61 := NB243_231.out; have hnc61 := NB231_243.out; have hnb62 := NB243_233.out; have hnc62 := NB233_243.out; have hnb63 := NB243_237.out; have hnc63 := NB237_243.out; obtain ⟨hcz64_0, hcz64_1, hcz64_2⟩ := zc3 BK243; obtain ⟨hfz64_0, hfz64_1, hfz64_2⟩ := zf3 BK243))
               have n0_ : Aside0 (Kd.S k85 85 (((w60.setCell ⟨gb243, 0, none⟩ (.int .u64 ((rd_T85 x6_1 x33_2).f0.f0))).setCell ⟨gb243, 1, none⟩ (.int .u64 ((rd_T85 x6_1 x33_2).f0.f1))).setCell ⟨gb243, 2, none⟩ (.slice A242_2 ((rd_T85 x6_1 x33_2).f1).length c242_2)) w.heap.size (fun k_ => some k_ ≠ (u238002 : Value).ownBlock ∧ k_ ≠ gb237 ∧ k_ ≠ gb243) (.slice (some ad242) x6_1.length co31) x6_1) := ⟨by (with_reducible repeat (first | apply Kd.S_alloc | apply Kd.S_drewN | apply Kd.S_drew)); exact Kd.S_mono (Kd.S_far (p := ⟨gb243, 2, none⟩) (Kd.S_far (p := ⟨gb243, 1, none⟩) (Kd.S_far (p := ⟨gb243, 0, none⟩) (Kd.S_mono HO_6.out (fun k_ hk => (⟨hk, hk.2⟩ : _ ∧ k_ ≠ gb243))) (fun _ hk => hk.2) (.int .u64 ((rd_T85 x6_1 x33_2).f0.f0))) (fun _ hk => hk.2) (.int .u64 ((rd_T85 x6_1 x33_2).f0.f1))) (fun _ hk => hk.2) (.slice A242_2 ((rd_T85 x6_1 x33_2).f1).length c242_2)) (fun _ hk => ⟨hk.1.1.1, ⟨hk.1.1.2, hk.1.2⟩⟩)⟩
               have n1_ : Aside0 (Kd.S k85 85 (((w60.setCell ⟨gb243, 0, none⟩ (.int .u64 ((rd_T85 x6_1 x33_2).f0.f0))).setCell ⟨gb243, 1, none⟩ (.int .u64 ((rd_T85 x6_1 x33_2).f0.f1))).setCell ⟨gb243, 2, none⟩ (.slice A242_2 ((rd_T85 x6_1 x33_2).f1).length c242_2)) w.heap.size (fun k_ => some k_ ≠ (u238002 : Value).ownBlock ∧ k_ ≠ gb237 ∧ k_ ≠ gb243) (.slice (some ad242) x6_1.length co31) x6_1) := ⟨by (with_reducible repeat (first | apply Kd.S_alloc | apply Kd.S_drewN | apply Kd.S_drew)); exact Kd.S_mono (Kd.S_far (p := ⟨gb243, 2, none⟩) (Kd.S_far (p := ⟨gb243, 1, none⟩) (Kd.S_far (p := ⟨gb243, 0, none⟩) (Kd.S_mono HO_31.out (fun k_ hk => (⟨hk, hk.2⟩ : _ ∧ k_ ≠ gb243))) (fun _ hk => hk.2) (.int .u64 ((rd_T85 x6_1 x33_2).f0.f0))) (fun _ hk => hk.2) (.int .u64 ((rd_T85 x6_1 x33_2).f0.f1))) (fun _ hk => hk.2) (.slice A242_2 ((rd_T85 x6_1 x33_2).f1).length c242_2)) (fun _ hk => ⟨hk.1.1.1, ⟨hk.1.1.2, hk.1.2⟩⟩)⟩
               have n2_ : Aside0 (Kd.R Kd.bool 4 (((w60.setCell ⟨gb243, 0, none⟩ (.int .u64 ((rd_T85 x6_1 x33_2).f0.f0))).setCell ⟨gb243, 1, none⟩ (.int .u64 ((rd_T85 x6_1 x33_2).f0.f1))).setCell ⟨gb243, 2, none⟩ (.slice A242_2 ((rd_T85 x6_1 x33_2).f1).length c242_2)) w.heap.size (fun _ => True) u238002 x238002_2) := ⟨by (with_reducible repeat refine kl ?_); exact Kd.R_mono (Kd.R_far (p := ⟨gb243, 2, none⟩) (Kd.R_far (p := ⟨gb243, 1, none⟩) (Kd.R_far (p := ⟨gb243, 0, none⟩) (Kd.R_types HO_238002.out BK243.out (by decide)) (fun _ hk => hk.2) (.int .u64 ((rd_T85 x6_1 x33_2).f0.f0))) (fun _ hk => hk.2) (.int .u64 ((rd_T85 x6_1 x33_2).f0.f1))) (fun _ hk => hk.2) (.slice A242_2 ((rd_T85 x6_1 x33_2).f1).length c242_2)) (fun _ hk => trivial)⟩
               have n3_ : Aside0 (Kd.R Kd.bool 4 (((w60.setCell ⟨gb243, 0, none⟩ (.int .u64 ((rd_T85 x6_1 x33_2).f0.f0))).setCell ⟨gb243, 1, none⟩ (.int .u64 ((rd_T85 x6_1 x33_2).f0.f1))).setCell ⟨gb243, 2, none⟩ (.slice A242_2 ((rd_T85 x6_1 x33_2).f1).length c242_2)) w.heap.size (fun k_ => some k_ ≠ (.slice (some ad242) x6_1.length co31 : Value).ownBlock ∧ some k_ ≠ (u238002 : Value).ownBlock ∧ k_ ≠ gb237) (.slice A242_2 ((rd_T85 x6_1 x33_2).f1).length c242_2) ((rd_T85 x6_1 x33_2).f1)) := ⟨by (with_reducible repeat refine kl ?_); exact Kd.R_mono (Kd.R_far (p := ⟨gb243, 2, none⟩) (Kd.R_far (p := ⟨gb243, 1, none⟩) (Kd.R_far (p := ⟨gb243, 0, none⟩) (Kd.R_types HL242_2.out BK243.out (by decide)) (fun _ hk => hk.2) (.int .u64 ((rd_T85 x6_1 x33_2).f0.f0))) (fun _ hk => hk.2) (.int .u64 ((rd_T85 x6_1 x33_2).f0.f1))) (fun _ hk => hk.2) (.slice A242_2 ((rd_T85 x6_1 x33_2).f1).length c242_2)) (fun _ hk => ⟨hk.1.2, ⟨hk.1.1.1, hk.1.1.2⟩⟩)⟩
               have n4_ : Aside0 ((((w60.setCell ⟨gb243, 0, none⟩ (.int .u64 ((rd_T85 x6_1 x33_2).f0.f0))).setCell ⟨gb243, 1, none⟩ (.int .u64 ((rd_T85 x6_1 x33_2).f0.f1))).setCell ⟨gb243, 2, none⟩ (.slice A242_2 ((rd_T85 x6_1 x33_2).f1).length c242_2)).heap[gb231]? = some (.cells #[.int .u64 a1_0, .int .u64 a1_1] 24 (0, 0))) := ⟨by (with_reducible repeat refine bl ?_); refine blk_far ?_ NB231_243.out _; (with_reducible repeat refine bl ?_); refine blk_far ?_ NB231_243.out _; (with_reducible repeat refine bl ?_); refine blk_far ?_ NB231_243.out _; (with_reducible repeat refine bl ?_); exact BK231.out⟩
               have n5_ : Aside0 ((((w60.setCell ⟨gb243, 0, none⟩ (.int .u64 ((rd_T85 x6_1 x33_2).f0.f0))).setCell ⟨gb243, 1, none⟩ (.int .u64 ((rd_T85 x6_1 x33_2).f0.f1))).setCell ⟨gb243, 2, none⟩ (.slice A242_2 ((rd_T85 x6_1 x33_2).f1).length c242_2)).heap[gb233]? = some (.cells #[.int .u64 ((rd_T24 l0 x17_1).f0), .int .u64 ((rd_T24 l0 x17_1).f1)] 24 (0, 0))) := ⟨by (with_reducible repeat refine bl ?_); refine blk_far ?_ NB233_243.out _; (with_reducible repeat refine bl ?_); refine blk_far ?_ NB233_243.out _; (with_reducible repeat refine bl ?_); refine blk_far ?_ NB233_243.out _; (with_reducible repeat refine bl ?_); exact BK233.out⟩
               have n6_ : Aside0 ((((w60.setCell ⟨gb243, 0, none⟩ (.int .u64 ((rd_T85 x6_1 x33_2).f0.f0))).setCell ⟨gb243, 1, none⟩ (.int .u64 ((rd_T85 x6_1 x33_2).f0.f1))).setCell ⟨gb243, 2, none⟩ (.slice A242_2 ((rd_T85 x6_1 x33_2).f1).length c242_2)).heap[gb237]? = some (.cells #[.int .u64 x238000_2, .int .u64 x238001_2, u238002] 85 (0, 0))) := ⟨by (with_reducible repeat refine bl ?_); refine blk_far ?_ NB237_243.out _; (with_reducible repeat refine bl ?_); refine blk_far ?_ NB237_243.out _; (with_reducible repeat refine bl ?_); refine blk_far ?_ NB237_243.out _; (with_reducible repeat refine bl ?_); exact BK237.out⟩
               have n7_ : Aside0 ((((w60.setCell ⟨gb243, 0, none⟩ (.int .u64 ((rd_T85 x6_1 x33_2).f0.f0))).setCell ⟨gb243, 1, none⟩ (.int .u64 ((rd_T85 x6_1 x33_2).f0.f1))).setCell ⟨gb243, 2, none⟩ (.slice A242_2 ((rd_T85 x6_1 x33_2).f1).length c242_2)).heap[gb243]? = some (.cells #[.int .u64 ((rd_T85 x6_1 x33_2).f0.f0), .int .u64 ((rd_T85 x6_1 x33_2).f0.f1), .slice A242_2 ((rd_T85 x6_1 x33_2).f1).length c242_2] 85 (0, 0))) := ⟨by (with_reducible repeat refine bl ?_); refine blk_put (cs := #[.int .u64 ((rd_T85 x6_1 x33_2).f0.f0), .int .u64 ((rd_T85 x6_1 x33_2).f0.f1), .slice none 0 0]) ?_ 2 _ rfl; (with_reducible repeat refine bl ?_); refine blk_put (cs := #[.int .u64 ((rd_T85 x6_1 x33_2).f0.f0), .int .u64 0, .slice none 0 0]) ?_ 1 _ rfl; (with_reducible repeat refine bl ?_); refine blk_put (cs := #[.int .u64 0, .int .u64 0, .slice none 0 0]) ?_ 0 _ rfl; (with_reducible repeat refine bl ?_); exact BK243.out⟩
               have n8_ : Aside0 (Below w.heap.size w (((w60.setCell ⟨gb243, 0, none⟩ (.int .u64 ((rd_T85 x6_1 x33_2).f0.f0))).setCell ⟨gb243, 1, none⟩ (.int .u64 ((rd_T85 x6_1 x33_2).f0.f1))).setCell ⟨gb243, 2, none⟩ (.slice A242_2 ((rd_T85 x6_1 x33_2).f1).length c242_2))) := ⟨bq HB.out⟩
               (try clear HO_6)
               (try clear HO_31)
               (try clear HO_238002)
               (try clear HL242_2)
               (try clear BK231)
               (try clear BK233)
               (try clear BK237)
               (try clear BK243)
               (try clear HB)
               generalize (((w60.setCell ⟨gb243, 0, none⟩ (.int .u64 ((rd_T85 x6_1 x33_2).f0.f0))).setCell ⟨gb243, 1, none⟩ (.int .u64 ((rd_T85 x6_1 x33_2).f0.f1))).setCell ⟨gb243, 2, none⟩ (.slice A242_2 ((rd_T85 x6_1 x33_2).f1).length c242_2)) = w65 at n0_ n1_ n2_ n3_ n4_ n5_ n6_ n7_ n8_ ⊢
               have HO_6 := n0_
               have HO_31 := n1_
               have HO_238002 := n2_
               have HL242_2 := n3_
               have BK231 := n4_
               have BK233 := n5_
               have BK237 := n6_
               have BK243 := n7_
               have HB := n8_
               clear n0_ n1_ n2_ n3_ n4_ n5_ n6_ n7_ n8_
               replace HO_6 := Aside0.mk (Kd.S_drew HO_6.out)
               replace HO_31 := Aside0.mk (Kd.S_drew HO_31.out)
               replace HO_238002 := Aside0.mk (Kd.R_drew HO_238002.out)
               replace HL242_2 := Aside0.mk (Kd.R_drew HL242_2.out)
               replace BK231 := Aside0.mk (blk_drew BK231.out)
               replace BK233 := Aside0.mk (blk_drew BK233.out)
               replace BK237 := Aside0.mk (blk_drew BK237.out)
               replace BK243 := Aside0.mk (blk_drew BK243.out)
               replace HB := Aside0.mk (below_drew1 HB.out)
               refine start_ (n := 6) (S := fun w' => w'.cell? ⟨gb237, 0, none⟩ = some (.int .u64 x238000_2) ∧ w'.cell? ⟨gb237, 1, none⟩ = some (.int .u64 x238001_2) ∧ w'.cell? ⟨gb237, 2, none⟩ = some (u238002) ∧ w'.cell? ⟨gb243, 0, none⟩ = some (.int .u64 ((rd_T85 x6_1 x33_2).f0.f0)) ∧ w'.cell? ⟨gb243, 1, none⟩ = some (.int .u64 ((rd_T85 x6_1 x33_2).f0.f1)) ∧ w'.cell? ⟨gb243, 2, none⟩ = some (.slice A242_2 ((rd_T85 x6_1 x33_2).f1).length c242_2)) (ds := []) #[false, false, false, false, false, false] (by kernel_rfl) rfl rfl ⟨(blk_cell BK237.out 0).trans rfl, (blk_cell BK237.out 1).trans rfl, (blk_cell BK237.out 2).trans rfl, (blk_cell BK243.out 0).trans rfl, (blk_cell BK243.out 1).trans rfl, (blk_cell BK243.out 2).trans rfl⟩ (fun hHeld => ?_)
               generalize w65.drew = w66 at HO_6 HO_31 HO_238002 HL242_2 BK231 BK233 BK237 BK243 HB hHeld ⊢
               refine pure_ (i := 0) (N := some 37) (v := ?_) (a' := ?_) #[true, false, false, false, false, false] rfl rfl (by kernel_rfl) (fun _ _ _ h => h) (Or.inl ⟨by rfl, ?_⟩) ?_ ?_
               rotate_left
               ·intro w'
                go_simp
                with_reducible rfl
               rotate_left
               ·simp only [Act.put, List.setIfInBounds_toArray, List.set_cons_zero, List.set_cons_succ, i64_w, i32_w]
                rfl
               refine pure_ (i := 2) (N := some 39) (v := ?_) (a' := ?_) #[true, false, true, false, false, false] rfl rfl (by kernel_rfl) (fun _ _ _ h => h) (Or.inl ⟨by rfl, ?_⟩) ?_ ?_
               rotate_left
               ·intro w'
                go_simp
                with_reducible rfl
               rotate_left
               ·simp only [Act.put, List.setIfInBounds_toArray, List.set_cons_zero, List.set_cons_succ, i64_w, i32_w]
                rfl
               refine take_ (i := 1) (N := some 38) (v := ?_) (a' := ?_) #[true, true, true, false, false, false] rfl rfl (by kernel_rfl) (fun _ _ _ h => h) (Or.inl ⟨by rfl, ?_⟩) hHeld ?_ ?_
               rotate_left
               ·rintro w' ⟨s0, s1, s2, s3, s4, s5⟩
                go_simp
                with_reducible rfl
               rotate_left
               ·simp only [Act.put, List.setIfInBounds_toArray, List.set_cons_zero, List.set_cons_succ, i64_w, i32_w]
                rfl
               refine take_ (i := 3) (N := some 40) (v := ?_) (a' := ?_) #[true, true, true, true, false, false] rfl rfl (by kernel_rfl) (fun _ _ _ h => h) (Or.inl ⟨by rfl, ?_⟩) hHeld ?_ ?_
               rotate_left
               ·rintro w' ⟨s0, s1, s2, s3, s4, s5⟩
                go_simp
                with_reducible rfl
               rotate_left
               ·simp only [Act.put, List.setIfInBounds_toArray, List.set_cons_zero, List.set_cons_succ, i64_w, i32_w]
                rfl
               refine one_ (i := 4) (N := some 41) #[true, true, true, true, true, false] rfl rfl (by kernel_rfl) (by decide) (fun K hK => ?_)
               refine goes_ Try.func59 (by kernel_rfl) rfl #[.agg #[.int .u64 ((rd_T85 x6_1 x33_2).f0.f0), .int .u64 ((rd_T85 x6_1 x33_2).f0.f1)]] (by rfl) rfl rfl (by (try simp only [List.map_toArray, List.map_cons, List.map_nil]); first | done | rfl | (simp only [List.length_drop, List.length_take]; rfl)) ?_
               with_reducible refine (span_lead.calls ((rd_T85 x6_1 x33_2).f0.f0) ((rd_T85 x6_1 x33_2).f0.f1) t244 _ A35.out).mono ?_
               rintro e w67 ⟨rfl, hb⟩
               refine ⟨_, rfl, ?_⟩
               replace HO_6 := Aside0.mk (Kd.S_below (by (with_reducible repeat (first | apply Kd.S_alloc | apply Kd.S_drewN | apply Kd.S_drew)); exact HO_6.out) hb)
               replace HO_31 := Aside0.mk (Kd.S_below (by (with_reducible repeat (first | apply Kd.S_alloc | apply Kd.S_drewN | apply Kd.S_drew)); exact HO_31.out) hb)
               replace HO_238002 := kb HO_238002 hb
               replace HL242_2 := Aside0.mk (Kd.R_below (by (with_reducible repeat refine kl ?_); exact HL242_2.out) hb)
               replace BK231 := bb BK231 hb
               replace BK233 := bb BK233 hb
               replace BK237 := bb BK237 hb
               replace BK243 := bb BK243 hb
               replace HB := bh HB hb
               (try clear hb)
               (try clear hb2)
               (try clear hk)
               (try clear hi)
               refine hK.out _ _ ⟨(blk_cell BK237.out 0).trans rfl, (blk_cell BK237.out 1).trans rfl, (blk_cell BK237.out 2).trans rfl, (blk_cell BK243.out 0).trans rfl, (blk_cell BK243.out 1).trans rfl, (blk_cell BK243.out 2).trans rfl⟩ (fun hHeld => ?_)
               clear hK K
               refine norm_ (a' := ?_) ?_ ?_
               rotate_left
               ·show Act.put _ (some 41) _ = _
                simp only [Act.put, List.setIfInBounds_toArray, List.set_cons_zero, List.set_cons_succ, i64_w, i32_w]
                rfl
               refine one_ (i := 5) (N := some 42) #[true, true, true, true, true, true] rfl rfl (by kernel_rfl) (by decide) (fun K hK => ?_)
               refine goes_ Try.func58 (by kernel_rfl) rfl #[.agg #[.int .u64 x238000_2, .int .u64 x238001_2], .int .i64 t244] (by rfl) rfl rfl (by (try simp only [List.map_toArray, List.map_cons, List.map_nil]); first | done | rfl | (simp only [List.length_drop, List.length_take]; rfl)) ?_
               with_reducible refine (span_has.calls k2 x238000_2 x238001_2 t244 false _ A36.out).mono ?_
               rintro e w68 ⟨rfl, hb⟩
               refine ⟨_, rfl, ?_⟩
               replace HO_6 := Aside0.mk (Kd.S_below (by (with_reducible repeat (first | apply Kd.S_alloc | apply Kd.S_drewN | apply Kd.S_drew)); exact HO_6.out) hb)
               replace HO_31 := Aside0.mk (Kd.S_below (by (with_reducible repeat (first | apply Kd.S_alloc | apply Kd.S_drewN | apply Kd.S_drew)); exact HO_31.out) hb)
               replace HO_238002 := kb HO_238002 hb
               replace HL242_2 := Aside0.mk (Kd.R_below (by (with_reducible repeat refine kl ?_); exact HL242_2.out) hb)
               replace BK231 := bb BK231 hb
               replace BK233 := bb BK233 hb
               replace BK237 := bb BK237 hb
               replace BK243 := bb BK243 hb
               replace HB := bh HB hb
               (try clear hb)
               (try clear hb2)
               (try clear hk)
               (try clear hi)
               refine hK.out _ _ ⟨(blk_cell BK237.out 0).trans rfl, (blk_cell BK237.out 1).trans rfl, (blk_cell BK237.out 2).trans rfl, (blk_cell BK243.out 0).trans rfl, (blk_cell BK243.out 1).trans rfl, (blk_cell BK243.out 2).trans rfl⟩ (fun hHeld => ?_)
               clear hK K
               refine norm_ (a' := ?_) ?_ ?_
               rotate_left
               ·show Act.put _ (some 42) _ = _
                simp only [Act.put, List.setIfInBounds_toArray, List.set_cons_zero, List.set_cons_succ, i64_w, i32_w]
                rfl
               refine done_ (by kernel_rfl) ?_
               try go_wp2
               go_roundg k2
               case measure => have := HK1.out; have := HK2.out; omega
               case rel => exact ⟨(wrap64 (x33_2 + 1)), (x238000_2), (x238001_2), (x238002_2), (u238002), (by first | rfl | (simp; done) | (simp [*]; done)), H', ⟨by have := HK1.out; have := HK2.out; omega⟩, ⟨by (with_reducible repeat (first | apply Kd.S_alloc | apply Kd.S_drewN | apply Kd.S_drew)); exact Kd.S_mono HO_6.out (fun _ hk => ⟨hk.1, hk.2.1⟩)⟩, ⟨by (with_reducible repeat (first | apply Kd.S_alloc | apply Kd.S_drewN | apply Kd.S_drew)); exact Kd.S_mono HO_31.out (fun _ hk => ⟨hk.1, hk.2.1⟩)⟩, ⟨kr HO_238002.out⟩, ⟨bk BK231.out⟩, ⟨bk BK233.out⟩, ⟨bk BK237.out⟩, ⟨bq HB.out⟩⟩
             ·rw [if_neg c34] at H
              exact absurd H (by simp)
            ·rw [if_neg c33] at H
             exact absurd H (by simp)
           ·rw [if_neg c32] at H
            have c32b0 : decide (x33_2 < (x6_1.length : Int)) = false := decide_eq_false c32
            clear c32
            by_cases c69 : (!(x238000_2 == 0) || (!(x238001_2 == 0))) = true
            ·rw [if_pos c69] at H
             have c69b0 : (!(x238000_2 == 0) || (!(x238001_2 == 0))) = true := c69
             clear c69
             by_cases c70 : x6_1.length < 3518437208883
             ·rw [if_pos c70] at H
              have LMc70 := Aside0.mk c70
              clear c70
              obtain ⟨y239, hy239⟩ : ∃ y_ : List (S85), y_ = (x6_1 ++ [(⟨(⟨x238000_2, x238001_2⟩ : S24), x238002_2⟩ : S85)]) := ⟨_, rfl⟩
              replace H : (span_Solve.l0 k2 l0 y239 l0 (l0.length : Int) (wrap64 (x17_1 + 1)) a1_0 a1_1) = some (r1, r2) := by first | (rw [hy239]; with_reducible exact H) | (have H2_ := (Option.bind_some _ _).symm.trans H; rw [hy239]; with_reducible exact H2_) | (have H2_ := (Option.bind_some _ _).symm.trans H; with_reducible exact H2_) | with_reducible exact H | (rw [hy239]; exact H) | exact H
              have Ny239 := Aside0.mk hy239
              clear hy239
              have H' := Aside0.mk H
              clear H
              have hnb71 := NB237_231.out
              have hnc71 := NB231_237.out
              have hnb72 := NB237_233.out
              have hnc72 := NB233_237.out
              obtain ⟨hcz73_0, hcz73_1, hcz73_2⟩ := zc3 BK237
              obtain ⟨hfz73_0, hfz73_1, hfz73_2⟩ := zf3 BK237
              obtain ⟨Ao75, co75, eo75⟩ := Kd.R_slice HO_238002.out
              subst eo75
              go_wp2_with (first | ((with_reducible refine gate_builtin (b := .append) (xs := #[.tmp 59, .tmp 61]) rfl ?_); at_builtin; refine Kd.S_append k85 (w0 := w) w.heap.size rfl (.tmp 59) (.tmp 61) 83 85 (.agg #[(.int .u64 0), (.int .u64 0), (.slice none 0 0)]) 40 rfl Try.underlying83 info85 rfl (by decide) (by omega) (.slice Ao31 x6_1.length co31) x6_1 (⟨(⟨x238000_2, x238001_2⟩ : S24), x238002_2⟩ : S85) [.int .u64 x238000_2, .int .u64 x238001_2, .slice Ao75 x238002_2.length co75] (fun k_ => k_ ≠ gb237) (fun k_ => some k_ = (.slice Ao75 x238002_2.length co75 : Value).ownBlock) rfl rfl ?aP (fun k_ hk_ => ((Kd.R_mono (ok' := fun k_ => ((fun k_ => k_ ≠ gb237)) k_ ∧ some k_ ≠ (.slice Ao31 x6_1.length co31 : Value).ownBlock) (Kd.R_types (Kd.R_apart' (HO_238002.out) (Kd.S_typed HO_6.out) (by decide)) BK237.out (by decide)) (fun k_ hk => ⟨hk.2, hk.1.2⟩))).1 k_ hk_.symm) ?aF ?aO ?aB ?aS ?aL ?_; (case aP => exact k85_mkM _ _ _ (⟨(⟨x238000_2, x238001_2⟩ : S24), x238002_2⟩ : S85) (Kd.R_mono (Kd.R_tight rfl (Kd.R_mono (ok' := fun k_ => ((fun k_ => k_ ≠ gb237)) k_ ∧ some k_ ≠ (.slice Ao31 x6_1.length co31 : Value).ownBlock) (Kd.R_types (Kd.R_apart' (HO_238002.out) (Kd.S_typed HO_6.out) (by decide)) BK237.out (by decide)) (fun k_ hk => ⟨hk.2, hk.1.2⟩))) (fun _ h_ => h_))); (case aB => exact (bq HB.out)); (case aF => exact (fun k_ hk => Kd.freshB (g := gb237) (o := .cells #[.int .u64 x238000_2, .int .u64 x238001_2, .slice Ao75 x238002_2.length co75] 85 (0, 0)) (bk BK237.out) k_ hk)); (case aO => exact (by (with_reducible repeat (first | apply Kd.S_alloc | apply Kd.S_drewN | apply Kd.S_drew)); exact Kd.S_mono HO_6.out (fun k_ hk => ⟨hk.2, fun e_ => hk.1 e_⟩))); (case aS => exact (below_size (bq HB.out))); (case aL => have := LMc70.out; omega); intro v240 w74 ho hb hg hat; rw [← Ny239.out] at ho; have HO241 := Aside0.mk ho; replace BK231 := Aside0.mk (blk_grown (g := gb231) (o := .cells #[.int .u64 a1_0, .int .u64 a1_1] 24 (0, 0)) (bk BK231.out) hg (Kd.S_ne HO_6.out BK231.out (by decide))); replace BK233 := Aside0.mk (blk_grown (g := gb233) (o := .cells #[.int .u64 ((rd_T24 l0 x17_1).f0), .int .u64 ((rd_T24 l0 x17_1).f1)] 24 (0, 0)) (bk BK233.out) hg (Kd.S_ne HO_6.out BK233.out (by decide))); replace BK237 := Aside0.mk (blk_grown (g := gb237) (o := .cells #[.int .u64 x238000_2, .int .u64 x238001_2, .slice Ao75 x238002_2.length co75] 85 (0, 0)) (bk BK237.out) hg (Kd.S_away HO_6.out (fun _ hk => hk.2))); replace HB := Aside0.mk hb; clear HO_6; clear HO_238002; clear ho hb hg hat))
              go_roundg k2
              case measure => have := HK1.out; have := HK2.out; omega
              case rel => exact ⟨(y239), (wrap64 (x17_1 + 1)), (by first | rfl | (simp; done) | (simp [*]; done)), H', ⟨by have := HK1.out; have := HK2.out; omega⟩, ⟨by (with_reducible repeat (first | apply Kd.S_alloc | apply Kd.S_drewN | apply Kd.S_drew)); exact Kd.S_mono HO241.out (fun _ hk => trivial)⟩, ⟨bk BK231.out⟩, ⟨bq HB.out⟩⟩
             ·rw [if_neg c70] at H
              exact absurd H (by simp)
            ·rw [if_neg c69] at H
             have c69b0 : (!(x238000_2 == 0) || (!(x238001_2 == 0))) = false := by simpa using c69
             clear c69
             have H' := Aside0.mk H
             clear H
             have hnb76 := NB237_231.out
             have hnc76 := NB231_237.out
             have hnb77 := NB237_233.out
             have hnc77 := NB233_237.out
             obtain ⟨hcz78_0, hcz78_1, hcz78_2⟩ := zc3 BK237
             obtain ⟨hfz78_0, hfz78_1, hfz78_2⟩ := zf3 BK237
             go_wp2
             go_roundg k2
             case measure => have := HK1.out; have := HK2.out; omega
             case rel => exact ⟨(x6_1), (wrap64 (x17_1 + 1)), (by first | rfl | (simp; done) | (simp [*]; done)), H', ⟨by have := HK1.out; have := HK2.out; omega⟩, ⟨by (with_reducible repeat (first | apply Kd.S_alloc | apply Kd.S_drewN | apply Kd.S_drew)); exact Kd.S_mono HO_6.out (fun _ hk => trivial)⟩, ⟨bk BK231.out⟩, ⟨bq HB.out⟩⟩
        ·rw [if_neg c9] at H
         exact absurd H (by simp)
       ·rw [if_neg c8] at H
        exact absurd H (by simp)
      ·rw [if_neg c7] at H
       exact absurd H (by simp)
     ·rw [if_neg c6] at H
      exact absurd H (by simp)
    ·rw [if_neg c5] at H
     exact absurd H (by simp)
   ·rw [if_neg c4] at H
    have c4b0 : decide (x17_1 < (l0.length : Int)) = false := decide_eq_false c4
    clear c4
    by_cases c79 : 0 ≤ (l0.length : Int)
    ·rw [if_pos c79] at H
     have c79b0 := eq_true c79
     have c79b1 : decide (0 ≤ (l0.length : Int)) = true := decide_eq_true c79
     clear c79
     by_cases c80 : ((l0.length : Int) : Int).toNat ≤ 281474976710656
     ·rw [if_pos c80] at H
      have c80b0 := eq_true c80
      have c80b1 : decide (((l0.length : Int) : Int).toNat ≤ 281474976710656) = true := decide_eq_true c80
      clear c80
      obtain ⟨y249, hy249⟩ : ∃ y_ : List Bool, y_ = (List.replicate ((l0.length : Int) : Int).toNat false) := ⟨_, rfl⟩
      replace H : (span_Solve.l2 k1 y249 x6_1 (x6_1.length : Int) 0 a1_0 a1_1) = some (r1, r2) := by first | (rw [hy249]; with_reducible exact H) | (have H2_ := (Option.bind_some _ _).symm.trans H; rw [hy249]; with_reducible exact H2_) | (have H2_ := (Option.bind_some _ _).symm.trans H; with_reducible exact H2_) | with_reducible exact H | (rw [hy249]; exact H) | exact H
      have Ny249 := Aside0.mk hy249
      clear hy249
      have H' := Aside0.mk H
      clear H
      go_wp2_with (first | ((with_reducible refine gate_dst (N := 66) rfl ?_); refine Kd.R_make Kd.bool _ 4 rfl (N := 66) rfl 35 _ _ rfl (l0.length : Int) rfl rfl Try.underlying35 (.bool false) 1 info4 rfl (by decide) (by omega) false (ok := fun _ => True) (okp := fun _ => True) rfl (fun _ hk => hk) trivial (of_decide_eq_true (by first | (with_reducible assumption) | assumption)) (Nat.le_trans (Nat.mul_le_mul_right _ (of_decide_eq_true (by first | (with_reducible assumption) | assumption) : (l0.length : Int).toNat ≤ 281474976710656)) (by omega)) (Below.refl _ _) (Nat.le_refl _) ?_; intro v250 w81 ho82 hb hg_ hnew_; clear hg_ hnew_; (first | rw [← Ny249.out] at ho82 | (simp only [Int.reduceToNat] at ho82; rw [← Ny249.out] at ho82)); have HO251 := kw ho82 HB; replace HO_6 := Aside0.mk (Kd.S_elder' (by (with_reducible repeat (first | apply Kd.S_alloc | apply Kd.S_drewN | apply Kd.S_drew)); exact HO_6.out) (Kd.R_base ho82) hb); replace BK231 := bb BK231 hb; replace HB := bh HB hb; clear hb ho82; obtain ⟨Ao83, co83, eo83⟩ := Kd.S_slice HO_6.out; subst eo83))
      go_loopg [69] k1 (fun kq v69 w' => ∃ (x12_2 : List Bool) (x69_2 : Int) (x232000_2 : Int) (x232001_2 : Int), v69 = .int .i64 x69_2 ∧ Aside0 (span_Solve.l2 kq x12_2 x6_1 (x6_1.length : Int) x69_2 x232000_2 x232001_2 = some (r1, r2)) ∧ Aside0 (kq ≤ k1) ∧ Aside0 (Kd.R Kd.bool 4 w' w.heap.size (fun _ => True) v250 x12_2) ∧ Aside0 (Kd.S k85 85 w' w.heap.size (fun k_ => some k_ ≠ (v250 : Value).ownBlock) (.slice Ao83 x6_1.length co83) x6_1) ∧ Aside0 (w'.heap[gb231]? = some (.cells #[.int .u64 x232000_2, .int .u64 x232001_2] 24 (0, 0))) ∧ Aside0 (Below w.heap.size w w'))
      case atStart => exact ⟨(y249), (0), (a1_0), (a1_1), (by first | rfl | (simp; done) | (simp [*]; done)), H', ⟨Nat.le_refl _⟩, ⟨kr HO251.out⟩, ⟨by (with_reducible repeat (first | apply Kd.S_alloc | apply Kd.S_drewN | apply Kd.S_drew)); exact Kd.S_mono HO_6.out (fun _ hk => hk.2)⟩, ⟨bk BK231.out⟩, ⟨bq HB.out⟩⟩
      case round =>
       clear H'
       try clear c1
       try clear p1
       try clear q1
       try clear hx1
       try clear c2
       try clear p2
       try clear q2
       try clear hx2
       try clear c3
       try clear c4
       try clear c4b0
       try clear c5
       try clear c6
       try clear p6
       try clear c7
       try clear c8
       try clear c8b1
       try clear c9
       try clear c9b0
       try clear p10
       try clear q10
       try clear hx10
       try clear hf10
       try clear c12
       try clear p23
       try clear q23
       try clear hx23
       try clear c24
       try clear p24
       try clear q24
       try clear hx24
       try clear c26
       try clear c27
       try clear c32
       try clear c32b0
       try clear c33
       try clear c33b0
       try clear c34
       try clear c34b0
       try clear c37
       try clear c41
       try clear c42
       try clear c43
       try clear c49
       try clear c50
       try clear c58
       try clear c59
       try clear c60
       try clear c61
       try clear c62
       try clear c63
       try clear p64
       try clear c69
       try clear c69b0
       try clear c70
       try clear c71
       try clear c72
       try clear c76
       try clear c77
       try clear c79
       try clear c79b0
       try clear c79b1
       try clear c80
       try clear c80b0
       try clear c80b1
       try clear hcz13_0
       try clear hcz13_1
       try clear hcz28_0
       try clear hcz28_1
       try clear hcz28_2
       try clear hcz44_0
       try clear hcz44_1
       try clear hcz44_2
       try clear hcz51_0
       try clear hcz51_1
       try clear hcz51_2
       try clear hcz52_0
       try clear hcz52_1
       try clear hcz52_2
       try clear hcz54_0
       try clear hcz54_1
       try clear hcz54_2
       try clear hcz56_0
       try clear hcz56_1
       try clear hcz56_2
       try clear hcz57_0
       try clear hcz57_1
       try clear hcz57_2
       try clear hcz64_0
       try clear hcz64_1
       try clear hcz64_2
       try clear hcz73_0
       try clear hcz73_1
       try clear hcz73_2
       try clear hcz78_0
       try clear hcz78_1
       try clear hcz78_2
       try clear hfz13_0
       try clear hfz13_1
       try clear hfz28_0
       try clear hfz28_1
       try clear hfz28_2
       try clear hfz44_0
       try clear hfz44_1
       try clear hfz44_2
       try clear hfz51_0
       try clear hfz51_1
       try clear hfz51_2
       try clear hfz52_0
       try clear hfz52_1
       try clear hfz52_2
       try clear hfz54_0
       try clear hfz54_1
       try clear hfz54_2
       try clear hfz56_0
       try clear hfz56_1
       try clear hfz56_2
       try clear hfz57_0
       try clear hfz57_1
       try clear hfz57_2
       try clear hfz64_0
       try clear hfz64_1
       try clear hfz64_2
       try clear hfz73_0
       try clear hfz73_1
       try clear hfz73_2
       try clear hfz78_0
       try clear hfz78_1
       try clear hfz78_2
       try clear hx10_0
       try clear hx232_0
       try clear hx232_1
       try clear hx242_0
       try clear hx242_1
       try clear hx242_2
       try clear p10
       try clear p2
       try clear p23
       try clear p232
       try clear p242
       try clear q10
       try clear q23
       try clear q232
       try clear q242
       obtain ⟨x12_2, x69_2, x232000_2, x232001_2, rfl, HA, HK2, HO_12, HO_67, BK231, HB⟩ := hrel
       cases gk with
       | zero => exact absurd HA.out (by simp [span_Solve.l2])
       | succ k2 =>
        have H := HA.out
        clear HA
        simp only [span_Solve.l2] at H
        by_cases c84 : x69_2 < (x6_1.length : Int)
        ·rw [if_pos c84] at H
         have c84b0 : decide (x69_2 < (x6_1.length : Int)) = true := decide_eq_true c84
         clear c84
         by_cases c85 : 0 ≤ x69_2
         ·rw [if_pos c85] at H
          have c85b0 : decide (0 ≤ x69_2) = true := decide_eq_true c85
          clear c85
          by_cases c86 : x69_2 < (x6_1.length : Int)
          ·rw [if_pos c86] at H
           have c86b0 : decide (x69_2 < (x6_1.length : Int)) = true := decide_eq_true c86
           clear c86
           replace H := Option.bind_eq_some_iff.mp H
           obtain ⟨t254, A870, H⟩ := H
           replace H : ((span_has.f k2 x232000_2 x232001_2 t254).bind fun t255 => (if t255 = true then ((tower_Add.f x232000_2 x232001_2 ((rd_T85 x6_1 x69_2).f0.f0) ((rd_T85 x6_1 x69_2).f0.f1)).bind fun bt256 => ((span_flip.f k2 x12_2 ((rd_T85 x6_1 x69_2).f1)).bind fun t258 => (span_Solve.l2 k2 t258 x6_1 (x6_1.length : Int) (wrap64 (x69_2 + 1)) bt256.1 bt256.2))) else (span_Solve.l2 k2 x12_2 x6_1 (x6_1.length : Int) (wrap64 (x69_2 + 1)) x232000_2 x232001_2))) = some (r1, r2) := H
           have A87 := Aside0.mk A870
           clear A870
           replace H := Option.bind_eq_some_iff.mp H
           obtain ⟨t255, A880, H⟩ := H
           replace H : (if t255 = true then ((tower_Add.f x232000_2 x232001_2 ((rd_T85 x6_1 x69_2).f0.f0) ((rd_T85 x6_1 x69_2).f0.f1)).bind fun bt256 => ((span_flip.f k2 x12_2 ((rd_T85 x6_1 x69_2).f1)).bind fun t258 => (span_Solve.l2 k2 t258 x6_1 (x6_1.length : Int) (wrap64 (x69_2 + 1)) bt256.1 bt256.2))) else (span_Solve.l2 k2 x12_2 x6_1 (x6_1.length : Int) (wrap64 (x69_2 + 1)) x232000_2 x232001_2)) = some (r1, r2) := H
           have A88 := Aside0.mk A880
           clear A880
           by_cases c89 : t255 = true
           ·subst c89
            have H1 : ((tower_Add.f x232000_2 x232001_2 ((rd_T85 x6_1 x69_2).f0.f0) ((rd_T85 x6_1 x69_2).f0.f1)).bind fun bt256 => ((span_flip.f k2 x12_2 ((rd_T85 x6_1 x69_2).f1)).bind fun t258 => (span_Solve.l2 k2 t258 x6_1 (x6_1.length : Int) (wrap64 (x69_2 + 1)) bt256.1 bt256.2))) = some (r1, r2) := by rw [if_pos rfl] at H; exact H
            clear H
            have H := H1
            clear H1
            replace H := Option.bind_eq_some_iff.mp H
            obtain ⟨⟨t256, t257⟩, A900, H⟩ := H
            replace H : ((span_flip.f k2 x12_2 ((rd_T85 x6_1 x69_2).f1)).bind fun t258 => (span_Solve.l2 k2 t258 x6_1 (x6_1.length : Int) (wrap64 (x69_2 + 1)) t256 t257)) = some (r1, r2) := H
            have A90 := Aside0.mk A900
            clear A900
            replace H := Option.bind_eq_some_iff.mp H
            obtain ⟨t258, A910, H⟩ := H
            replace H : (span_Solve.l2 k2 t258 x6_1 (x6_1.length : Int) (wrap64 (x69_2 + 1)) t256 t257) = some (r1, r2) := H
            have A91 := Aside0.mk A910
            clear A910
            have H' := Aside0.mk H
            clear H
            have p252 : 0 ≤ (x69_2 : Int) := of_decide_eq_true (by first | (with_reducible assumption) | assumption)
            have q252 : x69_2 < (x6_1.length : Int) := of_decide_eq_true (by first | (with_reducible assumption) | assumption)
            obtain ⟨ad252, A252_2, c252_2, e252, hx252_0, hx252_1, hx252_2, hl252_2, hi252_2⟩ := at_T85 (Kd.S_reads' HO_67.out).2.2 x69_2 p252 q252
            cases e252
            obtain ⟨ce252, hce252, hMe252, hcc252⟩ := Kd.S_get HO_67.out z85 x69_2 p252 (by first | exact q252 | exact of_decide_eq_true (by first | (with_reducible assumption) | assumption) | (have e_ := (Kd.S_reads' HO_67.out).1; omega))
            obtain ⟨ve252_2, rfl, ge252_2⟩ := k85_openM hMe252
            have hv252_2 := hcc252 2 _ rfl
            rw [add_field _ _ 2 (by omega)] at hv252_2
            replace hv252_2 := Option.some.inj (hv252_2.symm.trans hx252_2)
            rw [hv252_2] at ge252_2
            have HL252_2 := Aside0.mk (show Kd.R Kd.bool 4 _ _ _ _ ((rd_T85 x6_1 x69_2).f1) from ge252_2)
            clear hv252_2 ge252_2
            clear hcc252 hce252
            have HR252_2 := Aside0.mk hi252_2
            have HC252_2 := Aside0.mk hl252_2
            clear hi252_2 hl252_2
            replace p252 := eq_true p252
            replace q252 := eq_true q252
            try go_wp2_with (first | ((with_reducible refine gate_dst (N := 14) rfl ?_); refine box_event ?hg (N := 14) ?hd (cs := #[.int .u64 0, .int .u64 0, .slice none 0 0]) (t := 85) ?hr ?_; (case hd => rfl); (case hg => rfl); (case hr => first | (go_simp; done) | (go_simp; rfl)); intro gb253 hg w92 hbox hb; have BK253 := Aside0.mk hbox; have GW253 := ge hg HB; have GE253 := ge hg HB; have NB231_253 := nl hg BK231; have NB253_231 := ng hg BK231; replace HO_12 := kb HO_12 hb; replace HO_67 := Aside0.mk (Kd.S_below (Kd.S_elderB (by (with_reducible repeat (first | apply Kd.S_alloc | apply Kd.S_drewN | apply Kd.S_drew)); exact HO_67.out) gb253 (Nat.le_of_eq hg.symm)) hb); replace HL252_2 := Aside0.mk (Kd.R_below (by (with_reducible repeat refine kl ?_); exact HL252_2.out) hb); replace BK231 := bb BK231 hb; replace HR252_2 := Aside0.mk (Kd.C_below (by repeat (first | (with_reducible exact HR252_2.out) | (with_reducible refine Kd.C_alloc ?_ _) | (with_reducible refine Kd.C_drewN ?_ _) | (with_reducible refine Kd.C_drew ?_) | exact HR252_2.out)) hb); replace HB := bh HB hb; clear hb hbox hg; have hnb93 := NB253_231.out; have hnc93 := NB231_253.out; obtain ⟨hcz94_0, hcz94_1, hcz94_2⟩ := zc3 BK253; obtain ⟨hfz94_0, hfz94_1, hfz94_2⟩ := zf3 BK253))
            have n0_ : Aside0 (Kd.R Kd.bool 4 (((w92.setCell ⟨gb253, 0, none⟩ (.int .u64 ((rd_T85 x6_1 x69_2).f0.f0))).setCell ⟨gb253, 1, none⟩ (.int .u64 ((rd_T85 x6_1 x69_2).f0.f1))).setCell ⟨gb253, 2, none⟩ (.slice A252_2 ((rd_T85 x6_1 x69_2).f1).length c252_2)) w.heap.size (fun _ => True) v250 x12_2) := ⟨by (with_reducible repeat refine kl ?_); exact Kd.R_mono (Kd.R_far (p := ⟨gb253, 2, none⟩) (Kd.R_far (p := ⟨gb253, 1, none⟩) (Kd.R_far (p := ⟨gb253, 0, none⟩) (Kd.R_types HO_12.out BK253.out (by decide)) (fun _ hk => hk.2) (.int .u64 ((rd_T85 x6_1 x69_2).f0.f0))) (fun _ hk => hk.2) (.int .u64 ((rd_T85 x6_1 x69_2).f0.f1))) (fun _ hk => hk.2) (.slice A252_2 ((rd_T85 x6_1 x69_2).f1).length c252_2)) (fun _ hk => trivial)⟩
            have n1_ : Aside0 (Kd.S k85 85 (((w92.setCell ⟨gb253, 0, none⟩ (.int .u64 ((rd_T85 x6_1 x69_2).f0.f0))).setCell ⟨gb253, 1, none⟩ (.int .u64 ((rd_T85 x6_1 x69_2).f0.f1))).setCell ⟨gb253, 2, none⟩ (.slice A252_2 ((rd_T85 x6_1 x69_2).f1).length c252_2)) w.heap.size (fun k_ => some k_ ≠ (v250 : Value).ownBlock ∧ k_ ≠ gb253) (.slice (some ad252) x6_1.length co83) x6_1) := ⟨by (with_reducible repeat (first | apply Kd.S_alloc | apply Kd.S_drewN | apply Kd.S_drew)); exact Kd.S_mono (Kd.S_far (p := ⟨gb253, 2, none⟩) (Kd.S_far (p := ⟨gb253, 1, none⟩) (Kd.S_far (p := ⟨gb253, 0, none⟩) (Kd.S_mono HO_67.out (fun k_ hk => (⟨hk, hk.2⟩ : _ ∧ k_ ≠ gb253))) (fun _ hk => hk.2) (.int .u64 ((rd_T85 x6_1 x69_2).f0.f0))) (fun _ hk => hk.2) (.int .u64 ((rd_T85 x6_1 x69_2).f0.f1))) (fun _ hk => hk.2) (.slice A252_2 ((rd_T85 x6_1 x69_2).f1).length c252_2)) (fun _ hk => ⟨hk.1.1, hk.1.2⟩)⟩
            have n2_ : Aside0 (Kd.R Kd.bool 4 (((w92.setCell ⟨gb253, 0, none⟩ (.int .u64 ((rd_T85 x6_1 x69_2).f0.f0))).setCell ⟨gb253, 1, none⟩ (.int .u64 ((rd_T85 x6_1 x69_2).f0.f1))).setCell ⟨gb253, 2, none⟩ (.slice A252_2 ((rd_T85 x6_1 x69_2).f1).length c252_2)) w.heap.size (fun k_ => some k_ ≠ (v250 : Value).ownBlock ∧ some k_ ≠ (.slice (some ad252) x6_1.length co83 : Value).ownBlock) (.slice A252_2 ((rd_T85 x6_1 x69_2).f1).length c252_2) ((rd_T85 x6_1 x69_2).f1)) := ⟨by (with_reducible repeat refine kl ?_); exact Kd.R_mono (Kd.R_far (p := ⟨gb253, 2, none⟩) (Kd.R_far (p := ⟨gb253, 1, none⟩) (Kd.R_far (p := ⟨gb253, 0, none⟩) (Kd.R_types HL252_2.out BK253.out (by decide)) (fun _ hk => hk.2) (.int .u64 ((rd_T85 x6_1 x69_2).f0.f0))) (fun _ hk => hk.2) (.int .u64 ((rd_T85 x6_1 x69_2).f0.f1))) (fun _ hk => hk.2) (.slice A252_2 ((rd_T85 x6_1 x69_2).f1).length c252_2)) (fun _ hk => ⟨hk.1.1, hk.1.2⟩)⟩
            have n3_ : Aside0 ((((w92.setCell ⟨gb253, 0, none⟩ (.int .u64 ((rd_T85 x6_1 x69_2).f0.f0))).setCell ⟨gb253, 1, none⟩ (.int .u64 ((rd_T85 x6_1 x69_2).f0.f1))).setCell ⟨gb253, 2, none⟩ (.slice A252_2 ((rd_T85 x6_1 x69_2).f1).length c252_2)).heap[gb231]? = some (.cells #[.int .u64 x232000_2, .int .u64 x232001_2] 24 (0, 0))) := ⟨by (with_reducible repeat refine bl ?_); refine blk_far ?_ NB231_253.out _; (with_reducible repeat refine bl ?_); refine blk_far ?_ NB231_253.out _; (with_reducible repeat refine bl ?_); refine blk_far ?_ NB231_253.out _; (with_reducible repeat refine bl ?_); exact BK231.out⟩
            have n4_ : Aside0 ((((w92.setCell ⟨gb253, 0, none⟩ (.int .u64 ((rd_T85 x6_1 x69_2).f0.f0))).setCell ⟨gb253, 1, none⟩ (.int .u64 ((rd_T85 x6_1 x69_2).f0.f1))).setCell ⟨gb253, 2, none⟩ (.slice A252_2 ((rd_T85 x6_1 x69_2).f1).length c252_2)).heap[gb253]? = some (.cells #[.int .u64 ((rd_T85 x6_1 x69_2).f0.f0), .int .u64 ((rd_T85 x6_1 x69_2).f0.f1), .slice A252_2 ((rd_T85 x6_1 x69_2).f1).length c252_2] 85 (0, 0))) := ⟨by (with_reducible repeat refine bl ?_); refine blk_put (cs := #[.int .u64 ((rd_T85 x6_1 x69_2).f0.f0), .int .u64 ((rd_T85 x6_1 x69_2).f0.f1), .slice none 0 0]) ?_ 2 _ rfl; (with_reducible repeat refine bl ?_); refine blk_put (cs := #[.int .u64 ((rd_T85 x6_1 x69_2).f0.f0), .int .u64 0, .slice none 0 0]) ?_ 1 _ rfl; (with_reducible repeat refine bl ?_); refine blk_put (cs := #[.int .u64 0, .int .u64 0, .slice none 0 0]) ?_ 0 _ rfl; (with_reducible repeat refine bl ?_); exact BK253.out⟩
            have n5_ : Aside0 (Below w.heap.size w (((w92.setCell ⟨gb253, 0, none⟩ (.int .u64 ((rd_T85 x6_1 x69_2).f0.f0))).setCell ⟨gb253, 1, none⟩ (.int .u64 ((rd_T85 x6_1 x69_2).f0.f1))).setCell ⟨gb253, 2, none⟩ (.slice A252_2 ((rd_T85 x6_1 x69_2).f1).length c252_2))) := ⟨bq HB.out⟩
            (try clear HO_12)
            (try clear HO_67)
            (try clear HL252_2)
            (try clear BK231)
            (try clear BK253)
            (try clear HB)
            generalize (((w92.setCell ⟨gb253, 0, none⟩ (.int .u64 ((rd_T85 x6_1 x69_2).f0.f0))).setCell ⟨gb253, 1, none⟩ (.int .u64 ((rd_T85 x6_1 x69_2).f0.f1))).setCell ⟨gb253, 2, none⟩ (.slice A252_2 ((rd_T85 x6_1 x69_2).f1).length c252_2)) = w95 at n0_ n1_ n2_ n3_ n4_ n5_ ⊢
            have HO_12 := n0_
            have HO_67 := n1_
            have HL252_2 := n2_
            have BK231 := n3_
            have BK253 := n4_
            have HB := n5_
            clear n0_ n1_ n2_ n3_ n4_ n5_
            replace HO_12 := Aside0.mk (Kd.R_drew HO_12.out)
            replace HO_67 := Aside0.mk (Kd.S_drew HO_67.out)
            replace HL252_2 := Aside0.mk (Kd.R_drew HL252_2.out)
            replace BK231 := Aside0.mk (blk_drew BK231.out)
            replace BK253 := Aside0.mk (blk_drew BK253.out)
            replace HB := Aside0.mk (below_drew1 HB.out)
            refine start_ (n := 5) (S := fun w' => w'.cell? ⟨gb231, 0, none⟩ = some (.int .u64 x232000_2) ∧ w'.cell? ⟨gb231, 1, none⟩ = some (.int .u64 x232001_2) ∧ w'.cell? ⟨gb253, 0, none⟩ = some (.int .u64 ((rd_T85 x6_1 x69_2).f0.f0)) ∧ w'.cell? ⟨gb253, 1, none⟩ = some (.int .u64 ((rd_T85 x6_1 x69_2).f0.f1)) ∧ w'.cell? ⟨gb253, 2, none⟩ = some (.slice A252_2 ((rd_T85 x6_1 x69_2).f1).length c252_2)) (ds := []) #[false, false, false, false, false] (by kernel_rfl) rfl rfl ⟨(blk_cell BK231.out 0).trans rfl, (blk_cell BK231.out 1).trans rfl, (blk_cell BK253.out 0).trans rfl, (blk_cell BK253.out 1).trans rfl, (blk_cell BK253.out 2).trans rfl⟩ (fun hHeld => ?_)
            generalize w95.drew = w96 at HO_12 HO_67 HL252_2 BK231 BK253 HB hHeld ⊢
            refine pure_ (i := 1) (N := some 74) (v := ?_) (a' := ?_) #[false, true, false, false, false] rfl rfl (by kernel_rfl) (fun _ _ _ h => h) (Or.inl ⟨by rfl, ?_⟩) ?_ ?_
            rotate_left
            ·intro w'
             go_simp
             with_reducible rfl
            rotate_left
            ·simp only [Act.put, List.setIfInBounds_toArray, List.set_cons_zero, List.set_cons_succ, i64_w, i32_w]
             rfl
            refine take_ (i := 0) (N := some 73) (v := ?_) (a' := ?_) #[true, true, false, false, false] rfl rfl (by kernel_rfl) (fun _ _ _ h => h) (Or.inl ⟨by rfl, ?_⟩) hHeld ?_ ?_
            rotate_left
            ·rintro w' ⟨s0, s1, s2, s3, s4⟩
             go_simp
             with_reducible rfl
            rotate_left
            ·simp only [Act.put, List.setIfInBounds_toArray, List.set_cons_zero, List.set_cons_succ, i64_w, i32_w]
             rfl
            refine take_ (i := 2) (N := some 75) (v := ?_) (a' := ?_) #[true, true, true, false, false] rfl rfl (by kernel_rfl) (fun _ _ _ h => h) (Or.inl ⟨by rfl, ?_⟩) hHeld ?_ ?_
            rotate_left
            ·rintro w' ⟨s0, s1, s2, s3, s4⟩
             go_simp
             with_reducible rfl
            rotate_left
            ·simp only [Act.put, List.setIfInBounds_toArray, List.set_cons_zero, List.set_cons_succ, i64_w, i32_w]
             rfl
            refine one_ (i := 3) (N := some 76) #[true, true, true, true, false] rfl rfl (by kernel_rfl) (by decide) (fun K hK => ?_)
            refine goes_ Try.func59 (by kernel_rfl) rfl #[.agg #[.int .u64 ((rd_T85 x6_1 x69_2).f0.f0), .int .u64 ((rd_T85 x6_1 x69_2).f0.f1)]] (by rfl) rfl rfl (by (try simp only [List.map_toArray, List.map_cons, List.map_nil]); first | done | rfl | (simp only [List.length_drop, List.length_take]; rfl)) ?_
            with_reducible refine (span_lead.calls ((rd_T85 x6_1 x69_2).f0.f0) ((rd_T85 x6_1 x69_2).f0.f1) t254 _ A87.out).mono ?_
            rintro e w97 ⟨rfl, hb⟩
            refine ⟨_, rfl, ?_⟩
            replace HO_12 := kb HO_12 hb
            replace HO_67 := Aside0.mk (Kd.S_below (by (with_reducible repeat (first | apply Kd.S_alloc | apply Kd.S_drewN | apply Kd.S_drew)); exact HO_67.out) hb)
            replace HL252_2 := Aside0.mk (Kd.R_below (by (with_reducible repeat refine kl ?_); exact HL252_2.out) hb)
            replace BK231 := bb BK231 hb
            replace BK253 := bb BK253 hb
            replace HB := bh HB hb
            (try clear hb)
            (try clear hb2)
            (try clear hk)
            (try clear hi)
            refine hK.out _ _ ⟨(blk_cell BK231.out 0).trans rfl, (blk_cell BK231.out 1).trans rfl, (blk_cell BK253.out 0).trans rfl, (blk_cell BK253.out 1).trans rfl, (blk_cell BK253.out 2).trans rfl⟩ (fun hHeld => ?_)
            clear hK K
            refine norm_ (a' := ?_) ?_ ?_
            rotate_left
            ·show Act.put _ (some 76) _ = _
             simp only [Act.put, List.setIfInBounds_toArray, List.set_cons_zero, List.set_cons_succ, i64_w, i32_w]
             rfl
            refine one_ (i := 4) (N := some 77) #[true, true, true, true, true] rfl rfl (by kernel_rfl) (by decide) (fun K hK => ?_)
            refine goes_ Try.func58 (by kernel_rfl) rfl #[.agg #[.int .u64 x232000_2, .int .u64 x232001_2], .int .i64 t254] (by rfl) rfl rfl (by (try simp only [List.map_toArray, List.map_cons, List.map_nil]); first | done | rfl | (simp only [List.length_drop, List.length_take]; rfl)) ?_
            with_reducible refine (span_has.calls k2 x232000_2 x232001_2 t254 true _ A88.out).mono ?_
            rintro e w98 ⟨rfl, hb⟩
            refine ⟨_, rfl, ?_⟩
            replace HO_12 := kb HO_12 hb
            replace HO_67 := Aside0.mk (Kd.S_below (by (with_reducible repeat (first | apply Kd.S_alloc | apply Kd.S_drewN | apply Kd.S_drew)); exact HO_67.out) hb)
            replace HL252_2 := Aside0.mk (Kd.R_below (by (with_reducible repeat refine kl ?_); exact HL252_2.out) hb)
            replace BK231 := bb BK231 hb
            replace BK253 := bb BK253 hb
            replace HB := bh HB hb
            (try clear hb)
            (try clear hb2)
            (try clear hk)
            (try clear hi)
            refine hK.out _ _ ⟨(blk_cell BK231.out 0).trans rfl, (blk_cell BK231.out 1).trans rfl, (blk_cell BK253.out 0).trans rfl, (blk_cell BK253.out 1).trans rfl, (blk_cell BK253.out 2).trans rfl⟩ (fun hHeld => ?_)
            clear hK K
            refine norm_ (a' := ?_) ?_ ?_
            rotate_left
            ·show Act.put _ (some 77) _ = _
             simp only [Act.put, List.setIfInBounds_toArray, List.set_cons_zero, List.set_cons_succ, i64_w, i32_w]
             rfl
            refine done_ (by kernel_rfl) ?_
            obtain ⟨hcz99_0, hcz99_1⟩ := zc2 BK231
            obtain ⟨hfz99_0, hfz99_1⟩ := zf2 BK231
            obtain ⟨hcz100_0, hcz100_1, hcz100_2⟩ := zc3 BK253
            obtain ⟨hfz100_0, hfz100_1, hfz100_2⟩ := zf3 BK253
            try go_wp2_with (first | ((with_reducible refine gate_callee (f := 12) rfl ?_); refine goesL_ (some 81) rfl rfl Try.func12 (by kernel_rfl) rfl #[.agg #[.int .u64 x232000_2, .int .u64 x232001_2], .agg #[.int .u64 ((rd_T85 x6_1 x69_2).f0.f0), .int .u64 ((rd_T85 x6_1 x69_2).f0.f1)]] rfl (by (try simp only [List.map_toArray, List.map_cons, List.map_nil]); first | done | rfl | (simp only [List.length_drop, List.length_take]; rfl)) ?_; (with_reducible refine (tower_Add.calls x232000_2 x232001_2 ((rd_T85 x6_1 x69_2).f0.f0) ((rd_T85 x6_1 x69_2).f0.f1) t256 t257 _ A90.out).mono ?_); rintro e w101 ⟨rfl, hb⟩; refine ⟨_, rfl, ?_⟩; replace HO_12 := kb HO_12 hb; replace HO_67 := Aside0.mk (Kd.S_below (by (with_reducible repeat (first | apply Kd.S_alloc | apply Kd.S_drewN | apply Kd.S_drew)); exact HO_67.out) hb); replace HL252_2 := Aside0.mk (Kd.R_below (by (with_reducible repeat refine kl ?_); exact HL252_2.out) hb); replace BK231 := bb BK231 hb; replace BK253 := bb BK253 hb; replace HB := bh HB hb; (try clear hb); (try clear hb2); (try clear hk); (try clear hi); obtain ⟨hcz102_0, hcz102_1⟩ := zc2 BK231; obtain ⟨hfz102_0, hfz102_1⟩ := zf2 BK231) | ((with_reducible refine gate_store (t := 24) (p := 3) rfl ?_); refine store_event (t := 24) (p := 3) (v := ?vo_w103) (w1 := ((w101.setCell ⟨gb231, 0, none⟩ (.int .u64 t256)).setCell ⟨gb231, 1, none⟩ (.int .u64 t257))) ?hg ?ho ?hn ?hr ?_; (case ho => rfl); (case hg => rfl); (case hn => rfl); (case hr => first | (go_simp; done) | (go_simp; rfl)); intro w103 hw; have n0_ : Aside0 (Kd.R Kd.bool 4 w103 w.heap.size (fun _ => True) v250 x12_2) := ⟨(by rw [hw]; exact (by (with_reducible repeat refine kl ?_); exact Kd.R_mono (Kd.R_far (p := ⟨gb231, 1, none⟩) (Kd.R_far (p := ⟨gb231, 0, none⟩) (Kd.R_types HO_12.out BK231.out (by decide)) (fun _ hk => hk.2) (.int .u64 t256)) (fun _ hk => hk.2) (.int .u64 t257)) (fun _ hk => trivial)))⟩; have n1_ : Aside0 (Kd.S k85 85 w103 w.heap.size (fun k_ => some k_ ≠ (v250 : Value).ownBlock ∧ k_ ≠ gb253) (.slice (some ad252) x6_1.length co83) x6_1) := ⟨(by rw [hw]; exact (by (with_reducible repeat (first | apply Kd.S_alloc | apply Kd.S_drewN | apply Kd.S_drew)); exact Kd.S_mono (Kd.S_far (p := ⟨gb231, 1, none⟩) (Kd.S_far (p := ⟨gb231, 0, none⟩) (Kd.S_types HO_67.out BK231.out (by decide)) (fun _ hk => hk.2) (.int .u64 t256)) (fun _ hk => hk.2) (.int .u64 t257)) (fun _ hk => ⟨hk.1.1, hk.1.2⟩)))⟩; have n2_ : Aside0 (Kd.R Kd.bool 4 w103 w.heap.size (fun k_ => some k_ ≠ (v250 : Value).ownBlock ∧ some k_ ≠ (.slice (some ad252) x6_1.length co83 : Value).ownBlock) (.slice A252_2 ((rd_T85 x6_1 x69_2).f1).length c252_2) ((rd_T85 x6_1 x69_2).f1)) := ⟨(by rw [hw]; exact (by (with_reducible repeat refine kl ?_); exact Kd.R_mono (Kd.R_far (p := ⟨gb231, 1, none⟩) (Kd.R_far (p := ⟨gb231, 0, none⟩) (Kd.R_types HL252_2.out BK231.out (by decide)) (fun _ hk => hk.2) (.int .u64 t256)) (fun _ hk => hk.2) (.int .u64 t257)) (fun _ hk => ⟨hk.1.1, hk.1.2⟩)))⟩; have n3_ : Aside0 (w103.heap[gb231]? = some (.cells #[.int .u64 t256, .int .u64 t257] 24 (0, 0))) := ⟨(by rw [hw]; exact (by (with_reducible repeat refine bl ?_); refine blk_put (cs := #[.int .u64 t256, .int .u64 x232001_2]) ?_ 1 _ rfl; (with_reducible repeat refine bl ?_); refine blk_put (cs := #[.int .u64 x232000_2, .int .u64 x232001_2]) ?_ 0 _ rfl; (with_reducible repeat refine bl ?_); exact BK231.out))⟩; have n4_ : Aside0 (w103.heap[gb253]? = some (.cells #[.int .u64 ((rd_T85 x6_1 x69_2).f0.f0), .int .u64 ((rd_T85 x6_1 x69_2).f0.f1), .slice A252_2 ((rd_T85 x6_1 x69_2).f1).length c252_2] 85 (0, 0))) := ⟨(by rw [hw]; exact (by (with_reducible repeat refine bl ?_); refine blk_far ?_ NB253_231.out _; (with_reducible repeat refine bl ?_); refine blk_far ?_ NB253_231.out _; (with_reducible repeat refine bl ?_); exact BK253.out))⟩; have n5_ : Aside0 (Below w.heap.size w w103) := ⟨(by rw [hw]; exact (bq HB.out))⟩; clear hw; clear HO_12; clear HO_67; clear HL252_2; clear BK231; clear BK253; clear HB; have HO_12 := n0_; have HO_67 := n1_; have HL252_2 := n2_; have BK231 := n3_; have BK253 := n4_; have HB := n5_; clear n0_ n1_ n2_ n3_ n4_ n5_; obtain ⟨hcz104_0, hcz104_1, hcz104_2⟩ := zc3 BK253; obtain ⟨hfz104_0, hfz104_1, hfz104_2⟩ := zf3 BK253; obtain ⟨Ao105, co105, eo105⟩ := Kd.R_slice HO_12.out; subst eo105) | ((with_reducible refine gate_callee (f := 60) rfl ?_); refine goesL_ (some 85) rfl rfl Try.func60 (by kernel_rfl) rfl #[.slice Ao105 x12_2.length co105, .slice A252_2 ((rd_T85 x6_1 x69_2).f1).length c252_2] rfl (by (try simp only [List.map_toArray, List.map_cons, List.map_nil]); first | done | rfl | (simp only [List.length_drop, List.length_take]; rfl)) ?_; (with_reducible refine (span_flip.calls k2 (fun k_ => some k_ = (.slice Ao105 x12_2.length co105 : Value).ownBlock) (.slice Ao105 x12_2.length co105) x12_2 _ _ ((rd_T85 x6_1 x69_2).f1) t258 w _ ?side1 ?side2 ?side3 ?side4 A91.out).mono ?_); (case side1 => repeat (first | (with_reducible first | exact HB.out | apply below_alloc | apply pw_below_drewN | apply below_drew1 | refine below_set ?_ GE231.out | refine below_set ?_ GE253.out) | exact HB.out)); (case side2 => exact Kd.R_tight rfl HO_12.out); (case side3 => exact Kd.C_kept_own (HL252_2.out) (fun k_ hk_ hs_ => (hk_.1) hs_)); (case side4 => exact HC252_2.out); rintro e w106 ⟨rfl, hy0, hb, hkp⟩; refine ⟨_, rfl, ?_⟩; replace HO_67 := Aside0.mk (Kd.S_mono (ok' := fun k_ => some k_ ≠ (.slice Ao105 x12_2.length co105 : Value).ownBlock ∧ k_ ≠ gb253) (Kd.S_keptB (HO_67.out) hkp (fun k_ hk_ hs_ => (hk_.1) hs_)) (fun k_ hk_ => ⟨hk_.1.1, hk_.1.2⟩)); replace BK231 := Aside0.mk (blk_kept (bk BK231.out) hkp (fun hs_ => (fun e_ => (Kd.R_ne HO_12.out BK231.out (by decide)) e_) hs_)); replace BK253 := Aside0.mk (blk_kept (bk BK253.out) hkp (fun hs_ => (fun e_ => (Kd.R_ne HO_12.out BK253.out (by decide)) e_) hs_)); replace HO_12 := Aside0.mk (Kd.R_reok rfl hy0 (fun k_ e_ => HO_12.out.1 k_ e_)); replace HB := Aside0.mk hb; clear HL252_2; (try clear hb); (try clear hkp); (try clear hy0)))
            go_roundg k2
            case measure => have := HK1.out; have := HK2.out; omega
            case rel => exact ⟨(t258), (wrap64 (x69_2 + 1)), (t256), (t257), (by first | rfl | (simp; done) | (simp [*]; done)), H', ⟨by have := HK1.out; have := HK2.out; omega⟩, ⟨kr HO_12.out⟩, ⟨by (with_reducible repeat (first | apply Kd.S_alloc | apply Kd.S_drewN | apply Kd.S_drew)); exact Kd.S_mono HO_67.out (fun _ hk => hk.1)⟩, ⟨bk BK231.out⟩, ⟨bq HB.out⟩⟩
           ·replace c89 := Bool.eq_false_iff.mpr c89
            subst c89
            have H1 : (span_Solve.l2 k2 x12_2 x6_1 (x6_1.length : Int) (wrap64 (x69_2 + 1)) x232000_2 x232001_2) = some (r1, r2) := by rw [if_neg (show ¬ (false = true) by decide)] at H; exact H
            clear H
            have H := H1
            clear H1
            have H' := Aside0.mk H
            clear H
            have p252 : 0 ≤ (x69_2 : Int) := of_decide_eq_true (by first | (with_reducible assumption) | assumption)
            have q252 : x69_2 < (x6_1.length : Int) := of_decide_eq_true (by first | (with_reducible assumption) | assumption)
            obtain ⟨ad252, A252_2, c252_2, e252, hx252_0, hx252_1, hx252_2, hl252_2, hi252_2⟩ := at_T85 (Kd.S_reads' HO_67.out).2.2 x69_2 p252 q252
            cases e252
            obtain ⟨ce252, hce252, hMe252, hcc252⟩ := Kd.S_get HO_67.out z85 x69_2 p252 (by first | exact q252 | exact of_decide_eq_true (by first | (with_reducible assumption) | assumption) | (have e_ := (Kd.S_reads' HO_67.out).1; omega))
            obtain ⟨ve252_2, rfl, ge252_2⟩ := k85_openM hMe252
            have hv252_2 := hcc252 2 _ rfl
            rw [add_field _ _ 2 (by omega)] at hv252_2
            replace hv252_2 := Option.some.inj (hv252_2.symm.trans hx252_2)
            rw [hv252_2] at ge252_2
            have HL252_2 := Aside0.mk (show Kd.R Kd.bool 4 _ _ _ _ ((rd_T85 x6_1 x69_2).f1) from ge252_2)
            clear hv252_2 ge252_2
            clear hcc252 hce252
            have HR252_2 := Aside0.mk hi252_2
            have HC252_2 := Aside0.mk hl252_2
            clear hi252_2 hl252_2
            replace p252 := eq_true p252
            replace q252 := eq_true q252
            try go_wp2_with (first | ((with_reducible refine gate_dst (N := 14) rfl ?_); refine box_event ?hg (N := 14) ?hd (cs := #[.int .u64 0, .int .u64 0, .slice none 0 0]) (t := 85) ?hr ?_; (case hd => rfl); (case hg => rfl); (case hr => first | (go_simp; done) | (go_simp; rfl)); intro gb253 hg w107 hbox hb; have BK253 := Aside0.mk hbox; have GW253 := ge hg HB; have GE253 := ge hg HB; have NB231_253 := nl hg BK231; have NB253_231 := ng hg BK231; replace HO_12 := kb HO_12 hb; replace HO_67 := Aside0.mk (Kd.S_below (Kd.S_elderB (by (with_reducible repeat (first | apply Kd.S_alloc | apply Kd.S_drewN | apply Kd.S_drew)); exact HO_67.out) gb253 (Nat.le_of_eq hg.symm)) hb); replace HL252_2 := Aside0.mk (Kd.R_below (by (with_reducible repeat refine kl ?_); exact HL252_2.out) hb); replace BK231 := bb BK231 hb; replace HR252_2 := Aside0.mk (Kd.C_below (by repeat (first | (with_reducible exact HR252_2.out) | (with_reducible refine Kd.C_alloc ?_ _) | (with_reducible refine Kd.C_drewN ?_ _) | (with_reducible refine Kd.C_drew ?_) | exact HR252_2.out)) hb); replace HB := bh HB hb; clear hb hbox hg; have hnb108 := NB253_231.out; have hnc108 := NB231_253.out; obtain ⟨hcz109_0, hcz109_1, hcz109_2⟩ := zc3 BK253; obtain ⟨hfz109_0, hfz109_1, hfz109_2⟩ := zf3 BK253))
            have n0_ : Aside0 (Kd.R Kd.bool 4 (((w107.setCell ⟨gb253, 0, none⟩ (.int .u64 ((rd_T85 x6_1 x69_2).f0.f0))).setCell ⟨gb253, 1, none⟩ (.int .u64 ((rd_T85 x6_1 x69_2).f0.f1))).setCell ⟨gb253, 2, none⟩ (.slice A252_2 ((rd_T85 x6_1 x69_2).f1).length c252_2)) w.heap.size (fun _ => True) v250 x12_2) := ⟨by (with_reducible repeat refine kl ?_); exact Kd.R_mono (Kd.R_far (p := ⟨gb253, 2, none⟩) (Kd.R_far (p := ⟨gb253, 1, none⟩) (Kd.R_far (p := ⟨gb253, 0, none⟩) (Kd.R_types HO_12.out BK253.out (by decide)) (fun _ hk => hk.2) (.int .u64 ((rd_T85 x6_1 x69_2).f0.f0))) (fun _ hk => hk.2) (.int .u64 ((rd_T85 x6_1 x69_2).f0.f1))) (fun _ hk => hk.2) (.slice A252_2 ((rd_T85 x6_1 x69_2).f1).length c252_2)) (fun _ hk => trivial)⟩
            have n1_ : Aside0 (Kd.S k85 85 (((w107.setCell ⟨gb253, 0, none⟩ (.int .u64 ((rd_T85 x6_1 x69_2).f0.f0))).setCell ⟨gb253, 1, none⟩ (.int .u64 ((rd_T85 x6_1 x69_2).f0.f1))).setCell ⟨gb253, 2, none⟩ (.slice A252_2 ((rd_T85 x6_1 x69_2).f1).length c252_2)) w.heap.size (fun k_ => some k_ ≠ (v250 : Value).ownBlock ∧ k_ ≠ gb253) (.slice (some ad252) x6_1.length co83) x6_1) := ⟨by (with_reducible repeat (first | apply Kd.S_alloc | apply Kd.S_drewN | apply Kd.S_drew)); exact Kd.S_mono (Kd.S_far (p := ⟨gb253, 2, none⟩) (Kd.S_far (p := ⟨gb253, 1, none⟩) (Kd.S_far (p := ⟨gb253, 0, none⟩) (Kd.S_mono HO_67.out (fun k_ hk => (⟨hk, hk.2⟩ : _ ∧ k_ ≠ gb253))) (fun _ hk => hk.2) (.int .u64 ((rd_T85 x6_1 x69_2).f0.f0))) (fun _ hk => hk.2) (.int .u64 ((rd_T85 x6_1 x69_2).f0.f1))) (fun _ hk => hk.2) (.slice A252_2 ((rd_T85 x6_1 x69_2).f1).length c252_2)) (fun _ hk => ⟨hk.1.1, hk.1.2⟩)⟩
            have n2_ : Aside0 (Kd.R Kd.bool 4 (((w107.setCell ⟨gb253, 0, none⟩ (.int .u64 ((rd_T85 x6_1 x69_2).f0.f0))).setCell ⟨gb253, 1, none⟩ (.int .u64 ((rd_T85 x6_1 x69_2).f0.f1))).setCell ⟨gb253, 2, none⟩ (.slice A252_2 ((rd_T85 x6_1 x69_2).f1).length c252_2)) w.heap.size (fun k_ => some k_ ≠ (v250 : Value).ownBlock ∧ some k_ ≠ (.slice (some ad252) x6_1.length co83 : Value).ownBlock) (.slice A252_2 ((rd_T85 x6_1 x69_2).f1).length c252_2) ((rd_T85 x6_1 x69_2).f1)) := ⟨by (with_reducible repeat refine kl ?_); exact Kd.R_mono (Kd.R_far (p := ⟨gb253, 2, none⟩) (Kd.R_far (p := ⟨gb253, 1, none⟩) (Kd.R_far (p := ⟨gb253, 0, none⟩) (Kd.R_types HL252_2.out BK253.out (by decide)) (fun _ hk => hk.2) (.int .u64 ((rd_T85 x6_1 x69_2).f0.f0))) (fun _ hk => hk.2) (.int .u64 ((rd_T85 x6_1 x69_2).f0.f1))) (fun _ hk => hk.2) (.slice A252_2 ((rd_T85 x6_1 x69_2).f1).length c252_2)) (fun _ hk => ⟨hk.1.1, hk.1.2⟩)⟩
            have n3_ : Aside0 ((((w107.setCell ⟨gb253, 0, none⟩ (.int .u64 ((rd_T85 x6_1 x69_2).f0.f0))).setCell ⟨gb253, 1, none⟩ (.int .u64 ((rd_T85 x6_1 x69_2).f0.f1))).setCell ⟨gb253, 2, none⟩ (.slice A252_2 ((rd_T85 x6_1 x69_2).f1).length c252_2)).heap[gb231]? = some (.cells #[.int .u64 x232000_2, .int .u64 x232001_2] 24 (0, 0))) := ⟨by (with_reducible repeat refine bl ?_); refine blk_far ?_ NB231_253.out _; (with_reducible repeat refine bl ?_); refine blk_far ?_ NB231_253.out _; (with_reducible repeat refine bl ?_); refine blk_far ?_ NB231_253.out _; (with_reducible repeat refine bl ?_); exact BK231.out⟩
            have n4_ : Aside0 ((((w107.setCell ⟨gb253, 0, none⟩ (.int .u64 ((rd_T85 x6_1 x69_2).f0.f0))).setCell ⟨gb253, 1, none⟩ (.int .u64 ((rd_T85 x6_1 x69_2).f0.f1))).setCell ⟨gb253, 2, none⟩ (.slice A252_2 ((rd_T85 x6_1 x69_2).f1).length c252_2)).heap[gb253]? = some (.cells #[.int .u64 ((rd_T85 x6_1 x69_2).f0.f0), .int .u64 ((rd_T85 x6_1 x69_2).f0.f1), .slice A252_2 ((rd_T85 x6_1 x69_2).f1).length c252_2] 85 (0, 0))) := ⟨by (with_reducible repeat refine bl ?_); refine blk_put (cs := #[.int .u64 ((rd_T85 x6_1 x69_2).f0.f0), .int .u64 ((rd_T85 x6_1 x69_2).f0.f1), .slice none 0 0]) ?_ 2 _ rfl; (with_reducible repeat refine bl ?_); refine blk_put (cs := #[.int .u64 ((rd_T85 x6_1 x69_2).f0.f0), .int .u64 0, .slice none 0 0]) ?_ 1 _ rfl; (with_reducible repeat refine bl ?_); refine blk_put (cs := #[.int .u64 0, .int .u64 0, .slice none 0 0]) ?_ 0 _ rfl; (with_reducible repeat refine bl ?_); exact BK253.out⟩
            have n5_ : Aside0 (Below w.heap.size w (((w107.setCell ⟨gb253, 0, none⟩ (.int .u64 ((rd_T85 x6_1 x69_2).f0.f0))).setCell ⟨gb253, 1, none⟩ (.int .u64 ((rd_T85 x6_1 x69_2).f0.f1))).setCell ⟨gb253, 2, none⟩ (.slice A252_2 ((rd_T85 x6_1 x69_2).f1).length c252_2))) := ⟨bq HB.out⟩
            (try clear HO_12)
            (try clear HO_67)
            (try clear HL252_2)
            (try clear BK231)
            (try clear BK253)
            (try clear HB)
            generalize (((w107.setCell ⟨gb253, 0, none⟩ (.int .u64 ((rd_T85 x6_1 x69_2).f0.f0))).setCell ⟨gb253, 1, none⟩ (.int .u64 ((rd_T85 x6_1 x69_2).f0.f1))).setCell ⟨gb253, 2, none⟩ (.slice A252_2 ((rd_T85 x6_1 x69_2).f1).length c252_2)) = w110 at n0_ n1_ n2_ n3_ n4_ n5_ ⊢
            have HO_12 := n0_
            have HO_67 := n1_
            have HL252_2 := n2_
            have BK231 := n3_
            have BK253 := n4_
            have HB := n5_
            clear n0_ n1_ n2_ n3_ n4_ n5_
            replace HO_12 := Aside0.mk (Kd.R_drew HO_12.out)
            replace HO_67 := Aside0.mk (Kd.S_drew HO_67.out)
            replace HL252_2 := Aside0.mk (Kd.R_drew HL252_2.out)
            replace BK231 := Aside0.mk (blk_drew BK231.out)
            replace BK253 := Aside0.mk (blk_drew BK253.out)
            replace HB := Aside0.mk (below_drew1 HB.out)
            refine start_ (n := 5) (S := fun w' => w'.cell? ⟨gb231, 0, none⟩ = some (.int .u64 x232000_2) ∧ w'.cell? ⟨gb231, 1, none⟩ = some (.int .u64 x232001_2) ∧ w'.cell? ⟨gb253, 0, none⟩ = some (.int .u64 ((rd_T85 x6_1 x69_2).f0.f0)) ∧ w'.cell? ⟨gb253, 1, none⟩ = some (.int .u64 ((rd_T85 x6_1 x69_2).f0.f1)) ∧ w'.cell? ⟨gb253, 2, none⟩ = some (.slice A252_2 ((rd_T85 x6_1 x69_2).f1).length c252_2)) (ds := []) #[false, false, false, false, false] (by kernel_rfl) rfl rfl ⟨(blk_cell BK231.out 0).trans rfl, (blk_cell BK231.out 1).trans rfl, (blk_cell BK253.out 0).trans rfl, (blk_cell BK253.out 1).trans rfl, (blk_cell BK253.out 2).trans rfl⟩ (fun hHeld => ?_)
            generalize w110.drew = w111 at HO_12 HO_67 HL252_2 BK231 BK253 HB hHeld ⊢
            refine pure_ (i := 1) (N := some 74) (v := ?_) (a' := ?_) #[false, true, false, false, false] rfl rfl (by kernel_rfl) (fun _ _ _ h => h) (Or.inl ⟨by rfl, ?_⟩) ?_ ?_
            rotate_left
            ·intro w'
             go_simp
             with_reducible rfl
            rotate_left
            ·simp only [Act.put, List.setIfInBounds_toArray, List.set_cons_zero, List.set_cons_succ, i64_w, i32_w]
             rfl
            refine take_ (i := 0) (N := some 73) (v := ?_) (a' := ?_) #[true, true, false, false, false] rfl rfl (by kernel_rfl) (fun _ _ _ h => h) (Or.inl ⟨by rfl, ?_⟩) hHeld ?_ ?_
            rotate_left
            ·rintro w' ⟨s0, s1, s2, s3, s4⟩
             go_simp
             with_reducible rfl
            rotate_left
            ·simp only [Act.put, List.setIfInBounds_toArray, List.set_cons_zero, List.set_cons_succ, i64_w, i32_w]
             rfl
            refine take_ (i := 2) (N := some 75) (v := ?_) (a' := ?_) #[true, true, true, false, false] rfl rfl (by kernel_rfl) (fun _ _ _ h => h) (Or.inl ⟨by rfl, ?_⟩) hHeld ?_ ?_
            rotate_left
            ·rintro w' ⟨s0, s1, s2, s3, s4⟩
             go_simp
             with_reducible rfl
            rotate_left
            ·simp only [Act.put, List.setIfInBounds_toArray, List.set_cons_zero, List.set_cons_succ, i64_w, i32_w]
             rfl
            refine one_ (i := 3) (N := some 76) #[true, true, true, true, false] rfl rfl (by kernel_rfl) (by decide) (fun K hK => ?_)
            refine goes_ Try.func59 (by kernel_rfl) rfl #[.agg #[.int .u64 ((rd_T85 x6_1 x69_2).f0.f0), .int .u64 ((rd_T85 x6_1 x69_2).f0.f1)]] (by rfl) rfl rfl (by (try simp only [List.map_toArray, List.map_cons, List.map_nil]); first | done | rfl | (simp only [List.length_drop, List.length_take]; rfl)) ?_
            with_reducible refine (span_lead.calls ((rd_T85 x6_1 x69_2).f0.f0) ((rd_T85 x6_1 x69_2).f0.f1) t254 _ A87.out).mono ?_
            rintro e w112 ⟨rfl, hb⟩
            refine ⟨_, rfl, ?_⟩
            replace HO_12 := kb HO_12 hb
            replace HO_67 := Aside0.mk (Kd.S_below (by (with_reducible repeat (first | apply Kd.S_alloc | apply Kd.S_drewN | apply Kd.S_drew)); exact HO_67.out) hb)
            replace HL252_2 := Aside0.mk (Kd.R_below (by (with_reducible repeat refine kl ?_); exact HL252_2.out) hb)
            replace BK231 := bb BK231 hb
            replace BK253 := bb BK253 hb
            replace HB := bh HB hb
            (try clear hb)
            (try clear hb2)
            (try clear hk)
            (try clear hi)
            refine hK.out _ _ ⟨(blk_cell BK231.out 0).trans rfl, (blk_cell BK231.out 1).trans rfl, (blk_cell BK253.out 0).trans rfl, (blk_cell BK253.out 1).trans rfl, (blk_cell BK253.out 2).trans rfl⟩ (fun hHeld => ?_)
            clear hK K
            refine norm_ (a' := ?_) ?_ ?_
            rotate_left
            ·show Act.put _ (some 76) _ = _
             simp only [Act.put, List.setIfInBounds_toArray, List.set_cons_zero, List.set_cons_succ, i64_w, i32_w]
             rfl
            refine one_ (i := 4) (N := some 77) #[true, true, true, true, true] rfl rfl (by kernel_rfl) (by decide) (fun K hK => ?_)
            refine goes_ Try.func58 (by kernel_rfl) rfl #[.agg #[.int .u64 x232000_2, .int .u64 x232001_2], .int .i64 t254] (by rfl) rfl rfl (by (try simp only [List.map_toArray, List.map_cons, List.map_nil]); first | done | rfl | (simp only [List.length_drop, List.length_take]; rfl)) ?_
            with_reducible refine (span_has.calls k2 x232000_2 x232001_2 t254 false _ A88.out).mono ?_
            rintro e w113 ⟨rfl, hb⟩
            refine ⟨_, rfl, ?_⟩
            replace HO_12 := kb HO_12 hb
            replace HO_67 := Aside0.mk (Kd.S_below (by (with_reducible repeat (first | apply Kd.S_alloc | apply Kd.S_drewN | apply Kd.S_drew)); exact HO_67.out) hb)
            replace HL252_2 := Aside0.mk (Kd.R_below (by (with_reducible repeat refine kl ?_); exact HL252_2.out) hb)
            replace BK231 := bb BK231 hb
            replace BK253 := bb BK253 hb
            replace HB := bh HB hb
            (try clear hb)
            (try clear hb2)
            (try clear hk)
            (try clear hi)
            refine hK.out _ _ ⟨(blk_cell BK231.out 0).trans rfl, (blk_cell BK231.out 1).trans rfl, (blk_cell BK253.out 0).trans rfl, (blk_cell BK253.out 1).trans rfl, (blk_cell BK253.out 2).trans rfl⟩ (fun hHeld => ?_)
            clear hK K
            refine norm_ (a' := ?_) ?_ ?_
            rotate_left
            ·show Act.put _ (some 77) _ = _
             simp only [Act.put, List.setIfInBounds_toArray, List.set_cons_zero, List.set_cons_succ, i64_w, i32_w]
             rfl
            refine done_ (by kernel_rfl) ?_
            try go_wp2
            go_roundg k2
            case measure => have := HK1.out; have := HK2.out; omega
            case rel => exact ⟨(x12_2), (wrap64 (x69_2 + 1)), (x232000_2), (x232001_2), (by first | rfl | (simp; done) | (simp [*]; done)), H', ⟨by have := HK1.out; have := HK2.out; omega⟩, ⟨kr HO_12.out⟩, ⟨by (with_reducible repeat (first | apply Kd.S_alloc | apply Kd.S_drewN | apply Kd.S_drew)); exact Kd.S_mono HO_67.out (fun _ hk => hk.1)⟩, ⟨bk BK231.out⟩, ⟨bq HB.out⟩⟩
          ·rw [if_neg c86] at H
           exact absurd H (by simp)
         ·rw [if_neg c85] at H
          exact absurd H (by simp)
        ·rw [if_neg c84] at H
         have c84b0 : decide (x69_2 < (x6_1.length : Int)) = false := decide_eq_false c84
         clear c84
         by_cases c114 : (!(x232000_2 == 0) || (!(x232001_2 == 0))) = true
         ·rw [if_pos c114] at H
          have c114b0 : (!(x232000_2 == 0) || (!(x232001_2 == 0))) = true := c114
          clear c114
          simp only [Option.some.injEq, Prod.mk.injEq] at H
          obtain ⟨rfl, rfl⟩ := H
          obtain ⟨hcz115_0, hcz115_1⟩ := zc2 BK231
          obtain ⟨hfz115_0, hfz115_1⟩ := zf2 BK231
          go_wp2
          go_ret2
          exact ⟨_, by first | rfl | (simp [errW_none, errW_some] <;> rfl) | (simp [*, errW_none, errW_some] <;> rfl), by first | exact Kd.R_nil _ _ _ _ _ | exact Kd.N_nil _ _ _ _ _ | exact Kd.V_nil _ _ _ _ _ | exact Kd.Q_nil _ _ _ _ _ | exact Kd.S_nil _ _ _ _ _, bq HB.out⟩
         ·rw [if_neg c114] at H
          have c114b0 : (!(x232000_2 == 0) || (!(x232001_2 == 0))) = false := by simpa using c114
          clear c114
          simp only [Option.some.injEq, Prod.mk.injEq] at H
          obtain ⟨rfl, rfl⟩ := H
          obtain ⟨hcz116_0, hcz116_1⟩ := zc2 BK231
          obtain ⟨hfz116_0, hfz116_1⟩ := zf2 BK231
          go_wp2
          go_ret2
          exact ⟨_, by first | rfl | (simp [errW_none, errW_some] <;> rfl) | (simp [*, errW_none, errW_some] <;> rfl), by (with_reducible repeat refine kl ?_); exact HO_12.out, bq HB.out⟩
     ·rw [if_neg c80] at H
      exact absurd H (by simp)
    ·rw [if_neg c79] at H
     exact absurd H (by simp)

end Go.Proofs.Ytlegcabfgkccmaa.P
