/- Written by a program of this session: functions that the law reaches, as Lean functions, and that the code comes to their answers. Conditions: those that each theorem names. -/
import Derived.Test.YthnaalocgoeddaaPx0
import Derived.Test.YthnaalocgoeddaaXV
import Derived.Test.YthnaalocgoeddaaPx9
import Derived.Test.YthnaalocgoeddaaPx10
namespace Go.Proofs.Ythnaalocgoeddaa.P
open Go.RowKit Go.Proofs.YthnaalocgoeddaaX Go.Proofs.YthnaalocgoeddaaW.PrintWords Go.Proofs.YthnaalocgoeddaaW.PrintLast Go.Proofs.YthnaalocgoeddaaW.PrintMore
attribute [local go_sem] max2_int min2_int max_two min_two max_three min_three max_four min_four   -- for this text's walks alone
set_option linter.unusedVariables false
set_option linter.unusedSimpArgs false

/-! ### steepleref17_At: function 18 -/
mutual
def steepleref17_At.l0 : Nat → Int → List (S37) → List (S37) → Int → Int → Int → Option (Int × Int)
 | 0, _, _, _, _, _, _ => none
 | k + 1, x0, x1, x7, x8, x309000, x309001 => if x8 < (x1.length : Int) then (steepleref17_At.l1 k x0 x1 x7 x8 ([] : List (S37)) 0 x309000 x309001) else (if 0 < (x7.length : Int) then (some ((rd_T37 x7 0).f0, (rd_T37 x7 0).f1)) else (none))
def steepleref17_At.l1 : Nat → Int → List (S37) → List (S37) → Int → List (S37) → Int → Int → Int → Option (Int × Int)
 | 0, _, _, _, _, _, _, _, _ => none
 | k + 1, x0, x1, x7, x8, x9, x10, x309000, x309001 => if (wrap64 (x10 + 1)) < (x7.length : Int) then ((steepleref02_Add.f x309000 x309001 0 (IntKind.u64.wrap (wrap64 (x10 + x8)))).bind fun bt313 => (if 0 ≤ x10 then (if x10 < (x7.length : Int) then ((steepleref02_Product.f k bt313.1 bt313.2 ((rd_T37 x7 x10).f0) ((rd_T37 x7 x10).f1)).bind fun bt316 => ((steepleref02_Add.f x309000 x309001 0 (IntKind.u64.wrap (x10))).bind fun bt318 => (if 0 ≤ (wrap64 (x10 + 1)) then ((steepleref02_Product.f k bt318.1 bt318.2 ((rd_T37 x7 (wrap64 (x10 + 1))).f0) ((rd_T37 x7 (wrap64 (x10 + 1))).f1)).bind fun bt321 => ((steepleref02_Add.f bt316.1 bt316.2 bt321.1 bt321.2).bind fun bt323 => ((steepleref02_Add.f 0 (IntKind.u64.wrap (x10)) 0 (IntKind.u64.wrap (wrap64 (x10 + x8)))).bind fun bt326 => ((steepleref02_Inv.f k x0 bt326.1 bt326.2).bind fun bt328 => ((steepleref02_Product.f k bt323.1 bt323.2 bt328.1 bt328.2).bind fun bt330 => (if x9.length < 8796093022208 then (steepleref17_At.l1 k x0 x1 x7 x8 (x9 ++ [(⟨bt330.1, bt330.2⟩ : S37)]) (wrap64 (x10 + 1)) x309000 x309001) else (none))))))) else (none)))) else (none)) else (none))) else (steepleref17_At.l0 k x0 x1 x9 (wrap64 (x8 + 1)) x309000 x309001)
end
def steepleref17_At.f (k : Nat) (a0 : Int) (l1 : List (S37)) (a2_0 : Int) (a2_1 : Int) : Option (Int × Int) := steepleref17_At.l0 k a0 l1 l1 1 a2_0 a2_1
theorem steepleref17_At.mono_l : ∀ k, (∀ y0 y1 y2 y3 y4 y5, LeO (steepleref17_At.l0 k y0 y1 y2 y3 y4 y5) (steepleref17_At.l0 (k + 1) y0 y1 y2 y3 y4 y5)) ∧ (∀ y0 y1 y2 y3 y4 y5 y6 y7, LeO (steepleref17_At.l1 k y0 y1 y2 y3 y4 y5 y6 y7) (steepleref17_At.l1 (k + 1) y0 y1 y2 y3 y4 y5 y6 y7))
 | 0 => ⟨fun _ _ _ _ _ _ r h => by simp [steepleref17_At.l0] at h, fun _ _ _ _ _ _ _ _ r h => by simp [steepleref17_At.l1] at h⟩
 | k + 1 => by
  obtain ⟨ih0, ih1⟩ := steepleref17_At.mono_l k
  refine ⟨?_, ?_⟩
  ·intro y0 y1 y2 y3 y4 y5
   unfold steepleref17_At.l0
   repeat' first
   | (with_reducible exact ih0 _ _ _ _ _ _)
   | (with_reducible exact ih1 _ _ _ _ _ _ _ _)
   | (with_reducible exact steepleref02_Inv.mono _ _ _ _)
   | (with_reducible exact steepleref02_Product.mono _ _ _ _ _)
   | (with_reducible exact LeO.refl _)
   | (with_reducible exact LeO.none _)
   | (with_reducible refine LeO.ite ?_ ?_)
   | (with_reducible refine LeO.bind ?_ (fun _ => ?_))
   | exact ih0 _ _ _ _ _ _
   | exact ih1 _ _ _ _ _ _ _ _
   | exact steepleref02_Inv.mono _ _ _ _
   | exact steepleref02_Product.mono _ _ _ _ _
   | exact LeO.none _
   | refine LeO.ite ?_ ?_
   | refine LeO.bind ?_ (fun _ => ?_)
  ·intro y0 y1 y2 y3 y4 y5 y6 y7
   unfold steepleref17_At.l1
   repeat' first
   | (with_reducible exact ih0 _ _ _ _ _ _)
   | (with_reducible exact ih1 _ _ _ _ _ _ _ _)
   | (with_reducible exact steepleref02_Inv.mono _ _ _ _)
   | (with_reducible exact steepleref02_Product.mono _ _ _ _ _)
   | (with_reducible exact LeO.refl _)
   | (with_reducible exact LeO.none _)
   | (with_reducible refine LeO.ite ?_ ?_)
   | (with_reducible refine LeO.bind ?_ (fun _ => ?_))
   | exact ih0 _ _ _ _ _ _
   | exact ih1 _ _ _ _ _ _ _ _
   | exact steepleref02_Inv.mono _ _ _ _
   | exact steepleref02_Product.mono _ _ _ _ _
   | exact LeO.none _
   | refine LeO.ite ?_ ?_
   | refine LeO.bind ?_ (fun _ => ?_)
theorem steepleref17_At.mono : ∀ a0 a1 a2 a3 k, LeO (steepleref17_At.f k a0 a1 a2 a3) (steepleref17_At.f (k + 1) a0 a1 a2 a3) := by
 intro a0 a1 a2 a3 k
 obtain ⟨ih0, ih1⟩ := steepleref17_At.mono_l k
 unfold steepleref17_At.f
 repeat' first
   | (with_reducible exact ih0 _ _ _ _ _ _)
   | (with_reducible exact ih1 _ _ _ _ _ _ _ _)
   | (with_reducible exact steepleref02_Inv.mono _ _ _ _)
   | (with_reducible exact steepleref02_Product.mono _ _ _ _ _)
   | (with_reducible exact LeO.refl _)
   | (with_reducible exact LeO.none _)
   | (with_reducible refine LeO.ite ?_ ?_)
   | (with_reducible refine LeO.bind ?_ (fun _ => ?_))
   | exact ih0 _ _ _ _ _ _
   | exact ih1 _ _ _ _ _ _ _ _
   | exact steepleref02_Inv.mono _ _ _ _
   | exact steepleref02_Product.mono _ _ _ _ _
   | exact LeO.none _
   | refine LeO.ite ?_ ?_
   | refine LeO.bind ?_ (fun _ => ?_)
def steepleref17_At.T11 : Bool × List (List Nat × List Nat) := (true, [([], []), ([], []), ([0, 1], [0, 1]), ([], []), ([], []), ([3, 4], [3, 4]), ([5], [5]), ([2, 6, 2], [2, 6]), ([], []), ([], []), ([8, 9, 7], [8, 9]), ([], []), ([], []), ([12], [12]), ([11, 13], [11, 13]), ([14], [14]), ([10, 15, 10], [10, 15]), ([7, 16, 16], [7, 16]), ([], []), ([18, 17, 17, 0, 1, 2, 3, 4, 5, 6, 7, 8, 9, 10, 11, 12, 13, 14, 15, 16, 17, 18], [17, 18])])
def steepleref17_At.B11 : List Nat := [0, 0, 3, 0, 0, 24, 56, 127, 0, 0, 1023, 0, 0, 4096, 14336, 30720, 65535, 131071, 0, 524287]
theorem steepleref17_At.tab11 : rtab .any (opsOf Try.f18 11) = steepleref17_At.T11 := by kernel_rfl
theorem steepleref17_At.bits11 : waitsOk steepleref17_At.T11.2 steepleref17_At.B11 = true := by kernel_rfl
def steepleref17_At.T12 : Bool × List (List Nat × List Nat) := (true, [([], []), ([], []), ([], []), ([], []), ([], []), ([3, 4], [3, 4]), ([2, 5, 5], [2, 5]), ([1, 6, 6], [1, 6]), ([7], [7]), ([0, 8, 7], [0, 8]), ([9, 9, 0, 1, 2, 3, 4, 5, 6, 7, 8, 9], [0, 9])])
def steepleref17_At.B12 : List Nat := [0, 0, 0, 0, 0, 24, 60, 126, 254, 511, 1023]
theorem steepleref17_At.tab12 : rtab .any (opsOf Try.f18 12) = steepleref17_At.T12 := by kernel_rfl
theorem steepleref17_At.bits12 : waitsOk steepleref17_At.T12.2 steepleref17_At.B12 = true := by kernel_rfl
set_option maxHeartbeats 8000000 in
set_option maxRecDepth 100000 in
theorem steepleref17_At.calls (k : Nat) (a0 : Int) (P1_ : Nat → Prop) (A1 : Option Addr) (c1 : Nat) (l1 : List (S37)) (a2_0 : Int) (a2_1 : Int) (r1 : Int) (r2 : Int) (w : World) (hs1 : Kd.V k37 37 w w.heap.size (fun k_ => P1_ k_) (.slice A1 l1.length c1) l1) (h : steepleref17_At.f k a0 l1 a2_0 a2_1 = some (r1, r2)) :
  Calls Try.prog 18 #[.int .i64 a0, .slice A1 l1.length c1, .agg #[.int .u64 a2_0, .int .u64 a2_1]] w fun e w' => e = .returned (.agg #[.int .u64 r1, .int .u64 r2]) ∧ Below w.heap.size w w' := by
 have hu37 := Try.underlying37
 have HO1 := Aside0.mk (show Kd.V k37 37 w w.heap.size (fun k_ => (P1_ k_ ∨ w.heap.size ≤ k_)) (.slice A1 l1.length c1) l1 from Kd.V_mono hs1 (fun k_ hk => .inl hk))
 have HB := Aside0.mk (Below.refl w.heap.size w)
 have H : (steepleref17_At.l0 k a0 l1 l1 1 a2_0 a2_1) = some (r1, r2) := h
 clear h
 have H' := Aside0.mk H
 clear H
 go_enter Try.func18, Try.ntmps18
 go_wp2_with (first | ((with_reducible refine gate_dst (N := 5) rfl ?_); refine box_event ?hg (N := 5) ?hd (cs := #[.int .u64 a2_0, .int .u64 a2_1]) (t := 37) ?hr ?_; (case hd => rfl); (case hg => rfl); (case hr => first | (go_simp; done) | (go_simp; rfl)); intro gb308 hg w4 hbox hb; have BK308 := Aside0.mk hbox; have GW308 := ge hg HB; have GE308 := ge hg HB; replace HO1 := Aside0.mk (Kd.V_below (Kd.V_elderB (by (with_reducible repeat (first | apply Kd.V_alloc | apply Kd.V_drewN | apply Kd.V_drew)); exact HO1.out) gb308 (Nat.le_of_eq hg.symm)) hb); replace HB := bh HB hb; clear hb hbox hg) | ((with_reducible refine gate_dst (N := 6) rfl ?_); refine box_event ?hg (N := 6) ?hd (cs := #[.int .u64 0, .int .u64 0]) (t := 37) ?hr ?_; (case hd => rfl); (case hg => rfl); (case hr => first | (go_simp; done) | (go_simp; rfl)); intro gb309 hg w5 hbox hb; have BK309 := Aside0.mk hbox; have GW309 := ge hg HB; have GE309 := ge hg HB; have NB308_309 := nl hg BK308; have NB309_308 := ng hg BK308; replace HO1 := Aside0.mk (Kd.V_below (Kd.V_elderB (by (with_reducible repeat (first | apply Kd.V_alloc | apply Kd.V_drewN | apply Kd.V_drew)); exact HO1.out) gb309 (Nat.le_of_eq hg.symm)) hb); replace BK308 := bb BK308 hb; replace HB := bh HB hb; clear hb hbox hg))
 go_loopg [7, 8] k (fun kq v7 v8 w' => ∃ (x7_1 : List (S37)) (x8_1 : Int), v8 = .int .i64 x8_1 ∧ Aside0 (steepleref17_At.l0 kq a0 l1 x7_1 x8_1 a2_0 a2_1 = some (r1, r2)) ∧ Aside0 (kq ≤ k) ∧ Aside0 (Kd.V k37 37 w' w.heap.size (fun k_ => (P1_ k_ ∨ w.heap.size ≤ k_) ∧ k_ ≠ gb308 ∧ k_ ≠ gb309) (.slice A1 l1.length c1) l1) ∧ Aside0 (Kd.V k37 37 w' w.heap.size (fun k_ => (P1_ k_ ∨ w.heap.size ≤ k_) ∧ k_ ≠ gb308 ∧ k_ ≠ gb309) v7 x7_1) ∧ Aside0 (w'.heap[gb308]? = some (.cells #[.int .u64 a2_0, .int .u64 a2_1] 37 (0, 0))) ∧ Aside0 (w'.heap[gb309]? = some (.cells #[.int .u64 0, .int .u64 0] 37 (0, 0))) ∧ Aside0 (Below w.heap.size w w'))
 case atStart => exact ⟨(l1), (1), (by first | rfl | (simp; done) | (simp [*]; done)), H', ⟨Nat.le_refl _⟩, ⟨by (with_reducible repeat (first | apply Kd.V_alloc | apply Kd.V_drewN | apply Kd.V_drew)); exact Kd.V_mono HO1.out (fun _ hk => ⟨hk.1.1, ⟨hk.1.2, hk.2⟩⟩)⟩, ⟨by (with_reducible repeat (first | apply Kd.V_alloc | apply Kd.V_drewN | apply Kd.V_drew)); exact Kd.V_mono HO1.out (fun _ hk => ⟨hk.1.1, ⟨hk.1.2, hk.2⟩⟩)⟩, ⟨bk BK308.out⟩, ⟨bk BK309.out⟩, ⟨bq HB.out⟩⟩
 case round =>
  clear H'
  try clear c1
  try clear p2
  obtain ⟨x7_1, x8_1, rfl, HA, HK1, HO_1, HO_7, BK308, BK309, HB⟩ := hrel
  cases gk with
  | zero => exact absurd HA.out (by simp [steepleref17_At.l0])
  | succ k1 =>
   have H := HA.out
   clear HA
   simp only [steepleref17_At.l0] at H
   by_cases c6 : x8_1 < (l1.length : Int)
   ·rw [if_pos c6] at H
    have c6b0 : decide (x8_1 < (l1.length : Int)) = true := decide_eq_true c6
    clear c6
    have H' := Aside0.mk H
    clear H
    go_wp2
    go_loopg [9, 10] k1 (fun kq v9 v10 w' => ∃ (x9_2 : List (S37)) (x10_2 : Int), v10 = .int .i64 x10_2 ∧ Aside0 (steepleref17_At.l1 kq a0 l1 x7_1 x8_1 x9_2 x10_2 a2_0 a2_1 = some (r1, r2)) ∧ Aside0 (kq ≤ k1) ∧ Aside0 (Kd.V k37 37 w' w.heap.size (fun k_ => (P1_ k_ ∨ w.heap.size ≤ k_) ∧ some k_ ≠ (v9 : Value).ownBlock ∧ k_ ≠ gb308 ∧ k_ ≠ gb309) (.slice A1 l1.length c1) l1) ∧ Aside0 (Kd.V k37 37 w' w.heap.size (fun k_ => (P1_ k_ ∨ w.heap.size ≤ k_) ∧ some k_ ≠ (v9 : Value).ownBlock ∧ k_ ≠ gb308 ∧ k_ ≠ gb309) u7 x7_1) ∧ Aside0 (Kd.R k37 37 w' w.heap.size (fun k_ => (w.heap.size ≤ k_) ∧ k_ ≠ gb308 ∧ k_ ≠ gb309) v9 x9_2) ∧ Aside0 (w'.heap[gb308]? = some (.cells #[.int .u64 a2_0, .int .u64 a2_1] 37 (0, 0))) ∧ Aside0 (w'.heap[gb309]? = some (.cells #[.int .u64 0, .int .u64 0] 37 (0, 0))) ∧ Aside0 (Below w.heap.size w w'))
    case atStart => exact ⟨(([] : List (S37))), (0), (by first | rfl | (simp; done) | (simp [*]; done)), H', ⟨Nat.le_refl _⟩, ⟨by (with_reducible repeat (first | apply Kd.V_alloc | apply Kd.V_drewN | apply Kd.V_drew)); exact Kd.V_mono HO_1.out (fun _ hk => ⟨hk.1, ⟨(by simp [Value.ownBlock]), ⟨hk.2.1, hk.2.2⟩⟩⟩)⟩, ⟨by (with_reducible repeat (first | apply Kd.V_alloc | apply Kd.V_drewN | apply Kd.V_drew)); exact Kd.V_mono HO_7.out (fun _ hk => ⟨hk.1, ⟨(by simp [Value.ownBlock]), ⟨hk.2.1, hk.2.2⟩⟩⟩)⟩, ⟨by first | exact Kd.R_nil _ _ _ _ _ | exact Kd.N_nil _ _ _ _ _ | exact Kd.V_nil _ _ _ _ _ | exact Kd.Q_nil _ _ _ _ _ | exact Kd.S_nil _ _ _ _ _⟩, ⟨bk BK308.out⟩, ⟨bk BK309.out⟩, ⟨bq HB.out⟩⟩
    case round =>
     clear H'
     try clear c1
     try clear p2
     try clear c6
     try clear c6b0
     try clear p2
     obtain ⟨x9_2, x10_2, rfl, HA, HK2, HO_1, HO_7, HO_9, BK308, BK309, HB⟩ := hrel
     cases gk with
     | zero => exact absurd HA.out (by simp [steepleref17_At.l1])
     | succ k2 =>
      have H := HA.out
      clear HA
      simp only [steepleref17_At.l1] at H
      by_cases c7 : (wrap64 (x10_2 + 1)) < (x7_1.length : Int)
      ·rw [if_pos c7] at H
       have c7b0 : decide ((wrap64 (x10_2 + 1)) < (x7_1.length : Int)) = true := decide_eq_true c7
       clear c7
       replace H := Option.bind_eq_some_iff.mp H
       obtain ⟨⟨t313, t314⟩, A80, H⟩ := H
       replace H : (if 0 ≤ x10_2 then (if x10_2 < (x7_1.length : Int) then ((steepleref02_Product.f k2 t313 t314 ((rd_T37 x7_1 x10_2).f0) ((rd_T37 x7_1 x10_2).f1)).bind fun bt316 => ((steepleref02_Add.f a2_0 a2_1 0 (IntKind.u64.wrap (x10_2))).bind fun bt318 => (if 0 ≤ (wrap64 (x10_2 + 1)) then ((steepleref02_Product.f k2 bt318.1 bt318.2 ((rd_T37 x7_1 (wrap64 (x10_2 + 1))).f0) ((rd_T37 x7_1 (wrap64 (x10_2 + 1))).f1)).bind fun bt321 => ((steepleref02_Add.f bt316.1 bt316.2 bt321.1 bt321.2).bind fun bt323 => ((steepleref02_Add.f 0 (IntKind.u64.wrap (x10_2)) 0 (IntKind.u64.wrap (wrap64 (x10_2 + x8_1)))).bind fun bt326 => ((steepleref02_Inv.f k2 a0 bt326.1 bt326.2).bind fun bt328 => ((steepleref02_Product.f k2 bt323.1 bt323.2 bt328.1 bt328.2).bind fun bt330 => (if x9_2.length < 8796093022208 then (steepleref17_At.l1 k2 a0 l1 x7_1 x8_1 (x9_2 ++ [(⟨bt330.1, bt330.2⟩ : S37)]) (wrap64 (x10_2 + 1)) a2_0 a2_1) else (none))))))) else (none)))) else (none)) else (none)) = some (r1, r2) := H
       have A8 := Aside0.mk A80
       clear A80
       by_cases c9 : 0 ≤ x10_2
       ·rw [if_pos c9] at H
        have c9b0 : decide (0 ≤ x10_2) = true := decide_eq_true c9
        clear c9
        by_cases c10 : x10_2 < (x7_1.length : Int)
        ·rw [if_pos c10] at H
         have c10b0 : decide (x10_2 < (x7_1.length : Int)) = true := decide_eq_true c10
         clear c10
         replace H := Option.bind_eq_some_iff.mp H
         obtain ⟨⟨t316, t317⟩, A110, H⟩ := H
         replace H : ((steepleref02_Add.f a2_0 a2_1 0 (IntKind.u64.wrap (x10_2))).bind fun bt318 => (if 0 ≤ (wrap64 (x10_2 + 1)) then ((steepleref02_Product.f k2 bt318.1 bt318.2 ((rd_T37 x7_1 (wrap64 (x10_2 + 1))).f0) ((rd_T37 x7_1 (wrap64 (x10_2 + 1))).f1)).bind fun bt321 => ((steepleref02_Add.f t316 t317 bt321.1 bt321.2).bind fun bt323 => ((steepleref02_Add.f 0 (IntKind.u64.wrap (x10_2)) 0 (IntKind.u64.wrap (wrap64 (x10_2 + x8_1)))).bind fun bt326 => ((steepleref02_Inv.f k2 a0 bt326.1 bt326.2).bind fun bt328 => ((steepleref02_Product.f k2 bt323.1 bt323.2 bt328.1 bt328.2).bind fun bt330 => (if x9_2.length < 8796093022208 then (steepleref17_At.l1 k2 a0 l1 x7_1 x8_1 (x9_2 ++ [(⟨bt330.1, bt330.2⟩ : S37)]) (wrap64 (x10_2 + 1)) a2_0 a2_1) else (none))))))) else (none))) = some (r1, r2) := H
         have A11 := Aside0.mk A110
         clear A110
         replace H := Option.bind_eq_some_iff.mp H
         obtain ⟨⟨t318, t319⟩, A120, H⟩ := H
         replace H : (if 0 ≤ (wrap64 (x10_2 + 1)) then ((steepleref02_Product.f k2 t318 t319 ((rd_T37 x7_1 (wrap64 (x10_2 + 1))).f0) ((rd_T37 x7_1 (wrap64 (x10_2 + 1))).f1)).bind fun bt321 => ((steepleref02_Add.f t316 t317 bt321.1 bt321.2).bind fun bt323 => ((steepleref02_Add.f 0 (IntKind.u64.wrap (x10_2)) 0 (IntKind.u64.wrap (wrap64 (x10_2 + x8_1)))).bind fun bt326 => ((steepleref02_Inv.f k2 a0 bt326.1 bt326.2).bind fun bt328 => ((steepleref02_Product.f k2 bt323.1 bt323.2 bt328.1 bt328.2).bind fun bt330 => (if x9_2.length < 8796093022208 then (steepleref17_At.l1 k2 a0 l1 x7_1 x8_1 (x9_2 ++ [(⟨bt330.1, bt330.2⟩ : S37)]) (wrap64 (x10_2 + 1)) a2_0 a2_1) else (none))))))) else (none)) = some (r1, r2) := H
         have A12 := Aside0.mk A120
         clear A120
         obtain ⟨ji13, hji13⟩ : ∃ j_ : Int, (wrap64 (x10_2 + 1)) = j_ := ⟨_, rfl⟩
         replace H : (if 0 ≤ (ji13) then ((steepleref02_Product.f k2 t318 t319 ((rd_T37 x7_1 (ji13)).f0) ((rd_T37 x7_1 (ji13)).f1)).bind fun bt321 => ((steepleref02_Add.f t316 t317 bt321.1 bt321.2).bind fun bt323 => ((steepleref02_Add.f 0 (IntKind.u64.wrap (x10_2)) 0 (IntKind.u64.wrap (wrap64 (x10_2 + x8_1)))).bind fun bt326 => ((steepleref02_Inv.f k2 a0 bt326.1 bt326.2).bind fun bt328 => ((steepleref02_Product.f k2 bt323.1 bt323.2 bt328.1 bt328.2).bind fun bt330 => (if x9_2.length < 8796093022208 then (steepleref17_At.l1 k2 a0 l1 x7_1 x8_1 (x9_2 ++ [(⟨bt330.1, bt330.2⟩ : S37)]) ji13 a2_0 a2_1) else (none))))))) else (none)) = some (r1, r2) := by first | (rw [hji13] at H; exact H) | (simp only [hji13] at H ⊢; exact H)
         (try rw [hji13] at c7b0)
         (try rw [hji13] at A8)
         (try rw [hji13] at A11)
         (try rw [hji13] at A12)
         have hji13w : (IntKind.i64.wrap (x10_2 + 1)) = ji13 := (i64_w _).trans hji13
         by_cases c14 : 0 ≤ (ji13)
         ·rw [if_pos c14] at H
          have c14b0 : decide (0 ≤ (ji13)) = true := decide_eq_true c14
          clear c14
          replace H := Option.bind_eq_some_iff.mp H
          obtain ⟨⟨t321, t322⟩, A150, H⟩ := H
          replace H : ((steepleref02_Add.f t316 t317 t321 t322).bind fun bt323 => ((steepleref02_Add.f 0 (IntKind.u64.wrap (x10_2)) 0 (IntKind.u64.wrap (wrap64 (x10_2 + x8_1)))).bind fun bt326 => ((steepleref02_Inv.f k2 a0 bt326.1 bt326.2).bind fun bt328 => ((steepleref02_Product.f k2 bt323.1 bt323.2 bt328.1 bt328.2).bind fun bt330 => (if x9_2.length < 8796093022208 then (steepleref17_At.l1 k2 a0 l1 x7_1 x8_1 (x9_2 ++ [(⟨bt330.1, bt330.2⟩ : S37)]) ji13 a2_0 a2_1) else (none)))))) = some (r1, r2) := H
          have A15 := Aside0.mk A150
          clear A150
          replace H := Option.bind_eq_some_iff.mp H
          obtain ⟨⟨t323, t324⟩, A160, H⟩ := H
          replace H : ((steepleref02_Add.f 0 (IntKind.u64.wrap (x10_2)) 0 (IntKind.u64.wrap (wrap64 (x10_2 + x8_1)))).bind fun bt326 => ((steepleref02_Inv.f k2 a0 bt326.1 bt326.2).bind fun bt328 => ((steepleref02_Product.f k2 t323 t324 bt328.1 bt328.2).bind fun bt330 => (if x9_2.length < 8796093022208 then (steepleref17_At.l1 k2 a0 l1 x7_1 x8_1 (x9_2 ++ [(⟨bt330.1, bt330.2⟩ : S37)]) ji13 a2_0 a2_1) else (none))))) = some (r1, r2) := H
          have A16 := Aside0.mk A160
          clear A160
          replace H := Option.bind_eq_some_iff.mp H
          obtain ⟨⟨t326, t327⟩, A170, H⟩ := H
          replace H : ((steepleref02_Inv.f k2 a0 t326 t327).bind fun bt328 => ((steepleref02_Product.f k2 t323 t324 bt328.1 bt328.2).bind fun bt330 => (if x9_2.length < 8796093022208 then (steepleref17_At.l1 k2 a0 l1 x7_1 x8_1 (x9_2 ++ [(⟨bt330.1, bt330.2⟩ : S37)]) ji13 a2_0 a2_1) else (none)))) = some (r1, r2) := H
          have A17 := Aside0.mk A170
          clear A170
          replace H := Option.bind_eq_some_iff.mp H
          obtain ⟨⟨t328, t329⟩, A180, H⟩ := H
          replace H : ((steepleref02_Product.f k2 t323 t324 t328 t329).bind fun bt330 => (if x9_2.length < 8796093022208 then (steepleref17_At.l1 k2 a0 l1 x7_1 x8_1 (x9_2 ++ [(⟨bt330.1, bt330.2⟩ : S37)]) ji13 a2_0 a2_1) else (none))) = some (r1, r2) := H
          have A18 := Aside0.mk A180
          clear A180
          replace H := Option.bind_eq_some_iff.mp H
          obtain ⟨⟨t330, t331⟩, A190, H⟩ := H
          replace H : (if x9_2.length < 8796093022208 then (steepleref17_At.l1 k2 a0 l1 x7_1 x8_1 (x9_2 ++ [(⟨t330, t331⟩ : S37)]) ji13 a2_0 a2_1) else (none)) = some (r1, r2) := H
          have A19 := Aside0.mk A190
          clear A190
          by_cases c20 : x9_2.length < 8796093022208
          ·rw [if_pos c20] at H
           have LMc20 := Aside0.mk c20
           clear c20
           obtain ⟨y332, hy332⟩ : ∃ y_ : List (S37), y_ = (x9_2 ++ [(⟨t330, t331⟩ : S37)]) := ⟨_, rfl⟩
           replace H : (steepleref17_At.l1 k2 a0 l1 x7_1 x8_1 y332 ji13 a2_0 a2_1) = some (r1, r2) := by first | (rw [hy332]; with_reducible exact H) | (have H2_ := (Option.bind_some _ _).symm.trans H; rw [hy332]; with_reducible exact H2_) | (have H2_ := (Option.bind_some _ _).symm.trans H; with_reducible exact H2_) | with_reducible exact H | (rw [hy332]; exact H) | exact H
           have Ny332 := Aside0.mk hy332
           clear hy332
           have H' := Aside0.mk H
           clear H
           obtain ⟨Ao21, co21, eo21⟩ := Kd.V_slice HO_7.out
           subst eo21
           try go_wp2_with (first | ((with_reducible refine gate_dst (N := 11) rfl ?_); refine box_event ?hg (N := 11) ?hd (cs := #[.int .u64 0, .int .u64 0]) (t := 37) ?hr ?_; (case hd => rfl); (case hg => rfl); (case hr => first | (go_simp; done) | (go_simp; rfl)); intro gb311 hg w22 hbox hb; have BK311 := Aside0.mk hbox; have GW311 := ge hg HB; have GE311 := ge hg HB; have NB308_311 := nl hg BK308; have NB311_308 := ng hg BK308; have NB309_311 := nl hg BK309; have NB311_309 := ng hg BK309; replace HO_1 := Aside0.mk (Kd.V_below (Kd.V_elderB (by (with_reducible repeat (first | apply Kd.V_alloc | apply Kd.V_drewN | apply Kd.V_drew)); exact HO_1.out) gb311 (Nat.le_of_eq hg.symm)) hb); replace HO_7 := Aside0.mk (Kd.V_below (Kd.V_elderB (by (with_reducible repeat (first | apply Kd.V_alloc | apply Kd.V_drewN | apply Kd.V_drew)); exact HO_7.out) gb311 (Nat.le_of_eq hg.symm)) hb); replace HO_9 := Aside0.mk (Kd.R_below (Kd.R_elderB (kr HO_9.out) gb311 (Nat.le_of_eq hg.symm)) hb); replace BK308 := bb BK308 hb; replace BK309 := bb BK309 hb; replace HB := bh HB hb; clear hb hbox hg; obtain ⟨hcz25_0, hcz25_1⟩ := zc2 BK311; obtain ⟨hfz25_0, hfz25_1⟩ := zf2 BK311) | ((with_reducible refine gate_dst (N := 12) rfl ?_); refine box_event ?hg (N := 12) ?hd (cs := #[.int .u64 0, .int .u64 0]) (t := 37) ?hr ?_; (case hd => rfl); (case hg => rfl); (case hr => first | (go_simp; done) | (go_simp; rfl)); intro gb312 hg w26 hbox hb; have BK312 := Aside0.mk hbox; have GW312 := ge hg HB; have GE312 := ge hg HB; have NB308_312 := Aside0.mk ((by rw [hg]; exact Nat.ne_of_lt (blk_lt (g := gb308) (o := .cells #[.int .u64 a2_0, .int .u64 a2_1] 37 (0, 0)) (by (with_reducible repeat refine bl ?_); refine blk_far ?_ NB308_311.out _; (with_reducible repeat refine bl ?_); refine blk_far ?_ NB308_311.out _; (with_reducible repeat refine bl ?_); exact BK308.out)) : gb308 ≠ gb312)); have NB312_308 := Aside0.mk ((by rw [hg]; exact Nat.ne_of_gt (blk_lt (g := gb308) (o := .cells #[.int .u64 a2_0, .int .u64 a2_1] 37 (0, 0)) (by (with_reducible repeat refine bl ?_); refine blk_far ?_ NB308_311.out _; (with_reducible repeat refine bl ?_); refine blk_far ?_ NB308_311.out _; (with_reducible repeat refine bl ?_); exact BK308.out)) : gb312 ≠ gb308)); have NB309_312 := Aside0.mk ((by rw [hg]; exact Nat.ne_of_lt (blk_lt (g := gb309) (o := .cells #[.int .u64 0, .int .u64 0] 37 (0, 0)) (by (with_reducible repeat refine bl ?_); refine blk_far ?_ NB309_311.out _; (with_reducible repeat refine bl ?_); refine blk_far ?_ NB309_311.out _; (with_reducible repeat refine bl ?_); exact BK309.out)) : gb309 ≠ gb312)); have NB312_309 := Aside0.mk ((by rw [hg]; exact Nat.ne_of_gt (blk_lt (g := gb309) (o := .cells #[.int .u64 0, .int .u64 0] 37 (0, 0)) (by (with_reducible repeat refine bl ?_); refine blk_far ?_ NB309_311.out _; (with_reducible repeat refine bl ?_); refine blk_far ?_ NB309_311.out _; (with_reducible repeat refine bl ?_); exact BK309.out)) : gb312 ≠ gb309)); have NB311_312 := Aside0.mk ((by rw [hg]; exact Nat.ne_of_lt (blk_lt (g := gb311) (o := .cells #[.int .u64 0, .int .u64 (IntKind.u64.wrap (x10_2))] 37 (0, 0)) (by (with_reducible repeat refine bl ?_); refine blk_put (cs := #[.int .u64 0, .int .u64 0]) ?_ 1 _ rfl; (with_reducible repeat refine bl ?_); refine blk_put (cs := #[.int .u64 0, .int .u64 0]) ?_ 0 _ rfl; (with_reducible repeat refine bl ?_); exact BK311.out)) : gb311 ≠ gb312)); have NB312_311 := Aside0.mk ((by rw [hg]; exact Nat.ne_of_gt (blk_lt (g := gb311) (o := .cells #[.int .u64 0, .int .u64 (IntKind.u64.wrap (x10_2))] 37 (0, 0)) (by (with_reducible repeat refine bl ?_); refine blk_put (cs := #[.int .u64 0, .int .u64 0]) ?_ 1 _ rfl; (with_reducible repeat refine bl ?_); refine blk_put (cs := #[.int .u64 0, .int .u64 0]) ?_ 0 _ rfl; (with_reducible repeat refine bl ?_); exact BK311.out)) : gb312 ≠ gb311)); replace HO_1 := Aside0.mk (Kd.V_below (Kd.V_elderB (by (with_reducible repeat (first | apply Kd.V_alloc | apply Kd.V_drewN | apply Kd.V_drew)); exact (Kd.V_mono (Kd.V_far (p := ⟨gb311, 1, none⟩) (Kd.V_far (p := ⟨gb311, 0, none⟩) (Kd.V_mono HO_1.out (fun k_ hk => (⟨hk, hk.2⟩ : _ ∧ k_ ≠ gb311))) (fun _ hk => hk.2) (.int .u64 0)) (fun _ hk => hk.2) (.int .u64 (IntKind.u64.wrap (x10_2)))) (fun _ h_ => h_.1))) gb312 (Nat.le_of_eq hg.symm)) hb); replace HO_7 := Aside0.mk (Kd.V_below (Kd.V_elderB (by (with_reducible repeat (first | apply Kd.V_alloc | apply Kd.V_drewN | apply Kd.V_drew)); exact (Kd.V_mono (Kd.V_far (p := ⟨gb311, 1, none⟩) (Kd.V_far (p := ⟨gb311, 0, none⟩) (Kd.V_mono HO_7.out (fun k_ hk => (⟨hk, hk.2⟩ : _ ∧ k_ ≠ gb311))) (fun _ hk => hk.2) (.int .u64 0)) (fun _ hk => hk.2) (.int .u64 (IntKind.u64.wrap (x10_2)))) (fun _ h_ => h_.1))) gb312 (Nat.le_of_eq hg.symm)) hb); replace HO_9 := Aside0.mk (Kd.R_below (Kd.R_elderB (by (with_reducible repeat refine kl ?_); exact (Kd.R_mono (Kd.R_far (p := ⟨gb311, 1, none⟩) (Kd.R_far (p := ⟨gb311, 0, none⟩) (Kd.R_mono HO_9.out (fun k_ hk => (⟨hk, hk.2⟩ : _ ∧ k_ ≠ gb311))) (fun _ hk => hk.2) (.int .u64 0)) (fun _ hk => hk.2) (.int .u64 (IntKind.u64.wrap (x10_2)))) (fun _ h_ => h_.1))) gb312 (Nat.le_of_eq hg.symm)) hb); replace BK308 := Aside0.mk (blk_below (g := gb308) (o := .cells #[.int .u64 a2_0, .int .u64 a2_1] 37 (0, 0)) (by (with_reducible repeat refine bl ?_); refine blk_far ?_ NB308_311.out _; (with_reducible repeat refine bl ?_); refine blk_far ?_ NB308_311.out _; (with_reducible repeat refine bl ?_); exact BK308.out) hb); replace BK309 := Aside0.mk (blk_below (g := gb309) (o := .cells #[.int .u64 0, .int .u64 0] 37 (0, 0)) (by (with_reducible repeat refine bl ?_); refine blk_far ?_ NB309_311.out _; (with_reducible repeat refine bl ?_); refine blk_far ?_ NB309_311.out _; (with_reducible repeat refine bl ?_); exact BK309.out) hb); replace BK311 := Aside0.mk (blk_below (g := gb311) (o := .cells #[.int .u64 0, .int .u64 (IntKind.u64.wrap (x10_2))] 37 (0, 0)) (by (with_reducible repeat refine bl ?_); refine blk_put (cs := #[.int .u64 0, .int .u64 0]) ?_ 1 _ rfl; (with_reducible repeat refine bl ?_); refine blk_put (cs := #[.int .u64 0, .int .u64 0]) ?_ 0 _ rfl; (with_reducible repeat refine bl ?_); exact BK311.out) hb); replace HB := bh HB hb; clear hb hbox hg; have hnb29 := NB312_311.out; have hnc29 := NB311_312.out; obtain ⟨hcz30_0, hcz30_1⟩ := zc2 BK312; obtain ⟨hfz30_0, hfz30_1⟩ := zf2 BK312))
           have n0_ : Aside0 (Kd.V k37 37 ((w26.setCell ⟨gb312, 0, none⟩ (.int .u64 0)).setCell ⟨gb312, 1, none⟩ (.int .u64 (IntKind.u64.wrap (wrap64 (x10_2 + x8_1))))) w.heap.size (fun k_ => (P1_ k_ ∨ w.heap.size ≤ k_) ∧ some k_ ≠ (u9 : Value).ownBlock ∧ k_ ≠ gb308 ∧ k_ ≠ gb309 ∧ k_ ≠ gb311 ∧ k_ ≠ gb312) (.slice A1 l1.length c1) l1) := ⟨by (with_reducible repeat (first | apply Kd.V_alloc | apply Kd.V_drewN | apply Kd.V_drew)); exact Kd.V_mono (Kd.V_far (p := ⟨gb312, 1, none⟩) (Kd.V_far (p := ⟨gb312, 0, none⟩) (Kd.V_mono HO_1.out (fun k_ hk => (⟨hk, hk.2⟩ : _ ∧ k_ ≠ gb312))) (fun _ hk => hk.2) (.int .u64 0)) (fun _ hk => hk.2) (.int .u64 (IntKind.u64.wrap (wrap64 (x10_2 + x8_1))))) (fun _ hk => ⟨hk.1.1.1.1, ⟨hk.1.1.1.2.1, ⟨hk.1.1.1.2.2.1, ⟨hk.1.1.1.2.2.2, ⟨hk.1.1.2, hk.1.2⟩⟩⟩⟩⟩)⟩
           have n1_ : Aside0 (Kd.V k37 37 ((w26.setCell ⟨gb312, 0, none⟩ (.int .u64 0)).setCell ⟨gb312, 1, none⟩ (.int .u64 (IntKind.u64.wrap (wrap64 (x10_2 + x8_1))))) w.heap.size (fun k_ => (P1_ k_ ∨ w.heap.size ≤ k_) ∧ some k_ ≠ (u9 : Value).ownBlock ∧ k_ ≠ gb308 ∧ k_ ≠ gb309 ∧ k_ ≠ gb311 ∧ k_ ≠ gb312) (.slice Ao21 x7_1.length co21) x7_1) := ⟨by (with_reducible repeat (first | apply Kd.V_alloc | apply Kd.V_drewN | apply Kd.V_drew)); exact Kd.V_mono (Kd.V_far (p := ⟨gb312, 1, none⟩) (Kd.V_far (p := ⟨gb312, 0, none⟩) (Kd.V_mono HO_7.out (fun k_ hk => (⟨hk, hk.2⟩ : _ ∧ k_ ≠ gb312))) (fun _ hk => hk.2) (.int .u64 0)) (fun _ hk => hk.2) (.int .u64 (IntKind.u64.wrap (wrap64 (x10_2 + x8_1))))) (fun _ hk => ⟨hk.1.1.1.1, ⟨hk.1.1.1.2.1, ⟨hk.1.1.1.2.2.1, ⟨hk.1.1.1.2.2.2, ⟨hk.1.1.2, hk.1.2⟩⟩⟩⟩⟩)⟩
           have n2_ : Aside0 (Kd.R k37 37 ((w26.setCell ⟨gb312, 0, none⟩ (.int .u64 0)).setCell ⟨gb312, 1, none⟩ (.int .u64 (IntKind.u64.wrap (wrap64 (x10_2 + x8_1))))) w.heap.size (fun k_ => (w.heap.size ≤ k_) ∧ k_ ≠ gb308 ∧ k_ ≠ gb309 ∧ k_ ≠ gb311 ∧ k_ ≠ gb312) u9 x9_2) := ⟨by (with_reducible repeat refine kl ?_); exact Kd.R_mono (Kd.R_far (p := ⟨gb312, 1, none⟩) (Kd.R_far (p := ⟨gb312, 0, none⟩) (Kd.R_mono HO_9.out (fun k_ hk => (⟨hk, hk.2⟩ : _ ∧ k_ ≠ gb312))) (fun _ hk => hk.2) (.int .u64 0)) (fun _ hk => hk.2) (.int .u64 (IntKind.u64.wrap (wrap64 (x10_2 + x8_1))))) (fun _ hk => ⟨hk.1.1.1.1, ⟨hk.1.1.1.2.1, ⟨hk.1.1.1.2.2, ⟨hk.1.1.2, hk.1.2⟩⟩⟩⟩)⟩
           have n3_ : Aside0 (((w26.setCell ⟨gb312, 0, none⟩ (.int .u64 0)).setCell ⟨gb312, 1, none⟩ (.int .u64 (IntKind.u64.wrap (wrap64 (x10_2 + x8_1))))).heap[gb308]? = some (.cells #[.int .u64 a2_0, .int .u64 a2_1] 37 (0, 0))) := ⟨by (with_reducible repeat refine bl ?_); refine blk_far ?_ NB308_312.out _; (with_reducible repeat refine bl ?_); refine blk_far ?_ NB308_312.out _; (with_reducible repeat refine bl ?_); exact BK308.out⟩
           have n4_ : Aside0 (((w26.setCell ⟨gb312, 0, none⟩ (.int .u64 0)).setCell ⟨gb312, 1, none⟩ (.int .u64 (IntKind.u64.wrap (wrap64 (x10_2 + x8_1))))).heap[gb309]? = some (.cells #[.int .u64 0, .int .u64 0] 37 (0, 0))) := ⟨by (with_reducible repeat refine bl ?_); refine blk_far ?_ NB309_312.out _; (with_reducible repeat refine bl ?_); refine blk_far ?_ NB309_312.out _; (with_reducible repeat refine bl ?_); exact BK309.out⟩
           have n5_ : Aside0 (((w26.setCell ⟨gb312, 0, none⟩ (.int .u64 0)).setCell ⟨gb312, 1, none⟩ (.int .u64 (IntKind.u64.wrap (wrap64 (x10_2 + x8_1))))).heap[gb311]? = some (.cells #[.int .u64 0, .int .u64 (IntKind.u64.wrap (x10_2))] 37 (0, 0))) := ⟨by (with_reducible repeat refine bl ?_); refine blk_far ?_ NB311_312.out _; (with_reducible repeat refine bl ?_); refine blk_far ?_ NB311_312.out _; (with_reducible repeat refine bl ?_); exact BK311.out⟩
           have n6_ : Aside0 (((w26.setCell ⟨gb312, 0, none⟩ (.int .u64 0)).setCell ⟨gb312, 1, none⟩ (.int .u64 (IntKind.u64.wrap (wrap64 (x10_2 + x8_1))))).heap[gb312]? = some (.cells #[.int .u64 0, .int .u64 (IntKind.u64.wrap (wrap64 (x10_2 + x8_1)))] 37 (0, 0))) := ⟨by (with_reducible repeat refine bl ?_); refine blk_put (cs := #[.int .u64 0, .int .u64 0]) ?_ 1 _ rfl; (with_reducible repeat refine bl ?_); refine blk_put (cs := #[.int .u64 0, .int .u64 0]) ?_ 0 _ rfl; (with_reducible repeat refine bl ?_); exact BK312.out⟩
           have n7_ : Aside0 (Below w.heap.size w ((w26.setCell ⟨gb312, 0, none⟩ (.int .u64 0)).setCell ⟨gb312, 1, none⟩ (.int .u64 (IntKind.u64.wrap (wrap64 (x10_2 + x8_1)))))) := ⟨bq HB.out⟩
           (try clear HO_1)
           (try clear HO_7)
           (try clear HO_9)
           (try clear BK308)
           (try clear BK309)
           (try clear BK311)
           (try clear BK312)
           (try clear HB)
           generalize ((w26.setCell ⟨gb312, 0, none⟩ (.int .u64 0)).setCell ⟨gb312, 1, none⟩ (.int .u64 (IntKind.u64.wrap (wrap64 (x10_2 + x8_1))))) = w31 at n0_ n1_ n2_ n3_ n4_ n5_ n6_ n7_ ⊢
           have HO_1 := n0_
           have HO_7 := n1_
           have HO_9 := n2_
           have BK308 := n3_
           have BK309 := n4_
           have BK311 := n5_
           have BK312 := n6_
           have HB := n7_
           clear n0_ n1_ n2_ n3_ n4_ n5_ n6_ n7_
           replace HO_1 := Aside0.mk (Kd.V_drew HO_1.out)
           replace HO_7 := Aside0.mk (Kd.V_drew HO_7.out)
           replace HO_9 := Aside0.mk (Kd.R_drew HO_9.out)
           replace BK308 := Aside0.mk (blk_drew BK308.out)
           replace BK309 := Aside0.mk (blk_drew BK309.out)
           replace BK311 := Aside0.mk (blk_drew BK311.out)
           replace BK312 := Aside0.mk (blk_drew BK312.out)
           replace HB := Aside0.mk (below_drew1 HB.out)
           have p315 : 0 ≤ (x10_2 : Int) := of_decide_eq_true (by first | (with_reducible assumption) | assumption)
           have q315 : x10_2 < (x7_1.length : Int) := of_decide_eq_true (by first | (with_reducible assumption) | assumption)
           obtain ⟨ad315, e315, hx315_0, hx315_1⟩ := at_T37 (Kd.V_reads' HO_7.out).2.2 x10_2 p315 q315
           cases e315
           replace p315 := eq_true p315
           replace q315 := eq_true q315
           have p320 : 0 ≤ ((ji13) : Int) := of_decide_eq_true (by first | (with_reducible assumption) | assumption)
           have q320 : (ji13) < (x7_1.length : Int) := of_decide_eq_true (by first | (with_reducible assumption) | assumption)
           obtain ⟨ad320, e320, hx320_0, hx320_1⟩ := at_T37 (Kd.V_reads' HO_7.out).2.2 (ji13) p320 q320
           obtain rfl : ad315 = ad320 := (by injection e320)
           replace p320 := eq_true p320
           replace q320 := eq_true q320
           refine start_ (n := 20) (S := fun w' => w'.cell? ⟨gb308, 0, none⟩ = some (.int .u64 a2_0) ∧ w'.cell? ⟨gb308, 1, none⟩ = some (.int .u64 a2_1) ∧ w'.cell? ⟨gb312, 0, none⟩ = some (.int .u64 0) ∧ w'.cell? ⟨gb312, 1, none⟩ = some (.int .u64 (IntKind.u64.wrap (wrap64 (x10_2 + x8_1)))) ∧ w'.cell? ⟨gb311, 0, none⟩ = some (.int .u64 0) ∧ w'.cell? ⟨gb311, 1, none⟩ = some (.int .u64 (IntKind.u64.wrap (x10_2))) ∧ w'.cell? (ad315.add ((x10_2).toNat * 2)) = some (.int .u64 ((rd_T37 x7_1 x10_2).f0)) ∧ w'.cell? ⟨(ad315.add ((x10_2).toNat * 2)).block, (ad315.add ((x10_2).toNat * 2)).off + 1, none⟩ = some (.int .u64 ((rd_T37 x7_1 x10_2).f1)) ∧ w'.cell? (ad315.add (((ji13)).toNat * 2)) = some (.int .u64 ((rd_T37 x7_1 (ji13)).f0)) ∧ w'.cell? ⟨(ad315.add (((ji13)).toNat * 2)).block, (ad315.add (((ji13)).toNat * 2)).off + 1, none⟩ = some (.int .u64 ((rd_T37 x7_1 (ji13)).f1))) (ds := []) #[false, false, false, false, false, false, false, false, false, false, false, false, false, false, false, false, false, false, false, false] (by kernel_rfl) rfl rfl ⟨(blk_cell BK308.out 0).trans rfl, (blk_cell BK308.out 1).trans rfl, (blk_cell BK312.out 0).trans rfl, (blk_cell BK312.out 1).trans rfl, (blk_cell BK311.out 0).trans rfl, (blk_cell BK311.out 1).trans rfl, hx315_0, hx315_1, hx320_0, hx320_1⟩ (fun hHeld => ?_); refine with_tabW steepleref17_At.tab11 steepleref17_At.bits11 (fun HT_ HW_ => ?_)
           generalize w31.drew = w32 at HO_1 HO_7 HO_9 BK308 BK309 BK311 BK312 HB hx315_0 hx315_1 hx320_0 hx320_1 hHeld ⊢
           refine pure_ (i := 3) (N := some 39) (v := ?_) (a' := ?_) #[false, false, false, true, false, false, false, false, false, false, false, false, false, false, false, false, false, false, false, false] rfl rfl (any_of HT_.out (by kernel_rfl)) (fun _ _ _ h => h) (Or.inl ⟨by rfl, ?_⟩) ?_ ?_
           rotate_left
           ·intro w'
            go_simp
            with_reducible rfl
           rotate_left
           ·simp only [Act.put, List.setIfInBounds_toArray, List.set_cons_zero, List.set_cons_succ, i64_w, i32_w]
            rfl
           refine pure_ (i := 4) (N := some 40) (v := ?_) (a' := ?_) #[false, false, false, true, true, false, false, false, false, false, false, false, false, false, false, false, false, false, false, false] rfl rfl (any_of HT_.out (by kernel_rfl)) (fun _ _ _ h => h) (Or.inl ⟨by rfl, ?_⟩) ?_ ?_
           rotate_left
           ·intro w'
            go_simp
            with_reducible rfl
           rotate_left
           ·simp only [Act.put, List.setIfInBounds_toArray, List.set_cons_zero, List.set_cons_succ, i64_w, i32_w]
            rfl
           refine pure_ (i := 5) (N := some 41) (v := ?_) (a' := ?_) #[false, false, false, true, true, true, false, false, false, false, false, false, false, false, false, false, false, false, false, false] rfl rfl (any_of HT_.out (by kernel_rfl)) (fun _ _ _ h => h) (Or.inl ⟨by rfl, ?_⟩) ?_ ?_
           rotate_left
           ·intro w'
            go_simp
            with_reducible rfl
           rotate_left
           ·simp only [Act.put, List.setIfInBounds_toArray, List.set_cons_zero, List.set_cons_succ, i64_w, i32_w]
            rfl
           refine pure_ (i := 11) (N := some 47) (v := ?_) (a' := ?_) #[false, false, false, true, true, true, false, false, false, false, false, true, false, false, false, false, false, false, false, false] rfl rfl (any_of HT_.out (by kernel_rfl)) (fun _ _ _ h => h) (Or.inl ⟨by rfl, ?_⟩) ?_ ?_
           rotate_left
           ·intro w'
            go_simp
            with_reducible rfl
           rotate_left
           ·simp only [Act.put, List.setIfInBounds_toArray, List.set_cons_zero, List.set_cons_succ, i64_w, i32_w]
            rfl
           refine pure_ (i := 12) (N := some 48) (v := ?_) (a' := ?_) #[false, false, false, true, true, true, false, false, false, false, false, true, true, false, false, false, false, false, false, false] rfl rfl (any_of HT_.out (by kernel_rfl)) (fun _ _ _ h => h) (Or.inl ⟨by rfl, ?_⟩) ?_ ?_
           rotate_left
           ·intro w'
            go_simp
            with_reducible rfl
           rotate_left
           ·simp only [Act.put, List.setIfInBounds_toArray, List.set_cons_zero, List.set_cons_succ, i64_w, i32_w]
            rfl
           refine pure_ (i := 13) (N := some 49) (v := ?_) (a' := ?_) #[false, false, false, true, true, true, false, false, false, false, false, true, true, true, false, false, false, false, false, false] rfl rfl (any_of HT_.out (by kernel_rfl)) (fun _ _ _ h => h) (Or.inl ⟨by rfl, ?_⟩) ?_ ?_
           rotate_left
           ·intro w'
            go_simp
            with_reducible rfl
           rotate_left
           ·simp only [Act.put, List.setIfInBounds_toArray, List.set_cons_zero, List.set_cons_succ, i64_w, i32_w]
            rfl
           refine pure_ (i := 14) (N := some 50) (v := ?_) (a' := ?_) #[false, false, false, true, true, true, false, false, false, false, false, true, true, true, true, false, false, false, false, false] rfl rfl (any_of HT_.out (by kernel_rfl)) (fun _ _ _ h => h) (Or.inl ⟨by rfl, ?_⟩) ?_ ?_
           rotate_left
           ·intro w'
            go_simp
            with_reducible rfl
           rotate_left
           ·simp only [Act.put, List.setIfInBounds_toArray, List.set_cons_zero, List.set_cons_succ, i64_w, i32_w]
            rfl
           refine take_ (i := 0) (N := some 36) (v := ?_) (a' := ?_) #[true, false, false, true, true, true, false, false, false, false, false, true, true, true, true, false, false, false, false, false] rfl rfl (take_ofW HT_.out HW_.out (by kernel_rfl)) (fun _ _ _ h => h) (Or.inl ⟨by rfl, ?_⟩) hHeld ?_ ?_
           rotate_left
           ·rintro w' ⟨s0, s1, s2, s3, s4, s5, s6, s7, s8, s9⟩
            go_simp
            with_reducible rfl
           rotate_left
           ·simp only [Act.put, List.setIfInBounds_toArray, List.set_cons_zero, List.set_cons_succ, i64_w, i32_w]
            rfl
           refine take_ (i := 1) (N := some 37) (v := ?_) (a' := ?_) #[true, true, false, true, true, true, false, false, false, false, false, true, true, true, true, false, false, false, false, false] rfl rfl (take_ofW HT_.out HW_.out (by kernel_rfl)) (fun _ _ _ h => h) (Or.inl ⟨by rfl, ?_⟩) hHeld ?_ ?_
           rotate_left
           ·rintro w' ⟨s0, s1, s2, s3, s4, s5, s6, s7, s8, s9⟩
            go_simp
            with_reducible rfl
           rotate_left
           ·simp only [Act.put, List.setIfInBounds_toArray, List.set_cons_zero, List.set_cons_succ, i64_w, i32_w]
            rfl
           refine take_ (i := 6) (N := some 42) (v := ?_) (a' := ?_) #[true, true, false, true, true, true, true, false, false, false, false, true, true, true, true, false, false, false, false, false] rfl rfl (take_ofW HT_.out HW_.out (by kernel_rfl)) (fun _ _ _ h => h) (Or.inl ⟨by rfl, ?_⟩) hHeld ?_ ?_
           rotate_left
           ·rintro w' ⟨s0, s1, s2, s3, s4, s5, s6, s7, s8, s9⟩
            go_simp
            with_reducible rfl
           rotate_left
           ·simp only [Act.put, List.setIfInBounds_toArray, List.set_cons_zero, List.set_cons_succ, i64_w, i32_w]
            rfl
           refine take_ (i := 8) (N := some 44) (v := ?_) (a' := ?_) #[true, true, false, true, true, true, true, false, true, false, false, true, true, true, true, false, false, false, false, false] rfl rfl (take_ofW HT_.out HW_.out (by kernel_rfl)) (fun _ _ _ h => h) (Or.inl ⟨by rfl, ?_⟩) hHeld ?_ ?_
           rotate_left
           ·rintro w' ⟨s0, s1, s2, s3, s4, s5, s6, s7, s8, s9⟩
            go_simp
            with_reducible rfl
           rotate_left
           ·simp only [Act.put, List.setIfInBounds_toArray, List.set_cons_zero, List.set_cons_succ, i64_w, i32_w]
            rfl
           refine take_ (i := 9) (N := some 45) (v := ?_) (a' := ?_) #[true, true, false, true, true, true, true, false, true, true, false, true, true, true, true, false, false, false, false, false] rfl rfl (take_ofW HT_.out HW_.out (by kernel_rfl)) (fun _ _ _ h => h) (Or.inl ⟨by rfl, ?_⟩) hHeld ?_ ?_
           rotate_left
           ·rintro w' ⟨s0, s1, s2, s3, s4, s5, s6, s7, s8, s9⟩
            go_simp
            with_reducible rfl
           rotate_left
           ·simp only [Act.put, List.setIfInBounds_toArray, List.set_cons_zero, List.set_cons_succ, i64_w, i32_w]
            rfl
           refine take_ (i := 15) (N := some 51) (v := ?_) (a' := ?_) #[true, true, false, true, true, true, true, false, true, true, false, true, true, true, true, true, false, false, false, false] rfl rfl (take_ofW HT_.out HW_.out (by kernel_rfl)) (fun _ _ _ h => h) (Or.inl ⟨by rfl, ?_⟩) hHeld ?_ ?_
           rotate_left
           ·rintro w' ⟨s0, s1, s2, s3, s4, s5, s6, s7, s8, s9⟩
            go_simp
            with_reducible rfl
           rotate_left
           ·simp only [Act.put, List.setIfInBounds_toArray, List.set_cons_zero, List.set_cons_succ, i64_w, i32_w]
            rfl
           refine join_ (σ := Nat) 1 #[true, true, true, true, true, true, true, true, true, true, true, true, true, true, true, true, true, true, true, false] (fun s_ => [(38, .agg #[.int .u64 t313, .int .u64 t314]), (43, .agg #[.int .u64 t316, .int .u64 t317]), (46, .agg #[.int .u64 t318, .int .u64 t319]), (52, .agg #[.int .u64 t321, .int .u64 t322]), (53, .agg #[.int .u64 t323, .int .u64 t324]), (13, .pointer (some ⟨s_, 0, none⟩))]) (fun s_ w' => (w'.cell? ⟨gb308, 0, none⟩ = some (.int .u64 a2_0) ∧ w'.cell? ⟨gb308, 1, none⟩ = some (.int .u64 a2_1) ∧ w'.cell? ⟨gb312, 0, none⟩ = some (.int .u64 0) ∧ w'.cell? ⟨gb312, 1, none⟩ = some (.int .u64 (IntKind.u64.wrap (wrap64 (x10_2 + x8_1)))) ∧ w'.cell? ⟨gb311, 0, none⟩ = some (.int .u64 0) ∧ w'.cell? ⟨gb311, 1, none⟩ = some (.int .u64 (IntKind.u64.wrap (x10_2))) ∧ w'.cell? (ad315.add ((x10_2).toNat * 2)) = some (.int .u64 ((rd_T37 x7_1 x10_2).f0)) ∧ w'.cell? ⟨(ad315.add ((x10_2).toNat * 2)).block, (ad315.add ((x10_2).toNat * 2)).off + 1, none⟩ = some (.int .u64 ((rd_T37 x7_1 x10_2).f1)) ∧ w'.cell? (ad315.add (((ji13)).toNat * 2)) = some (.int .u64 ((rd_T37 x7_1 (ji13)).f0)) ∧ w'.cell? ⟨(ad315.add (((ji13)).toNat * 2)).block, (ad315.add (((ji13)).toNat * 2)).off + 1, none⟩ = some (.int .u64 ((rd_T37 x7_1 (ji13)).f1))) ∧ (Kd.V k37 37 w' w.heap.size (fun k_ => (P1_ k_ ∨ w.heap.size ≤ k_) ∧ some k_ ≠ (u9 : Value).ownBlock ∧ k_ ≠ gb308 ∧ k_ ≠ gb309 ∧ k_ ≠ gb311 ∧ k_ ≠ gb312 ∧ k_ ≠ s_) (.slice A1 l1.length c1) l1) ∧ (Kd.V k37 37 w' w.heap.size (fun k_ => (P1_ k_ ∨ w.heap.size ≤ k_) ∧ some k_ ≠ (u9 : Value).ownBlock ∧ k_ ≠ gb308 ∧ k_ ≠ gb309 ∧ k_ ≠ gb311 ∧ k_ ≠ gb312 ∧ k_ ≠ s_) (.slice (some ad315) x7_1.length co21) x7_1) ∧ (Kd.R k37 37 w' w.heap.size (fun k_ => (w.heap.size ≤ k_) ∧ k_ ≠ gb308 ∧ k_ ≠ gb309 ∧ k_ ≠ gb311 ∧ k_ ≠ gb312 ∧ k_ ≠ s_) u9 x9_2) ∧ (w'.heap[gb308]? = some (.cells #[.int .u64 a2_0, .int .u64 a2_1] 37 (0, 0))) ∧ (w'.heap[gb309]? = some (.cells #[.int .u64 0, .int .u64 0] 37 (0, 0))) ∧ (w'.heap[gb311]? = some (.cells #[.int .u64 0, .int .u64 (IntKind.u64.wrap (x10_2))] 37 (0, 0))) ∧ (w'.heap[gb312]? = some (.cells #[.int .u64 0, .int .u64 (IntKind.u64.wrap (wrap64 (x10_2 + x8_1)))] 37 (0, 0))) ∧ (w'.heap[s_]? = some (.cells #[.int .u64 0, .int .u64 0] 37 (0, 0))) ∧ (w.heap.size ≤ s_) ∧ (w.heap.size ≤ s_) ∧ (gb308 ≠ s_) ∧ (s_ ≠ gb308) ∧ (gb309 ≠ s_) ∧ (s_ ≠ gb309) ∧ (gb311 ≠ s_) ∧ (s_ ≠ gb311) ∧ (gb312 ≠ s_) ∧ (s_ ≠ gb312) ∧ (Below w.heap.size w w')) ?_ ?_
           rotate_left
           ·intro hJ2_7_10_16_17_18
            refine join_ (σ := Unit) 2 #[true, true, true, true, true, true, true, true, true, true, true, true, true, true, true, true, true, true, false, false] (fun s_ => [(38, .agg #[.int .u64 t313, .int .u64 t314]), (43, .agg #[.int .u64 t316, .int .u64 t317]), (46, .agg #[.int .u64 t318, .int .u64 t319]), (52, .agg #[.int .u64 t321, .int .u64 t322]), (53, .agg #[.int .u64 t323, .int .u64 t324])]) (fun s_ w' => (w'.cell? ⟨gb308, 0, none⟩ = some (.int .u64 a2_0) ∧ w'.cell? ⟨gb308, 1, none⟩ = some (.int .u64 a2_1) ∧ w'.cell? ⟨gb312, 0, none⟩ = some (.int .u64 0) ∧ w'.cell? ⟨gb312, 1, none⟩ = some (.int .u64 (IntKind.u64.wrap (wrap64 (x10_2 + x8_1)))) ∧ w'.cell? ⟨gb311, 0, none⟩ = some (.int .u64 0) ∧ w'.cell? ⟨gb311, 1, none⟩ = some (.int .u64 (IntKind.u64.wrap (x10_2))) ∧ w'.cell? (ad315.add ((x10_2).toNat * 2)) = some (.int .u64 ((rd_T37 x7_1 x10_2).f0)) ∧ w'.cell? ⟨(ad315.add ((x10_2).toNat * 2)).block, (ad315.add ((x10_2).toNat * 2)).off + 1, none⟩ = some (.int .u64 ((rd_T37 x7_1 x10_2).f1)) ∧ w'.cell? (ad315.add (((ji13)).toNat * 2)) = some (.int .u64 ((rd_T37 x7_1 (ji13)).f0)) ∧ w'.cell? ⟨(ad315.add (((ji13)).toNat * 2)).block, (ad315.add (((ji13)).toNat * 2)).off + 1, none⟩ = some (.int .u64 ((rd_T37 x7_1 (ji13)).f1))) ∧ (Kd.V k37 37 w' w.heap.size (fun k_ => (P1_ k_ ∨ w.heap.size ≤ k_) ∧ some k_ ≠ (u9 : Value).ownBlock ∧ k_ ≠ gb308 ∧ k_ ≠ gb309 ∧ k_ ≠ gb311 ∧ k_ ≠ gb312) (.slice A1 l1.length c1) l1) ∧ (Kd.V k37 37 w' w.heap.size (fun k_ => (P1_ k_ ∨ w.heap.size ≤ k_) ∧ some k_ ≠ (u9 : Value).ownBlock ∧ k_ ≠ gb308 ∧ k_ ≠ gb309 ∧ k_ ≠ gb311 ∧ k_ ≠ gb312) (.slice (some ad315) x7_1.length co21) x7_1) ∧ (Kd.R k37 37 w' w.heap.size (fun k_ => (w.heap.size ≤ k_) ∧ k_ ≠ gb308 ∧ k_ ≠ gb309 ∧ k_ ≠ gb311 ∧ k_ ≠ gb312) u9 x9_2) ∧ (w'.heap[gb308]? = some (.cells #[.int .u64 a2_0, .int .u64 a2_1] 37 (0, 0))) ∧ (w'.heap[gb309]? = some (.cells #[.int .u64 0, .int .u64 0] 37 (0, 0))) ∧ (w'.heap[gb311]? = some (.cells #[.int .u64 0, .int .u64 (IntKind.u64.wrap (x10_2))] 37 (0, 0))) ∧ (w'.heap[gb312]? = some (.cells #[.int .u64 0, .int .u64 (IntKind.u64.wrap (wrap64 (x10_2 + x8_1)))] 37 (0, 0))) ∧ (Below w.heap.size w w')) ?_ ?_
            rotate_left
            ·intro hJ2_7_10_16_17
             refine join_ (σ := Nat) 2 #[true, true, true, true, true, true, true, true, true, true, true, true, true, true, true, true, true, false, true, false] (fun s_ => [(38, .agg #[.int .u64 t313, .int .u64 t314]), (43, .agg #[.int .u64 t316, .int .u64 t317]), (46, .agg #[.int .u64 t318, .int .u64 t319]), (52, .agg #[.int .u64 t321, .int .u64 t322]), (13, .pointer (some ⟨s_, 0, none⟩))]) (fun s_ w' => (w'.cell? ⟨gb308, 0, none⟩ = some (.int .u64 a2_0) ∧ w'.cell? ⟨gb308, 1, none⟩ = some (.int .u64 a2_1) ∧ w'.cell? ⟨gb312, 0, none⟩ = some (.int .u64 0) ∧ w'.cell? ⟨gb312, 1, none⟩ = some (.int .u64 (IntKind.u64.wrap (wrap64 (x10_2 + x8_1)))) ∧ w'.cell? ⟨gb311, 0, none⟩ = some (.int .u64 0) ∧ w'.cell? ⟨gb311, 1, none⟩ = some (.int .u64 (IntKind.u64.wrap (x10_2))) ∧ w'.cell? (ad315.add ((x10_2).toNat * 2)) = some (.int .u64 ((rd_T37 x7_1 x10_2).f0)) ∧ w'.cell? ⟨(ad315.add ((x10_2).toNat * 2)).block, (ad315.add ((x10_2).toNat * 2)).off + 1, none⟩ = some (.int .u64 ((rd_T37 x7_1 x10_2).f1)) ∧ w'.cell? (ad315.add (((ji13)).toNat * 2)) = some (.int .u64 ((rd_T37 x7_1 (ji13)).f0)) ∧ w'.cell? ⟨(ad315.add (((ji13)).toNat * 2)).block, (ad315.add (((ji13)).toNat * 2)).off + 1, none⟩ = some (.int .u64 ((rd_T37 x7_1 (ji13)).f1))) ∧ (Kd.V k37 37 w' w.heap.size (fun k_ => (P1_ k_ ∨ w.heap.size ≤ k_) ∧ some k_ ≠ (u9 : Value).ownBlock ∧ k_ ≠ gb308 ∧ k_ ≠ gb309 ∧ k_ ≠ gb311 ∧ k_ ≠ gb312 ∧ k_ ≠ s_) (.slice A1 l1.length c1) l1) ∧ (Kd.V k37 37 w' w.heap.size (fun k_ => (P1_ k_ ∨ w.heap.size ≤ k_) ∧ some k_ ≠ (u9 : Value).ownBlock ∧ k_ ≠ gb308 ∧ k_ ≠ gb309 ∧ k_ ≠ gb311 ∧ k_ ≠ gb312 ∧ k_ ≠ s_) (.slice (some ad315) x7_1.length co21) x7_1) ∧ (Kd.R k37 37 w' w.heap.size (fun k_ => (w.heap.size ≤ k_) ∧ k_ ≠ gb308 ∧ k_ ≠ gb309 ∧ k_ ≠ gb311 ∧ k_ ≠ gb312 ∧ k_ ≠ s_) u9 x9_2) ∧ (w'.heap[gb308]? = some (.cells #[.int .u64 a2_0, .int .u64 a2_1] 37 (0, 0))) ∧ (w'.heap[gb309]? = some (.cells #[.int .u64 0, .int .u64 0] 37 (0, 0))) ∧ (w'.heap[gb311]? = some (.cells #[.int .u64 0, .int .u64 (IntKind.u64.wrap (x10_2))] 37 (0, 0))) ∧ (w'.heap[gb312]? = some (.cells #[.int .u64 0, .int .u64 (IntKind.u64.wrap (wrap64 (x10_2 + x8_1)))] 37 (0, 0))) ∧ (w'.heap[s_]? = some (.cells #[.int .u64 0, .int .u64 0] 37 (0, 0))) ∧ (w.heap.size ≤ s_) ∧ (w.heap.size ≤ s_) ∧ (gb308 ≠ s_) ∧ (s_ ≠ gb308) ∧ (gb309 ≠ s_) ∧ (s_ ≠ gb309) ∧ (gb311 ≠ s_) ∧ (s_ ≠ gb311) ∧ (gb312 ≠ s_) ∧ (s_ ≠ gb312) ∧ (Below w.heap.size w w')) ?_ ?_
             rotate_left
             ·intro hJ2_7_10_16_18
              refine join_ (σ := Unit) 3 #[true, true, true, true, true, true, true, true, true, true, true, true, true, true, true, true, true, false, false, false] (fun s_ => [(38, .agg #[.int .u64 t313, .int .u64 t314]), (43, .agg #[.int .u64 t316, .int .u64 t317]), (46, .agg #[.int .u64 t318, .int .u64 t319]), (52, .agg #[.int .u64 t321, .int .u64 t322])]) (fun s_ w' => (w'.cell? ⟨gb308, 0, none⟩ = some (.int .u64 a2_0) ∧ w'.cell? ⟨gb308, 1, none⟩ = some (.int .u64 a2_1) ∧ w'.cell? ⟨gb312, 0, none⟩ = some (.int .u64 0) ∧ w'.cell? ⟨gb312, 1, none⟩ = some (.int .u64 (IntKind.u64.wrap (wrap64 (x10_2 + x8_1)))) ∧ w'.cell? ⟨gb311, 0, none⟩ = some (.int .u64 0) ∧ w'.cell? ⟨gb311, 1, none⟩ = some (.int .u64 (IntKind.u64.wrap (x10_2))) ∧ w'.cell? (ad315.add ((x10_2).toNat * 2)) = some (.int .u64 ((rd_T37 x7_1 x10_2).f0)) ∧ w'.cell? ⟨(ad315.add ((x10_2).toNat * 2)).block, (ad315.add ((x10_2).toNat * 2)).off + 1, none⟩ = some (.int .u64 ((rd_T37 x7_1 x10_2).f1)) ∧ w'.cell? (ad315.add (((ji13)).toNat * 2)) = some (.int .u64 ((rd_T37 x7_1 (ji13)).f0)) ∧ w'.cell? ⟨(ad315.add (((ji13)).toNat * 2)).block, (ad315.add (((ji13)).toNat * 2)).off + 1, none⟩ = some (.int .u64 ((rd_T37 x7_1 (ji13)).f1))) ∧ (Kd.V k37 37 w' w.heap.size (fun k_ => (P1_ k_ ∨ w.heap.size ≤ k_) ∧ some k_ ≠ (u9 : Value).ownBlock ∧ k_ ≠ gb308 ∧ k_ ≠ gb309 ∧ k_ ≠ gb311 ∧ k_ ≠ gb312) (.slice A1 l1.length c1) l1) ∧ (Kd.V k37 37 w' w.heap.size (fun k_ => (P1_ k_ ∨ w.heap.size ≤ k_) ∧ some k_ ≠ (u9 : Value).ownBlock ∧ k_ ≠ gb308 ∧ k_ ≠ gb309 ∧ k_ ≠ gb311 ∧ k_ ≠ gb312) (.slice (some ad315) x7_1.length co21) x7_1) ∧ (Kd.R k37 37 w' w.heap.size (fun k_ => (w.heap.size ≤ k_) ∧ k_ ≠ gb308 ∧ k_ ≠ gb309 ∧ k_ ≠ gb311 ∧ k_ ≠ gb312) u9 x9_2) ∧ (w'.heap[gb308]? = some (.cells #[.int .u64 a2_0, .int .u64 a2_1] 37 (0, 0))) ∧ (w'.heap[gb309]? = some (.cells #[.int .u64 0, .int .u64 0] 37 (0, 0))) ∧ (w'.heap[gb311]? = some (.cells #[.int .u64 0, .int .u64 (IntKind.u64.wrap (x10_2))] 37 (0, 0))) ∧ (w'.heap[gb312]? = some (.cells #[.int .u64 0, .int .u64 (IntKind.u64.wrap (wrap64 (x10_2 + x8_1)))] 37 (0, 0))) ∧ (Below w.heap.size w w')) ?_ ?_
              rotate_left
              ·intro hJ2_7_10_16
               refine join_ (σ := Nat) 3 #[true, true, true, true, true, true, true, true, true, true, true, true, true, true, true, true, false, false, true, false] (fun s_ => [(38, .agg #[.int .u64 t313, .int .u64 t314]), (43, .agg #[.int .u64 t316, .int .u64 t317]), (46, .agg #[.int .u64 t318, .int .u64 t319]), (13, .pointer (some ⟨s_, 0, none⟩))]) (fun s_ w' => (w'.cell? ⟨gb308, 0, none⟩ = some (.int .u64 a2_0) ∧ w'.cell? ⟨gb308, 1, none⟩ = some (.int .u64 a2_1) ∧ w'.cell? ⟨gb312, 0, none⟩ = some (.int .u64 0) ∧ w'.cell? ⟨gb312, 1, none⟩ = some (.int .u64 (IntKind.u64.wrap (wrap64 (x10_2 + x8_1)))) ∧ w'.cell? ⟨gb311, 0, none⟩ = some (.int .u64 0) ∧ w'.cell? ⟨gb311, 1, none⟩ = some (.int .u64 (IntKind.u64.wrap (x10_2))) ∧ w'.cell? (ad315.add ((x10_2).toNat * 2)) = some (.int .u64 ((rd_T37 x7_1 x10_2).f0)) ∧ w'.cell? ⟨(ad315.add ((x10_2).toNat * 2)).block, (ad315.add ((x10_2).toNat * 2)).off + 1, none⟩ = some (.int .u64 ((rd_T37 x7_1 x10_2).f1)) ∧ w'.cell? (ad315.add (((ji13)).toNat * 2)) = some (.int .u64 ((rd_T37 x7_1 (ji13)).f0)) ∧ w'.cell? ⟨(ad315.add (((ji13)).toNat * 2)).block, (ad315.add (((ji13)).toNat * 2)).off + 1, none⟩ = some (.int .u64 ((rd_T37 x7_1 (ji13)).f1))) ∧ (Kd.V k37 37 w' w.heap.size (fun k_ => (P1_ k_ ∨ w.heap.size ≤ k_) ∧ some k_ ≠ (u9 : Value).ownBlock ∧ k_ ≠ gb308 ∧ k_ ≠ gb309 ∧ k_ ≠ gb311 ∧ k_ ≠ gb312 ∧ k_ ≠ s_) (.slice A1 l1.length c1) l1) ∧ (Kd.V k37 37 w' w.heap.size (fun k_ => (P1_ k_ ∨ w.heap.size ≤ k_) ∧ some k_ ≠ (u9 : Value).ownBlock ∧ k_ ≠ gb308 ∧ k_ ≠ gb309 ∧ k_ ≠ gb311 ∧ k_ ≠ gb312 ∧ k_ ≠ s_) (.slice (some ad315) x7_1.length co21) x7_1) ∧ (Kd.R k37 37 w' w.heap.size (fun k_ => (w.heap.size ≤ k_) ∧ k_ ≠ gb308 ∧ k_ ≠ gb309 ∧ k_ ≠ gb311 ∧ k_ ≠ gb312 ∧ k_ ≠ s_) u9 x9_2) ∧ (w'.heap[gb308]? = some (.cells #[.int .u64 a2_0, .int .u64 a2_1] 37 (0, 0))) ∧ (w'.heap[gb309]? = some (.cells #[.int .u64 0, .int .u64 0] 37 (0, 0))) ∧ (w'.heap[gb311]? = some (.cells #[.int .u64 0, .int .u64 (IntKind.u64.wrap (x10_2))] 37 (0, 0))) ∧ (w'.heap[gb312]? = some (.cells #[.int .u64 0, .int .u64 (IntKind.u64.wrap (wrap64 (x10_2 + x8_1)))] 37 (0, 0))) ∧ (w'.heap[s_]? = some (.cells #[.int .u64 0, .int .u64 0] 37 (0, 0))) ∧ (w.heap.size ≤ s_) ∧ (w.heap.size ≤ s_) ∧ (gb308 ≠ s_) ∧ (s_ ≠ gb308) ∧ (gb309 ≠ s_) ∧ (s_ ≠ gb309) ∧ (gb311 ≠ s_) ∧ (s_ ≠ gb311) ∧ (gb312 ≠ s_) ∧ (s_ ≠ gb312) ∧ (Below w.heap.size w w')) ?_ ?_
               rotate_left
               ·intro hJ2_7_10_18
                refine join_ (σ := Unit) 4 #[true, true, true, true, true, true, true, true, true, true, true, true, true, true, true, true, false, false, false, false] (fun s_ => [(38, .agg #[.int .u64 t313, .int .u64 t314]), (43, .agg #[.int .u64 t316, .int .u64 t317]), (46, .agg #[.int .u64 t318, .int .u64 t319])]) (fun s_ w' => (w'.cell? ⟨gb308, 0, none⟩ = some (.int .u64 a2_0) ∧ w'.cell? ⟨gb308, 1, none⟩ = some (.int .u64 a2_1) ∧ w'.cell? ⟨gb312, 0, none⟩ = some (.int .u64 0) ∧ w'.cell? ⟨gb312, 1, none⟩ = some (.int .u64 (IntKind.u64.wrap (wrap64 (x10_2 + x8_1)))) ∧ w'.cell? ⟨gb311, 0, none⟩ = some (.int .u64 0) ∧ w'.cell? ⟨gb311, 1, none⟩ = some (.int .u64 (IntKind.u64.wrap (x10_2))) ∧ w'.cell? (ad315.add ((x10_2).toNat * 2)) = some (.int .u64 ((rd_T37 x7_1 x10_2).f0)) ∧ w'.cell? ⟨(ad315.add ((x10_2).toNat * 2)).block, (ad315.add ((x10_2).toNat * 2)).off + 1, none⟩ = some (.int .u64 ((rd_T37 x7_1 x10_2).f1)) ∧ w'.cell? (ad315.add (((ji13)).toNat * 2)) = some (.int .u64 ((rd_T37 x7_1 (ji13)).f0)) ∧ w'.cell? ⟨(ad315.add (((ji13)).toNat * 2)).block, (ad315.add (((ji13)).toNat * 2)).off + 1, none⟩ = some (.int .u64 ((rd_T37 x7_1 (ji13)).f1))) ∧ (Kd.V k37 37 w' w.heap.size (fun k_ => (P1_ k_ ∨ w.heap.size ≤ k_) ∧ some k_ ≠ (u9 : Value).ownBlock ∧ k_ ≠ gb308 ∧ k_ ≠ gb309 ∧ k_ ≠ gb311 ∧ k_ ≠ gb312) (.slice A1 l1.length c1) l1) ∧ (Kd.V k37 37 w' w.heap.size (fun k_ => (P1_ k_ ∨ w.heap.size ≤ k_) ∧ some k_ ≠ (u9 : Value).ownBlock ∧ k_ ≠ gb308 ∧ k_ ≠ gb309 ∧ k_ ≠ gb311 ∧ k_ ≠ gb312) (.slice (some ad315) x7_1.length co21) x7_1) ∧ (Kd.R k37 37 w' w.heap.size (fun k_ => (w.heap.size ≤ k_) ∧ k_ ≠ gb308 ∧ k_ ≠ gb309 ∧ k_ ≠ gb311 ∧ k_ ≠ gb312) u9 x9_2) ∧ (w'.heap[gb308]? = some (.cells #[.int .u64 a2_0, .int .u64 a2_1] 37 (0, 0))) ∧ (w'.heap[gb309]? = some (.cells #[.int .u64 0, .int .u64 0] 37 (0, 0))) ∧ (w'.heap[gb311]? = some (.cells #[.int .u64 0, .int .u64 (IntKind.u64.wrap (x10_2))] 37 (0, 0))) ∧ (w'.heap[gb312]? = some (.cells #[.int .u64 0, .int .u64 (IntKind.u64.wrap (wrap64 (x10_2 + x8_1)))] 37 (0, 0))) ∧ (Below w.heap.size w w')) ?_ ?_
                rotate_left
                ·intro hJ2_7_10
                 refine join_ (σ := Nat) 4 #[true, true, true, true, true, true, true, true, true, true, false, true, true, true, true, true, false, false, true, false] (fun s_ => [(38, .agg #[.int .u64 t313, .int .u64 t314]), (43, .agg #[.int .u64 t316, .int .u64 t317]), (13, .pointer (some ⟨s_, 0, none⟩))]) (fun s_ w' => (w'.cell? ⟨gb308, 0, none⟩ = some (.int .u64 a2_0) ∧ w'.cell? ⟨gb308, 1, none⟩ = some (.int .u64 a2_1) ∧ w'.cell? ⟨gb312, 0, none⟩ = some (.int .u64 0) ∧ w'.cell? ⟨gb312, 1, none⟩ = some (.int .u64 (IntKind.u64.wrap (wrap64 (x10_2 + x8_1)))) ∧ w'.cell? ⟨gb311, 0, none⟩ = some (.int .u64 0) ∧ w'.cell? ⟨gb311, 1, none⟩ = some (.int .u64 (IntKind.u64.wrap (x10_2))) ∧ w'.cell? (ad315.add ((x10_2).toNat * 2)) = some (.int .u64 ((rd_T37 x7_1 x10_2).f0)) ∧ w'.cell? ⟨(ad315.add ((x10_2).toNat * 2)).block, (ad315.add ((x10_2).toNat * 2)).off + 1, none⟩ = some (.int .u64 ((rd_T37 x7_1 x10_2).f1)) ∧ w'.cell? (ad315.add (((ji13)).toNat * 2)) = some (.int .u64 ((rd_T37 x7_1 (ji13)).f0)) ∧ w'.cell? ⟨(ad315.add (((ji13)).toNat * 2)).block, (ad315.add (((ji13)).toNat * 2)).off + 1, none⟩ = some (.int .u64 ((rd_T37 x7_1 (ji13)).f1))) ∧ (Kd.V k37 37 w' w.heap.size (fun k_ => (P1_ k_ ∨ w.heap.size ≤ k_) ∧ some k_ ≠ (u9 : Value).ownBlock ∧ k_ ≠ gb308 ∧ k_ ≠ gb309 ∧ k_ ≠ gb311 ∧ k_ ≠ gb312 ∧ k_ ≠ s_) (.slice A1 l1.length c1) l1) ∧ (Kd.V k37 37 w' w.heap.size (fun k_ => (P1_ k_ ∨ w.heap.size ≤ k_) ∧ some k_ ≠ (u9 : Value).ownBlock ∧ k_ ≠ gb308 ∧ k_ ≠ gb309 ∧ k_ ≠ gb311 ∧ k_ ≠ gb312 ∧ k_ ≠ s_) (.slice (some ad315) x7_1.length co21) x7_1) ∧ (Kd.R k37 37 w' w.heap.size (fun k_ => (w.heap.size ≤ k_) ∧ k_ ≠ gb308 ∧ k_ ≠ gb309 ∧ k_ ≠ gb311 ∧ k_ ≠ gb312 ∧ k_ ≠ s_) u9 x9_2) ∧ (w'.heap[gb308]? = some (.cells #[.int .u64 a2_0, .int .u64 a2_1] 37 (0, 0))) ∧ (w'.heap[gb309]? = some (.cells #[.int .u64 0, .int .u64 0] 37 (0, 0))) ∧ (w'.heap[gb311]? = some (.cells #[.int .u64 0, .int .u64 (IntKind.u64.wrap (x10_2))] 37 (0, 0))) ∧ (w'.heap[gb312]? = some (.cells #[.int .u64 0, .int .u64 (IntKind.u64.wrap (wrap64 (x10_2 + x8_1)))] 37 (0, 0))) ∧ (w'.heap[s_]? = some (.cells #[.int .u64 0, .int .u64 0] 37 (0, 0))) ∧ (w.heap.size ≤ s_) ∧ (w.heap.size ≤ s_) ∧ (gb308 ≠ s_) ∧ (s_ ≠ gb308) ∧ (gb309 ≠ s_) ∧ (s_ ≠ gb309) ∧ (gb311 ≠ s_) ∧ (s_ ≠ gb311) ∧ (gb312 ≠ s_) ∧ (s_ ≠ gb312) ∧ (Below w.heap.size w w')) ?_ ?_
                 rotate_left
                 ·intro hJ2_7_18
                  refine join_ (σ := Unit) 5 #[true, true, true, true, true, true, true, true, true, true, false, true, true, true, true, true, false, false, false, false] (fun s_ => [(38, .agg #[.int .u64 t313, .int .u64 t314]), (43, .agg #[.int .u64 t316, .int .u64 t317])]) (fun s_ w' => (w'.cell? ⟨gb308, 0, none⟩ = some (.int .u64 a2_0) ∧ w'.cell? ⟨gb308, 1, none⟩ = some (.int .u64 a2_1) ∧ w'.cell? ⟨gb312, 0, none⟩ = some (.int .u64 0) ∧ w'.cell? ⟨gb312, 1, none⟩ = some (.int .u64 (IntKind.u64.wrap (wrap64 (x10_2 + x8_1)))) ∧ w'.cell? ⟨gb311, 0, none⟩ = some (.int .u64 0) ∧ w'.cell? ⟨gb311, 1, none⟩ = some (.int .u64 (IntKind.u64.wrap (x10_2))) ∧ w'.cell? (ad315.add ((x10_2).toNat * 2)) = some (.int .u64 ((rd_T37 x7_1 x10_2).f0)) ∧ w'.cell? ⟨(ad315.add ((x10_2).toNat * 2)).block, (ad315.add ((x10_2).toNat * 2)).off + 1, none⟩ = some (.int .u64 ((rd_T37 x7_1 x10_2).f1)) ∧ w'.cell? (ad315.add (((ji13)).toNat * 2)) = some (.int .u64 ((rd_T37 x7_1 (ji13)).f0)) ∧ w'.cell? ⟨(ad315.add (((ji13)).toNat * 2)).block, (ad315.add (((ji13)).toNat * 2)).off + 1, none⟩ = some (.int .u64 ((rd_T37 x7_1 (ji13)).f1))) ∧ (Kd.V k37 37 w' w.heap.size (fun k_ => (P1_ k_ ∨ w.heap.size ≤ k_) ∧ some k_ ≠ (u9 : Value).ownBlock ∧ k_ ≠ gb308 ∧ k_ ≠ gb309 ∧ k_ ≠ gb311 ∧ k_ ≠ gb312) (.slice A1 l1.length c1) l1) ∧ (Kd.V k37 37 w' w.heap.size (fun k_ => (P1_ k_ ∨ w.heap.size ≤ k_) ∧ some k_ ≠ (u9 : Value).ownBlock ∧ k_ ≠ gb308 ∧ k_ ≠ gb309 ∧ k_ ≠ gb311 ∧ k_ ≠ gb312) (.slice (some ad315) x7_1.length co21) x7_1) ∧ (Kd.R k37 37 w' w.heap.size (fun k_ => (w.heap.size ≤ k_) ∧ k_ ≠ gb308 ∧ k_ ≠ gb309 ∧ k_ ≠ gb311 ∧ k_ ≠ gb312) u9 x9_2) ∧ (w'.heap[gb308]? = some (.cells #[.int .u64 a2_0, .int .u64 a2_1] 37 (0, 0))) ∧ (w'.heap[gb309]? = some (.cells #[.int .u64 0, .int .u64 0] 37 (0, 0))) ∧ (w'.heap[gb311]? = some (.cells #[.int .u64 0, .int .u64 (IntKind.u64.wrap (x10_2))] 37 (0, 0))) ∧ (w'.heap[gb312]? = some (.cells #[.int .u64 0, .int .u64 (IntKind.u64.wrap (wrap64 (x10_2 + x8_1)))] 37 (0, 0))) ∧ (Below w.heap.size w w')) ?_ ?_
                  rotate_left
                  ·intro hJ2_7
                   refine join_ (σ := Nat) 5 #[true, true, true, true, true, true, true, false, true, true, false, true, true, true, true, true, false, false, true, false] (fun s_ => [(38, .agg #[.int .u64 t313, .int .u64 t314]), (13, .pointer (some ⟨s_, 0, none⟩))]) (fun s_ w' => (w'.cell? ⟨gb308, 0, none⟩ = some (.int .u64 a2_0) ∧ w'.cell? ⟨gb308, 1, none⟩ = some (.int .u64 a2_1) ∧ w'.cell? ⟨gb312, 0, none⟩ = some (.int .u64 0) ∧ w'.cell? ⟨gb312, 1, none⟩ = some (.int .u64 (IntKind.u64.wrap (wrap64 (x10_2 + x8_1)))) ∧ w'.cell? ⟨gb311, 0, none⟩ = some (.int .u64 0) ∧ w'.cell? ⟨gb311, 1, none⟩ = some (.int .u64 (IntKind.u64.wrap (x10_2))) ∧ w'.cell? (ad315.add ((x10_2).toNat * 2)) = some (.int .u64 ((rd_T37 x7_1 x10_2).f0)) ∧ w'.cell? ⟨(ad315.add ((x10_2).toNat * 2)).block, (ad315.add ((x10_2).toNat * 2)).off + 1, none⟩ = some (.int .u64 ((rd_T37 x7_1 x10_2).f1)) ∧ w'.cell? (ad315.add (((ji13)).toNat * 2)) = some (.int .u64 ((rd_T37 x7_1 (ji13)).f0)) ∧ w'.cell? ⟨(ad315.add (((ji13)).toNat * 2)).block, (ad315.add (((ji13)).toNat * 2)).off + 1, none⟩ = some (.int .u64 ((rd_T37 x7_1 (ji13)).f1))) ∧ (Kd.V k37 37 w' w.heap.size (fun k_ => (P1_ k_ ∨ w.heap.size ≤ k_) ∧ some k_ ≠ (u9 : Value).ownBlock ∧ k_ ≠ gb308 ∧ k_ ≠ gb309 ∧ k_ ≠ gb311 ∧ k_ ≠ gb312 ∧ k_ ≠ s_) (.slice A1 l1.length c1) l1) ∧ (Kd.V k37 37 w' w.heap.size (fun k_ => (P1_ k_ ∨ w.heap.size ≤ k_) ∧ some k_ ≠ (u9 : Value).ownBlock ∧ k_ ≠ gb308 ∧ k_ ≠ gb309 ∧ k_ ≠ gb311 ∧ k_ ≠ gb312 ∧ k_ ≠ s_) (.slice (some ad315) x7_1.length co21) x7_1) ∧ (Kd.R k37 37 w' w.heap.size (fun k_ => (w.heap.size ≤ k_) ∧ k_ ≠ gb308 ∧ k_ ≠ gb309 ∧ k_ ≠ gb311 ∧ k_ ≠ gb312 ∧ k_ ≠ s_) u9 x9_2) ∧ (w'.heap[gb308]? = some (.cells #[.int .u64 a2_0, .int .u64 a2_1] 37 (0, 0))) ∧ (w'.heap[gb309]? = some (.cells #[.int .u64 0, .int .u64 0] 37 (0, 0))) ∧ (w'.heap[gb311]? = some (.cells #[.int .u64 0, .int .u64 (IntKind.u64.wrap (x10_2))] 37 (0, 0))) ∧ (w'.heap[gb312]? = some (.cells #[.int .u64 0, .int .u64 (IntKind.u64.wrap (wrap64 (x10_2 + x8_1)))] 37 (0, 0))) ∧ (w'.heap[s_]? = some (.cells #[.int .u64 0, .int .u64 0] 37 (0, 0))) ∧ (w.heap.size ≤ s_) ∧ (w.heap.size ≤ s_) ∧ (gb308 ≠ s_) ∧ (s_ ≠ gb308) ∧ (gb309 ≠ s_) ∧ (s_ ≠ gb309) ∧ (gb311 ≠ s_) ∧ (s_ ≠ gb311) ∧ (gb312 ≠ s_) ∧ (s_ ≠ gb312) ∧ (Below w.heap.size w w')) ?_ ?_
                   rotate_left
                   ·intro hJ2_18
                    refine join_ (σ := Unit) 6 #[true, true, true, true, true, true, true, false, true, true, false, true, true, true, true, true, false, false, false, false] (fun s_ => [(38, .agg #[.int .u64 t313, .int .u64 t314])]) (fun s_ w' => (w'.cell? ⟨gb308, 0, none⟩ = some (.int .u64 a2_0) ∧ w'.cell? ⟨gb308, 1, none⟩ = some (.int .u64 a2_1) ∧ w'.cell? ⟨gb312, 0, none⟩ = some (.int .u64 0) ∧ w'.cell? ⟨gb312, 1, none⟩ = some (.int .u64 (IntKind.u64.wrap (wrap64 (x10_2 + x8_1)))) ∧ w'.cell? ⟨gb311, 0, none⟩ = some (.int .u64 0) ∧ w'.cell? ⟨gb311, 1, none⟩ = some (.int .u64 (IntKind.u64.wrap (x10_2))) ∧ w'.cell? (ad315.add ((x10_2).toNat * 2)) = some (.int .u64 ((rd_T37 x7_1 x10_2).f0)) ∧ w'.cell? ⟨(ad315.add ((x10_2).toNat * 2)).block, (ad315.add ((x10_2).toNat * 2)).off + 1, none⟩ = some (.int .u64 ((rd_T37 x7_1 x10_2).f1)) ∧ w'.cell? (ad315.add (((ji13)).toNat * 2)) = some (.int .u64 ((rd_T37 x7_1 (ji13)).f0)) ∧ w'.cell? ⟨(ad315.add (((ji13)).toNat * 2)).block, (ad315.add (((ji13)).toNat * 2)).off + 1, none⟩ = some (.int .u64 ((rd_T37 x7_1 (ji13)).f1))) ∧ (Kd.V k37 37 w' w.heap.size (fun k_ => (P1_ k_ ∨ w.heap.size ≤ k_) ∧ some k_ ≠ (u9 : Value).ownBlock ∧ k_ ≠ gb308 ∧ k_ ≠ gb309 ∧ k_ ≠ gb311 ∧ k_ ≠ gb312) (.slice A1 l1.length c1) l1) ∧ (Kd.V k37 37 w' w.heap.size (fun k_ => (P1_ k_ ∨ w.heap.size ≤ k_) ∧ some k_ ≠ (u9 : Value).ownBlock ∧ k_ ≠ gb308 ∧ k_ ≠ gb309 ∧ k_ ≠ gb311 ∧ k_ ≠ gb312) (.slice (some ad315) x7_1.length co21) x7_1) ∧ (Kd.R k37 37 w' w.heap.size (fun k_ => (w.heap.size ≤ k_) ∧ k_ ≠ gb308 ∧ k_ ≠ gb309 ∧ k_ ≠ gb311 ∧ k_ ≠ gb312) u9 x9_2) ∧ (w'.heap[gb308]? = some (.cells #[.int .u64 a2_0, .int .u64 a2_1] 37 (0, 0))) ∧ (w'.heap[gb309]? = some (.cells #[.int .u64 0, .int .u64 0] 37 (0, 0))) ∧ (w'.heap[gb311]? = some (.cells #[.int .u64 0, .int .u64 (IntKind.u64.wrap (x10_2))] 37 (0, 0))) ∧ (w'.heap[gb312]? = some (.cells #[.int .u64 0, .int .u64 (IntKind.u64.wrap (wrap64 (x10_2 + x8_1)))] 37 (0, 0))) ∧ (Below w.heap.size w w')) ?_ ?_
                    rotate_left
                    ·intro hJ2
                     refine join_ (σ := Nat) 6 #[true, true, false, true, true, true, true, false, true, true, false, true, true, true, true, true, false, false, true, false] (fun s_ => [(13, .pointer (some ⟨s_, 0, none⟩))]) (fun s_ w' => (w'.cell? ⟨gb308, 0, none⟩ = some (.int .u64 a2_0) ∧ w'.cell? ⟨gb308, 1, none⟩ = some (.int .u64 a2_1) ∧ w'.cell? ⟨gb312, 0, none⟩ = some (.int .u64 0) ∧ w'.cell? ⟨gb312, 1, none⟩ = some (.int .u64 (IntKind.u64.wrap (wrap64 (x10_2 + x8_1)))) ∧ w'.cell? ⟨gb311, 0, none⟩ = some (.int .u64 0) ∧ w'.cell? ⟨gb311, 1, none⟩ = some (.int .u64 (IntKind.u64.wrap (x10_2))) ∧ w'.cell? (ad315.add ((x10_2).toNat * 2)) = some (.int .u64 ((rd_T37 x7_1 x10_2).f0)) ∧ w'.cell? ⟨(ad315.add ((x10_2).toNat * 2)).block, (ad315.add ((x10_2).toNat * 2)).off + 1, none⟩ = some (.int .u64 ((rd_T37 x7_1 x10_2).f1)) ∧ w'.cell? (ad315.add (((ji13)).toNat * 2)) = some (.int .u64 ((rd_T37 x7_1 (ji13)).f0)) ∧ w'.cell? ⟨(ad315.add (((ji13)).toNat * 2)).block, (ad315.add (((ji13)).toNat * 2)).off + 1, none⟩ = some (.int .u64 ((rd_T37 x7_1 (ji13)).f1))) ∧ (Kd.V k37 37 w' w.heap.size (fun k_ => (P1_ k_ ∨ w.heap.size ≤ k_) ∧ some k_ ≠ (u9 : Value).ownBlock ∧ k_ ≠ gb308 ∧ k_ ≠ gb309 ∧ k_ ≠ gb311 ∧ k_ ≠ gb312 ∧ k_ ≠ s_) (.slice A1 l1.length c1) l1) ∧ (Kd.V k37 37 w' w.heap.size (fun k_ => (P1_ k_ ∨ w.heap.size ≤ k_) ∧ some k_ ≠ (u9 : Value).ownBlock ∧ k_ ≠ gb308 ∧ k_ ≠ gb309 ∧ k_ ≠ gb311 ∧ k_ ≠ gb312 ∧ k_ ≠ s_) (.slice (some ad315) x7_1.length co21) x7_1) ∧ (Kd.R k37 37 w' w.heap.size (fun k_ => (w.heap.size ≤ k_) ∧ k_ ≠ gb308 ∧ k_ ≠ gb309 ∧ k_ ≠ gb311 ∧ k_ ≠ gb312 ∧ k_ ≠ s_) u9 x9_2) ∧ (w'.heap[gb308]? = some (.cells #[.int .u64 a2_0, .int .u64 a2_1] 37 (0, 0))) ∧ (w'.heap[gb309]? = some (.cells #[.int .u64 0, .int .u64 0] 37 (0, 0))) ∧ (w'.heap[gb311]? = some (.cells #[.int .u64 0, .int .u64 (IntKind.u64.wrap (x10_2))] 37 (0, 0))) ∧ (w'.heap[gb312]? = some (.cells #[.int .u64 0, .int .u64 (IntKind.u64.wrap (wrap64 (x10_2 + x8_1)))] 37 (0, 0))) ∧ (w'.heap[s_]? = some (.cells #[.int .u64 0, .int .u64 0] 37 (0, 0))) ∧ (w.heap.size ≤ s_) ∧ (w.heap.size ≤ s_) ∧ (gb308 ≠ s_) ∧ (s_ ≠ gb308) ∧ (gb309 ≠ s_) ∧ (s_ ≠ gb309) ∧ (gb311 ≠ s_) ∧ (s_ ≠ gb311) ∧ (gb312 ≠ s_) ∧ (s_ ≠ gb312) ∧ (Below w.heap.size w w')) ?_ ?_
                     rotate_left
                     ·intro hJ18
                      refine two_ (i := 2) (j := 18) (Ni := some 38) (Nj := some 13) #[true, true, true, true, true, true, true, false, true, true, false, true, true, true, true, true, false, false, false, false] #[true, true, false, true, true, true, true, false, true, true, false, true, true, true, true, true, false, false, true, false] rfl rfl rfl rfl (two_of HT_.out (by kernel_rfl)) (by decide) (by decide) (fun K hK => ?_) (fun K hK => ?_)
                      ·skip
                       refine goes_ Try.func14 (by kernel_rfl) rfl #[.agg #[.int .u64 a2_0, .int .u64 a2_1], .agg #[.int .u64 0, .int .u64 (IntKind.u64.wrap (wrap64 (x10_2 + x8_1)))]] (by rfl) rfl rfl (by (try simp only [List.map_toArray, List.map_cons, List.map_nil]); first | done | rfl | (simp only [List.length_drop, List.length_take]; rfl)) ?_
                       with_reducible refine (steepleref02_Add.calls a2_0 a2_1 0 (IntKind.u64.wrap (wrap64 (x10_2 + x8_1))) t313 t314 _ A8.out).mono ?_
                       rintro e w33 ⟨rfl, hb⟩
                       have HS6_ := (hb.cell (World.block_lt_of_cell? _ _ (hHeld.2.2.2.2.2.2.1))).trans (hHeld.2.2.2.2.2.2.1)
                       have HS7_ := (hb.cell (World.block_lt_of_cell? _ _ (hHeld.2.2.2.2.2.2.2.1))).trans (hHeld.2.2.2.2.2.2.2.1)
                       have HS8_ := (hb.cell (World.block_lt_of_cell? _ _ (hHeld.2.2.2.2.2.2.2.2.1))).trans (hHeld.2.2.2.2.2.2.2.2.1)
                       have HS9_ := (hb.cell (World.block_lt_of_cell? _ _ (hHeld.2.2.2.2.2.2.2.2.2))).trans (hHeld.2.2.2.2.2.2.2.2.2)
                       refine ⟨_, rfl, ?_⟩
                       replace HO_1 := Aside0.mk (Kd.V_below (by (with_reducible repeat (first | apply Kd.V_alloc | apply Kd.V_drewN | apply Kd.V_drew)); exact HO_1.out) hb)
                       replace HO_7 := Aside0.mk (Kd.V_below (by (with_reducible repeat (first | apply Kd.V_alloc | apply Kd.V_drewN | apply Kd.V_drew)); exact HO_7.out) hb)
                       replace HO_9 := kb HO_9 hb
                       replace BK308 := bb BK308 hb
                       replace BK309 := bb BK309 hb
                       replace BK311 := bb BK311 hb
                       replace BK312 := bb BK312 hb
                       replace HB := bh HB hb
                       (try clear hb)
                       (try clear hb2)
                       (try clear hk)
                       (try clear hi)
                       refine hK.out _ _ ⟨(blk_cell BK308.out 0).trans rfl, (blk_cell BK308.out 1).trans rfl, (blk_cell BK312.out 0).trans rfl, (blk_cell BK312.out 1).trans rfl, (blk_cell BK311.out 0).trans rfl, (blk_cell BK311.out 1).trans rfl, HS6_, HS7_, HS8_, HS9_⟩ (fun hHeld => ?_)
                       clear hK K
                       refine norm_ (a' := ?_) ?_ ?_
                       rotate_left
                       ·show Act.put _ (some 38) _ = _
                        simp only [Act.put, List.setIfInBounds_toArray, List.set_cons_zero, List.set_cons_succ, i64_w, i32_w]
                        rfl
                       exact norm_ (by first | (simp only [putAll, Act.put, List.setIfInBounds_toArray, List.set_cons_zero, List.set_cons_succ]; done) | (simp only [putAll, Act.put, List.setIfInBounds_toArray, List.set_cons_zero, List.set_cons_succ]; rfl)) (hJ2 () _ ⟨hHeld, (by (with_reducible repeat (first | apply Kd.V_alloc | apply Kd.V_drewN | apply Kd.V_drew)); exact HO_1.out), (by (with_reducible repeat (first | apply Kd.V_alloc | apply Kd.V_drewN | apply Kd.V_drew)); exact HO_7.out), (kr HO_9.out), (bk BK308.out), (bk BK309.out), (bk BK311.out), (bk BK312.out), (bq HB.out)⟩)
                      ·skip
                       refine box_step ?hg (N := 13) ?hd (cs := #[.int .u64 0, .int .u64 0]) (t := 37) ?hr ?_; (case hd => rfl); (case hg => rfl); (case hr => first | (go_simp; done) | (go_simp; rfl))
                       intro gb325 hg w33 hbox hb
                       have HS6_ := (hb.cell (World.block_lt_of_cell? _ _ (hHeld.2.2.2.2.2.2.1))).trans (hHeld.2.2.2.2.2.2.1)
                       have HS7_ := (hb.cell (World.block_lt_of_cell? _ _ (hHeld.2.2.2.2.2.2.2.1))).trans (hHeld.2.2.2.2.2.2.2.1)
                       have HS8_ := (hb.cell (World.block_lt_of_cell? _ _ (hHeld.2.2.2.2.2.2.2.2.1))).trans (hHeld.2.2.2.2.2.2.2.2.1)
                       have HS9_ := (hb.cell (World.block_lt_of_cell? _ _ (hHeld.2.2.2.2.2.2.2.2.2))).trans (hHeld.2.2.2.2.2.2.2.2.2)
                       have BK325 := Aside0.mk hbox
                       have GW325 := ge hg HB
                       have GE325 := ge hg HB
                       have NB308_325 := nl hg BK308
                       have NB325_308 := ng hg BK308
                       have NB309_325 := nl hg BK309
                       have NB325_309 := ng hg BK309
                       have NB311_325 := nl hg BK311
                       have NB325_311 := ng hg BK311
                       have NB312_325 := nl hg BK312
                       have NB325_312 := ng hg BK312
                       replace HO_1 := Aside0.mk (Kd.V_below (Kd.V_elderB (by (with_reducible repeat (first | apply Kd.V_alloc | apply Kd.V_drewN | apply Kd.V_drew)); exact HO_1.out) gb325 (Nat.le_of_eq hg.symm)) hb)
                       replace HO_7 := Aside0.mk (Kd.V_below (Kd.V_elderB (by (with_reducible repeat (first | apply Kd.V_alloc | apply Kd.V_drewN | apply Kd.V_drew)); exact HO_7.out) gb325 (Nat.le_of_eq hg.symm)) hb)
                       replace HO_9 := Aside0.mk (Kd.R_below (Kd.R_elderB (kr HO_9.out) gb325 (Nat.le_of_eq hg.symm)) hb)
                       replace BK308 := bb BK308 hb
                       replace BK309 := bb BK309 hb
                       replace BK311 := bb BK311 hb
                       replace BK312 := bb BK312 hb
                       replace HB := bh HB hb
                       clear hb hbox hg
                       refine hK.out _ _ ⟨(blk_cell BK308.out 0).trans rfl, (blk_cell BK308.out 1).trans rfl, (blk_cell BK312.out 0).trans rfl, (blk_cell BK312.out 1).trans rfl, (blk_cell BK311.out 0).trans rfl, (blk_cell BK311.out 1).trans rfl, HS6_, HS7_, HS8_, HS9_⟩ (fun hHeld => ?_)
                       clear hK K
                       refine norm_ (a' := ?_) ?_ ?_
                       rotate_left
                       ·show Act.put _ (some 13) _ = _
                        simp only [Act.put, List.setIfInBounds_toArray, List.set_cons_zero, List.set_cons_succ, i64_w, i32_w]
                        rfl
                       exact norm_ (by first | (simp only [putAll, Act.put, List.setIfInBounds_toArray, List.set_cons_zero, List.set_cons_succ]; done) | (simp only [putAll, Act.put, List.setIfInBounds_toArray, List.set_cons_zero, List.set_cons_succ]; rfl)) (hJ18 (gb325) _ ⟨hHeld, (by (with_reducible repeat (first | apply Kd.V_alloc | apply Kd.V_drewN | apply Kd.V_drew)); exact Kd.V_mono HO_1.out (fun _ hk => ⟨hk.1.1, ⟨hk.1.2.1, ⟨hk.1.2.2.1, ⟨hk.1.2.2.2.1, ⟨hk.1.2.2.2.2.1, ⟨hk.1.2.2.2.2.2, hk.2⟩⟩⟩⟩⟩⟩)), (by (with_reducible repeat (first | apply Kd.V_alloc | apply Kd.V_drewN | apply Kd.V_drew)); exact Kd.V_mono HO_7.out (fun _ hk => ⟨hk.1.1, ⟨hk.1.2.1, ⟨hk.1.2.2.1, ⟨hk.1.2.2.2.1, ⟨hk.1.2.2.2.2.1, ⟨hk.1.2.2.2.2.2, hk.2⟩⟩⟩⟩⟩⟩)), (by (with_reducible repeat refine kl ?_); exact Kd.R_mono HO_9.out (fun _ hk => ⟨hk.1.1, ⟨hk.1.2.1, ⟨hk.1.2.2.1, ⟨hk.1.2.2.2.1, ⟨hk.1.2.2.2.2, hk.2⟩⟩⟩⟩⟩)), (bk BK308.out), (bk BK309.out), (bk BK311.out), (bk BK312.out), (bk BK325.out), GW325.out, GE325.out, NB308_325.out, NB325_308.out, NB309_325.out, NB325_309.out, NB311_325.out, NB325_311.out, NB312_325.out, NB325_312.out, (bq HB.out)⟩)
                     ·skip
                      rintro gb325 w34 ⟨hS_, h0_, h1_, h2_, h3_, h4_, h5_, h6_, h7_, h8_, h9_, h10_, h11_, h12_, h13_, h14_, h15_, h16_, h17_, h18_⟩
                      have n0_ : Aside0 (Kd.V k37 37 w34 w.heap.size (fun k_ => (P1_ k_ ∨ w.heap.size ≤ k_) ∧ some k_ ≠ (u9 : Value).ownBlock ∧ k_ ≠ gb308 ∧ k_ ≠ gb309 ∧ k_ ≠ gb311 ∧ k_ ≠ gb312 ∧ k_ ≠ gb325) (.slice A1 l1.length c1) l1) := ⟨h0_⟩
                      have n1_ : Aside0 (Kd.V k37 37 w34 w.heap.size (fun k_ => (P1_ k_ ∨ w.heap.size ≤ k_) ∧ some k_ ≠ (u9 : Value).ownBlock ∧ k_ ≠ gb308 ∧ k_ ≠ gb309 ∧ k_ ≠ gb311 ∧ k_ ≠ gb312 ∧ k_ ≠ gb325) (.slice (some ad315) x7_1.length co21) x7_1) := ⟨h1_⟩
                      have n2_ : Aside0 (Kd.R k37 37 w34 w.heap.size (fun k_ => (w.heap.size ≤ k_) ∧ k_ ≠ gb308 ∧ k_ ≠ gb309 ∧ k_ ≠ gb311 ∧ k_ ≠ gb312 ∧ k_ ≠ gb325) u9 x9_2) := ⟨h2_⟩
                      have n3_ : Aside0 (w34.heap[gb308]? = some (.cells #[.int .u64 a2_0, .int .u64 a2_1] 37 (0, 0))) := ⟨h3_⟩
                      have n4_ : Aside0 (w34.heap[gb309]? = some (.cells #[.int .u64 0, .int .u64 0] 37 (0, 0))) := ⟨h4_⟩
                      have n5_ : Aside0 (w34.heap[gb311]? = some (.cells #[.int .u64 0, .int .u64 (IntKind.u64.wrap (x10_2))] 37 (0, 0))) := ⟨h5_⟩
                      have n6_ : Aside0 (w34.heap[gb312]? = some (.cells #[.int .u64 0, .int .u64 (IntKind.u64.wrap (wrap64 (x10_2 + x8_1)))] 37 (0, 0))) := ⟨h6_⟩
                      have n7_ : Aside0 (w34.heap[gb325]? = some (.cells #[.int .u64 0, .int .u64 0] 37 (0, 0))) := ⟨h7_⟩
                      have n8_ : Aside0 (w.heap.size ≤ gb325) := ⟨h8_⟩
                      have n9_ : Aside0 (w.heap.size ≤ gb325) := ⟨h9_⟩
                      have n10_ : Aside0 (gb308 ≠ gb325) := ⟨h10_⟩
                      have n11_ : Aside0 (gb325 ≠ gb308) := ⟨h11_⟩
                      have n12_ : Aside0 (gb309 ≠ gb325) := ⟨h12_⟩
                      have n13_ : Aside0 (gb325 ≠ gb309) := ⟨h13_⟩
                      have n14_ : Aside0 (gb311 ≠ gb325) := ⟨h14_⟩
                      have n15_ : Aside0 (gb325 ≠ gb311) := ⟨h15_⟩
                      have n16_ : Aside0 (gb312 ≠ gb325) := ⟨h16_⟩
                      have n17_ : Aside0 (gb325 ≠ gb312) := ⟨h17_⟩
                      have n18_ : Aside0 (Below w.heap.size w w34) := ⟨h18_⟩
                      clear HO_1
                      clear HO_7
                      clear HO_9
                      clear BK308
                      clear BK309
                      clear BK311
                      clear BK312
                      clear HB
                      clear h0_ h1_ h2_ h3_ h4_ h5_ h6_ h7_ h8_ h9_ h10_ h11_ h12_ h13_ h14_ h15_ h16_ h17_ h18_
                      have HO_1 := n0_
                      have HO_7 := n1_
                      have HO_9 := n2_
                      have BK308 := n3_
                      have BK309 := n4_
                      have BK311 := n5_
                      have BK312 := n6_
                      have BK325 := n7_
                      have GW325 := Aside1.mk n8_.out
                      have GE325 := Aside1.mk n9_.out
                      have NB308_325 := n10_
                      have NB325_308 := n11_
                      have NB309_325 := n12_
                      have NB325_309 := n13_
                      have NB311_325 := n14_
                      have NB325_311 := n15_
                      have NB312_325 := n16_
                      have NB325_312 := n17_
                      have HB := n18_
                      clear n0_ n1_ n2_ n3_ n4_ n5_ n6_ n7_ n8_ n9_ n10_ n11_ n12_ n13_ n14_ n15_ n16_ n17_ n18_
                      have hHeld : w34.cell? ⟨gb308, 0, none⟩ = some (.int .u64 a2_0) ∧ w34.cell? ⟨gb308, 1, none⟩ = some (.int .u64 a2_1) ∧ w34.cell? ⟨gb312, 0, none⟩ = some (.int .u64 0) ∧ w34.cell? ⟨gb312, 1, none⟩ = some (.int .u64 (IntKind.u64.wrap (wrap64 (x10_2 + x8_1)))) ∧ w34.cell? ⟨gb311, 0, none⟩ = some (.int .u64 0) ∧ w34.cell? ⟨gb311, 1, none⟩ = some (.int .u64 (IntKind.u64.wrap (x10_2))) ∧ w34.cell? (ad315.add ((x10_2).toNat * 2)) = some (.int .u64 ((rd_T37 x7_1 x10_2).f0)) ∧ w34.cell? ⟨(ad315.add ((x10_2).toNat * 2)).block, (ad315.add ((x10_2).toNat * 2)).off + 1, none⟩ = some (.int .u64 ((rd_T37 x7_1 x10_2).f1)) ∧ w34.cell? (ad315.add (((ji13)).toNat * 2)) = some (.int .u64 ((rd_T37 x7_1 (ji13)).f0)) ∧ w34.cell? ⟨(ad315.add (((ji13)).toNat * 2)).block, (ad315.add (((ji13)).toNat * 2)).off + 1, none⟩ = some (.int .u64 ((rd_T37 x7_1 (ji13)).f1)) := hS_
                      refine norm_ (a' := ?_) ?_ ?_
                      rotate_left
                      ·simp only [putAll, Act.put, List.setIfInBounds_toArray, List.set_cons_zero, List.set_cons_succ]
                       rfl
                      refine one_ (i := 2) (N := some 38) #[true, true, true, true, true, true, true, false, true, true, false, true, true, true, true, true, false, false, true, false] rfl rfl (one_of HT_.out (by kernel_rfl)) (by decide) (fun K hK => ?_)
                      refine goes_ Try.func14 (by kernel_rfl) rfl #[.agg #[.int .u64 a2_0, .int .u64 a2_1], .agg #[.int .u64 0, .int .u64 (IntKind.u64.wrap (wrap64 (x10_2 + x8_1)))]] (by rfl) rfl rfl (by (try simp only [List.map_toArray, List.map_cons, List.map_nil]); first | done | rfl | (simp only [List.length_drop, List.length_take]; rfl)) ?_
                      with_reducible refine (steepleref02_Add.calls a2_0 a2_1 0 (IntKind.u64.wrap (wrap64 (x10_2 + x8_1))) t313 t314 _ A8.out).mono ?_
                      rintro e w35 ⟨rfl, hb⟩
                      have HS6_ := (hb.cell (World.block_lt_of_cell? _ _ (hHeld.2.2.2.2.2.2.1))).trans (hHeld.2.2.2.2.2.2.1)
                      have HS7_ := (hb.cell (World.block_lt_of_cell? _ _ (hHeld.2.2.2.2.2.2.2.1))).trans (hHeld.2.2.2.2.2.2.2.1)
                      have HS8_ := (hb.cell (World.block_lt_of_cell? _ _ (hHeld.2.2.2.2.2.2.2.2.1))).trans (hHeld.2.2.2.2.2.2.2.2.1)
                      have HS9_ := (hb.cell (World.block_lt_of_cell? _ _ (hHeld.2.2.2.2.2.2.2.2.2))).trans (hHeld.2.2.2.2.2.2.2.2.2)
                      refine ⟨_, rfl, ?_⟩
                      replace HO_1 := Aside0.mk (Kd.V_below (by (with_reducible repeat (first | apply Kd.V_alloc | apply Kd.V_drewN | apply Kd.V_drew)); exact HO_1.out) hb)
                      replace HO_7 := Aside0.mk (Kd.V_below (by (with_reducible repeat (first | apply Kd.V_alloc | apply Kd.V_drewN | apply Kd.V_drew)); exact HO_7.out) hb)
                      replace HO_9 := kb HO_9 hb
                      replace BK308 := bb BK308 hb
                      replace BK309 := bb BK309 hb
                      replace BK311 := bb BK311 hb
                      replace BK312 := bb BK312 hb
                      replace BK325 := bb BK325 hb
                      replace HB := bh HB hb
                      (try clear hb)
                      (try clear hb2)
                      (try clear hk)
                      (try clear hi)
                      refine hK.out _ _ ⟨(blk_cell BK308.out 0).trans rfl, (blk_cell BK308.out 1).trans rfl, (blk_cell BK312.out 0).trans rfl, (blk_cell BK312.out 1).trans rfl, (blk_cell BK311.out 0).trans rfl, (blk_cell BK311.out 1).trans rfl, HS6_, HS7_, HS8_, HS9_⟩ (fun hHeld => ?_)
                      clear hK K
                      refine norm_ (a' := ?_) ?_ ?_
                      rotate_left
                      ·show Act.put _ (some 38) _ = _
                       simp only [Act.put, List.setIfInBounds_toArray, List.set_cons_zero, List.set_cons_succ, i64_w, i32_w]
                       rfl
                      exact norm_ (by first | (simp only [putAll, Act.put, List.setIfInBounds_toArray, List.set_cons_zero, List.set_cons_succ]; done) | (simp only [putAll, Act.put, List.setIfInBounds_toArray, List.set_cons_zero, List.set_cons_succ]; rfl)) (hJ2_18 (gb325) _ ⟨hHeld, (by (with_reducible repeat (first | apply Kd.V_alloc | apply Kd.V_drewN | apply Kd.V_drew)); exact HO_1.out), (by (with_reducible repeat (first | apply Kd.V_alloc | apply Kd.V_drewN | apply Kd.V_drew)); exact HO_7.out), (kr HO_9.out), (bk BK308.out), (bk BK309.out), (bk BK311.out), (bk BK312.out), (bk BK325.out), GW325.out, GE325.out, NB308_325.out, NB325_308.out, NB309_325.out, NB325_309.out, NB311_325.out, NB325_311.out, NB312_325.out, NB325_312.out, (bq HB.out)⟩)
                    ·skip
                     rintro _ w34 ⟨hS_, h0_, h1_, h2_, h3_, h4_, h5_, h6_, h7_⟩
                     have n0_ : Aside0 (Kd.V k37 37 w34 w.heap.size (fun k_ => (P1_ k_ ∨ w.heap.size ≤ k_) ∧ some k_ ≠ (u9 : Value).ownBlock ∧ k_ ≠ gb308 ∧ k_ ≠ gb309 ∧ k_ ≠ gb311 ∧ k_ ≠ gb312) (.slice A1 l1.length c1) l1) := ⟨h0_⟩
                     have n1_ : Aside0 (Kd.V k37 37 w34 w.heap.size (fun k_ => (P1_ k_ ∨ w.heap.size ≤ k_) ∧ some k_ ≠ (u9 : Value).ownBlock ∧ k_ ≠ gb308 ∧ k_ ≠ gb309 ∧ k_ ≠ gb311 ∧ k_ ≠ gb312) (.slice (some ad315) x7_1.length co21) x7_1) := ⟨h1_⟩
                     have n2_ : Aside0 (Kd.R k37 37 w34 w.heap.size (fun k_ => (w.heap.size ≤ k_) ∧ k_ ≠ gb308 ∧ k_ ≠ gb309 ∧ k_ ≠ gb311 ∧ k_ ≠ gb312) u9 x9_2) := ⟨h2_⟩
                     have n3_ : Aside0 (w34.heap[gb308]? = some (.cells #[.int .u64 a2_0, .int .u64 a2_1] 37 (0, 0))) := ⟨h3_⟩
                     have n4_ : Aside0 (w34.heap[gb309]? = some (.cells #[.int .u64 0, .int .u64 0] 37 (0, 0))) := ⟨h4_⟩
                     have n5_ : Aside0 (w34.heap[gb311]? = some (.cells #[.int .u64 0, .int .u64 (IntKind.u64.wrap (x10_2))] 37 (0, 0))) := ⟨h5_⟩
                     have n6_ : Aside0 (w34.heap[gb312]? = some (.cells #[.int .u64 0, .int .u64 (IntKind.u64.wrap (wrap64 (x10_2 + x8_1)))] 37 (0, 0))) := ⟨h6_⟩
                     have n7_ : Aside0 (Below w.heap.size w w34) := ⟨h7_⟩
                     clear HO_1
                     clear HO_7
                     clear HO_9
                     clear BK308
                     clear BK309
                     clear BK311
                     clear BK312
                     clear HB
                     clear h0_ h1_ h2_ h3_ h4_ h5_ h6_ h7_
                     have HO_1 := n0_
                     have HO_7 := n1_
                     have HO_9 := n2_
                     have BK308 := n3_
                     have BK309 := n4_
                     have BK311 := n5_
                     have BK312 := n6_
                     have HB := n7_
                     clear n0_ n1_ n2_ n3_ n4_ n5_ n6_ n7_
                     have hHeld : w34.cell? ⟨gb308, 0, none⟩ = some (.int .u64 a2_0) ∧ w34.cell? ⟨gb308, 1, none⟩ = some (.int .u64 a2_1) ∧ w34.cell? ⟨gb312, 0, none⟩ = some (.int .u64 0) ∧ w34.cell? ⟨gb312, 1, none⟩ = some (.int .u64 (IntKind.u64.wrap (wrap64 (x10_2 + x8_1)))) ∧ w34.cell? ⟨gb311, 0, none⟩ = some (.int .u64 0) ∧ w34.cell? ⟨gb311, 1, none⟩ = some (.int .u64 (IntKind.u64.wrap (x10_2))) ∧ w34.cell? (ad315.add ((x10_2).toNat * 2)) = some (.int .u64 ((rd_T37 x7_1 x10_2).f0)) ∧ w34.cell? ⟨(ad315.add ((x10_2).toNat * 2)).block, (ad315.add ((x10_2).toNat * 2)).off + 1, none⟩ = some (.int .u64 ((rd_T37 x7_1 x10_2).f1)) ∧ w34.cell? (ad315.add (((ji13)).toNat * 2)) = some (.int .u64 ((rd_T37 x7_1 (ji13)).f0)) ∧ w34.cell? ⟨(ad315.add (((ji13)).toNat * 2)).block, (ad315.add (((ji13)).toNat * 2)).off + 1, none⟩ = some (.int .u64 ((rd_T37 x7_1 (ji13)).f1)) := hS_
                     refine norm_ (a' := ?_) ?_ ?_
                     rotate_left
                     ·simp only [putAll, Act.put, List.setIfInBounds_toArray, List.set_cons_zero, List.set_cons_succ]
                      rfl
                     refine two_ (i := 7) (j := 18) (Ni := some 43) (Nj := some 13) #[true, true, true, true, true, true, true, true, true, true, false, true, true, true, true, true, false, false, false, false] #[true, true, true, true, true, true, true, false, true, true, false, true, true, true, true, true, false, false, true, false] rfl rfl rfl rfl (two_of HT_.out (by kernel_rfl)) (by decide) (by decide) (fun K hK => ?_) (fun K hK => ?_)
                     ·skip
                      refine goes_ Try.func35 (by kernel_rfl) rfl #[.agg #[.int .u64 t313, .int .u64 t314], .agg #[.int .u64 ((rd_T37 x7_1 x10_2).f0), .int .u64 ((rd_T37 x7_1 x10_2).f1)]] (by rfl) rfl rfl (by (try simp only [List.map_toArray, List.map_cons, List.map_nil]); first | done | rfl | (simp only [List.length_drop, List.length_take]; rfl)) ?_
                      with_reducible refine (steepleref02_Product.calls k2 t313 t314 ((rd_T37 x7_1 x10_2).f0) ((rd_T37 x7_1 x10_2).f1) t316 t317 _ A11.out).mono ?_
                      rintro e w35 ⟨rfl, hb⟩
                      have HS6_ := (hb.cell (World.block_lt_of_cell? _ _ (hHeld.2.2.2.2.2.2.1))).trans (hHeld.2.2.2.2.2.2.1)
                      have HS7_ := (hb.cell (World.block_lt_of_cell? _ _ (hHeld.2.2.2.2.2.2.2.1))).trans (hHeld.2.2.2.2.2.2.2.1)
                      have HS8_ := (hb.cell (World.block_lt_of_cell? _ _ (hHeld.2.2.2.2.2.2.2.2.1))).trans (hHeld.2.2.2.2.2.2.2.2.1)
                      have HS9_ := (hb.cell (World.block_lt_of_cell? _ _ (hHeld.2.2.2.2.2.2.2.2.2))).trans (hHeld.2.2.2.2.2.2.2.2.2)
                      refine ⟨_, rfl, ?_⟩
                      replace HO_1 := Aside0.mk (Kd.V_below (by (with_reducible repeat (first | apply Kd.V_alloc | apply Kd.V_drewN | apply Kd.V_drew)); exact HO_1.out) hb)
                      replace HO_7 := Aside0.mk (Kd.V_below (by (with_reducible repeat (first | apply Kd.V_alloc | apply Kd.V_drewN | apply Kd.V_drew)); exact HO_7.out) hb)
                      replace HO_9 := kb HO_9 hb
                      replace BK308 := bb BK308 hb
                      replace BK309 := bb BK309 hb
                      replace BK311 := bb BK311 hb
                      replace BK312 := bb BK312 hb
                      replace HB := bh HB hb
                      (try clear hb)
                      (try clear hb2)
                      (try clear hk)
                      (try clear hi)
                      refine hK.out _ _ ⟨(blk_cell BK308.out 0).trans rfl, (blk_cell BK308.out 1).trans rfl, (blk_cell BK312.out 0).trans rfl, (blk_cell BK312.out 1).trans rfl, (blk_cell BK311.out 0).trans rfl, (blk_cell BK311.out 1).trans rfl, HS6_, HS7_, HS8_, HS9_⟩ (fun hHeld => ?_)
                      clear hK K
                      refine norm_ (a' := ?_) ?_ ?_
                      rotate_left
                      ·show Act.put _ (some 43) _ = _
                       simp only [Act.put, List.setIfInBounds_toArray, List.set_cons_zero, List.set_cons_succ, i64_w, i32_w]
                       rfl
                      exact norm_ (by first | (simp only [putAll, Act.put, List.setIfInBounds_toArray, List.set_cons_zero, List.set_cons_succ]; done) | (simp only [putAll, Act.put, List.setIfInBounds_toArray, List.set_cons_zero, List.set_cons_succ]; rfl)) (hJ2_7 () _ ⟨hHeld, (by (with_reducible repeat (first | apply Kd.V_alloc | apply Kd.V_drewN | apply Kd.V_drew)); exact HO_1.out), (by (with_reducible repeat (first | apply Kd.V_alloc | apply Kd.V_drewN | apply Kd.V_drew)); exact HO_7.out), (kr HO_9.out), (bk BK308.out), (bk BK309.out), (bk BK311.out), (bk BK312.out), (bq HB.out)⟩)
                     ·skip
                      refine box_step ?hg (N := 13) ?hd (cs := #[.int .u64 0, .int .u64 0]) (t := 37) ?hr ?_; (case hd => rfl); (case hg => rfl); (case hr => first | (go_simp; done) | (go_simp; rfl))
                      intro gb325 hg w35 hbox hb
                      have HS6_ := (hb.cell (World.block_lt_of_cell? _ _ (hHeld.2.2.2.2.2.2.1))).trans (hHeld.2.2.2.2.2.2.1)
                      have HS7_ := (hb.cell (World.block_lt_of_cell? _ _ (hHeld.2.2.2.2.2.2.2.1))).trans (hHeld.2.2.2.2.2.2.2.1)
                      have HS8_ := (hb.cell (World.block_lt_of_cell? _ _ (hHeld.2.2.2.2.2.2.2.2.1))).trans (hHeld.2.2.2.2.2.2.2.2.1)
                      have HS9_ := (hb.cell (World.block_lt_of_cell? _ _ (hHeld.2.2.2.2.2.2.2.2.2))).trans (hHeld.2.2.2.2.2.2.2.2.2)
                      have BK325 := Aside0.mk hbox
                      have GW325 := ge hg HB
                      have GE325 := ge hg HB
                      have NB308_325 := nl hg BK308
                      have NB325_308 := ng hg BK308
                      have NB309_325 := nl hg BK309
                      have NB325_309 := ng hg BK309
                      have NB311_325 := nl hg BK311
                      have NB325_311 := ng hg BK311
                      have NB312_325 := nl hg BK312
                      have NB325_312 := ng hg BK312
                      replace HO_1 := Aside0.mk (Kd.V_below (Kd.V_elderB (by (with_reducible repeat (first | apply Kd.V_alloc | apply Kd.V_drewN | apply Kd.V_drew)); exact HO_1.out) gb325 (Nat.le_of_eq hg.symm)) hb)
                      replace HO_7 := Aside0.mk (Kd.V_below (Kd.V_elderB (by (with_reducible repeat (first | apply Kd.V_alloc | apply Kd.V_drewN | apply Kd.V_drew)); exact HO_7.out) gb325 (Nat.le_of_eq hg.symm)) hb)
                      replace HO_9 := Aside0.mk (Kd.R_below (Kd.R_elderB (kr HO_9.out) gb325 (Nat.le_of_eq hg.symm)) hb)
                      replace BK308 := bb BK308 hb
                      replace BK309 := bb BK309 hb
                      replace BK311 := bb BK311 hb
                      replace BK312 := bb BK312 hb
                      replace HB := bh HB hb
                      clear hb hbox hg
                      refine hK.out _ _ ⟨(blk_cell BK308.out 0).trans rfl, (blk_cell BK308.out 1).trans rfl, (blk_cell BK312.out 0).trans rfl, (blk_cell BK312.out 1).trans rfl, (blk_cell BK311.out 0).trans rfl, (blk_cell BK311.out 1).trans rfl, HS6_, HS7_, HS8_, HS9_⟩ (fun hHeld => ?_)
                      clear hK K
                      refine norm_ (a' := ?_) ?_ ?_
                      rotate_left
                      ·show Act.put _ (some 13) _ = _
                       simp only [Act.put, List.setIfInBounds_toArray, List.set_cons_zero, List.set_cons_succ, i64_w, i32_w]
                       rfl
                      exact norm_ (by first | (simp only [putAll, Act.put, List.setIfInBounds_toArray, List.set_cons_zero, List.set_cons_succ]; done) | (simp only [putAll, Act.put, List.setIfInBounds_toArray, List.set_cons_zero, List.set_cons_succ]; rfl)) (hJ2_18 (gb325) _ ⟨hHeld, (by (with_reducible repeat (first | apply Kd.V_alloc | apply Kd.V_drewN | apply Kd.V_drew)); exact Kd.V_mono HO_1.out (fun _ hk => ⟨hk.1.1, ⟨hk.1.2.1, ⟨hk.1.2.2.1, ⟨hk.1.2.2.2.1, ⟨hk.1.2.2.2.2.1, ⟨hk.1.2.2.2.2.2, hk.2⟩⟩⟩⟩⟩⟩)), (by (with_reducible repeat (first | apply Kd.V_alloc | apply Kd.V_drewN | apply Kd.V_drew)); exact Kd.V_mono HO_7.out (fun _ hk => ⟨hk.1.1, ⟨hk.1.2.1, ⟨hk.1.2.2.1, ⟨hk.1.2.2.2.1, ⟨hk.1.2.2.2.2.1, ⟨hk.1.2.2.2.2.2, hk.2⟩⟩⟩⟩⟩⟩)), (by (with_reducible repeat refine kl ?_); exact Kd.R_mono HO_9.out (fun _ hk => ⟨hk.1.1, ⟨hk.1.2.1, ⟨hk.1.2.2.1, ⟨hk.1.2.2.2.1, ⟨hk.1.2.2.2.2, hk.2⟩⟩⟩⟩⟩)), (bk BK308.out), (bk BK309.out), (bk BK311.out), (bk BK312.out), (bk BK325.out), GW325.out, GE325.out, NB308_325.out, NB325_308.out, NB309_325.out, NB325_309.out, NB311_325.out, NB325_311.out, NB312_325.out, NB325_312.out, (bq HB.out)⟩)
                   ·skip
                    rintro gb325 w35 ⟨hS_, h0_, h1_, h2_, h3_, h4_, h5_, h6_, h7_, h8_, h9_, h10_, h11_, h12_, h13_, h14_, h15_, h16_, h17_, h18_⟩
                    have n0_ : Aside0 (Kd.V k37 37 w35 w.heap.size (fun k_ => (P1_ k_ ∨ w.heap.size ≤ k_) ∧ some k_ ≠ (u9 : Value).ownBlock ∧ k_ ≠ gb308 ∧ k_ ≠ gb309 ∧ k_ ≠ gb311 ∧ k_ ≠ gb312 ∧ k_ ≠ gb325) (.slice A1 l1.length c1) l1) := ⟨h0_⟩
                    have n1_ : Aside0 (Kd.V k37 37 w35 w.heap.size (fun k_ => (P1_ k_ ∨ w.heap.size ≤ k_) ∧ some k_ ≠ (u9 : Value).ownBlock ∧ k_ ≠ gb308 ∧ k_ ≠ gb309 ∧ k_ ≠ gb311 ∧ k_ ≠ gb312 ∧ k_ ≠ gb325) (.slice (some ad315) x7_1.length co21) x7_1) := ⟨h1_⟩
                    have n2_ : Aside0 (Kd.R k37 37 w35 w.heap.size (fun k_ => (w.heap.size ≤ k_) ∧ k_ ≠ gb308 ∧ k_ ≠ gb309 ∧ k_ ≠ gb311 ∧ k_ ≠ gb312 ∧ k_ ≠ gb325) u9 x9_2) := ⟨h2_⟩
                    have n3_ : Aside0 (w35.heap[gb308]? = some (.cells #[.int .u64 a2_0, .int .u64 a2_1] 37 (0, 0))) := ⟨h3_⟩
                    have n4_ : Aside0 (w35.heap[gb309]? = some (.cells #[.int .u64 0, .int .u64 0] 37 (0, 0))) := ⟨h4_⟩
                    have n5_ : Aside0 (w35.heap[gb311]? = some (.cells #[.int .u64 0, .int .u64 (IntKind.u64.wrap (x10_2))] 37 (0, 0))) := ⟨h5_⟩
                    have n6_ : Aside0 (w35.heap[gb312]? = some (.cells #[.int .u64 0, .int .u64 (IntKind.u64.wrap (wrap64 (x10_2 + x8_1)))] 37 (0, 0))) := ⟨h6_⟩
                    have n7_ : Aside0 (w35.heap[gb325]? = some (.cells #[.int .u64 0, .int .u64 0] 37 (0, 0))) := ⟨h7_⟩
                    have n8_ : Aside0 (w.heap.size ≤ gb325) := ⟨h8_⟩
                    have n9_ : Aside0 (w.heap.size ≤ gb325) := ⟨h9_⟩
                    have n10_ : Aside0 (gb308 ≠ gb325) := ⟨h10_⟩
                    have n11_ : Aside0 (gb325 ≠ gb308) := ⟨h11_⟩
                    have n12_ : Aside0 (gb309 ≠ gb325) := ⟨h12_⟩
                    have n13_ : Aside0 (gb325 ≠ gb309) := ⟨h13_⟩
                    have n14_ : Aside0 (gb311 ≠ gb325) := ⟨h14_⟩
                    have n15_ : Aside0 (gb325 ≠ gb311) := ⟨h15_⟩
                    have n16_ : Aside0 (gb312 ≠ gb325) := ⟨h16_⟩
                    have n17_ : Aside0 (gb325 ≠ gb312) := ⟨h17_⟩
                    have n18_ : Aside0 (Below w.heap.size w w35) := ⟨h18_⟩
                    clear HO_1
                    clear HO_7
                    clear HO_9
                    clear BK308
                    clear BK309
                    clear BK311
                    clear BK312
                    clear HB
                    clear h0_ h1_ h2_ h3_ h4_ h5_ h6_ h7_ h8_ h9_ h10_ h11_ h12_ h13_ h14_ h15_ h16_ h17_ h18_
                    have HO_1 := n0_
                    have HO_7 := n1_
                    have HO_9 := n2_
                    have BK308 := n3_
                    have BK309 := n4_
                    have BK311 := n5_
                    have BK312 := n6_
                    have BK325 := n7_
                    have GW325 := Aside1.mk n8_.out
                    have GE325 := Aside1.mk n9_.out
                    have NB308_325 := n10_
                    have NB325_308 := n11_
                    have NB309_325 := n12_
                    have NB325_309 := n13_
                    have NB311_325 := n14_
                    have NB325_311 := n15_
                    have NB312_325 := n16_
                    have NB325_312 := n17_
                    have HB := n18_
                    clear n0_ n1_ n2_ n3_ n4_ n5_ n6_ n7_ n8_ n9_ n10_ n11_ n12_ n13_ n14_ n15_ n16_ n17_ n18_
                    have hHeld : w35.cell? ⟨gb308, 0, none⟩ = some (.int .u64 a2_0) ∧ w35.cell? ⟨gb308, 1, none⟩ = some (.int .u64 a2_1) ∧ w35.cell? ⟨gb312, 0, none⟩ = some (.int .u64 0) ∧ w35.cell? ⟨gb312, 1, none⟩ = some (.int .u64 (IntKind.u64.wrap (wrap64 (x10_2 + x8_1)))) ∧ w35.cell? ⟨gb311, 0, none⟩ = some (.int .u64 0) ∧ w35.cell? ⟨gb311, 1, none⟩ = some (.int .u64 (IntKind.u64.wrap (x10_2))) ∧ w35.cell? (ad315.add ((x10_2).toNat * 2)) = some (.int .u64 ((rd_T37 x7_1 x10_2).f0)) ∧ w35.cell? ⟨(ad315.add ((x10_2).toNat * 2)).block, (ad315.add ((x10_2).toNat * 2)).off + 1, none⟩ = some (.int .u64 ((rd_T37 x7_1 x10_2).f1)) ∧ w35.cell? (ad315.add (((ji13)).toNat * 2)) = some (.int .u64 ((rd_T37 x7_1 (ji13)).f0)) ∧ w35.cell? ⟨(ad315.add (((ji13)).toNat * 2)).block, (ad315.add (((ji13)).toNat * 2)).off + 1, none⟩ = some (.int .u64 ((rd_T37 x7_1 (ji13)).f1)) := hS_
                    refine norm_ (a' := ?_) ?_ ?_
                    rotate_left
                    ·simp only [putAll, Act.put, List.setIfInBounds_toArray, List.set_cons_zero, List.set_cons_succ]
                     rfl
                    refine one_ (i := 7) (N := some 43) #[true, true, true, true, true, true, true, true, true, true, false, true, true, true, true, true, false, false, true, false] rfl rfl (one_of HT_.out (by kernel_rfl)) (by decide) (fun K hK => ?_)
                    refine goes_ Try.func35 (by kernel_rfl) rfl #[.agg #[.int .u64 t313, .int .u64 t314], .agg #[.int .u64 ((rd_T37 x7_1 x10_2).f0), .int .u64 ((rd_T37 x7_1 x10_2).f1)]] (by rfl) rfl rfl (by (try simp only [List.map_toArray, List.map_cons, List.map_nil]); first | done | rfl | (simp only [List.length_drop, List.length_take]; rfl)) ?_
                    with_reducible refine (steepleref02_Product.calls k2 t313 t314 ((rd_T37 x7_1 x10_2).f0) ((rd_T37 x7_1 x10_2).f1) t316 t317 _ A11.out).mono ?_
                    rintro e w36 ⟨rfl, hb⟩
                    have HS6_ := (hb.cell (World.block_lt_of_cell? _ _ (hHeld.2.2.2.2.2.2.1))).trans (hHeld.2.2.2.2.2.2.1)
                    have HS7_ := (hb.cell (World.block_lt_of_cell? _ _ (hHeld.2.2.2.2.2.2.2.1))).trans (hHeld.2.2.2.2.2.2.2.1)
                    have HS8_ := (hb.cell (World.block_lt_of_cell? _ _ (hHeld.2.2.2.2.2.2.2.2.1))).trans (hHeld.2.2.2.2.2.2.2.2.1)
                    have HS9_ := (hb.cell (World.block_lt_of_cell? _ _ (hHeld.2.2.2.2.2.2.2.2.2))).trans (hHeld.2.2.2.2.2.2.2.2.2)
                    refine ⟨_, rfl, ?_⟩
                    replace HO_1 := Aside0.mk (Kd.V_below (by (with_reducible repeat (first | apply Kd.V_alloc | apply Kd.V_drewN | apply Kd.V_drew)); exact HO_1.out) hb)
                    replace HO_7 := Aside0.mk (Kd.V_below (by (with_reducible repeat (first | apply Kd.V_alloc | apply Kd.V_drewN | apply Kd.V_drew)); exact HO_7.out) hb)
                    replace HO_9 := kb HO_9 hb
                    replace BK308 := bb BK308 hb
                    replace BK309 := bb BK309 hb
                    replace BK311 := bb BK311 hb
                    replace BK312 := bb BK312 hb
                    replace BK325 := bb BK325 hb
                    replace HB := bh HB hb
                    (try clear hb)
                    (try clear hb2)
                    (try clear hk)
                    (try clear hi)
                    refine hK.out _ _ ⟨(blk_cell BK308.out 0).trans rfl, (blk_cell BK308.out 1).trans rfl, (blk_cell BK312.out 0).trans rfl, (blk_cell BK312.out 1).trans rfl, (blk_cell BK311.out 0).trans rfl, (blk_cell BK311.out 1).trans rfl, HS6_, HS7_, HS8_, HS9_⟩ (fun hHeld => ?_)
                    clear hK K
                    refine norm_ (a' := ?_) ?_ ?_
                    rotate_left
                    ·show Act.put _ (some 43) _ = _
                     simp only [Act.put, List.setIfInBounds_toArray, List.set_cons_zero, List.set_cons_succ, i64_w, i32_w]
                     rfl
                    exact norm_ (by first | (simp only [putAll, Act.put, List.setIfInBounds_toArray, List.set_cons_zero, List.set_cons_succ]; done) | (simp only [putAll, Act.put, List.setIfInBounds_toArray, List.set_cons_zero, List.set_cons_succ]; rfl)) (hJ2_7_18 (gb325) _ ⟨hHeld, (by (with_reducible repeat (first | apply Kd.V_alloc | apply Kd.V_drewN | apply Kd.V_drew)); exact HO_1.out), (by (with_reducible repeat (first | apply Kd.V_alloc | apply Kd.V_drewN | apply Kd.V_drew)); exact HO_7.out), (kr HO_9.out), (bk BK308.out), (bk BK309.out), (bk BK311.out), (bk BK312.out), (bk BK325.out), GW325.out, GE325.out, NB308_325.out, NB325_308.out, NB309_325.out, NB325_309.out, NB311_325.out, NB325_311.out, NB312_325.out, NB325_312.out, (bq HB.out)⟩)
                  ·skip
                   rintro _ w35 ⟨hS_, h0_, h1_, h2_, h3_, h4_, h5_, h6_, h7_⟩
                   have n0_ : Aside0 (Kd.V k37 37 w35 w.heap.size (fun k_ => (P1_ k_ ∨ w.heap.size ≤ k_) ∧ some k_ ≠ (u9 : Value).ownBlock ∧ k_ ≠ gb308 ∧ k_ ≠ gb309 ∧ k_ ≠ gb311 ∧ k_ ≠ gb312) (.slice A1 l1.length c1) l1) := ⟨h0_⟩
                   have n1_ : Aside0 (Kd.V k37 37 w35 w.heap.size (fun k_ => (P1_ k_ ∨ w.heap.size ≤ k_) ∧ some k_ ≠ (u9 : Value).ownBlock ∧ k_ ≠ gb308 ∧ k_ ≠ gb309 ∧ k_ ≠ gb311 ∧ k_ ≠ gb312) (.slice (some ad315) x7_1.length co21) x7_1) := ⟨h1_⟩
                   have n2_ : Aside0 (Kd.R k37 37 w35 w.heap.size (fun k_ => (w.heap.size ≤ k_) ∧ k_ ≠ gb308 ∧ k_ ≠ gb309 ∧ k_ ≠ gb311 ∧ k_ ≠ gb312) u9 x9_2) := ⟨h2_⟩
                   have n3_ : Aside0 (w35.heap[gb308]? = some (.cells #[.int .u64 a2_0, .int .u64 a2_1] 37 (0, 0))) := ⟨h3_⟩
                   have n4_ : Aside0 (w35.heap[gb309]? = some (.cells #[.int .u64 0, .int .u64 0] 37 (0, 0))) := ⟨h4_⟩
                   have n5_ : Aside0 (w35.heap[gb311]? = some (.cells #[.int .u64 0, .int .u64 (IntKind.u64.wrap (x10_2))] 37 (0, 0))) := ⟨h5_⟩
                   have n6_ : Aside0 (w35.heap[gb312]? = some (.cells #[.int .u64 0, .int .u64 (IntKind.u64.wrap (wrap64 (x10_2 + x8_1)))] 37 (0, 0))) := ⟨h6_⟩
                   have n7_ : Aside0 (Below w.heap.size w w35) := ⟨h7_⟩
                   clear HO_1
                   clear HO_7
                   clear HO_9
                   clear BK308
                   clear BK309
                   clear BK311
                   clear BK312
                   clear HB
                   clear h0_ h1_ h2_ h3_ h4_ h5_ h6_ h7_
                   have HO_1 := n0_
                   have HO_7 := n1_
                   have HO_9 := n2_
                   have BK308 := n3_
                   have BK309 := n4_
                   have BK311 := n5_
                   have BK312 := n6_
                   have HB := n7_
                   clear n0_ n1_ n2_ n3_ n4_ n5_ n6_ n7_
                   have hHeld : w35.cell? ⟨gb308, 0, none⟩ = some (.int .u64 a2_0) ∧ w35.cell? ⟨gb308, 1, none⟩ = some (.int .u64 a2_1) ∧ w35.cell? ⟨gb312, 0, none⟩ = some (.int .u64 0) ∧ w35.cell? ⟨gb312, 1, none⟩ = some (.int .u64 (IntKind.u64.wrap (wrap64 (x10_2 + x8_1)))) ∧ w35.cell? ⟨gb311, 0, none⟩ = some (.int .u64 0) ∧ w35.cell? ⟨gb311, 1, none⟩ = some (.int .u64 (IntKind.u64.wrap (x10_2))) ∧ w35.cell? (ad315.add ((x10_2).toNat * 2)) = some (.int .u64 ((rd_T37 x7_1 x10_2).f0)) ∧ w35.cell? ⟨(ad315.add ((x10_2).toNat * 2)).block, (ad315.add ((x10_2).toNat * 2)).off + 1, none⟩ = some (.int .u64 ((rd_T37 x7_1 x10_2).f1)) ∧ w35.cell? (ad315.add (((ji13)).toNat * 2)) = some (.int .u64 ((rd_T37 x7_1 (ji13)).f0)) ∧ w35.cell? ⟨(ad315.add (((ji13)).toNat * 2)).block, (ad315.add (((ji13)).toNat * 2)).off + 1, none⟩ = some (.int .u64 ((rd_T37 x7_1 (ji13)).f1)) := hS_
                   refine norm_ (a' := ?_) ?_ ?_
                   rotate_left
                   ·simp only [putAll, Act.put, List.setIfInBounds_toArray, List.set_cons_zero, List.set_cons_succ]
                    rfl
                   refine two_ (i := 10) (j := 18) (Ni := some 46) (Nj := some 13) #[true, true, true, true, true, true, true, true, true, true, true, true, true, true, true, true, false, false, false, false] #[true, true, true, true, true, true, true, true, true, true, false, true, true, true, true, true, false, false, true, false] rfl rfl rfl rfl (two_of HT_.out (by kernel_rfl)) (by decide) (by decide) (fun K hK => ?_) (fun K hK => ?_)
                   ·skip
                    refine goes_ Try.func14 (by kernel_rfl) rfl #[.agg #[.int .u64 a2_0, .int .u64 a2_1], .agg #[.int .u64 0, .int .u64 (IntKind.u64.wrap (x10_2))]] (by rfl) rfl rfl (by (try simp only [List.map_toArray, List.map_cons, List.map_nil]); first | done | rfl | (simp only [List.length_drop, List.length_take]; rfl)) ?_
                    with_reducible refine (steepleref02_Add.calls a2_0 a2_1 0 (IntKind.u64.wrap (x10_2)) t318 t319 _ A12.out).mono ?_
                    rintro e w36 ⟨rfl, hb⟩
                    have HS6_ := (hb.cell (World.block_lt_of_cell? _ _ (hHeld.2.2.2.2.2.2.1))).trans (hHeld.2.2.2.2.2.2.1)
                    have HS7_ := (hb.cell (World.block_lt_of_cell? _ _ (hHeld.2.2.2.2.2.2.2.1))).trans (hHeld.2.2.2.2.2.2.2.1)
                    have HS8_ := (hb.cell (World.block_lt_of_cell? _ _ (hHeld.2.2.2.2.2.2.2.2.1))).trans (hHeld.2.2.2.2.2.2.2.2.1)
                    have HS9_ := (hb.cell (World.block_lt_of_cell? _ _ (hHeld.2.2.2.2.2.2.2.2.2))).trans (hHeld.2.2.2.2.2.2.2.2.2)
                    refine ⟨_, rfl, ?_⟩
                    replace HO_1 := Aside0.mk (Kd.V_below (by (with_reducible repeat (first | apply Kd.V_alloc | apply Kd.V_drewN | apply Kd.V_drew)); exact HO_1.out) hb)
                    replace HO_7 := Aside0.mk (Kd.V_below (by (with_reducible repeat (first | apply Kd.V_alloc | apply Kd.V_drewN | apply Kd.V_drew)); exact HO_7.out) hb)
                    replace HO_9 := kb HO_9 hb
                    replace BK308 := bb BK308 hb
                    replace BK309 := bb BK309 hb
                    replace BK311 := bb BK311 hb
                    replace BK312 := bb BK312 hb
                    replace HB := bh HB hb
                    (try clear hb)
                    (try clear hb2)
                    (try clear hk)
                    (try clear hi)
                    refine hK.out _ _ ⟨(blk_cell BK308.out 0).trans rfl, (blk_cell BK308.out 1).trans rfl, (blk_cell BK312.out 0).trans rfl, (blk_cell BK312.out 1).trans rfl, (blk_cell BK311.out 0).trans rfl, (blk_cell BK311.out 1).trans rfl, HS6_, HS7_, HS8_, HS9_⟩ (fun hHeld => ?_)
                    clear hK K
                    refine norm_ (a' := ?_) ?_ ?_
                    rotate_left
                    ·show Act.put _ (some 46) _ = _
                     simp only [Act.put, List.setIfInBounds_toArray, List.set_cons_zero, List.set_cons_succ, i64_w, i32_w]
                     rfl
                    exact norm_ (by first | (simp only [putAll, Act.put, List.setIfInBounds_toArray, List.set_cons_zero, List.set_cons_succ]; done) | (simp only [putAll, Act.put, List.setIfInBounds_toArray, List.set_cons_zero, List.set_cons_succ]; rfl)) (hJ2_7_10 () _ ⟨hHeld, (by (with_reducible repeat (first | apply Kd.V_alloc | apply Kd.V_drewN | apply Kd.V_drew)); exact HO_1.out), (by (with_reducible repeat (first | apply Kd.V_alloc | apply Kd.V_drewN | apply Kd.V_drew)); exact HO_7.out), (kr HO_9.out), (bk BK308.out), (bk BK309.out), (bk BK311.out), (bk BK312.out), (bq HB.out)⟩)
                   ·skip
                    refine box_step ?hg (N := 13) ?hd (cs := #[.int .u64 0, .int .u64 0]) (t := 37) ?hr ?_; (case hd => rfl); (case hg => rfl); (case hr => first | (go_simp; done) | (go_simp; rfl))
                    intro gb325 hg w36 hbox hb
                    have HS6_ := (hb.cell (World.block_lt_of_cell? _ _ (hHeld.2.2.2.2.2.2.1))).trans (hHeld.2.2.2.2.2.2.1)
                    have HS7_ := (hb.cell (World.block_lt_of_cell? _ _ (hHeld.2.2.2.2.2.2.2.1))).trans (hHeld.2.2.2.2.2.2.2.1)
                    have HS8_ := (hb.cell (World.block_lt_of_cell? _ _ (hHeld.2.2.2.2.2.2.2.2.1))).trans (hHeld.2.2.2.2.2.2.2.2.1)
                    have HS9_ := (hb.cell (World.block_lt_of_cell? _ _ (hHeld.2.2.2.2.2.2.2.2.2))).trans (hHeld.2.2.2.2.2.2.2.2.2)
                    have BK325 := Aside0.mk hbox
                    have GW325 := ge hg HB
                    have GE325 := ge hg HB
                    have NB308_325 := nl hg BK308
                    have NB325_308 := ng hg BK308
                    have NB309_325 := nl hg BK309
                    have NB325_309 := ng hg BK309
                    have NB311_325 := nl hg BK311
                    have NB325_311 := ng hg BK311
                    have NB312_325 := nl hg BK312
                    have NB325_312 := ng hg BK312
                    replace HO_1 := Aside0.mk (Kd.V_below (Kd.V_elderB (by (with_reducible repeat (first | apply Kd.V_alloc | apply Kd.V_drewN | apply Kd.V_drew)); exact HO_1.out) gb325 (Nat.le_of_eq hg.symm)) hb)
                    replace HO_7 := Aside0.mk (Kd.V_below (Kd.V_elderB (by (with_reducible repeat (first | apply Kd.V_alloc | apply Kd.V_drewN | apply Kd.V_drew)); exact HO_7.out) gb325 (Nat.le_of_eq hg.symm)) hb)
                    replace HO_9 := Aside0.mk (Kd.R_below (Kd.R_elderB (kr HO_9.out) gb325 (Nat.le_of_eq hg.symm)) hb)
                    replace BK308 := bb BK308 hb
                    replace BK309 := bb BK309 hb
                    replace BK311 := bb BK311 hb
                    replace BK312 := bb BK312 hb
                    replace HB := bh HB hb
                    clear hb hbox hg
                    refine hK.out _ _ ⟨(blk_cell BK308.out 0).trans rfl, (blk_cell BK308.out 1).trans rfl, (blk_cell BK312.out 0).trans rfl, (blk_cell BK312.out 1).trans rfl, (blk_cell BK311.out 0).trans rfl, (blk_cell BK311.out 1).trans rfl, HS6_, HS7_, HS8_, HS9_⟩ (fun hHeld => ?_)
                    clear hK K
                    refine norm_ (a' := ?_) ?_ ?_
                    rotate_left
                    ·show Act.put _ (some 13) _ = _
                     simp only [Act.put, List.setIfInBounds_toArray, List.set_cons_zero, List.set_cons_succ, i64_w, i32_w]
                     rfl
                    exact norm_ (by first | (simp only [putAll, Act.put, List.setIfInBounds_toArray, List.set_cons_zero, List.set_cons_succ]; done) | (simp only [putAll, Act.put, List.setIfInBounds_toArray, List.set_cons_zero, List.set_cons_succ]; rfl)) (hJ2_7_18 (gb325) _ ⟨hHeld, (by (with_reducible repeat (first | apply Kd.V_alloc | apply Kd.V_drewN | apply Kd.V_drew)); exact Kd.V_mono HO_1.out (fun _ hk => ⟨hk.1.1, ⟨hk.1.2.1, ⟨hk.1.2.2.1, ⟨hk.1.2.2.2.1, ⟨hk.1.2.2.2.2.1, ⟨hk.1.2.2.2.2.2, hk.2⟩⟩⟩⟩⟩⟩)), (by (with_reducible repeat (first | apply Kd.V_alloc | apply Kd.V_drewN | apply Kd.V_drew)); exact Kd.V_mono HO_7.out (fun _ hk => ⟨hk.1.1, ⟨hk.1.2.1, ⟨hk.1.2.2.1, ⟨hk.1.2.2.2.1, ⟨hk.1.2.2.2.2.1, ⟨hk.1.2.2.2.2.2, hk.2⟩⟩⟩⟩⟩⟩)), (by (with_reducible repeat refine kl ?_); exact Kd.R_mono HO_9.out (fun _ hk => ⟨hk.1.1, ⟨hk.1.2.1, ⟨hk.1.2.2.1, ⟨hk.1.2.2.2.1, ⟨hk.1.2.2.2.2, hk.2⟩⟩⟩⟩⟩)), (bk BK308.out), (bk BK309.out), (bk BK311.out), (bk BK312.out), (bk BK325.out), GW325.out, GE325.out, NB308_325.out, NB325_308.out, NB309_325.out, NB325_309.out, NB311_325.out, NB325_311.out, NB312_325.out, NB325_312.out, (bq HB.out)⟩)
                 ·skip
                  rintro gb325 w36 ⟨hS_, h0_, h1_, h2_, h3_, h4_, h5_, h6_, h7_, h8_, h9_, h10_, h11_, h12_, h13_, h14_, h15_, h16_, h17_, h18_⟩
                  have n0_ : Aside0 (Kd.V k37 37 w36 w.heap.size (fun k_ => (P1_ k_ ∨ w.heap.size ≤ k_) ∧ some k_ ≠ (u9 : Value).ownBlock ∧ k_ ≠ gb308 ∧ k_ ≠ gb309 ∧ k_ ≠ gb311 ∧ k_ ≠ gb312 ∧ k_ ≠ gb325) (.slice A1 l1.length c1) l1) := ⟨h0_⟩
                  have n1_ : Aside0 (Kd.V k37 37 w36 w.heap.size (fun k_ => (P1_ k_ ∨ w.heap.size ≤ k_) ∧ some k_ ≠ (u9 : Value).ownBlock ∧ k_ ≠ gb308 ∧ k_ ≠ gb309 ∧ k_ ≠ gb311 ∧ k_ ≠ gb312 ∧ k_ ≠ gb325) (.slice (some ad315) x7_1.length co21) x7_1) := ⟨h1_⟩
                  have n2_ : Aside0 (Kd.R k37 37 w36 w.heap.size (fun k_ => (w.heap.size ≤ k_) ∧ k_ ≠ gb308 ∧ k_ ≠ gb309 ∧ k_ ≠ gb311 ∧ k_ ≠ gb312 ∧ k_ ≠ gb325) u9 x9_2) := ⟨h2_⟩
                  have n3_ : Aside0 (w36.heap[gb308]? = some (.cells #[.int .u64 a2_0, .int .u64 a2_1] 37 (0, 0))) := ⟨h3_⟩
                  have n4_ : Aside0 (w36.heap[gb309]? = some (.cells #[.int .u64 0, .int .u64 0] 37 (0, 0))) := ⟨h4_⟩
                  have n5_ : Aside0 (w36.heap[gb311]? = some (.cells #[.int .u64 0, .int .u64 (IntKind.u64.wrap (x10_2))] 37 (0, 0))) := ⟨h5_⟩
                  have n6_ : Aside0 (w36.heap[gb312]? = some (.cells #[.int .u64 0, .int .u64 (IntKind.u64.wrap (wrap64 (x10_2 + x8_1)))] 37 (0, 0))) := ⟨h6_⟩
                  have n7_ : Aside0 (w36.heap[gb325]? = some (.cells #[.int .u64 0, .int .u64 0] 37 (0, 0))) := ⟨h7_⟩
                  have n8_ : Aside0 (w.heap.size ≤ gb325) := ⟨h8_⟩
                  have n9_ : Aside0 (w.heap.size ≤ gb325) := ⟨h9_⟩
                  have n10_ : Aside0 (gb308 ≠ gb325) := ⟨h10_⟩
                  have n11_ : Aside0 (gb325 ≠ gb308) := ⟨h11_⟩
                  have n12_ : Aside0 (gb309 ≠ gb325) := ⟨h12_⟩
                  have n13_ : Aside0 (gb325 ≠ gb309) := ⟨h13_⟩
                  have n14_ : Aside0 (gb311 ≠ gb325) := ⟨h14_⟩
                  have n15_ : Aside0 (gb325 ≠ gb311) := ⟨h15_⟩
                  have n16_ : Aside0 (gb312 ≠ gb325) := ⟨h16_⟩
                  have n17_ : Aside0 (gb325 ≠ gb312) := ⟨h17_⟩
                  have n18_ : Aside0 (Below w.heap.size w w36) := ⟨h18_⟩
                  clear HO_1
                  clear HO_7
                  clear HO_9
                  clear BK308
                  clear BK309
                  clear BK311
                  clear BK312
                  clear HB
                  clear h0_ h1_ h2_ h3_ h4_ h5_ h6_ h7_ h8_ h9_ h10_ h11_ h12_ h13_ h14_ h15_ h16_ h17_ h18_
                  have HO_1 := n0_
                  have HO_7 := n1_
                  have HO_9 := n2_
                  have BK308 := n3_
                  have BK309 := n4_
                  have BK311 := n5_
                  have BK312 := n6_
                  have BK325 := n7_
                  have GW325 := Aside1.mk n8_.out
                  have GE325 := Aside1.mk n9_.out
                  have NB308_325 := n10_
                  have NB325_308 := n11_
                  have NB309_325 := n12_
                  have NB325_309 := n13_
                  have NB311_325 := n14_
                  have NB325_311 := n15_
                  have NB312_325 := n16_
                  have NB325_312 := n17_
                  have HB := n18_
                  clear n0_ n1_ n2_ n3_ n4_ n5_ n6_ n7_ n8_ n9_ n10_ n11_ n12_ n13_ n14_ n15_ n16_ n17_ n18_
                  have hHeld : w36.cell? ⟨gb308, 0, none⟩ = some (.int .u64 a2_0) ∧ w36.cell? ⟨gb308, 1, none⟩ = some (.int .u64 a2_1) ∧ w36.cell? ⟨gb312, 0, none⟩ = some (.int .u64 0) ∧ w36.cell? ⟨gb312, 1, none⟩ = some (.int .u64 (IntKind.u64.wrap (wrap64 (x10_2 + x8_1)))) ∧ w36.cell? ⟨gb311, 0, none⟩ = some (.int .u64 0) ∧ w36.cell? ⟨gb311, 1, none⟩ = some (.int .u64 (IntKind.u64.wrap (x10_2))) ∧ w36.cell? (ad315.add ((x10_2).toNat * 2)) = some (.int .u64 ((rd_T37 x7_1 x10_2).f0)) ∧ w36.cell? ⟨(ad315.add ((x10_2).toNat * 2)).block, (ad315.add ((x10_2).toNat * 2)).off + 1, none⟩ = some (.int .u64 ((rd_T37 x7_1 x10_2).f1)) ∧ w36.cell? (ad315.add (((ji13)).toNat * 2)) = some (.int .u64 ((rd_T37 x7_1 (ji13)).f0)) ∧ w36.cell? ⟨(ad315.add (((ji13)).toNat * 2)).block, (ad315.add (((ji13)).toNat * 2)).off + 1, none⟩ = some (.int .u64 ((rd_T37 x7_1 (ji13)).f1)) := hS_
                  refine norm_ (a' := ?_) ?_ ?_
                  rotate_left
                  ·simp only [putAll, Act.put, List.setIfInBounds_toArray, List.set_cons_zero, List.set_cons_succ]
                   rfl
                  refine one_ (i := 10) (N := some 46) #[true, true, true, true, true, true, true, true, true, true, true, true, true, true, true, true, false, false, true, false] rfl rfl (one_of HT_.out (by kernel_rfl)) (by decide) (fun K hK => ?_)
                  refine goes_ Try.func14 (by kernel_rfl) rfl #[.agg #[.int .u64 a2_0, .int .u64 a2_1], .agg #[.int .u64 0, .int .u64 (IntKind.u64.wrap (x10_2))]] (by rfl) rfl rfl (by (try simp only [List.map_toArray, List.map_cons, List.map_nil]); first | done | rfl | (simp only [List.length_drop, List.length_take]; rfl)) ?_
                  with_reducible refine (steepleref02_Add.calls a2_0 a2_1 0 (IntKind.u64.wrap (x10_2)) t318 t319 _ A12.out).mono ?_
                  rintro e w37 ⟨rfl, hb⟩
                  have HS6_ := (hb.cell (World.block_lt_of_cell? _ _ (hHeld.2.2.2.2.2.2.1))).trans (hHeld.2.2.2.2.2.2.1)
                  have HS7_ := (hb.cell (World.block_lt_of_cell? _ _ (hHeld.2.2.2.2.2.2.2.1))).trans (hHeld.2.2.2.2.2.2.2.1)
                  have HS8_ := (hb.cell (World.block_lt_of_cell? _ _ (hHeld.2.2.2.2.2.2.2.2.1))).trans (hHeld.2.2.2.2.2.2.2.2.1)
                  have HS9_ := (hb.cell (World.block_lt_of_cell? _ _ (hHeld.2.2.2.2.2.2.2.2.2))).trans (hHeld.2.2.2.2.2.2.2.2.2)
                  refine ⟨_, rfl, ?_⟩
                  replace HO_1 := Aside0.mk (Kd.V_below (by (with_reducible repeat (first | apply Kd.V_alloc | apply Kd.V_drewN | apply Kd.V_drew)); exact HO_1.out) hb)
                  replace HO_7 := Aside0.mk (Kd.V_below (by (with_reducible repeat (first | apply Kd.V_alloc | apply Kd.V_drewN | apply Kd.V_drew)); exact HO_7.out) hb)
                  replace HO_9 := kb HO_9 hb
                  replace BK308 := bb BK308 hb
                  replace BK309 := bb BK309 hb
                  replace BK311 := bb BK311 hb
                  replace BK312 := bb BK312 hb
                  replace BK325 := bb BK325 hb
                  replace HB := bh HB hb
                  (try clear hb)
                  (try clear hb2)
                  (try clear hk)
                  (try clear hi)
                  refine hK.out _ _ ⟨(blk_cell BK308.out 0).trans rfl, (blk_cell BK308.out 1).trans rfl, (blk_cell BK312.out 0).trans rfl, (blk_cell BK312.out 1).trans rfl, (blk_cell BK311.out 0).trans rfl, (blk_cell BK311.out 1).trans rfl, HS6_, HS7_, HS8_, HS9_⟩ (fun hHeld => ?_)
                  clear hK K
                  refine norm_ (a' := ?_) ?_ ?_
                  rotate_left
                  ·show Act.put _ (some 46) _ = _
                   simp only [Act.put, List.setIfInBounds_toArray, List.set_cons_zero, List.set_cons_succ, i64_w, i32_w]
                   rfl
                  exact norm_ (by first | (simp only [putAll, Act.put, List.setIfInBounds_toArray, List.set_cons_zero, List.set_cons_succ]; done) | (simp only [putAll, Act.put, List.setIfInBounds_toArray, List.set_cons_zero, List.set_cons_succ]; rfl)) (hJ2_7_10_18 (gb325) _ ⟨hHeld, (by (with_reducible repeat (first | apply Kd.V_alloc | apply Kd.V_drewN | apply Kd.V_drew)); exact HO_1.out), (by (with_reducible repeat (first | apply Kd.V_alloc | apply Kd.V_drewN | apply Kd.V_drew)); exact HO_7.out), (kr HO_9.out), (bk BK308.out), (bk BK309.out), (bk BK311.out), (bk BK312.out), (bk BK325.out), GW325.out, GE325.out, NB308_325.out, NB325_308.out, NB309_325.out, NB325_309.out, NB311_325.out, NB325_311.out, NB312_325.out, NB325_312.out, (bq HB.out)⟩)
                ·skip
                 rintro _ w36 ⟨hS_, h0_, h1_, h2_, h3_, h4_, h5_, h6_, h7_⟩
                 have n0_ : Aside0 (Kd.V k37 37 w36 w.heap.size (fun k_ => (P1_ k_ ∨ w.heap.size ≤ k_) ∧ some k_ ≠ (u9 : Value).ownBlock ∧ k_ ≠ gb308 ∧ k_ ≠ gb309 ∧ k_ ≠ gb311 ∧ k_ ≠ gb312) (.slice A1 l1.length c1) l1) := ⟨h0_⟩
                 have n1_ : Aside0 (Kd.V k37 37 w36 w.heap.size (fun k_ => (P1_ k_ ∨ w.heap.size ≤ k_) ∧ some k_ ≠ (u9 : Value).ownBlock ∧ k_ ≠ gb308 ∧ k_ ≠ gb309 ∧ k_ ≠ gb311 ∧ k_ ≠ gb312) (.slice (some ad315) x7_1.length co21) x7_1) := ⟨h1_⟩
                 have n2_ : Aside0 (Kd.R k37 37 w36 w.heap.size (fun k_ => (w.heap.size ≤ k_) ∧ k_ ≠ gb308 ∧ k_ ≠ gb309 ∧ k_ ≠ gb311 ∧ k_ ≠ gb312) u9 x9_2) := ⟨h2_⟩
                 have n3_ : Aside0 (w36.heap[gb308]? = some (.cells #[.int .u64 a2_0, .int .u64 a2_1] 37 (0, 0))) := ⟨h3_⟩
                 have n4_ : Aside0 (w36.heap[gb309]? = some (.cells #[.int .u64 0, .int .u64 0] 37 (0, 0))) := ⟨h4_⟩
                 have n5_ : Aside0 (w36.heap[gb311]? = some (.cells #[.int .u64 0, .int .u64 (IntKind.u64.wrap (x10_2))] 37 (0, 0))) := ⟨h5_⟩
                 have n6_ : Aside0 (w36.heap[gb312]? = some (.cells #[.int .u64 0, .int .u64 (IntKind.u64.wrap (wrap64 (x10_2 + x8_1)))] 37 (0, 0))) := ⟨h6_⟩
                 have n7_ : Aside0 (Below w.heap.size w w36) := ⟨h7_⟩
                 clear HO_1
                 clear HO_7
                 clear HO_9
                 clear BK308
                 clear BK309
                 clear BK311
                 clear BK312
                 clear HB
                 clear h0_ h1_ h2_ h3_ h4_ h5_ h6_ h7_
                 have HO_1 := n0_
                 have HO_7 := n1_
                 have HO_9 := n2_
                 have BK308 := n3_
                 have BK309 := n4_
                 have BK311 := n5_
                 have BK312 := n6_
                 have HB := n7_
                 clear n0_ n1_ n2_ n3_ n4_ n5_ n6_ n7_
                 have hHeld : w36.cell? ⟨gb308, 0, none⟩ = some (.int .u64 a2_0) ∧ w36.cell? ⟨gb308, 1, none⟩ = some (.int .u64 a2_1) ∧ w36.cell? ⟨gb312, 0, none⟩ = some (.int .u64 0) ∧ w36.cell? ⟨gb312, 1, none⟩ = some (.int .u64 (IntKind.u64.wrap (wrap64 (x10_2 + x8_1)))) ∧ w36.cell? ⟨gb311, 0, none⟩ = some (.int .u64 0) ∧ w36.cell? ⟨gb311, 1, none⟩ = some (.int .u64 (IntKind.u64.wrap (x10_2))) ∧ w36.cell? (ad315.add ((x10_2).toNat * 2)) = some (.int .u64 ((rd_T37 x7_1 x10_2).f0)) ∧ w36.cell? ⟨(ad315.add ((x10_2).toNat * 2)).block, (ad315.add ((x10_2).toNat * 2)).off + 1, none⟩ = some (.int .u64 ((rd_T37 x7_1 x10_2).f1)) ∧ w36.cell? (ad315.add (((ji13)).toNat * 2)) = some (.int .u64 ((rd_T37 x7_1 (ji13)).f0)) ∧ w36.cell? ⟨(ad315.add (((ji13)).toNat * 2)).block, (ad315.add (((ji13)).toNat * 2)).off + 1, none⟩ = some (.int .u64 ((rd_T37 x7_1 (ji13)).f1)) := hS_
                 refine norm_ (a' := ?_) ?_ ?_
                 rotate_left
                 ·simp only [putAll, Act.put, List.setIfInBounds_toArray, List.set_cons_zero, List.set_cons_succ]
                  rfl
                 refine two_ (i := 16) (j := 18) (Ni := some 52) (Nj := some 13) #[true, true, true, true, true, true, true, true, true, true, true, true, true, true, true, true, true, false, false, false] #[true, true, true, true, true, true, true, true, true, true, true, true, true, true, true, true, false, false, true, false] rfl rfl rfl rfl (two_of HT_.out (by kernel_rfl)) (by decide) (by decide) (fun K hK => ?_) (fun K hK => ?_)
                 ·skip
                  refine goes_ Try.func35 (by kernel_rfl) rfl #[.agg #[.int .u64 t318, .int .u64 t319], .agg #[.int .u64 ((rd_T37 x7_1 (ji13)).f0), .int .u64 ((rd_T37 x7_1 (ji13)).f1)]] (by rfl) rfl rfl (by (try simp only [List.map_toArray, List.map_cons, List.map_nil]); first | done | (simp only [hji13]; rfl) | rfl | (simp only [List.length_drop, List.length_take]; rfl)) ?_
                  with_reducible refine (steepleref02_Product.calls k2 t318 t319 ((rd_T37 x7_1 (ji13)).f0) ((rd_T37 x7_1 (ji13)).f1) t321 t322 _ A15.out).mono ?_
                  rintro e w37 ⟨rfl, hb⟩
                  have HS6_ := (hb.cell (World.block_lt_of_cell? _ _ (hHeld.2.2.2.2.2.2.1))).trans (hHeld.2.2.2.2.2.2.1)
                  have HS7_ := (hb.cell (World.block_lt_of_cell? _ _ (hHeld.2.2.2.2.2.2.2.1))).trans (hHeld.2.2.2.2.2.2.2.1)
                  have HS8_ := (hb.cell (World.block_lt_of_cell? _ _ (hHeld.2.2.2.2.2.2.2.2.1))).trans (hHeld.2.2.2.2.2.2.2.2.1)
                  have HS9_ := (hb.cell (World.block_lt_of_cell? _ _ (hHeld.2.2.2.2.2.2.2.2.2))).trans (hHeld.2.2.2.2.2.2.2.2.2)
                  refine ⟨_, rfl, ?_⟩
                  replace HO_1 := Aside0.mk (Kd.V_below (by (with_reducible repeat (first | apply Kd.V_alloc | apply Kd.V_drewN | apply Kd.V_drew)); exact HO_1.out) hb)
                  replace HO_7 := Aside0.mk (Kd.V_below (by (with_reducible repeat (first | apply Kd.V_alloc | apply Kd.V_drewN | apply Kd.V_drew)); exact HO_7.out) hb)
                  replace HO_9 := kb HO_9 hb
                  replace BK308 := bb BK308 hb
                  replace BK309 := bb BK309 hb
                  replace BK311 := bb BK311 hb
                  replace BK312 := bb BK312 hb
                  replace HB := bh HB hb
                  (try clear hb)
                  (try clear hb2)
                  (try clear hk)
                  (try clear hi)
                  refine hK.out _ _ ⟨(blk_cell BK308.out 0).trans rfl, (blk_cell BK308.out 1).trans rfl, (blk_cell BK312.out 0).trans rfl, (blk_cell BK312.out 1).trans rfl, (blk_cell BK311.out 0).trans rfl, (blk_cell BK311.out 1).trans rfl, HS6_, HS7_, HS8_, HS9_⟩ (fun hHeld => ?_)
                  clear hK K
                  refine norm_ (a' := ?_) ?_ ?_
                  rotate_left
                  ·show Act.put _ (some 52) _ = _
                   simp only [Act.put, List.setIfInBounds_toArray, List.set_cons_zero, List.set_cons_succ, i64_w, i32_w]
                   rfl
                  exact norm_ (by first | (simp only [putAll, Act.put, List.setIfInBounds_toArray, List.set_cons_zero, List.set_cons_succ]; done) | (simp only [putAll, Act.put, List.setIfInBounds_toArray, List.set_cons_zero, List.set_cons_succ]; rfl)) (hJ2_7_10_16 () _ ⟨hHeld, (by (with_reducible repeat (first | apply Kd.V_alloc | apply Kd.V_drewN | apply Kd.V_drew)); exact HO_1.out), (by (with_reducible repeat (first | apply Kd.V_alloc | apply Kd.V_drewN | apply Kd.V_drew)); exact HO_7.out), (kr HO_9.out), (bk BK308.out), (bk BK309.out), (bk BK311.out), (bk BK312.out), (bq HB.out)⟩)
                 ·skip
                  refine box_step ?hg (N := 13) ?hd (cs := #[.int .u64 0, .int .u64 0]) (t := 37) ?hr ?_; (case hd => rfl); (case hg => rfl); (case hr => first | (go_simp; done) | (go_simp; rfl))
                  intro gb325 hg w37 hbox hb
                  have HS6_ := (hb.cell (World.block_lt_of_cell? _ _ (hHeld.2.2.2.2.2.2.1))).trans (hHeld.2.2.2.2.2.2.1)
                  have HS7_ := (hb.cell (World.block_lt_of_cell? _ _ (hHeld.2.2.2.2.2.2.2.1))).trans (hHeld.2.2.2.2.2.2.2.1)
                  have HS8_ := (hb.cell (World.block_lt_of_cell? _ _ (hHeld.2.2.2.2.2.2.2.2.1))).trans (hHeld.2.2.2.2.2.2.2.2.1)
                  have HS9_ := (hb.cell (World.block_lt_of_cell? _ _ (hHeld.2.2.2.2.2.2.2.2.2))).trans (hHeld.2.2.2.2.2.2.2.2.2)
                  have BK325 := Aside0.mk hbox
                  have GW325 := ge hg HB
                  have GE325 := ge hg HB
                  have NB308_325 := nl hg BK308
                  have NB325_308 := ng hg BK308
                  have NB309_325 := nl hg BK309
                  have NB325_309 := ng hg BK309
                  have NB311_325 := nl hg BK311
                  have NB325_311 := ng hg BK311
                  have NB312_325 := nl hg BK312
                  have NB325_312 := ng hg BK312
                  replace HO_1 := Aside0.mk (Kd.V_below (Kd.V_elderB (by (with_reducible repeat (first | apply Kd.V_alloc | apply Kd.V_drewN | apply Kd.V_drew)); exact HO_1.out) gb325 (Nat.le_of_eq hg.symm)) hb)
                  replace HO_7 := Aside0.mk (Kd.V_below (Kd.V_elderB (by (with_reducible repeat (first | apply Kd.V_alloc | apply Kd.V_drewN | apply Kd.V_drew)); exact HO_7.out) gb325 (Nat.le_of_eq hg.symm)) hb)
                  replace HO_9 := Aside0.mk (Kd.R_below (Kd.R_elderB (kr HO_9.out) gb325 (Nat.le_of_eq hg.symm)) hb)
                  replace BK308 := bb BK308 hb
                  replace BK309 := bb BK309 hb
                  replace BK311 := bb BK311 hb
                  replace BK312 := bb BK312 hb
                  replace HB := bh HB hb
                  clear hb hbox hg
                  refine hK.out _ _ ⟨(blk_cell BK308.out 0).trans rfl, (blk_cell BK308.out 1).trans rfl, (blk_cell BK312.out 0).trans rfl, (blk_cell BK312.out 1).trans rfl, (blk_cell BK311.out 0).trans rfl, (blk_cell BK311.out 1).trans rfl, HS6_, HS7_, HS8_, HS9_⟩ (fun hHeld => ?_)
                  clear hK K
                  refine norm_ (a' := ?_) ?_ ?_
                  rotate_left
                  ·show Act.put _ (some 13) _ = _
                   simp only [Act.put, List.setIfInBounds_toArray, List.set_cons_zero, List.set_cons_succ, i64_w, i32_w]
                   rfl
                  exact norm_ (by first | (simp only [putAll, Act.put, List.setIfInBounds_toArray, List.set_cons_zero, List.set_cons_succ]; done) | (simp only [putAll, Act.put, List.setIfInBounds_toArray, List.set_cons_zero, List.set_cons_succ]; rfl)) (hJ2_7_10_18 (gb325) _ ⟨hHeld, (by (with_reducible repeat (first | apply Kd.V_alloc | apply Kd.V_drewN | apply Kd.V_drew)); exact Kd.V_mono HO_1.out (fun _ hk => ⟨hk.1.1, ⟨hk.1.2.1, ⟨hk.1.2.2.1, ⟨hk.1.2.2.2.1, ⟨hk.1.2.2.2.2.1, ⟨hk.1.2.2.2.2.2, hk.2⟩⟩⟩⟩⟩⟩)), (by (with_reducible repeat (first | apply Kd.V_alloc | apply Kd.V_drewN | apply Kd.V_drew)); exact Kd.V_mono HO_7.out (fun _ hk => ⟨hk.1.1, ⟨hk.1.2.1, ⟨hk.1.2.2.1, ⟨hk.1.2.2.2.1, ⟨hk.1.2.2.2.2.1, ⟨hk.1.2.2.2.2.2, hk.2⟩⟩⟩⟩⟩⟩)), (by (with_reducible repeat refine kl ?_); exact Kd.R_mono HO_9.out (fun _ hk => ⟨hk.1.1, ⟨hk.1.2.1, ⟨hk.1.2.2.1, ⟨hk.1.2.2.2.1, ⟨hk.1.2.2.2.2, hk.2⟩⟩⟩⟩⟩)), (bk BK308.out), (bk BK309.out), (bk BK311.out), (bk BK312.out), (bk BK325.out), GW325.out, GE325.out, NB308_325.out, NB325_308.out, NB309_325.out, NB325_309.out, NB311_325.out, NB325_311.out, NB312_325.out, NB325_312.out, (bq HB.out)⟩)
               ·skip
                rintro gb325 w37 ⟨hS_, h0_, h1_, h2_, h3_, h4_, h5_, h6_, h7_, h8_, h9_, h10_, h11_, h12_, h13_, h14_, h15_, h16_, h17_, h18_⟩
                have n0_ : Aside0 (Kd.V k37 37 w37 w.heap.size (fun k_ => (P1_ k_ ∨ w.heap.size ≤ k_) ∧ some k_ ≠ (u9 : Value).ownBlock ∧ k_ ≠ gb308 ∧ k_ ≠ gb309 ∧ k_ ≠ gb311 ∧ k_ ≠ gb312 ∧ k_ ≠ gb325) (.slice A1 l1.length c1) l1) := ⟨h0_⟩
                have n1_ : Aside0 (Kd.V k37 37 w37 w.heap.size (fun k_ => (P1_ k_ ∨ w.heap.size ≤ k_) ∧ some k_ ≠ (u9 : Value).ownBlock ∧ k_ ≠ gb308 ∧ k_ ≠ gb309 ∧ k_ ≠ gb311 ∧ k_ ≠ gb312 ∧ k_ ≠ gb325) (.slice (some ad315) x7_1.length co21) x7_1) := ⟨h1_⟩
                have n2_ : Aside0 (Kd.R k37 37 w37 w.heap.size (fun k_ => (w.heap.size ≤ k_) ∧ k_ ≠ gb308 ∧ k_ ≠ gb309 ∧ k_ ≠ gb311 ∧ k_ ≠ gb312 ∧ k_ ≠ gb325) u9 x9_2) := ⟨h2_⟩
                have n3_ : Aside0 (w37.heap[gb308]? = some (.cells #[.int .u64 a2_0, .int .u64 a2_1] 37 (0, 0))) := ⟨h3_⟩
                have n4_ : Aside0 (w37.heap[gb309]? = some (.cells #[.int .u64 0, .int .u64 0] 37 (0, 0))) := ⟨h4_⟩
                have n5_ : Aside0 (w37.heap[gb311]? = some (.cells #[.int .u64 0, .int .u64 (IntKind.u64.wrap (x10_2))] 37 (0, 0))) := ⟨h5_⟩
                have n6_ : Aside0 (w37.heap[gb312]? = some (.cells #[.int .u64 0, .int .u64 (IntKind.u64.wrap (wrap64 (x10_2 + x8_1)))] 37 (0, 0))) := ⟨h6_⟩
                have n7_ : Aside0 (w37.heap[gb325]? = some (.cells #[.int .u64 0, .int .u64 0] 37 (0, 0))) := ⟨h7_⟩
                have n8_ : Aside0 (w.heap.size ≤ gb325) := ⟨h8_⟩
                have n9_ : Aside0 (w.heap.size ≤ gb325) := ⟨h9_⟩
                have n10_ : Aside0 (gb308 ≠ gb325) := ⟨h10_⟩
                have n11_ : Aside0 (gb325 ≠ gb308) := ⟨h11_⟩
                have n12_ : Aside0 (gb309 ≠ gb325) := ⟨h12_⟩
                have n13_ : Aside0 (gb325 ≠ gb309) := ⟨h13_⟩
                have n14_ : Aside0 (gb311 ≠ gb325) := ⟨h14_⟩
                have n15_ : Aside0 (gb325 ≠ gb311) := ⟨h15_⟩
                have n16_ : Aside0 (gb312 ≠ gb325) := ⟨h16_⟩
                have n17_ : Aside0 (gb325 ≠ gb312) := ⟨h17_⟩
                have n18_ : Aside0 (Below w.heap.size w w37) := ⟨h18_⟩
                clear HO_1
                clear HO_7
                clear HO_9
                clear BK308
                clear BK309
                clear BK311
                clear BK312
                clear HB
                clear h0_ h1_ h2_ h3_ h4_ h5_ h6_ h7_ h8_ h9_ h10_ h11_ h12_ h13_ h14_ h15_ h16_ h17_ h18_
                have HO_1 := n0_
                have HO_7 := n1_
                have HO_9 := n2_
                have BK308 := n3_
                have BK309 := n4_
                have BK311 := n5_
                have BK312 := n6_
                have BK325 := n7_
                have GW325 := Aside1.mk n8_.out
                have GE325 := Aside1.mk n9_.out
                have NB308_325 := n10_
                have NB325_308 := n11_
                have NB309_325 := n12_
                have NB325_309 := n13_
                have NB311_325 := n14_
                have NB325_311 := n15_
                have NB312_325 := n16_
                have NB325_312 := n17_
                have HB := n18_
                clear n0_ n1_ n2_ n3_ n4_ n5_ n6_ n7_ n8_ n9_ n10_ n11_ n12_ n13_ n14_ n15_ n16_ n17_ n18_
                have hHeld : w37.cell? ⟨gb308, 0, none⟩ = some (.int .u64 a2_0) ∧ w37.cell? ⟨gb308, 1, none⟩ = some (.int .u64 a2_1) ∧ w37.cell? ⟨gb312, 0, none⟩ = some (.int .u64 0) ∧ w37.cell? ⟨gb312, 1, none⟩ = some (.int .u64 (IntKind.u64.wrap (wrap64 (x10_2 + x8_1)))) ∧ w37.cell? ⟨gb311, 0, none⟩ = some (.int .u64 0) ∧ w37.cell? ⟨gb311, 1, none⟩ = some (.int .u64 (IntKind.u64.wrap (x10_2))) ∧ w37.cell? (ad315.add ((x10_2).toNat * 2)) = some (.int .u64 ((rd_T37 x7_1 x10_2).f0)) ∧ w37.cell? ⟨(ad315.add ((x10_2).toNat * 2)).block, (ad315.add ((x10_2).toNat * 2)).off + 1, none⟩ = some (.int .u64 ((rd_T37 x7_1 x10_2).f1)) ∧ w37.cell? (ad315.add (((ji13)).toNat * 2)) = some (.int .u64 ((rd_T37 x7_1 (ji13)).f0)) ∧ w37.cell? ⟨(ad315.add (((ji13)).toNat * 2)).block, (ad315.add (((ji13)).toNat * 2)).off + 1, none⟩ = some (.int .u64 ((rd_T37 x7_1 (ji13)).f1)) := hS_
                refine norm_ (a' := ?_) ?_ ?_
                rotate_left
                ·simp only [putAll, Act.put, List.setIfInBounds_toArray, List.set_cons_zero, List.set_cons_succ]
                 rfl
                refine one_ (i := 16) (N := some 52) #[true, true, true, true, true, true, true, true, true, true, true, true, true, true, true, true, true, false, true, false] rfl rfl (one_of HT_.out (by kernel_rfl)) (by decide) (fun K hK => ?_)
                refine goes_ Try.func35 (by kernel_rfl) rfl #[.agg #[.int .u64 t318, .int .u64 t319], .agg #[.int .u64 ((rd_T37 x7_1 (ji13)).f0), .int .u64 ((rd_T37 x7_1 (ji13)).f1)]] (by rfl) rfl rfl (by (try simp only [List.map_toArray, List.map_cons, List.map_nil]); first | done | (simp only [hji13]; rfl) | rfl | (simp only [List.length_drop, List.length_take]; rfl)) ?_
                with_reducible refine (steepleref02_Product.calls k2 t318 t319 ((rd_T37 x7_1 (ji13)).f0) ((rd_T37 x7_1 (ji13)).f1) t321 t322 _ A15.out).mono ?_
                rintro e w38 ⟨rfl, hb⟩
                have HS6_ := (hb.cell (World.block_lt_of_cell? _ _ (hHeld.2.2.2.2.2.2.1))).trans (hHeld.2.2.2.2.2.2.1)
                have HS7_ := (hb.cell (World.block_lt_of_cell? _ _ (hHeld.2.2.2.2.2.2.2.1))).trans (hHeld.2.2.2.2.2.2.2.1)
                have HS8_ := (hb.cell (World.block_lt_of_cell? _ _ (hHeld.2.2.2.2.2.2.2.2.1))).trans (hHeld.2.2.2.2.2.2.2.2.1)
                have HS9_ := (hb.cell (World.block_lt_of_cell? _ _ (hHeld.2.2.2.2.2.2.2.2.2))).trans (hHeld.2.2.2.2.2.2.2.2.2)
                refine ⟨_, rfl, ?_⟩
                replace HO_1 := Aside0.mk (Kd.V_below (by (with_reducible repeat (first | apply Kd.V_alloc | apply Kd.V_drewN | apply Kd.V_drew)); exact HO_1.out) hb)
                replace HO_7 := Aside0.mk (Kd.V_below (by (with_reducible repeat (first | apply Kd.V_alloc | apply Kd.V_drewN | apply Kd.V_drew)); exact HO_7.out) hb)
                replace HO_9 := kb HO_9 hb
                replace BK308 := bb BK308 hb
                replace BK309 := bb BK309 hb
                replace BK311 := bb BK311 hb
                replace BK312 := bb BK312 hb
                replace BK325 := bb BK325 hb
                replace HB := bh HB hb
                (try clear hb)
                (try clear hb2)
                (try clear hk)
                (try clear hi)
                refine hK.out _ _ ⟨(blk_cell BK308.out 0).trans rfl, (blk_cell BK308.out 1).trans rfl, (blk_cell BK312.out 0).trans rfl, (blk_cell BK312.out 1).trans rfl, (blk_cell BK311.out 0).trans rfl, (blk_cell BK311.out 1).trans rfl, HS6_, HS7_, HS8_, HS9_⟩ (fun hHeld => ?_)
                clear hK K
                refine norm_ (a' := ?_) ?_ ?_
                rotate_left
                ·show Act.put _ (some 52) _ = _
                 simp only [Act.put, List.setIfInBounds_toArray, List.set_cons_zero, List.set_cons_succ, i64_w, i32_w]
                 rfl
                exact norm_ (by first | (simp only [putAll, Act.put, List.setIfInBounds_toArray, List.set_cons_zero, List.set_cons_succ]; done) | (simp only [putAll, Act.put, List.setIfInBounds_toArray, List.set_cons_zero, List.set_cons_succ]; rfl)) (hJ2_7_10_16_18 (gb325) _ ⟨hHeld, (by (with_reducible repeat (first | apply Kd.V_alloc | apply Kd.V_drewN | apply Kd.V_drew)); exact HO_1.out), (by (with_reducible repeat (first | apply Kd.V_alloc | apply Kd.V_drewN | apply Kd.V_drew)); exact HO_7.out), (kr HO_9.out), (bk BK308.out), (bk BK309.out), (bk BK311.out), (bk BK312.out), (bk BK325.out), GW325.out, GE325.out, NB308_325.out, NB325_308.out, NB309_325.out, NB325_309.out, NB311_325.out, NB325_311.out, NB312_325.out, NB325_312.out, (bq HB.out)⟩)
              ·skip
               rintro _ w37 ⟨hS_, h0_, h1_, h2_, h3_, h4_, h5_, h6_, h7_⟩
               have n0_ : Aside0 (Kd.V k37 37 w37 w.heap.size (fun k_ => (P1_ k_ ∨ w.heap.size ≤ k_) ∧ some k_ ≠ (u9 : Value).ownBlock ∧ k_ ≠ gb308 ∧ k_ ≠ gb309 ∧ k_ ≠ gb311 ∧ k_ ≠ gb312) (.slice A1 l1.length c1) l1) := ⟨h0_⟩
               have n1_ : Aside0 (Kd.V k37 37 w37 w.heap.size (fun k_ => (P1_ k_ ∨ w.heap.size ≤ k_) ∧ some k_ ≠ (u9 : Value).ownBlock ∧ k_ ≠ gb308 ∧ k_ ≠ gb309 ∧ k_ ≠ gb311 ∧ k_ ≠ gb312) (.slice (some ad315) x7_1.length co21) x7_1) := ⟨h1_⟩
               have n2_ : Aside0 (Kd.R k37 37 w37 w.heap.size (fun k_ => (w.heap.size ≤ k_) ∧ k_ ≠ gb308 ∧ k_ ≠ gb309 ∧ k_ ≠ gb311 ∧ k_ ≠ gb312) u9 x9_2) := ⟨h2_⟩
               have n3_ : Aside0 (w37.heap[gb308]? = some (.cells #[.int .u64 a2_0, .int .u64 a2_1] 37 (0, 0))) := ⟨h3_⟩
               have n4_ : Aside0 (w37.heap[gb309]? = some (.cells #[.int .u64 0, .int .u64 0] 37 (0, 0))) := ⟨h4_⟩
               have n5_ : Aside0 (w37.heap[gb311]? = some (.cells #[.int .u64 0, .int .u64 (IntKind.u64.wrap (x10_2))] 37 (0, 0))) := ⟨h5_⟩
               have n6_ : Aside0 (w37.heap[gb312]? = some (.cells #[.int .u64 0, .int .u64 (IntKind.u64.wrap (wrap64 (x10_2 + x8_1)))] 37 (0, 0))) := ⟨h6_⟩
               have n7_ : Aside0 (Below w.heap.size w w37) := ⟨h7_⟩
               clear HO_1
               clear HO_7
               clear HO_9
               clear BK308
               clear BK309
               clear BK311
               clear BK312
               clear HB
               clear h0_ h1_ h2_ h3_ h4_ h5_ h6_ h7_
               have HO_1 := n0_
               have HO_7 := n1_
               have HO_9 := n2_
               have BK308 := n3_
               have BK309 := n4_
               have BK311 := n5_
               have BK312 := n6_
               have HB := n7_
               clear n0_ n1_ n2_ n3_ n4_ n5_ n6_ n7_
               have hHeld : w37.cell? ⟨gb308, 0, none⟩ = some (.int .u64 a2_0) ∧ w37.cell? ⟨gb308, 1, none⟩ = some (.int .u64 a2_1) ∧ w37.cell? ⟨gb312, 0, none⟩ = some (.int .u64 0) ∧ w37.cell? ⟨gb312, 1, none⟩ = some (.int .u64 (IntKind.u64.wrap (wrap64 (x10_2 + x8_1)))) ∧ w37.cell? ⟨gb311, 0, none⟩ = some (.int .u64 0) ∧ w37.cell? ⟨gb311, 1, none⟩ = some (.int .u64 (IntKind.u64.wrap (x10_2))) ∧ w37.cell? (ad315.add ((x10_2).toNat * 2)) = some (.int .u64 ((rd_T37 x7_1 x10_2).f0)) ∧ w37.cell? ⟨(ad315.add ((x10_2).toNat * 2)).block, (ad315.add ((x10_2).toNat * 2)).off + 1, none⟩ = some (.int .u64 ((rd_T37 x7_1 x10_2).f1)) ∧ w37.cell? (ad315.add (((ji13)).toNat * 2)) = some (.int .u64 ((rd_T37 x7_1 (ji13)).f0)) ∧ w37.cell? ⟨(ad315.add (((ji13)).toNat * 2)).block, (ad315.add (((ji13)).toNat * 2)).off + 1, none⟩ = some (.int .u64 ((rd_T37 x7_1 (ji13)).f1)) := hS_
               refine norm_ (a' := ?_) ?_ ?_
               rotate_left
               ·simp only [putAll, Act.put, List.setIfInBounds_toArray, List.set_cons_zero, List.set_cons_succ]
                rfl
               refine two_ (i := 17) (j := 18) (Ni := some 53) (Nj := some 13) #[true, true, true, true, true, true, true, true, true, true, true, true, true, true, true, true, true, true, false, false] #[true, true, true, true, true, true, true, true, true, true, true, true, true, true, true, true, true, false, true, false] rfl rfl rfl rfl (two_of HT_.out (by kernel_rfl)) (by decide) (by decide) (fun K hK => ?_) (fun K hK => ?_)
               ·skip
                refine goes_ Try.func14 (by kernel_rfl) rfl #[.agg #[.int .u64 t316, .int .u64 t317], .agg #[.int .u64 t321, .int .u64 t322]] (by rfl) rfl rfl (by (try simp only [List.map_toArray, List.map_cons, List.map_nil]); first | done | rfl | (simp only [List.length_drop, List.length_take]; rfl)) ?_
                with_reducible refine (steepleref02_Add.calls t316 t317 t321 t322 t323 t324 _ A16.out).mono ?_
                rintro e w38 ⟨rfl, hb⟩
                have HS6_ := (hb.cell (World.block_lt_of_cell? _ _ (hHeld.2.2.2.2.2.2.1))).trans (hHeld.2.2.2.2.2.2.1)
                have HS7_ := (hb.cell (World.block_lt_of_cell? _ _ (hHeld.2.2.2.2.2.2.2.1))).trans (hHeld.2.2.2.2.2.2.2.1)
                have HS8_ := (hb.cell (World.block_lt_of_cell? _ _ (hHeld.2.2.2.2.2.2.2.2.1))).trans (hHeld.2.2.2.2.2.2.2.2.1)
                have HS9_ := (hb.cell (World.block_lt_of_cell? _ _ (hHeld.2.2.2.2.2.2.2.2.2))).trans (hHeld.2.2.2.2.2.2.2.2.2)
                refine ⟨_, rfl, ?_⟩
                replace HO_1 := Aside0.mk (Kd.V_below (by (with_reducible repeat (first | apply Kd.V_alloc | apply Kd.V_drewN | apply Kd.V_drew)); exact HO_1.out) hb)
                replace HO_7 := Aside0.mk (Kd.V_below (by (with_reducible repeat (first | apply Kd.V_alloc | apply Kd.V_drewN | apply Kd.V_drew)); exact HO_7.out) hb)
                replace HO_9 := kb HO_9 hb
                replace BK308 := bb BK308 hb
                replace BK309 := bb BK309 hb
                replace BK311 := bb BK311 hb
                replace BK312 := bb BK312 hb
                replace HB := bh HB hb
                (try clear hb)
                (try clear hb2)
                (try clear hk)
                (try clear hi)
                refine hK.out _ _ ⟨(blk_cell BK308.out 0).trans rfl, (blk_cell BK308.out 1).trans rfl, (blk_cell BK312.out 0).trans rfl, (blk_cell BK312.out 1).trans rfl, (blk_cell BK311.out 0).trans rfl, (blk_cell BK311.out 1).trans rfl, HS6_, HS7_, HS8_, HS9_⟩ (fun hHeld => ?_)
                clear hK K
                refine norm_ (a' := ?_) ?_ ?_
                rotate_left
                ·show Act.put _ (some 53) _ = _
                 simp only [Act.put, List.setIfInBounds_toArray, List.set_cons_zero, List.set_cons_succ, i64_w, i32_w]
                 rfl
                exact norm_ (by first | (simp only [putAll, Act.put, List.setIfInBounds_toArray, List.set_cons_zero, List.set_cons_succ]; done) | (simp only [putAll, Act.put, List.setIfInBounds_toArray, List.set_cons_zero, List.set_cons_succ]; rfl)) (hJ2_7_10_16_17 () _ ⟨hHeld, (by (with_reducible repeat (first | apply Kd.V_alloc | apply Kd.V_drewN | apply Kd.V_drew)); exact HO_1.out), (by (with_reducible repeat (first | apply Kd.V_alloc | apply Kd.V_drewN | apply Kd.V_drew)); exact HO_7.out), (kr HO_9.out), (bk BK308.out), (bk BK309.out), (bk BK311.out), (bk BK312.out), (bq HB.out)⟩)
               ·skip
                refine box_step ?hg (N := 13) ?hd (cs := #[.int .u64 0, .int .u64 0]) (t := 37) ?hr ?_; (case hd => rfl); (case hg => rfl); (case hr => first | (go_simp; done) | (go_simp; rfl))
                intro gb325 hg w38 hbox hb
                have HS6_ := (hb.cell (World.block_lt_of_cell? _ _ (hHeld.2.2.2.2.2.2.1))).trans (hHeld.2.2.2.2.2.2.1)
                have HS7_ := (hb.cell (World.block_lt_of_cell? _ _ (hHeld.2.2.2.2.2.2.2.1))).trans (hHeld.2.2.2.2.2.2.2.1)
                have HS8_ := (hb.cell (World.block_lt_of_cell? _ _ (hHeld.2.2.2.2.2.2.2.2.1))).trans (hHeld.2.2.2.2.2.2.2.2.1)
                have HS9_ := (hb.cell (World.block_lt_of_cell? _ _ (hHeld.2.2.2.2.2.2.2.2.2))).trans (hHeld.2.2.2.2.2.2.2.2.2)
                have BK325 := Aside0.mk hbox
                have GW325 := ge hg HB
                have GE325 := ge hg HB
                have NB308_325 := nl hg BK308
                have NB325_308 := ng hg BK308
                have NB309_325 := nl hg BK309
                have NB325_309 := ng hg BK309
                have NB311_325 := nl hg BK311
                have NB325_311 := ng hg BK311
                have NB312_325 := nl hg BK312
                have NB325_312 := ng hg BK312
                replace HO_1 := Aside0.mk (Kd.V_below (Kd.V_elderB (by (with_reducible repeat (first | apply Kd.V_alloc | apply Kd.V_drewN | apply Kd.V_drew)); exact HO_1.out) gb325 (Nat.le_of_eq hg.symm)) hb)
                replace HO_7 := Aside0.mk (Kd.V_below (Kd.V_elderB (by (with_reducible repeat (first | apply Kd.V_alloc | apply Kd.V_drewN | apply Kd.V_drew)); exact HO_7.out) gb325 (Nat.le_of_eq hg.symm)) hb)
                replace HO_9 := Aside0.mk (Kd.R_below (Kd.R_elderB (kr HO_9.out) gb325 (Nat.le_of_eq hg.symm)) hb)
                replace BK308 := bb BK308 hb
                replace BK309 := bb BK309 hb
                replace BK311 := bb BK311 hb
                replace BK312 := bb BK312 hb
                replace HB := bh HB hb
                clear hb hbox hg
                refine hK.out _ _ ⟨(blk_cell BK308.out 0).trans rfl, (blk_cell BK308.out 1).trans rfl, (blk_cell BK312.out 0).trans rfl, (blk_cell BK312.out 1).trans rfl, (blk_cell BK311.out 0).trans rfl, (blk_cell BK311.out 1).trans rfl, HS6_, HS7_, HS8_, HS9_⟩ (fun hHeld => ?_)
                clear hK K
                refine norm_ (a' := ?_) ?_ ?_
                rotate_left
                ·show Act.put _ (some 13) _ = _
                 simp only [Act.put, List.setIfInBounds_toArray, List.set_cons_zero, List.set_cons_succ, i64_w, i32_w]
                 rfl
                exact norm_ (by first | (simp only [putAll, Act.put, List.setIfInBounds_toArray, List.set_cons_zero, List.set_cons_succ]; done) | (simp only [putAll, Act.put, List.setIfInBounds_toArray, List.set_cons_zero, List.set_cons_succ]; rfl)) (hJ2_7_10_16_18 (gb325) _ ⟨hHeld, (by (with_reducible repeat (first | apply Kd.V_alloc | apply Kd.V_drewN | apply Kd.V_drew)); exact Kd.V_mono HO_1.out (fun _ hk => ⟨hk.1.1, ⟨hk.1.2.1, ⟨hk.1.2.2.1, ⟨hk.1.2.2.2.1, ⟨hk.1.2.2.2.2.1, ⟨hk.1.2.2.2.2.2, hk.2⟩⟩⟩⟩⟩⟩)), (by (with_reducible repeat (first | apply Kd.V_alloc | apply Kd.V_drewN | apply Kd.V_drew)); exact Kd.V_mono HO_7.out (fun _ hk => ⟨hk.1.1, ⟨hk.1.2.1, ⟨hk.1.2.2.1, ⟨hk.1.2.2.2.1, ⟨hk.1.2.2.2.2.1, ⟨hk.1.2.2.2.2.2, hk.2⟩⟩⟩⟩⟩⟩)), (by (with_reducible repeat refine kl ?_); exact Kd.R_mono HO_9.out (fun _ hk => ⟨hk.1.1, ⟨hk.1.2.1, ⟨hk.1.2.2.1, ⟨hk.1.2.2.2.1, ⟨hk.1.2.2.2.2, hk.2⟩⟩⟩⟩⟩)), (bk BK308.out), (bk BK309.out), (bk BK311.out), (bk BK312.out), (bk BK325.out), GW325.out, GE325.out, NB308_325.out, NB325_308.out, NB309_325.out, NB325_309.out, NB311_325.out, NB325_311.out, NB312_325.out, NB325_312.out, (bq HB.out)⟩)
             ·skip
              rintro gb325 w38 ⟨hS_, h0_, h1_, h2_, h3_, h4_, h5_, h6_, h7_, h8_, h9_, h10_, h11_, h12_, h13_, h14_, h15_, h16_, h17_, h18_⟩
              have n0_ : Aside0 (Kd.V k37 37 w38 w.heap.size (fun k_ => (P1_ k_ ∨ w.heap.size ≤ k_) ∧ some k_ ≠ (u9 : Value).ownBlock ∧ k_ ≠ gb308 ∧ k_ ≠ gb309 ∧ k_ ≠ gb311 ∧ k_ ≠ gb312 ∧ k_ ≠ gb325) (.slice A1 l1.length c1) l1) := ⟨h0_⟩
              have n1_ : Aside0 (Kd.V k37 37 w38 w.heap.size (fun k_ => (P1_ k_ ∨ w.heap.size ≤ k_) ∧ some k_ ≠ (u9 : Value).ownBlock ∧ k_ ≠ gb308 ∧ k_ ≠ gb309 ∧ k_ ≠ gb311 ∧ k_ ≠ gb312 ∧ k_ ≠ gb325) (.slice (some ad315) x7_1.length co21) x7_1) := ⟨h1_⟩
              have n2_ : Aside0 (Kd.R k37 37 w38 w.heap.size (fun k_ => (w.heap.size ≤ k_) ∧ k_ ≠ gb308 ∧ k_ ≠ gb309 ∧ k_ ≠ gb311 ∧ k_ ≠ gb312 ∧ k_ ≠ gb325) u9 x9_2) := ⟨h2_⟩
              have n3_ : Aside0 (w38.heap[gb308]? = some (.cells #[.int .u64 a2_0, .int .u64 a2_1] 37 (0, 0))) := ⟨h3_⟩
              have n4_ : Aside0 (w38.heap[gb309]? = some (.cells #[.int .u64 0, .int .u64 0] 37 (0, 0))) := ⟨h4_⟩
              have n5_ : Aside0 (w38.heap[gb311]? = some (.cells #[.int .u64 0, .int .u64 (IntKind.u64.wrap (x10_2))] 37 (0, 0))) := ⟨h5_⟩
              have n6_ : Aside0 (w38.heap[gb312]? = some (.cells #[.int .u64 0, .int .u64 (IntKind.u64.wrap (wrap64 (x10_2 + x8_1)))] 37 (0, 0))) := ⟨h6_⟩
              have n7_ : Aside0 (w38.heap[gb325]? = some (.cells #[.int .u64 0, .int .u64 0] 37 (0, 0))) := ⟨h7_⟩
              have n8_ : Aside0 (w.heap.size ≤ gb325) := ⟨h8_⟩
              have n9_ : Aside0 (w.heap.size ≤ gb325) := ⟨h9_⟩
              have n10_ : Aside0 (gb308 ≠ gb325) := ⟨h10_⟩
              have n11_ : Aside0 (gb325 ≠ gb308) := ⟨h11_⟩
              have n12_ : Aside0 (gb309 ≠ gb325) := ⟨h12_⟩
              have n13_ : Aside0 (gb325 ≠ gb309) := ⟨h13_⟩
              have n14_ : Aside0 (gb311 ≠ gb325) := ⟨h14_⟩
              have n15_ : Aside0 (gb325 ≠ gb311) := ⟨h15_⟩
              have n16_ : Aside0 (gb312 ≠ gb325) := ⟨h16_⟩
              have n17_ : Aside0 (gb325 ≠ gb312) := ⟨h17_⟩
              have n18_ : Aside0 (Below w.heap.size w w38) := ⟨h18_⟩
              clear HO_1
              clear HO_7
              clear HO_9
              clear BK308
              clear BK309
              clear BK311
              clear BK312
              clear HB
              clear h0_ h1_ h2_ h3_ h4_ h5_ h6_ h7_ h8_ h9_ h10_ h11_ h12_ h13_ h14_ h15_ h16_ h17_ h18_
              have HO_1 := n0_
              have HO_7 := n1_
              have HO_9 := n2_
              have BK308 := n3_
              have BK309 := n4_
              have BK311 := n5_
              have BK312 := n6_
              have BK325 := n7_
              have GW325 := Aside1.mk n8_.out
              have GE325 := Aside1.mk n9_.out
              have NB308_325 := n10_
              have NB325_308 := n11_
              have NB309_325 := n12_
              have NB325_309 := n13_
              have NB311_325 := n14_
              have NB325_311 := n15_
              have NB312_325 := n16_
              have NB325_312 := n17_
              have HB := n18_
              clear n0_ n1_ n2_ n3_ n4_ n5_ n6_ n7_ n8_ n9_ n10_ n11_ n12_ n13_ n14_ n15_ n16_ n17_ n18_
              have hHeld : w38.cell? ⟨gb308, 0, none⟩ = some (.int .u64 a2_0) ∧ w38.cell? ⟨gb308, 1, none⟩ = some (.int .u64 a2_1) ∧ w38.cell? ⟨gb312, 0, none⟩ = some (.int .u64 0) ∧ w38.cell? ⟨gb312, 1, none⟩ = some (.int .u64 (IntKind.u64.wrap (wrap64 (x10_2 + x8_1)))) ∧ w38.cell? ⟨gb311, 0, none⟩ = some (.int .u64 0) ∧ w38.cell? ⟨gb311, 1, none⟩ = some (.int .u64 (IntKind.u64.wrap (x10_2))) ∧ w38.cell? (ad315.add ((x10_2).toNat * 2)) = some (.int .u64 ((rd_T37 x7_1 x10_2).f0)) ∧ w38.cell? ⟨(ad315.add ((x10_2).toNat * 2)).block, (ad315.add ((x10_2).toNat * 2)).off + 1, none⟩ = some (.int .u64 ((rd_T37 x7_1 x10_2).f1)) ∧ w38.cell? (ad315.add (((ji13)).toNat * 2)) = some (.int .u64 ((rd_T37 x7_1 (ji13)).f0)) ∧ w38.cell? ⟨(ad315.add (((ji13)).toNat * 2)).block, (ad315.add (((ji13)).toNat * 2)).off + 1, none⟩ = some (.int .u64 ((rd_T37 x7_1 (ji13)).f1)) := hS_
              refine norm_ (a' := ?_) ?_ ?_
              rotate_left
              ·simp only [putAll, Act.put, List.setIfInBounds_toArray, List.set_cons_zero, List.set_cons_succ]
               rfl
              refine one_ (i := 17) (N := some 53) #[true, true, true, true, true, true, true, true, true, true, true, true, true, true, true, true, true, true, true, false] rfl rfl (one_of HT_.out (by kernel_rfl)) (by decide) (fun K hK => ?_)
              refine goes_ Try.func14 (by kernel_rfl) rfl #[.agg #[.int .u64 t316, .int .u64 t317], .agg #[.int .u64 t321, .int .u64 t322]] (by rfl) rfl rfl (by (try simp only [List.map_toArray, List.map_cons, List.map_nil]); first | done | rfl | (simp only [List.length_drop, List.length_take]; rfl)) ?_
              with_reducible refine (steepleref02_Add.calls t316 t317 t321 t322 t323 t324 _ A16.out).mono ?_
              rintro e w39 ⟨rfl, hb⟩
              have HS6_ := (hb.cell (World.block_lt_of_cell? _ _ (hHeld.2.2.2.2.2.2.1))).trans (hHeld.2.2.2.2.2.2.1)
              have HS7_ := (hb.cell (World.block_lt_of_cell? _ _ (hHeld.2.2.2.2.2.2.2.1))).trans (hHeld.2.2.2.2.2.2.2.1)
              have HS8_ := (hb.cell (World.block_lt_of_cell? _ _ (hHeld.2.2.2.2.2.2.2.2.1))).trans (hHeld.2.2.2.2.2.2.2.2.1)
              have HS9_ := (hb.cell (World.block_lt_of_cell? _ _ (hHeld.2.2.2.2.2.2.2.2.2))).trans (hHeld.2.2.2.2.2.2.2.2.2)
              refine ⟨_, rfl, ?_⟩
              replace HO_1 := Aside0.mk (Kd.V_below (by (with_reducible repeat (first | apply Kd.V_alloc | apply Kd.V_drewN | apply Kd.V_drew)); exact HO_1.out) hb)
              replace HO_7 := Aside0.mk (Kd.V_below (by (with_reducible repeat (first | apply Kd.V_alloc | apply Kd.V_drewN | apply Kd.V_drew)); exact HO_7.out) hb)
              replace HO_9 := kb HO_9 hb
              replace BK308 := bb BK308 hb
              replace BK309 := bb BK309 hb
              replace BK311 := bb BK311 hb
              replace BK312 := bb BK312 hb
              replace BK325 := bb BK325 hb
              replace HB := bh HB hb
              (try clear hb)
              (try clear hb2)
              (try clear hk)
              (try clear hi)
              refine hK.out _ _ ⟨(blk_cell BK308.out 0).trans rfl, (blk_cell BK308.out 1).trans rfl, (blk_cell BK312.out 0).trans rfl, (blk_cell BK312.out 1).trans rfl, (blk_cell BK311.out 0).trans rfl, (blk_cell BK311.out 1).trans rfl, HS6_, HS7_, HS8_, HS9_⟩ (fun hHeld => ?_)
              clear hK K
              refine norm_ (a' := ?_) ?_ ?_
              rotate_left
              ·show Act.put _ (some 53) _ = _
               simp only [Act.put, List.setIfInBounds_toArray, List.set_cons_zero, List.set_cons_succ, i64_w, i32_w]
               rfl
              exact norm_ (by first | (simp only [putAll, Act.put, List.setIfInBounds_toArray, List.set_cons_zero, List.set_cons_succ]; done) | (simp only [putAll, Act.put, List.setIfInBounds_toArray, List.set_cons_zero, List.set_cons_succ]; rfl)) (hJ2_7_10_16_17_18 (gb325) _ ⟨hHeld, (by (with_reducible repeat (first | apply Kd.V_alloc | apply Kd.V_drewN | apply Kd.V_drew)); exact HO_1.out), (by (with_reducible repeat (first | apply Kd.V_alloc | apply Kd.V_drewN | apply Kd.V_drew)); exact HO_7.out), (kr HO_9.out), (bk BK308.out), (bk BK309.out), (bk BK311.out), (bk BK312.out), (bk BK325.out), GW325.out, GE325.out, NB308_325.out, NB325_308.out, NB309_325.out, NB325_309.out, NB311_325.out, NB325_311.out, NB312_325.out, NB325_312.out, (bq HB.out)⟩)
            ·skip
             rintro _ w38 ⟨hS_, h0_, h1_, h2_, h3_, h4_, h5_, h6_, h7_⟩
             have n0_ : Aside0 (Kd.V k37 37 w38 w.heap.size (fun k_ => (P1_ k_ ∨ w.heap.size ≤ k_) ∧ some k_ ≠ (u9 : Value).ownBlock ∧ k_ ≠ gb308 ∧ k_ ≠ gb309 ∧ k_ ≠ gb311 ∧ k_ ≠ gb312) (.slice A1 l1.length c1) l1) := ⟨h0_⟩
             have n1_ : Aside0 (Kd.V k37 37 w38 w.heap.size (fun k_ => (P1_ k_ ∨ w.heap.size ≤ k_) ∧ some k_ ≠ (u9 : Value).ownBlock ∧ k_ ≠ gb308 ∧ k_ ≠ gb309 ∧ k_ ≠ gb311 ∧ k_ ≠ gb312) (.slice (some ad315) x7_1.length co21) x7_1) := ⟨h1_⟩
             have n2_ : Aside0 (Kd.R k37 37 w38 w.heap.size (fun k_ => (w.heap.size ≤ k_) ∧ k_ ≠ gb308 ∧ k_ ≠ gb309 ∧ k_ ≠ gb311 ∧ k_ ≠ gb312) u9 x9_2) := ⟨h2_⟩
             have n3_ : Aside0 (w38.heap[gb308]? = some (.cells #[.int .u64 a2_0, .int .u64 a2_1] 37 (0, 0))) := ⟨h3_⟩
             have n4_ : Aside0 (w38.heap[gb309]? = some (.cells #[.int .u64 0, .int .u64 0] 37 (0, 0))) := ⟨h4_⟩
             have n5_ : Aside0 (w38.heap[gb311]? = some (.cells #[.int .u64 0, .int .u64 (IntKind.u64.wrap (x10_2))] 37 (0, 0))) := ⟨h5_⟩
             have n6_ : Aside0 (w38.heap[gb312]? = some (.cells #[.int .u64 0, .int .u64 (IntKind.u64.wrap (wrap64 (x10_2 + x8_1)))] 37 (0, 0))) := ⟨h6_⟩
             have n7_ : Aside0 (Below w.heap.size w w38) := ⟨h7_⟩
             clear HO_1
             clear HO_7
             clear HO_9
             clear BK308
             clear BK309
             clear BK311
             clear BK312
             clear HB
             clear h0_ h1_ h2_ h3_ h4_ h5_ h6_ h7_
             have HO_1 := n0_
             have HO_7 := n1_
             have HO_9 := n2_
             have BK308 := n3_
             have BK309 := n4_
             have BK311 := n5_
             have BK312 := n6_
             have HB := n7_
             clear n0_ n1_ n2_ n3_ n4_ n5_ n6_ n7_
             have hHeld : w38.cell? ⟨gb308, 0, none⟩ = some (.int .u64 a2_0) ∧ w38.cell? ⟨gb308, 1, none⟩ = some (.int .u64 a2_1) ∧ w38.cell? ⟨gb312, 0, none⟩ = some (.int .u64 0) ∧ w38.cell? ⟨gb312, 1, none⟩ = some (.int .u64 (IntKind.u64.wrap (wrap64 (x10_2 + x8_1)))) ∧ w38.cell? ⟨gb311, 0, none⟩ = some (.int .u64 0) ∧ w38.cell? ⟨gb311, 1, none⟩ = some (.int .u64 (IntKind.u64.wrap (x10_2))) ∧ w38.cell? (ad315.add ((x10_2).toNat * 2)) = some (.int .u64 ((rd_T37 x7_1 x10_2).f0)) ∧ w38.cell? ⟨(ad315.add ((x10_2).toNat * 2)).block, (ad315.add ((x10_2).toNat * 2)).off + 1, none⟩ = some (.int .u64 ((rd_T37 x7_1 x10_2).f1)) ∧ w38.cell? (ad315.add (((ji13)).toNat * 2)) = some (.int .u64 ((rd_T37 x7_1 (ji13)).f0)) ∧ w38.cell? ⟨(ad315.add (((ji13)).toNat * 2)).block, (ad315.add (((ji13)).toNat * 2)).off + 1, none⟩ = some (.int .u64 ((rd_T37 x7_1 (ji13)).f1)) := hS_
             refine norm_ (a' := ?_) ?_ ?_
             rotate_left
             ·simp only [putAll, Act.put, List.setIfInBounds_toArray, List.set_cons_zero, List.set_cons_succ]
              rfl
             refine one_ (i := 18) (N := some 13) #[true, true, true, true, true, true, true, true, true, true, true, true, true, true, true, true, true, true, true, false] rfl rfl (one_of HT_.out (by kernel_rfl)) (by decide) (fun K hK => ?_)
             refine box_step ?hg (N := 13) ?hd (cs := #[.int .u64 0, .int .u64 0]) (t := 37) ?hr ?_; (case hd => rfl); (case hg => rfl); (case hr => first | (go_simp; done) | (go_simp; rfl))
             intro gb325 hg w39 hbox hb
             have HS6_ := (hb.cell (World.block_lt_of_cell? _ _ (hHeld.2.2.2.2.2.2.1))).trans (hHeld.2.2.2.2.2.2.1)
             have HS7_ := (hb.cell (World.block_lt_of_cell? _ _ (hHeld.2.2.2.2.2.2.2.1))).trans (hHeld.2.2.2.2.2.2.2.1)
             have HS8_ := (hb.cell (World.block_lt_of_cell? _ _ (hHeld.2.2.2.2.2.2.2.2.1))).trans (hHeld.2.2.2.2.2.2.2.2.1)
             have HS9_ := (hb.cell (World.block_lt_of_cell? _ _ (hHeld.2.2.2.2.2.2.2.2.2))).trans (hHeld.2.2.2.2.2.2.2.2.2)
             have BK325 := Aside0.mk hbox
             have GW325 := ge hg HB
             have GE325 := ge hg HB
             have NB308_325 := nl hg BK308
             have NB325_308 := ng hg BK308
             have NB309_325 := nl hg BK309
             have NB325_309 := ng hg BK309
             have NB311_325 := nl hg BK311
             have NB325_311 := ng hg BK311
             have NB312_325 := nl hg BK312
             have NB325_312 := ng hg BK312
             replace HO_1 := Aside0.mk (Kd.V_below (Kd.V_elderB (by (with_reducible repeat (first | apply Kd.V_alloc | apply Kd.V_drewN | apply Kd.V_drew)); exact HO_1.out) gb325 (Nat.le_of_eq hg.symm)) hb)
             replace HO_7 := Aside0.mk (Kd.V_below (Kd.V_elderB (by (with_reducible repeat (first | apply Kd.V_alloc | apply Kd.V_drewN | apply Kd.V_drew)); exact HO_7.out) gb325 (Nat.le_of_eq hg.symm)) hb)
             replace HO_9 := Aside0.mk (Kd.R_below (Kd.R_elderB (kr HO_9.out) gb325 (Nat.le_of_eq hg.symm)) hb)
             replace BK308 := bb BK308 hb
             replace BK309 := bb BK309 hb
             replace BK311 := bb BK311 hb
             replace BK312 := bb BK312 hb
             replace HB := bh HB hb
             clear hb hbox hg
             refine hK.out _ _ ⟨(blk_cell BK308.out 0).trans rfl, (blk_cell BK308.out 1).trans rfl, (blk_cell BK312.out 0).trans rfl, (blk_cell BK312.out 1).trans rfl, (blk_cell BK311.out 0).trans rfl, (blk_cell BK311.out 1).trans rfl, HS6_, HS7_, HS8_, HS9_⟩ (fun hHeld => ?_)
             clear hK K
             refine norm_ (a' := ?_) ?_ ?_
             rotate_left
             ·show Act.put _ (some 13) _ = _
              simp only [Act.put, List.setIfInBounds_toArray, List.set_cons_zero, List.set_cons_succ, i64_w, i32_w]
              rfl
             exact norm_ (by first | (simp only [putAll, Act.put, List.setIfInBounds_toArray, List.set_cons_zero, List.set_cons_succ]; done) | (simp only [putAll, Act.put, List.setIfInBounds_toArray, List.set_cons_zero, List.set_cons_succ]; rfl)) (hJ2_7_10_16_17_18 (gb325) _ ⟨hHeld, (by (with_reducible repeat (first | apply Kd.V_alloc | apply Kd.V_drewN | apply Kd.V_drew)); exact Kd.V_mono HO_1.out (fun _ hk => ⟨hk.1.1, ⟨hk.1.2.1, ⟨hk.1.2.2.1, ⟨hk.1.2.2.2.1, ⟨hk.1.2.2.2.2.1, ⟨hk.1.2.2.2.2.2, hk.2⟩⟩⟩⟩⟩⟩)), (by (with_reducible repeat (first | apply Kd.V_alloc | apply Kd.V_drewN | apply Kd.V_drew)); exact Kd.V_mono HO_7.out (fun _ hk => ⟨hk.1.1, ⟨hk.1.2.1, ⟨hk.1.2.2.1, ⟨hk.1.2.2.2.1, ⟨hk.1.2.2.2.2.1, ⟨hk.1.2.2.2.2.2, hk.2⟩⟩⟩⟩⟩⟩)), (by (with_reducible repeat refine kl ?_); exact Kd.R_mono HO_9.out (fun _ hk => ⟨hk.1.1, ⟨hk.1.2.1, ⟨hk.1.2.2.1, ⟨hk.1.2.2.2.1, ⟨hk.1.2.2.2.2, hk.2⟩⟩⟩⟩⟩)), (bk BK308.out), (bk BK309.out), (bk BK311.out), (bk BK312.out), (bk BK325.out), GW325.out, GE325.out, NB308_325.out, NB325_308.out, NB309_325.out, NB325_309.out, NB311_325.out, NB325_311.out, NB312_325.out, NB325_312.out, (bq HB.out)⟩)
           rintro gb325 w39 ⟨hS_, h0_, h1_, h2_, h3_, h4_, h5_, h6_, h7_, h8_, h9_, h10_, h11_, h12_, h13_, h14_, h15_, h16_, h17_, h18_⟩
           have n0_ : Aside0 (Kd.V k37 37 w39 w.heap.size (fun k_ => (P1_ k_ ∨ w.heap.size ≤ k_) ∧ some k_ ≠ (u9 : Value).ownBlock ∧ k_ ≠ gb308 ∧ k_ ≠ gb309 ∧ k_ ≠ gb311 ∧ k_ ≠ gb312 ∧ k_ ≠ gb325) (.slice A1 l1.length c1) l1) := ⟨h0_⟩
           have n1_ : Aside0 (Kd.V k37 37 w39 w.heap.size (fun k_ => (P1_ k_ ∨ w.heap.size ≤ k_) ∧ some k_ ≠ (u9 : Value).ownBlock ∧ k_ ≠ gb308 ∧ k_ ≠ gb309 ∧ k_ ≠ gb311 ∧ k_ ≠ gb312 ∧ k_ ≠ gb325) (.slice (some ad315) x7_1.length co21) x7_1) := ⟨h1_⟩
           have n2_ : Aside0 (Kd.R k37 37 w39 w.heap.size (fun k_ => (w.heap.size ≤ k_) ∧ k_ ≠ gb308 ∧ k_ ≠ gb309 ∧ k_ ≠ gb311 ∧ k_ ≠ gb312 ∧ k_ ≠ gb325) u9 x9_2) := ⟨h2_⟩
           have n3_ : Aside0 (w39.heap[gb308]? = some (.cells #[.int .u64 a2_0, .int .u64 a2_1] 37 (0, 0))) := ⟨h3_⟩
           have n4_ : Aside0 (w39.heap[gb309]? = some (.cells #[.int .u64 0, .int .u64 0] 37 (0, 0))) := ⟨h4_⟩
           have n5_ : Aside0 (w39.heap[gb311]? = some (.cells #[.int .u64 0, .int .u64 (IntKind.u64.wrap (x10_2))] 37 (0, 0))) := ⟨h5_⟩
           have n6_ : Aside0 (w39.heap[gb312]? = some (.cells #[.int .u64 0, .int .u64 (IntKind.u64.wrap (wrap64 (x10_2 + x8_1)))] 37 (0, 0))) := ⟨h6_⟩
           have n7_ : Aside0 (w39.heap[gb325]? = some (.cells #[.int .u64 0, .int .u64 0] 37 (0, 0))) := ⟨h7_⟩
           have n8_ : Aside0 (w.heap.size ≤ gb325) := ⟨h8_⟩
           have n9_ : Aside0 (w.heap.size ≤ gb325) := ⟨h9_⟩
           have n10_ : Aside0 (gb308 ≠ gb325) := ⟨h10_⟩
           have n11_ : Aside0 (gb325 ≠ gb308) := ⟨h11_⟩
           have n12_ : Aside0 (gb309 ≠ gb325) := ⟨h12_⟩
           have n13_ : Aside0 (gb325 ≠ gb309) := ⟨h13_⟩
           have n14_ : Aside0 (gb311 ≠ gb325) := ⟨h14_⟩
           have n15_ : Aside0 (gb325 ≠ gb311) := ⟨h15_⟩
           have n16_ : Aside0 (gb312 ≠ gb325) := ⟨h16_⟩
           have n17_ : Aside0 (gb325 ≠ gb312) := ⟨h17_⟩
           have n18_ : Aside0 (Below w.heap.size w w39) := ⟨h18_⟩
           clear HO_1
           clear HO_7
           clear HO_9
           clear BK308
           clear BK309
           clear BK311
           clear BK312
           clear HB
           clear h0_ h1_ h2_ h3_ h4_ h5_ h6_ h7_ h8_ h9_ h10_ h11_ h12_ h13_ h14_ h15_ h16_ h17_ h18_
           have HO_1 := n0_
           have HO_7 := n1_
           have HO_9 := n2_
           have BK308 := n3_
           have BK309 := n4_
           have BK311 := n5_
           have BK312 := n6_
           have BK325 := n7_
           have GW325 := Aside1.mk n8_.out
           have GE325 := Aside1.mk n9_.out
           have NB308_325 := n10_
           have NB325_308 := n11_
           have NB309_325 := n12_
           have NB325_309 := n13_
           have NB311_325 := n14_
           have NB325_311 := n15_
           have NB312_325 := n16_
           have NB325_312 := n17_
           have HB := n18_
           clear n0_ n1_ n2_ n3_ n4_ n5_ n6_ n7_ n8_ n9_ n10_ n11_ n12_ n13_ n14_ n15_ n16_ n17_ n18_
           have hHeld : w39.cell? ⟨gb308, 0, none⟩ = some (.int .u64 a2_0) ∧ w39.cell? ⟨gb308, 1, none⟩ = some (.int .u64 a2_1) ∧ w39.cell? ⟨gb312, 0, none⟩ = some (.int .u64 0) ∧ w39.cell? ⟨gb312, 1, none⟩ = some (.int .u64 (IntKind.u64.wrap (wrap64 (x10_2 + x8_1)))) ∧ w39.cell? ⟨gb311, 0, none⟩ = some (.int .u64 0) ∧ w39.cell? ⟨gb311, 1, none⟩ = some (.int .u64 (IntKind.u64.wrap (x10_2))) ∧ w39.cell? (ad315.add ((x10_2).toNat * 2)) = some (.int .u64 ((rd_T37 x7_1 x10_2).f0)) ∧ w39.cell? ⟨(ad315.add ((x10_2).toNat * 2)).block, (ad315.add ((x10_2).toNat * 2)).off + 1, none⟩ = some (.int .u64 ((rd_T37 x7_1 x10_2).f1)) ∧ w39.cell? (ad315.add (((ji13)).toNat * 2)) = some (.int .u64 ((rd_T37 x7_1 (ji13)).f0)) ∧ w39.cell? ⟨(ad315.add (((ji13)).toNat * 2)).block, (ad315.add (((ji13)).toNat * 2)).off + 1, none⟩ = some (.int .u64 ((rd_T37 x7_1 (ji13)).f1)) := hS_
           refine norm_ (a' := ?_) ?_ ?_
           rotate_left
           ·simp only [putAll, Act.put, List.setIfInBounds_toArray, List.set_cons_zero, List.set_cons_succ]
            rfl
           refine one_ (i := 19) (N := none) #[true, true, true, true, true, true, true, true, true, true, true, true, true, true, true, true, true, true, true, true] rfl rfl (one_of HT_.out (by kernel_rfl)) (by decide) (fun K hK => ?_)
           have hs40 : w39.cell? ⟨gb325, 0, none⟩ = some (.int .u64 0) := (blk_cell BK325.out 0).trans rfl
           have hfs40 := blk_frozen BK325.out 0
           have hns40_0 := NB308_325.out
           have hns40_1 := NB309_325.out
           have hns40_2 := NB311_325.out
           have hns40_3 := NB312_325.out
           have hms40_0 := NB325_308.out
           have hms40_1 := NB325_309.out
           have hms40_2 := NB325_311.out
           have hms40_3 := NB325_312.out
           have hs41 : w39.cell? ⟨gb325, 1, none⟩ = some (.int .u64 0) := (blk_cell BK325.out 1).trans rfl
           have hfs41 := blk_frozen BK325.out 1
           have hns41_0 := NB308_325.out
           have hns41_1 := NB309_325.out
           have hns41_2 := NB311_325.out
           have hns41_3 := NB312_325.out
           have hms41_0 := NB325_308.out
           have hms41_1 := NB325_309.out
           have hms41_2 := NB325_311.out
           have hms41_3 := NB325_312.out
           refine skip_ (w1 := ?_) (by rfl) rfl ?_ ?_
           rotate_left
           ·go_simp
            rfl
           refine hK.out _ _ ⟨((cell_far (p := ⟨gb325, _, none⟩) NB308_325.out _).trans (((cell_far (p := ⟨gb325, _, none⟩) NB308_325.out _).trans (hHeld.1)))), ((cell_far (p := ⟨gb325, _, none⟩) NB308_325.out _).trans (((cell_far (p := ⟨gb325, _, none⟩) NB308_325.out _).trans (hHeld.2.1)))), ((cell_far (p := ⟨gb325, _, none⟩) NB312_325.out _).trans (((cell_far (p := ⟨gb325, _, none⟩) NB312_325.out _).trans (hHeld.2.2.1)))), ((cell_far (p := ⟨gb325, _, none⟩) NB312_325.out _).trans (((cell_far (p := ⟨gb325, _, none⟩) NB312_325.out _).trans (hHeld.2.2.2.1)))), ((cell_far (p := ⟨gb325, _, none⟩) NB311_325.out _).trans (((cell_far (p := ⟨gb325, _, none⟩) NB311_325.out _).trans (hHeld.2.2.2.2.1)))), ((cell_far (p := ⟨gb325, _, none⟩) NB311_325.out _).trans (((cell_far (p := ⟨gb325, _, none⟩) NB311_325.out _).trans (hHeld.2.2.2.2.2.1)))), ((cell_far (p := ⟨gb325, _, none⟩) (by first | exact Kd.own_blk (Kd.V_away HO_7.out (fun _ hk => hk.2.2.2.2.2.2) (by have p_ := of_eq_true p315; have q_ := of_eq_true q315; omega) (show 0 < 2 by decide)) | (rw [add_block]; exact Kd.own_blk (Kd.V_away HO_7.out (fun _ hk => hk.2.2.2.2.2.2) (by have p_ := of_eq_true p315; have q_ := of_eq_true q315; omega) (show 0 < 2 by decide))) | (show (Addr.add _ _).block ≠ _; rw [add_block]; exact Kd.own_blk (Kd.V_away HO_7.out (fun _ hk => hk.2.2.2.2.2.2) (by have p_ := of_eq_true p315; have q_ := of_eq_true q315; omega) (show 0 < 2 by decide))) | (dsimp only; exact Kd.own_blk (Kd.V_away HO_7.out (fun _ hk => hk.2.2.2.2.2.2) (by have p_ := of_eq_true p315; have q_ := of_eq_true q315; omega) (show 0 < 2 by decide)))) _).trans (((cell_far (p := ⟨gb325, _, none⟩) (by first | exact Kd.own_blk (Kd.V_away HO_7.out (fun _ hk => hk.2.2.2.2.2.2) (by have p_ := of_eq_true p315; have q_ := of_eq_true q315; omega) (show 0 < 2 by decide)) | (rw [add_block]; exact Kd.own_blk (Kd.V_away HO_7.out (fun _ hk => hk.2.2.2.2.2.2) (by have p_ := of_eq_true p315; have q_ := of_eq_true q315; omega) (show 0 < 2 by decide))) | (show (Addr.add _ _).block ≠ _; rw [add_block]; exact Kd.own_blk (Kd.V_away HO_7.out (fun _ hk => hk.2.2.2.2.2.2) (by have p_ := of_eq_true p315; have q_ := of_eq_true q315; omega) (show 0 < 2 by decide))) | (dsimp only; exact Kd.own_blk (Kd.V_away HO_7.out (fun _ hk => hk.2.2.2.2.2.2) (by have p_ := of_eq_true p315; have q_ := of_eq_true q315; omega) (show 0 < 2 by decide)))) _).trans (hHeld.2.2.2.2.2.2.1)))), ((cell_far (p := ⟨gb325, _, none⟩) (by first | exact Kd.own_blk (Kd.V_away HO_7.out (fun _ hk => hk.2.2.2.2.2.2) (by have p_ := of_eq_true p315; have q_ := of_eq_true q315; omega) (show 0 < 2 by decide)) | (rw [add_block]; exact Kd.own_blk (Kd.V_away HO_7.out (fun _ hk => hk.2.2.2.2.2.2) (by have p_ := of_eq_true p315; have q_ := of_eq_true q315; omega) (show 0 < 2 by decide))) | (show (Addr.add _ _).block ≠ _; rw [add_block]; exact Kd.own_blk (Kd.V_away HO_7.out (fun _ hk => hk.2.2.2.2.2.2) (by have p_ := of_eq_true p315; have q_ := of_eq_true q315; omega) (show 0 < 2 by decide))) | (dsimp only; exact Kd.own_blk (Kd.V_away HO_7.out (fun _ hk => hk.2.2.2.2.2.2) (by have p_ := of_eq_true p315; have q_ := of_eq_true q315; omega) (show 0 < 2 by decide)))) _).trans (((cell_far (p := ⟨gb325, _, none⟩) (by first | exact Kd.own_blk (Kd.V_away HO_7.out (fun _ hk => hk.2.2.2.2.2.2) (by have p_ := of_eq_true p315; have q_ := of_eq_true q315; omega) (show 0 < 2 by decide)) | (rw [add_block]; exact Kd.own_blk (Kd.V_away HO_7.out (fun _ hk => hk.2.2.2.2.2.2) (by have p_ := of_eq_true p315; have q_ := of_eq_true q315; omega) (show 0 < 2 by decide))) | (show (Addr.add _ _).block ≠ _; rw [add_block]; exact Kd.own_blk (Kd.V_away HO_7.out (fun _ hk => hk.2.2.2.2.2.2) (by have p_ := of_eq_true p315; have q_ := of_eq_true q315; omega) (show 0 < 2 by decide))) | (dsimp only; exact Kd.own_blk (Kd.V_away HO_7.out (fun _ hk => hk.2.2.2.2.2.2) (by have p_ := of_eq_true p315; have q_ := of_eq_true q315; omega) (show 0 < 2 by decide)))) _).trans (hHeld.2.2.2.2.2.2.2.1)))), ((cell_far (p := ⟨gb325, _, none⟩) (by first | exact Kd.own_blk (Kd.V_away HO_7.out (fun _ hk => hk.2.2.2.2.2.2) (by have p_ := of_eq_true p315; have q_ := of_eq_true q315; omega) (show 0 < 2 by decide)) | (rw [add_block]; exact Kd.own_blk (Kd.V_away HO_7.out (fun _ hk => hk.2.2.2.2.2.2) (by have p_ := of_eq_true p315; have q_ := of_eq_true q315; omega) (show 0 < 2 by decide))) | (show (Addr.add _ _).block ≠ _; rw [add_block]; exact Kd.own_blk (Kd.V_away HO_7.out (fun _ hk => hk.2.2.2.2.2.2) (by have p_ := of_eq_true p315; have q_ := of_eq_true q315; omega) (show 0 < 2 by decide))) | (dsimp only; exact Kd.own_blk (Kd.V_away HO_7.out (fun _ hk => hk.2.2.2.2.2.2) (by have p_ := of_eq_true p315; have q_ := of_eq_true q315; omega) (show 0 < 2 by decide)))) _).trans (((cell_far (p := ⟨gb325, _, none⟩) (by first | exact Kd.own_blk (Kd.V_away HO_7.out (fun _ hk => hk.2.2.2.2.2.2) (by have p_ := of_eq_true p315; have q_ := of_eq_true q315; omega) (show 0 < 2 by decide)) | (rw [add_block]; exact Kd.own_blk (Kd.V_away HO_7.out (fun _ hk => hk.2.2.2.2.2.2) (by have p_ := of_eq_true p315; have q_ := of_eq_true q315; omega) (show 0 < 2 by decide))) | (show (Addr.add _ _).block ≠ _; rw [add_block]; exact Kd.own_blk (Kd.V_away HO_7.out (fun _ hk => hk.2.2.2.2.2.2) (by have p_ := of_eq_true p315; have q_ := of_eq_true q315; omega) (show 0 < 2 by decide))) | (dsimp only; exact Kd.own_blk (Kd.V_away HO_7.out (fun _ hk => hk.2.2.2.2.2.2) (by have p_ := of_eq_true p315; have q_ := of_eq_true q315; omega) (show 0 < 2 by decide)))) _).trans (hHeld.2.2.2.2.2.2.2.2.1)))), ((cell_far (p := ⟨gb325, _, none⟩) (by first | exact Kd.own_blk (Kd.V_away HO_7.out (fun _ hk => hk.2.2.2.2.2.2) (by have p_ := of_eq_true p315; have q_ := of_eq_true q315; omega) (show 0 < 2 by decide)) | (rw [add_block]; exact Kd.own_blk (Kd.V_away HO_7.out (fun _ hk => hk.2.2.2.2.2.2) (by have p_ := of_eq_true p315; have q_ := of_eq_true q315; omega) (show 0 < 2 by decide))) | (show (Addr.add _ _).block ≠ _; rw [add_block]; exact Kd.own_blk (Kd.V_away HO_7.out (fun _ hk => hk.2.2.2.2.2.2) (by have p_ := of_eq_true p315; have q_ := of_eq_true q315; omega) (show 0 < 2 by decide))) | (dsimp only; exact Kd.own_blk (Kd.V_away HO_7.out (fun _ hk => hk.2.2.2.2.2.2) (by have p_ := of_eq_true p315; have q_ := of_eq_true q315; omega) (show 0 < 2 by decide)))) _).trans (((cell_far (p := ⟨gb325, _, none⟩) (by first | exact Kd.own_blk (Kd.V_away HO_7.out (fun _ hk => hk.2.2.2.2.2.2) (by have p_ := of_eq_true p315; have q_ := of_eq_true q315; omega) (show 0 < 2 by decide)) | (rw [add_block]; exact Kd.own_blk (Kd.V_away HO_7.out (fun _ hk => hk.2.2.2.2.2.2) (by have p_ := of_eq_true p315; have q_ := of_eq_true q315; omega) (show 0 < 2 by decide))) | (show (Addr.add _ _).block ≠ _; rw [add_block]; exact Kd.own_blk (Kd.V_away HO_7.out (fun _ hk => hk.2.2.2.2.2.2) (by have p_ := of_eq_true p315; have q_ := of_eq_true q315; omega) (show 0 < 2 by decide))) | (dsimp only; exact Kd.own_blk (Kd.V_away HO_7.out (fun _ hk => hk.2.2.2.2.2.2) (by have p_ := of_eq_true p315; have q_ := of_eq_true q315; omega) (show 0 < 2 by decide)))) _).trans (hHeld.2.2.2.2.2.2.2.2.2))))⟩ (fun hHeld => ?_)
           clear hK K
           refine done_ (done_of HT_.out (by kernel_rfl)) ?_
           try go_wp2
           have n0_ : Aside0 (Kd.V k37 37 ((w39.setCell ⟨gb325, 0, none⟩ (.int .u64 t323)).setCell ⟨gb325, 1, none⟩ (.int .u64 t324)) w.heap.size (fun k_ => (P1_ k_ ∨ w.heap.size ≤ k_) ∧ some k_ ≠ (u9 : Value).ownBlock ∧ k_ ≠ gb308 ∧ k_ ≠ gb309 ∧ k_ ≠ gb311 ∧ k_ ≠ gb312 ∧ k_ ≠ gb325) (.slice A1 l1.length c1) l1) := ⟨by (with_reducible repeat (first | apply Kd.V_alloc | apply Kd.V_drewN | apply Kd.V_drew)); exact Kd.V_mono (Kd.V_far (p := ⟨gb325, 1, none⟩) (Kd.V_far (p := ⟨gb325, 0, none⟩) (Kd.V_mono HO_1.out (fun k_ hk => (⟨hk, hk.2.2.2.2.2.2⟩ : _ ∧ k_ ≠ gb325))) (fun _ hk => hk.2) (.int .u64 t323)) (fun _ hk => hk.2) (.int .u64 t324)) (fun _ hk => ⟨hk.1.1, ⟨hk.1.2.1, ⟨hk.1.2.2.1, ⟨hk.1.2.2.2.1, ⟨hk.1.2.2.2.2.1, ⟨hk.1.2.2.2.2.2.1, hk.1.2.2.2.2.2.2⟩⟩⟩⟩⟩⟩)⟩
           have n1_ : Aside0 (Kd.V k37 37 ((w39.setCell ⟨gb325, 0, none⟩ (.int .u64 t323)).setCell ⟨gb325, 1, none⟩ (.int .u64 t324)) w.heap.size (fun k_ => (P1_ k_ ∨ w.heap.size ≤ k_) ∧ some k_ ≠ (u9 : Value).ownBlock ∧ k_ ≠ gb308 ∧ k_ ≠ gb309 ∧ k_ ≠ gb311 ∧ k_ ≠ gb312 ∧ k_ ≠ gb325) (.slice (some ad315) x7_1.length co21) x7_1) := ⟨by (with_reducible repeat (first | apply Kd.V_alloc | apply Kd.V_drewN | apply Kd.V_drew)); exact Kd.V_mono (Kd.V_far (p := ⟨gb325, 1, none⟩) (Kd.V_far (p := ⟨gb325, 0, none⟩) (Kd.V_mono HO_7.out (fun k_ hk => (⟨hk, hk.2.2.2.2.2.2⟩ : _ ∧ k_ ≠ gb325))) (fun _ hk => hk.2) (.int .u64 t323)) (fun _ hk => hk.2) (.int .u64 t324)) (fun _ hk => ⟨hk.1.1, ⟨hk.1.2.1, ⟨hk.1.2.2.1, ⟨hk.1.2.2.2.1, ⟨hk.1.2.2.2.2.1, ⟨hk.1.2.2.2.2.2.1, hk.1.2.2.2.2.2.2⟩⟩⟩⟩⟩⟩)⟩
           have n2_ : Aside0 (Kd.R k37 37 ((w39.setCell ⟨gb325, 0, none⟩ (.int .u64 t323)).setCell ⟨gb325, 1, none⟩ (.int .u64 t324)) w.heap.size (fun k_ => (w.heap.size ≤ k_) ∧ k_ ≠ gb308 ∧ k_ ≠ gb309 ∧ k_ ≠ gb311 ∧ k_ ≠ gb312 ∧ k_ ≠ gb325) u9 x9_2) := ⟨by (with_reducible repeat refine kl ?_); exact Kd.R_mono (Kd.R_far (p := ⟨gb325, 1, none⟩) (Kd.R_far (p := ⟨gb325, 0, none⟩) (Kd.R_mono HO_9.out (fun k_ hk => (⟨hk, hk.2.2.2.2.2⟩ : _ ∧ k_ ≠ gb325))) (fun _ hk => hk.2) (.int .u64 t323)) (fun _ hk => hk.2) (.int .u64 t324)) (fun _ hk => ⟨hk.1.1, ⟨hk.1.2.1, ⟨hk.1.2.2.1, ⟨hk.1.2.2.2.1, ⟨hk.1.2.2.2.2.1, hk.1.2.2.2.2.2⟩⟩⟩⟩⟩)⟩
           have n3_ : Aside0 (((w39.setCell ⟨gb325, 0, none⟩ (.int .u64 t323)).setCell ⟨gb325, 1, none⟩ (.int .u64 t324)).heap[gb308]? = some (.cells #[.int .u64 a2_0, .int .u64 a2_1] 37 (0, 0))) := ⟨by (with_reducible repeat refine bl ?_); refine blk_far ?_ NB308_325.out _; (with_reducible repeat refine bl ?_); refine blk_far ?_ NB308_325.out _; (with_reducible repeat refine bl ?_); exact BK308.out⟩
           have n4_ : Aside0 (((w39.setCell ⟨gb325, 0, none⟩ (.int .u64 t323)).setCell ⟨gb325, 1, none⟩ (.int .u64 t324)).heap[gb309]? = some (.cells #[.int .u64 0, .int .u64 0] 37 (0, 0))) := ⟨by (with_reducible repeat refine bl ?_); refine blk_far ?_ NB309_325.out _; (with_reducible repeat refine bl ?_); refine blk_far ?_ NB309_325.out _; (with_reducible repeat refine bl ?_); exact BK309.out⟩
           have n5_ : Aside0 (((w39.setCell ⟨gb325, 0, none⟩ (.int .u64 t323)).setCell ⟨gb325, 1, none⟩ (.int .u64 t324)).heap[gb311]? = some (.cells #[.int .u64 0, .int .u64 (IntKind.u64.wrap (x10_2))] 37 (0, 0))) := ⟨by (with_reducible repeat refine bl ?_); refine blk_far ?_ NB311_325.out _; (with_reducible repeat refine bl ?_); refine blk_far ?_ NB311_325.out _; (with_reducible repeat refine bl ?_); exact BK311.out⟩
           have n6_ : Aside0 (((w39.setCell ⟨gb325, 0, none⟩ (.int .u64 t323)).setCell ⟨gb325, 1, none⟩ (.int .u64 t324)).heap[gb312]? = some (.cells #[.int .u64 0, .int .u64 (IntKind.u64.wrap (wrap64 (x10_2 + x8_1)))] 37 (0, 0))) := ⟨by (with_reducible repeat refine bl ?_); refine blk_far ?_ NB312_325.out _; (with_reducible repeat refine bl ?_); refine blk_far ?_ NB312_325.out _; (with_reducible repeat refine bl ?_); exact BK312.out⟩
           have n7_ : Aside0 (((w39.setCell ⟨gb325, 0, none⟩ (.int .u64 t323)).setCell ⟨gb325, 1, none⟩ (.int .u64 t324)).heap[gb325]? = some (.cells #[.int .u64 t323, .int .u64 t324] 37 (0, 0))) := ⟨by (with_reducible repeat refine bl ?_); refine blk_put (cs := #[.int .u64 t323, .int .u64 0]) ?_ 1 _ rfl; (with_reducible repeat refine bl ?_); refine blk_put (cs := #[.int .u64 0, .int .u64 0]) ?_ 0 _ rfl; (with_reducible repeat refine bl ?_); exact BK325.out⟩
           have n8_ : Aside0 (Below w.heap.size w ((w39.setCell ⟨gb325, 0, none⟩ (.int .u64 t323)).setCell ⟨gb325, 1, none⟩ (.int .u64 t324))) := ⟨bq HB.out⟩
           (try clear HO_1)
           (try clear HO_7)
           (try clear HO_9)
           (try clear BK308)
           (try clear BK309)
           (try clear BK311)
           (try clear BK312)
           (try clear BK325)
           (try clear HB)
           generalize ((w39.setCell ⟨gb325, 0, none⟩ (.int .u64 t323)).setCell ⟨gb325, 1, none⟩ (.int .u64 t324)) = w42 at n0_ n1_ n2_ n3_ n4_ n5_ n6_ n7_ n8_ ⊢
           have HO_1 := n0_
           have HO_7 := n1_
           have HO_9 := n2_
           have BK308 := n3_
           have BK309 := n4_
           have BK311 := n5_
           have BK312 := n6_
           have BK325 := n7_
           have HB := n8_
           clear n0_ n1_ n2_ n3_ n4_ n5_ n6_ n7_ n8_
           replace HO_1 := Aside0.mk (Kd.V_drew HO_1.out)
           replace HO_7 := Aside0.mk (Kd.V_drew HO_7.out)
           replace HO_9 := Aside0.mk (Kd.R_drew HO_9.out)
           replace BK308 := Aside0.mk (blk_drew BK308.out)
           replace BK309 := Aside0.mk (blk_drew BK309.out)
           replace BK311 := Aside0.mk (blk_drew BK311.out)
           replace BK312 := Aside0.mk (blk_drew BK312.out)
           replace BK325 := Aside0.mk (blk_drew BK325.out)
           replace HB := Aside0.mk (below_drew1 HB.out)
           refine start_ (n := 11) (S := fun w' => w'.cell? ⟨gb325, 0, none⟩ = some (.int .u64 t323) ∧ w'.cell? ⟨gb325, 1, none⟩ = some (.int .u64 t324) ∧ w'.cell? ⟨gb311, 0, none⟩ = some (.int .u64 0) ∧ w'.cell? ⟨gb311, 1, none⟩ = some (.int .u64 (IntKind.u64.wrap (x10_2))) ∧ w'.cell? ⟨gb312, 0, none⟩ = some (.int .u64 0) ∧ w'.cell? ⟨gb312, 1, none⟩ = some (.int .u64 (IntKind.u64.wrap (wrap64 (x10_2 + x8_1))))) (ds := []) #[false, false, false, false, false, false, false, false, false, false, false] (by kernel_rfl) rfl rfl ⟨(blk_cell BK325.out 0).trans rfl, (blk_cell BK325.out 1).trans rfl, (blk_cell BK311.out 0).trans rfl, (blk_cell BK311.out 1).trans rfl, (blk_cell BK312.out 0).trans rfl, (blk_cell BK312.out 1).trans rfl⟩ (fun hHeld => ?_); refine with_tabW steepleref17_At.tab12 steepleref17_At.bits12 (fun HT_ HW_ => ?_)
           generalize w42.drew = w43 at HO_1 HO_7 HO_9 BK308 BK309 BK311 BK312 BK325 HB hHeld ⊢
           refine pure_ (i := 0) (N := some 54) (v := ?_) (a' := ?_) #[true, false, false, false, false, false, false, false, false, false, false] rfl rfl (any_of HT_.out (by kernel_rfl)) (fun _ _ _ h => h) (Or.inl ⟨by rfl, ?_⟩) ?_ ?_
           rotate_left
           ·intro w'
            go_simp
            with_reducible rfl
           rotate_left
           ·simp only [Act.put, List.setIfInBounds_toArray, List.set_cons_zero, List.set_cons_succ, i64_w, i32_w]
            rfl
           refine pure_ (i := 2) (N := some 56) (v := ?_) (a' := ?_) #[true, false, true, false, false, false, false, false, false, false, false] rfl rfl (any_of HT_.out (by kernel_rfl)) (fun _ _ _ h => h) (Or.inl ⟨by rfl, ?_⟩) ?_ ?_
           rotate_left
           ·intro w'
            go_simp
            with_reducible rfl
           rotate_left
           ·simp only [Act.put, List.setIfInBounds_toArray, List.set_cons_zero, List.set_cons_succ, i64_w, i32_w]
            rfl
           refine take_ (i := 1) (N := some 55) (v := ?_) (a' := ?_) #[true, true, true, false, false, false, false, false, false, false, false] rfl rfl (take_ofW HT_.out HW_.out (by kernel_rfl)) (fun _ _ _ h => h) (Or.inl ⟨by rfl, ?_⟩) hHeld ?_ ?_
           rotate_left
           ·rintro w' ⟨s0, s1, s2, s3, s4, s5⟩
            go_simp
            with_reducible rfl
           rotate_left
           ·simp only [Act.put, List.setIfInBounds_toArray, List.set_cons_zero, List.set_cons_succ, i64_w, i32_w]
            rfl
           refine take_ (i := 3) (N := some 57) (v := ?_) (a' := ?_) #[true, true, true, true, false, false, false, false, false, false, false] rfl rfl (take_ofW HT_.out HW_.out (by kernel_rfl)) (fun _ _ _ h => h) (Or.inl ⟨by rfl, ?_⟩) hHeld ?_ ?_
           rotate_left
           ·rintro w' ⟨s0, s1, s2, s3, s4, s5⟩
            go_simp
            with_reducible rfl
           rotate_left
           ·simp only [Act.put, List.setIfInBounds_toArray, List.set_cons_zero, List.set_cons_succ, i64_w, i32_w]
            rfl
           refine take_ (i := 4) (N := some 58) (v := ?_) (a' := ?_) #[true, true, true, true, true, false, false, false, false, false, false] rfl rfl (take_ofW HT_.out HW_.out (by kernel_rfl)) (fun _ _ _ h => h) (Or.inl ⟨by rfl, ?_⟩) hHeld ?_ ?_
           rotate_left
           ·rintro w' ⟨s0, s1, s2, s3, s4, s5⟩
            go_simp
            with_reducible rfl
           rotate_left
           ·simp only [Act.put, List.setIfInBounds_toArray, List.set_cons_zero, List.set_cons_succ, i64_w, i32_w]
            rfl
           refine one_ (i := 5) (N := some 59) #[true, true, true, true, true, true, false, false, false, false, false] rfl rfl (one_of HT_.out (by kernel_rfl)) (by decide) (fun K hK => ?_)
           refine goes_ Try.func14 (by kernel_rfl) rfl #[.agg #[.int .u64 0, .int .u64 (IntKind.u64.wrap (x10_2))], .agg #[.int .u64 0, .int .u64 (IntKind.u64.wrap (wrap64 (x10_2 + x8_1)))]] (by rfl) rfl rfl (by (try simp only [List.map_toArray, List.map_cons, List.map_nil]); first | done | rfl | (simp only [List.length_drop, List.length_take]; rfl)) ?_
           with_reducible refine (steepleref02_Add.calls 0 (IntKind.u64.wrap (x10_2)) 0 (IntKind.u64.wrap (wrap64 (x10_2 + x8_1))) t326 t327 _ A17.out).mono ?_
           rintro e w44 ⟨rfl, hb⟩
           refine ⟨_, rfl, ?_⟩
           replace HO_1 := Aside0.mk (Kd.V_below (by (with_reducible repeat (first | apply Kd.V_alloc | apply Kd.V_drewN | apply Kd.V_drew)); exact HO_1.out) hb)
           replace HO_7 := Aside0.mk (Kd.V_below (by (with_reducible repeat (first | apply Kd.V_alloc | apply Kd.V_drewN | apply Kd.V_drew)); exact HO_7.out) hb)
           replace HO_9 := kb HO_9 hb
           replace BK308 := bb BK308 hb
           replace BK309 := bb BK309 hb
           replace BK311 := bb BK311 hb
           replace BK312 := bb BK312 hb
           replace BK325 := bb BK325 hb
           replace HB := bh HB hb
           (try clear hb)
           (try clear hb2)
           (try clear hk)
           (try clear hi)
           refine hK.out _ _ ⟨(blk_cell BK325.out 0).trans rfl, (blk_cell BK325.out 1).trans rfl, (blk_cell BK311.out 0).trans rfl, (blk_cell BK311.out 1).trans rfl, (blk_cell BK312.out 0).trans rfl, (blk_cell BK312.out 1).trans rfl⟩ (fun hHeld => ?_)
           clear hK K
           refine norm_ (a' := ?_) ?_ ?_
           rotate_left
           ·show Act.put _ (some 59) _ = _
            simp only [Act.put, List.setIfInBounds_toArray, List.set_cons_zero, List.set_cons_succ, i64_w, i32_w]
            rfl
           refine one_ (i := 6) (N := some 60) #[true, true, true, true, true, true, true, false, false, false, false] rfl rfl (one_of HT_.out (by kernel_rfl)) (by decide) (fun K hK => ?_)
           refine goes_ Try.func36 (by kernel_rfl) rfl #[.int .i64 a0, .agg #[.int .u64 t326, .int .u64 t327]] (by rfl) rfl rfl (by (try simp only [List.map_toArray, List.map_cons, List.map_nil]); first | done | rfl | (simp only [List.length_drop, List.length_take]; rfl)) ?_
           with_reducible refine (steepleref02_Inv.calls k2 a0 t326 t327 t328 t329 _ A18.out).mono ?_
           rintro e w45 ⟨rfl, hb⟩
           refine ⟨_, rfl, ?_⟩
           replace HO_1 := Aside0.mk (Kd.V_below (by (with_reducible repeat (first | apply Kd.V_alloc | apply Kd.V_drewN | apply Kd.V_drew)); exact HO_1.out) hb)
           replace HO_7 := Aside0.mk (Kd.V_below (by (with_reducible repeat (first | apply Kd.V_alloc | apply Kd.V_drewN | apply Kd.V_drew)); exact HO_7.out) hb)
           replace HO_9 := kb HO_9 hb
           replace BK308 := bb BK308 hb
           replace BK309 := bb BK309 hb
           replace BK311 := bb BK311 hb
           replace BK312 := bb BK312 hb
           replace BK325 := bb BK325 hb
           replace HB := bh HB hb
           (try clear hb)
           (try clear hb2)
           (try clear hk)
           (try clear hi)
           refine hK.out _ _ ⟨(blk_cell BK325.out 0).trans rfl, (blk_cell BK325.out 1).trans rfl, (blk_cell BK311.out 0).trans rfl, (blk_cell BK311.out 1).trans rfl, (blk_cell BK312.out 0).trans rfl, (blk_cell BK312.out 1).trans rfl⟩ (fun hHeld => ?_)
           clear hK K
           refine norm_ (a' := ?_) ?_ ?_
           rotate_left
           ·show Act.put _ (some 60) _ = _
            simp only [Act.put, List.setIfInBounds_toArray, List.set_cons_zero, List.set_cons_succ, i64_w, i32_w]
            rfl
           refine one_ (i := 7) (N := some 61) #[true, true, true, true, true, true, true, true, false, false, false] rfl rfl (one_of HT_.out (by kernel_rfl)) (by decide) (fun K hK => ?_)
           refine goes_ Try.func35 (by kernel_rfl) rfl #[.agg #[.int .u64 t323, .int .u64 t324], .agg #[.int .u64 t328, .int .u64 t329]] (by rfl) rfl rfl (by (try simp only [List.map_toArray, List.map_cons, List.map_nil]); first | done | rfl | (simp only [List.length_drop, List.length_take]; rfl)) ?_
           with_reducible refine (steepleref02_Product.calls k2 t323 t324 t328 t329 t330 t331 _ A19.out).mono ?_
           rintro e w46 ⟨rfl, hb⟩
           refine ⟨_, rfl, ?_⟩
           replace HO_1 := Aside0.mk (Kd.V_below (by (with_reducible repeat (first | apply Kd.V_alloc | apply Kd.V_drewN | apply Kd.V_drew)); exact HO_1.out) hb)
           replace HO_7 := Aside0.mk (Kd.V_below (by (with_reducible repeat (first | apply Kd.V_alloc | apply Kd.V_drewN | apply Kd.V_drew)); exact HO_7.out) hb)
           replace HO_9 := kb HO_9 hb
           replace BK308 := bb BK308 hb
           replace BK309 := bb BK309 hb
           replace BK311 := bb BK311 hb
           replace BK312 := bb BK312 hb
           replace BK325 := bb BK325 hb
           replace HB := bh HB hb
           (try clear hb)
           (try clear hb2)
           (try clear hk)
           (try clear hi)
           refine hK.out _ _ ⟨(blk_cell BK325.out 0).trans rfl, (blk_cell BK325.out 1).trans rfl, (blk_cell BK311.out 0).trans rfl, (blk_cell BK311.out 1).trans rfl, (blk_cell BK312.out 0).trans rfl, (blk_cell BK312.out 1).trans rfl⟩ (fun hHeld => ?_)
           clear hK K
           refine norm_ (a' := ?_) ?_ ?_
           rotate_left
           ·show Act.put _ (some 61) _ = _
            simp only [Act.put, List.setIfInBounds_toArray, List.set_cons_zero, List.set_cons_succ, i64_w, i32_w]
            rfl
           refine one_ (i := 8) (N := some 62) #[true, true, true, true, true, true, true, true, true, false, false] rfl rfl (one_of HT_.out (by kernel_rfl)) (by decide) (fun K hK => ?_)
           refine value_ (w1 := ?_) (v := ?_) (by rfl) rfl ?_ ?_
           rotate_left 2
           ·go_simp
            constructor
            ·rfl
            ·rfl
           refine hK.out _ _ ⟨(blk_cell (blk_alloc BK325.out _) 0).trans rfl, (blk_cell (blk_alloc BK325.out _) 1).trans rfl, (blk_cell (blk_alloc BK311.out _) 0).trans rfl, (blk_cell (blk_alloc BK311.out _) 1).trans rfl, (blk_cell (blk_alloc BK312.out _) 0).trans rfl, (blk_cell (blk_alloc BK312.out _) 1).trans rfl⟩ (fun hHeld => ?_)
           clear hK K
           refine norm_ (a' := ?_) ?_ ?_
           rotate_left
           ·show Act.put _ (some 62) _ = _
            simp only [Act.put, List.setIfInBounds_toArray, List.set_cons_zero, List.set_cons_succ, i64_w, i32_w]
            rfl
           refine one_ (i := 9) (N := some 63) #[true, true, true, true, true, true, true, true, true, true, false] rfl rfl (one_of HT_.out (by kernel_rfl)) (by decide) (fun K hK => ?_)
           refine Kd.R_append_step k37 (w0 := w) w.heap.size (by rfl) (.tmp 54) (.tmp 62) 45 37 (.agg #[(.int .u64 0), (.int .u64 0)]) 16 rfl Try.underlying45 info37 rfl (by decide) (by omega) u9 x9_2 (⟨t330, t331⟩ : S37) [.int .u64 t330, .int .u64 t331] (fun k_ => (w.heap.size ≤ k_) ∧ k_ ≠ gb308 ∧ k_ ≠ gb309 ∧ k_ ≠ gb311 ∧ k_ ≠ gb312 ∧ k_ ≠ gb325) (fun _ => False) rfl rfl ?aP (fun _ hk => hk.elim) ?aF ?aO ?aB ?aS ?aL ?_
           (case aP => exact k37_mkM _ _ _ (⟨t330, t331⟩ : S37))
           (case aB => exact (bq HB.out))
           (case aF => exact (fun k_ hk => ⟨(Nat.le_trans (below_size (bq HB.out)) hk), Kd.freshB (g := gb308) (o := .cells #[.int .u64 a2_0, .int .u64 a2_1] 37 (0, 0)) (bk BK308.out) k_ hk, Kd.freshB (g := gb309) (o := .cells #[.int .u64 0, .int .u64 0] 37 (0, 0)) (bk BK309.out) k_ hk, Kd.freshB (g := gb311) (o := .cells #[.int .u64 0, .int .u64 (IntKind.u64.wrap (x10_2))] 37 (0, 0)) (bk BK311.out) k_ hk, Kd.freshB (g := gb312) (o := .cells #[.int .u64 0, .int .u64 (IntKind.u64.wrap (wrap64 (x10_2 + x8_1)))] 37 (0, 0)) (bk BK312.out) k_ hk, Kd.freshB (g := gb325) (o := .cells #[.int .u64 t323, .int .u64 t324] 37 (0, 0)) (bk BK325.out) k_ hk⟩))
           (case aO => exact (kr HO_9.out))
           (case aS => exact (below_size (bq HB.out)))
           (case aL => have := LMc20.out; omega)
           intro v333 w47 ho hb hg hat
           rw [← Ny332.out] at ho
           have HO334 := Aside0.mk ho
           replace HO_1 := Aside0.mk (Kd.V_afterv (ok := (fun k_ => (P1_ k_ ∨ w.heap.size ≤ k_) ∧ k_ ≠ gb308 ∧ k_ ≠ gb309 ∧ k_ ≠ gb311 ∧ k_ ≠ gb312 ∧ k_ ≠ gb325)) (by (with_reducible repeat (first | apply Kd.V_alloc | apply Kd.V_drewN | apply Kd.V_drew)); exact Kd.V_mono HO_1.out (fun _ hk => ⟨⟨hk.1, ⟨hk.2.2.1, ⟨hk.2.2.2.1, ⟨hk.2.2.2.2.1, ⟨hk.2.2.2.2.2.1, hk.2.2.2.2.2.2⟩⟩⟩⟩⟩, hk.2.1⟩)) hg hat)
           replace HO_7 := Aside0.mk (Kd.V_afterv (ok := (fun k_ => (P1_ k_ ∨ w.heap.size ≤ k_) ∧ k_ ≠ gb308 ∧ k_ ≠ gb309 ∧ k_ ≠ gb311 ∧ k_ ≠ gb312 ∧ k_ ≠ gb325)) (by (with_reducible repeat (first | apply Kd.V_alloc | apply Kd.V_drewN | apply Kd.V_drew)); exact Kd.V_mono HO_7.out (fun _ hk => ⟨⟨hk.1, ⟨hk.2.2.1, ⟨hk.2.2.2.1, ⟨hk.2.2.2.2.1, ⟨hk.2.2.2.2.2.1, hk.2.2.2.2.2.2⟩⟩⟩⟩⟩, hk.2.1⟩)) hg hat)
           replace BK308 := Aside0.mk (blk_grown (g := gb308) (o := .cells #[.int .u64 a2_0, .int .u64 a2_1] 37 (0, 0)) (bk BK308.out) hg (Kd.R_away HO_9.out (fun _ hk => hk.2.1)))
           replace BK309 := Aside0.mk (blk_grown (g := gb309) (o := .cells #[.int .u64 0, .int .u64 0] 37 (0, 0)) (bk BK309.out) hg (Kd.R_away HO_9.out (fun _ hk => hk.2.2.1)))
           replace BK311 := Aside0.mk (blk_grown (g := gb311) (o := .cells #[.int .u64 0, .int .u64 (IntKind.u64.wrap (x10_2))] 37 (0, 0)) (bk BK311.out) hg (Kd.R_away HO_9.out (fun _ hk => hk.2.2.2.1)))
           replace BK312 := Aside0.mk (blk_grown (g := gb312) (o := .cells #[.int .u64 0, .int .u64 (IntKind.u64.wrap (wrap64 (x10_2 + x8_1)))] 37 (0, 0)) (bk BK312.out) hg (Kd.R_away HO_9.out (fun _ hk => hk.2.2.2.2.1)))
           replace BK325 := Aside0.mk (blk_grown (g := gb325) (o := .cells #[.int .u64 t323, .int .u64 t324] 37 (0, 0)) (bk BK325.out) hg (Kd.R_away HO_9.out (fun _ hk => hk.2.2.2.2.2)))
           replace HB := Aside0.mk hb
           clear HO_9
           clear ho hb hg hat
           refine hK.out _ _ ⟨(blk_cell BK325.out 0).trans rfl, (blk_cell BK325.out 1).trans rfl, (blk_cell BK311.out 0).trans rfl, (blk_cell BK311.out 1).trans rfl, (blk_cell BK312.out 0).trans rfl, (blk_cell BK312.out 1).trans rfl⟩ (fun hHeld => ?_)
           clear hK K
           refine norm_ (a' := ?_) ?_ ?_
           rotate_left
           ·show Act.put _ (some 63) _ = _
            simp only [Act.put, List.setIfInBounds_toArray, List.set_cons_zero, List.set_cons_succ, i64_w, i32_w]
            rfl
           refine pure_ (i := 10) (N := some 9) (v := ?_) (a' := ?_) #[true, true, true, true, true, true, true, true, true, true, true] rfl rfl (any_of HT_.out (by kernel_rfl)) (fun _ _ _ h => h) (Or.inl ⟨by rfl, ?_⟩) ?_ ?_
           rotate_left
           ·intro w'
            go_simp
            with_reducible rfl
           rotate_left
           ·simp only [Act.put, List.setIfInBounds_toArray, List.set_cons_zero, List.set_cons_succ, i64_w, i32_w]
            rfl
           refine done_ (done_of HT_.out (by kernel_rfl)) ?_
           try go_wp2
           go_roundg k2
           case measure => have := HK1.out; have := HK2.out; omega
           case rel => exact ⟨(y332), (ji13), (by first | rfl | (simp; done) | (simp only [← hji13] <;> (first | rfl | simp)) | (simp [*]; done)), H', ⟨by have := HK1.out; have := HK2.out; omega⟩, ⟨by (with_reducible repeat (first | apply Kd.V_alloc | apply Kd.V_drewN | apply Kd.V_drew)); exact Kd.V_mono HO_1.out (fun _ hk => ⟨hk.1.1, ⟨hk.2, ⟨hk.1.2.1, hk.1.2.2.1⟩⟩⟩)⟩, ⟨by (with_reducible repeat (first | apply Kd.V_alloc | apply Kd.V_drewN | apply Kd.V_drew)); exact Kd.V_mono HO_7.out (fun _ hk => ⟨hk.1.1, ⟨hk.2, ⟨hk.1.2.1, hk.1.2.2.1⟩⟩⟩)⟩, ⟨by (with_reducible repeat refine kl ?_); exact Kd.R_mono HO334.out (fun _ hk => ⟨hk.1, ⟨hk.2.1, hk.2.2.1⟩⟩)⟩, ⟨bk BK308.out⟩, ⟨bk BK309.out⟩, ⟨bq HB.out⟩⟩
          ·rw [if_neg c20] at H
           exact absurd H (by simp)
         ·rw [if_neg c14] at H
          exact absurd H (by simp)
        ·rw [if_neg c10] at H
         exact absurd H (by simp)
       ·rw [if_neg c9] at H
        exact absurd H (by simp)
      ·rw [if_neg c7] at H
       have c7b0 : decide ((wrap64 (x10_2 + 1)) < (x7_1.length : Int)) = false := decide_eq_false c7
       clear c7
       have H' := Aside0.mk H
       clear H
       obtain ⟨Ao48, co48, eo48⟩ := Kd.V_slice HO_7.out
       subst eo48
       go_wp2
       go_roundg k2
       case measure => have := HK1.out; have := HK2.out; omega
       case rel => exact ⟨(x9_2), (wrap64 (x8_1 + 1)), (by first | rfl | (simp; done) | (simp [*]; done)), H', ⟨by have := HK1.out; have := HK2.out; omega⟩, ⟨by (with_reducible repeat (first | apply Kd.V_alloc | apply Kd.V_drewN | apply Kd.V_drew)); exact Kd.V_mono HO_1.out (fun _ hk => ⟨hk.1, ⟨hk.2.2.1, hk.2.2.2⟩⟩)⟩, ⟨Kd.V_mono (Kd.R_V (kr HO_9.out)) (fun k_ hk => by first | exact ⟨(.inr (hk.1)), hk.2⟩ | exact (.inr (hk)))⟩, ⟨bk BK308.out⟩, ⟨bk BK309.out⟩, ⟨bq HB.out⟩⟩
   ·rw [if_neg c6] at H
    have c6b0 : decide (x8_1 < (l1.length : Int)) = false := decide_eq_false c6
    clear c6
    by_cases c49 : 0 < (x7_1.length : Int)
    ·rw [if_pos c49] at H
     have c49b0 : decide (0 < (x7_1.length : Int)) = true := decide_eq_true c49
     have c49b1 : decide (0 < x7_1.length) = true := decide_eq_true (by omega)
     clear c49
     simp only [Option.some.injEq, Prod.mk.injEq] at H
     obtain ⟨rfl, rfl⟩ := H
     obtain ⟨Ao50, co50, eo50⟩ := Kd.V_slice HO_7.out
     subst eo50
     have p310 : 0 ≤ (0 : Int) := (by omega)
     have q310 : 0 < (x7_1.length : Int) := of_decide_eq_true (by first | (with_reducible assumption) | assumption)
     obtain ⟨ad310, e310, hx310_0, hx310_1⟩ := at_T37 (Kd.V_reads' HO_7.out).2.2 0 p310 q310
     cases e310
     have qi310 : (0 < x7_1.length) = True := eq_true (by omega)
     (try rw [show ((0 : Int)).toNat = 0 from rfl] at hx310_0)
     (try rw [show 0 * 2 = 0 from rfl] at hx310_0)
     (try rw [Addr.add_zero'] at hx310_0)
     (try rw [show ((0 : Int)).toNat = 0 from rfl] at hx310_1)
     (try rw [show 0 * 2 = 0 from rfl] at hx310_1)
     (try rw [Addr.add_zero'] at hx310_1)
     replace p310 := eq_true p310
     replace q310 := eq_true q310
     obtain ⟨hcz52_0, hcz52_1⟩ := zc2 BK309
     obtain ⟨hfz52_0, hfz52_1⟩ := zf2 BK309
     go_wp2
     refine bodyPost_ret (results_cell_row rfl _ _ gb309 37 #[.int .u64 ((rd_T37 x7_1 0).f0), .int .u64 ((rd_T37 x7_1 0).f1)] (0, 0) _ rfl (by (with_reducible repeat refine bl ?_); refine blk_put (cs := #[.int .u64 ((rd_T37 x7_1 0).f0), .int .u64 0]) ?_ 1 _ rfl; (with_reducible repeat refine bl ?_); refine blk_put (cs := #[.int .u64 0, .int .u64 0]) ?_ 0 _ rfl; (with_reducible repeat refine bl ?_); exact BK309.out) Try.underlying37 rfl (by kernel_rfl)) rfl ?_
     exact ⟨by first | rfl | (simp [errW_none, errW_some] <;> rfl) | (simp [*, errW_none, errW_some] <;> rfl), bq HB.out⟩
    ·rw [if_neg c49] at H
     exact absurd H (by simp)

end Go.Proofs.Ythnaalocgoeddaa.P
