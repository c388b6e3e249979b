/- Written by a program of this session: functions that the law reaches, as Lean functions, and that the code comes to their answers. Conditions: those that each theorem names. -/
import Derived.Test.YtlegcabfgkccmaaPx0
import Derived.Test.YtlegcabfgkccmaaPx3
import Derived.Test.YtlegcabfgkccmaaPx8
import Derived.Test.YtlegcabfgkccmaaPx10
namespace Go.Proofs.Ytlegcabfgkccmaa.P
open Go.RowKit Go.Proofs.YtlegcabfgkccmaaX Go.Proofs.YtlegcabfgkccmaaW.PrintWords Go.Proofs.YtlegcabfgkccmaaW.PrintLast Go.Proofs.YtlegcabfgkccmaaW.PrintMore
attribute [local go_sem] max2_int min2_int max_two min_two max_three min_three max_four min_four   -- for this text's walks alone
set_option linter.unusedVariables false
set_option linter.unusedSimpArgs false

/-! ### frob_Half: function 33 -/
mutual
def frob_Half.l0 : Nat → Int → List (S24) → Int → Int → Int → Option (Int × Int × Bool)
 | 0, _, _, _, _, _ => none
 | k + 1, x0, x6, x7, x260000, x260001 => if 0 ≤ x0 then (if x7 < (shl .i64 1 x0) then ((tower_Bit.f k x7).bind fun bt262 => ((tower_Square.f k x0 bt262.1 bt262.2).bind fun bt265 => ((tower_Add.f bt265.1 bt265.2 bt262.1 bt262.2).bind fun bt267 => (if x6.length < 8796093022208 then (frob_Half.l0 k x0 (x6 ++ [(⟨bt267.1, bt267.2⟩ : S24)]) (wrap64 (x7 + 1)) x260000 x260001) else (none))))) else ((span_Solve.f k x6 x260000 x260001).bind fun bt272 => (if bt272.2 = true then (frob_Half.l1 k bt272.1 (bt272.1.length : Int) 0 0 0) else (some (0, 0, false))))) else (none)
def frob_Half.l1 : Nat → List Bool → Int → Int → Int → Int → Option (Int × Int × Bool)
 | 0, _, _, _, _, _ => none
 | k + 1, x44, x45, x46, x277000, x277001 => if x46 < x45 then (if 0 ≤ x46 then (if x46 < (x44.length : Int) then (if rdOf false x44 x46 = true then ((tower_Bit.f k (wrap64 (x46 + 1))).bind fun bt278 => ((tower_Add.f x277000 x277001 bt278.1 bt278.2).bind fun bt280 => (frob_Half.l1 k x44 x45 (wrap64 (x46 + 1)) bt280.1 bt280.2))) else (frob_Half.l1 k x44 x45 (wrap64 (x46 + 1)) x277000 x277001)) else (none)) else (none)) else (some (x277000, x277001, true))
end
def frob_Half.f (k : Nat) (a0 : Int) (a1_0 : Int) (a1_1 : Int) : Option (Int × Int × Bool) := (octet_Of.f k a0 a1_0 a1_1).bind fun t261 => (if t261 = true then (frob_Half.l0 k a0 ([] : List (S24)) 1 a1_0 a1_1) else (some (0, 0, false)))
theorem frob_Half.mono_l : ∀ k, (∀ y0 y1 y2 y3 y4, LeO (frob_Half.l0 k y0 y1 y2 y3 y4) (frob_Half.l0 (k + 1) y0 y1 y2 y3 y4)) ∧ (∀ y0 y1 y2 y3 y4, LeO (frob_Half.l1 k y0 y1 y2 y3 y4) (frob_Half.l1 (k + 1) y0 y1 y2 y3 y4))
 | 0 => ⟨fun _ _ _ _ _ r h => by simp [frob_Half.l0] at h, fun _ _ _ _ _ r h => by simp [frob_Half.l1] at h⟩
 | k + 1 => by
  obtain ⟨ih0, ih1⟩ := frob_Half.mono_l k
  refine ⟨?_, ?_⟩
  ·intro y0 y1 y2 y3 y4
   unfold frob_Half.l0
   repeat' first
   | (with_reducible exact ih0 _ _ _ _ _)
   | (with_reducible exact ih1 _ _ _ _ _)
   | (with_reducible exact octet_Of.mono _ _ _ _)
   | (with_reducible exact span_Solve.mono _ _ _ _)
   | (with_reducible exact tower_Bit.mono _ _)
   | (with_reducible exact tower_Square.mono _ _ _ _)
   | (with_reducible exact LeO.refl _)
   | (with_reducible exact LeO.none _)
   | (with_reducible refine LeO.ite ?_ ?_)
   | (with_reducible refine LeO.bind ?_ (fun _ => ?_))
   | exact ih0 _ _ _ _ _
   | exact ih1 _ _ _ _ _
   | exact octet_Of.mono _ _ _ _
   | exact span_Solve.mono _ _ _ _
   | exact tower_Bit.mono _ _
   | exact tower_Square.mono _ _ _ _
   | exact LeO.none _
   | refine LeO.ite ?_ ?_
   | refine LeO.bind ?_ (fun _ => ?_)
  ·intro y0 y1 y2 y3 y4
   unfold frob_Half.l1
   repeat' first
   | (with_reducible exact ih0 _ _ _ _ _)
   | (with_reducible exact ih1 _ _ _ _ _)
   | (with_reducible exact octet_Of.mono _ _ _ _)
   | (with_reducible exact span_Solve.mono _ _ _ _)
   | (with_reducible exact tower_Bit.mono _ _)
   | (with_reducible exact tower_Square.mono _ _ _ _)
   | (with_reducible exact LeO.refl _)
   | (with_reducible exact LeO.none _)
   | (with_reducible refine LeO.ite ?_ ?_)
   | (with_reducible refine LeO.bind ?_ (fun _ => ?_))
   | exact ih0 _ _ _ _ _
   | exact ih1 _ _ _ _ _
   | exact octet_Of.mono _ _ _ _
   | exact span_Solve.mono _ _ _ _
   | exact tower_Bit.mono _ _
   | exact tower_Square.mono _ _ _ _
   | exact LeO.none _
   | refine LeO.ite ?_ ?_
   | refine LeO.bind ?_ (fun _ => ?_)
theorem frob_Half.mono : ∀ a0 a1 a2 k, LeO (frob_Half.f k a0 a1 a2) (frob_Half.f (k + 1) a0 a1 a2) := by
 intro a0 a1 a2 k
 obtain ⟨ih0, ih1⟩ := frob_Half.mono_l k
 unfold frob_Half.f
 repeat' first
   | (with_reducible exact ih0 _ _ _ _ _)
   | (with_reducible exact ih1 _ _ _ _ _)
   | (with_reducible exact octet_Of.mono _ _ _ _)
   | (with_reducible exact span_Solve.mono _ _ _ _)
   | (with_reducible exact tower_Bit.mono _ _)
   | (with_reducible exact tower_Square.mono _ _ _ _)
   | (with_reducible exact LeO.refl _)
   | (with_reducible exact LeO.none _)
   | (with_reducible refine LeO.ite ?_ ?_)
   | (with_reducible refine LeO.bind ?_ (fun _ => ?_))
   | exact ih0 _ _ _ _ _
   | exact ih1 _ _ _ _ _
   | exact octet_Of.mono _ _ _ _
   | exact span_Solve.mono _ _ _ _
   | exact tower_Bit.mono _ _
   | exact tower_Square.mono _ _ _ _
   | exact LeO.none _
   | refine LeO.ite ?_ ?_
   | refine LeO.bind ?_ (fun _ => ?_)
def frob_Half.T8 : Bool × List (List Nat × List Nat) := (true, [([], []), ([], []), ([], []), ([1, 2], [1, 2]), ([], []), ([3, 4, 3], [3, 4]), ([5], [5]), ([0, 6, 5], [0, 6]), ([7, 7, 0, 1, 2, 3, 4, 5, 6, 7], [0, 7])])
def frob_Half.B8 : List Nat := [0, 0, 0, 6, 0, 30, 62, 127, 255]
theorem frob_Half.tab8 : rtab .any (opsOf Try.f33 8) = frob_Half.T8 := by kernel_rfl
theorem frob_Half.bits8 : waitsOk frob_Half.T8.2 frob_Half.B8 = true := by kernel_rfl
set_option maxHeartbeats 8000000 in
set_option maxRecDepth 100000 in
theorem frob_Half.calls (k : Nat) (a0 : Int) (a1_0 : Int) (a1_1 : Int) (r1 : Int) (r2 : Int) (r3 : Bool) (w : World) (h : frob_Half.f k a0 a1_0 a1_1 = some (r1, r2, r3)) :
  Calls Try.prog 33 #[.int .i64 a0, .agg #[.int .u64 a1_0, .int .u64 a1_1]] w fun e w' => e = .returned (.tuple #[.agg #[.int .u64 r1, .int .u64 r2], .bool r3]) ∧ Below w.heap.size w w' := by
 have hu24 := Try.underlying24
 have HB := Aside0.mk (Below.refl w.heap.size w)
 have H : ((octet_Of.f k a0 a1_0 a1_1).bind fun t261 => (if t261 = true then (frob_Half.l0 k a0 ([] : List (S24)) 1 a1_0 a1_1) else (some (0, 0, false)))) = some (r1, r2, r3) := h
 clear h
 replace H := Option.bind_eq_some_iff.mp H
 obtain ⟨t261, A30, H⟩ := H
 replace H : (if t261 = true then (frob_Half.l0 k a0 ([] : List (S24)) 1 a1_0 a1_1) else (some (0, 0, false))) = some (r1, r2, r3) := H
 have A3 := Aside0.mk A30
 clear A30
 by_cases c4 : t261 = true
 ·subst c4
  have H1 : (frob_Half.l0 k a0 ([] : List (S24)) 1 a1_0 a1_1) = some (r1, r2, r3) := by rw [if_pos rfl] at H; exact H
  clear H
  have H := H1
  clear H1
  have H' := Aside0.mk H
  clear H
  go_enter Try.func33, Try.ntmps33
  go_wp2_with (first | ((with_reducible refine gate_dst (N := 3) rfl ?_); refine box_event ?hg (N := 3) ?hd (cs := #[.int .u64 a1_0, .int .u64 a1_1]) (t := 24) ?hr ?_; (case hd => rfl); (case hg => rfl); (case hr => first | (go_simp; done) | (go_simp; rfl)); intro gb259 hg w5 hbox hb; have BK259 := Aside0.mk hbox; have GW259 := ge hg HB; have GE259 := ge hg HB; replace HB := bh HB hb; clear hb hbox hg) | ((with_reducible refine gate_dst (N := 4) rfl ?_); refine box_event ?hg (N := 4) ?hd (cs := #[.int .u64 0, .int .u64 0]) (t := 24) ?hr ?_; (case hd => rfl); (case hg => rfl); (case hr => first | (go_simp; done) | (go_simp; rfl)); intro gb260 hg w6 hbox hb; have BK260 := Aside0.mk hbox; have GW260 := ge hg HB; have GE260 := ge hg HB; have NB259_260 := nl hg BK259; have NB260_259 := ng hg BK259; replace BK259 := bb BK259 hb; replace HB := bh HB hb; clear hb hbox hg; have hnb7 := NB259_260.out; have hnc7 := NB260_259.out; obtain ⟨hcz8_0, hcz8_1⟩ := zc2 BK259; obtain ⟨hfz8_0, hfz8_1⟩ := zf2 BK259) | ((with_reducible refine gate_callee (f := 26) rfl ?_); refine goesL_ (some 16) rfl rfl Try.func26 (by kernel_rfl) rfl #[.int .i64 a0, .agg #[.int .u64 a1_0, .int .u64 a1_1]] rfl (by (try simp only [List.map_toArray, List.map_cons, List.map_nil]); first | done | rfl | (simp only [List.length_drop, List.length_take]; rfl)) ?_; (with_reducible refine (octet_Of.calls k a0 a1_0 a1_1 true _ A3.out).mono ?_); rintro e w9 ⟨rfl, hb⟩; refine ⟨_, rfl, ?_⟩; replace BK259 := bb BK259 hb; replace BK260 := bb BK260 hb; replace HB := bh HB hb; (try clear hb); (try clear hb2); (try clear hk); (try clear hi)))
  go_loopg [6, 7] k (fun kq v6 v7 w' => ∃ (x6_1 : List (S24)) (x7_1 : Int), v7 = .int .i64 x7_1 ∧ Aside0 (frob_Half.l0 kq a0 x6_1 x7_1 a1_0 a1_1 = some (r1, r2, r3)) ∧ Aside0 (kq ≤ k) ∧ Aside0 (Kd.R k24 24 w' w.heap.size (fun k_ => k_ ≠ gb259 ∧ k_ ≠ gb260) v6 x6_1) ∧ Aside0 (w'.heap[gb259]? = some (.cells #[.int .u64 a1_0, .int .u64 a1_1] 24 (0, 0))) ∧ Aside0 (w'.heap[gb260]? = some (.cells #[.int .u64 0, .int .u64 0] 24 (0, 0))) ∧ Aside0 (Below w.heap.size w w'))
  case atStart => exact ⟨(([] : List (S24))), (1), (by first | rfl | (simp; done) | (simp [*]; done)), H', ⟨Nat.le_refl _⟩, ⟨by first | exact Kd.R_nil _ _ _ _ _ | exact Kd.N_nil _ _ _ _ _ | exact Kd.V_nil _ _ _ _ _ | exact Kd.Q_nil _ _ _ _ _ | exact Kd.S_nil _ _ _ _ _⟩, ⟨bk BK259.out⟩, ⟨bk BK260.out⟩, ⟨bq HB.out⟩⟩
  case round =>
   clear H'
   try clear c2
   try clear p2
   try clear c3
   try clear c4
   try clear c7
   try clear hcz8_0
   try clear hcz8_1
   try clear hfz8_0
   try clear hfz8_1
   obtain ⟨x6_1, x7_1, rfl, HA, HK1, HO_6, BK259, BK260, HB⟩ := hrel
   cases gk with
   | zero => exact absurd HA.out (by simp [frob_Half.l0])
   | succ k1 =>
    have H := HA.out
    clear HA
    simp only [frob_Half.l0] at H
    by_cases c10 : 0 ≤ a0
    ·rw [if_pos c10] at H
     have c10b0 := eq_true c10
     have c10b1 : decide (0 ≤ a0) = true := decide_eq_true c10
     clear c10
     obtain ⟨ji11, hji11⟩ : ∃ j_ : Int, (shl .i64 1 a0) = j_ := ⟨_, rfl⟩
     replace H : (if x7_1 < (ji11) then ((tower_Bit.f k1 x7_1).bind fun bt262 => ((tower_Square.f k1 a0 bt262.1 bt262.2).bind fun bt265 => ((tower_Add.f bt265.1 bt265.2 bt262.1 bt262.2).bind fun bt267 => (if x6_1.length < 8796093022208 then (frob_Half.l0 k1 a0 (x6_1 ++ [(⟨bt267.1, bt267.2⟩ : S24)]) (wrap64 (x7_1 + 1)) a1_0 a1_1) else (none))))) else ((span_Solve.f k1 x6_1 a1_0 a1_1).bind fun bt272 => (if bt272.2 = true then (frob_Half.l1 k1 bt272.1 (bt272.1.length : Int) 0 0 0) else (some (0, 0, false))))) = some (r1, r2, r3) := by first | (rw [hji11] at H; exact H) | (simp only [hji11] at H ⊢; exact H)
     have hji11_ : (IntKind.i64.wrap (1 * 2 ^ min a0.toNat 64)) = ji11 := hji11
     have hji11z : a0 ≤ 64 → (IntKind.i64.wrap (1 * 2 ^ a0.toNat)) = ji11 := shl_small hji11
     have hji11u : (IntKind.i64.wrap (2 ^ min a0.toNat 64)) = ji11 := by have h_ := hji11_; rw [Int.one_mul] at h_; exact h_
     have hji11v : a0 ≤ 64 → (IntKind.i64.wrap (2 ^ a0.toNat)) = ji11 := fun hle_ => by have h_ := hji11z hle_; rw [Int.one_mul] at h_; exact h_
     have hji11y : (wrap64 (1 * 2 ^ min a0.toNat 64)) = ji11 := (i64_w _).symm.trans hji11_
     have hji11x : a0 ≤ 64 → (wrap64 (1 * 2 ^ a0.toNat)) = ji11 := fun h_ => (i64_w _).symm.trans (hji11z h_)
     by_cases c12 : x7_1 < (ji11)
     ·rw [if_pos c12] at H
      have c12b0 : decide (x7_1 < (ji11)) = true := decide_eq_true c12
      clear c12
      replace H := Option.bind_eq_some_iff.mp H
      obtain ⟨⟨t262, t263⟩, A130, H⟩ := H
      replace H : ((tower_Square.f k1 a0 t262 t263).bind fun bt265 => ((tower_Add.f bt265.1 bt265.2 t262 t263).bind fun bt267 => (if x6_1.length < 8796093022208 then (frob_Half.l0 k1 a0 (x6_1 ++ [(⟨bt267.1, bt267.2⟩ : S24)]) (wrap64 (x7_1 + 1)) a1_0 a1_1) else (none)))) = some (r1, r2, r3) := H
      have A13 := Aside0.mk A130
      clear A130
      replace H := Option.bind_eq_some_iff.mp H
      obtain ⟨⟨t265, t266⟩, A140, H⟩ := H
      replace H : ((tower_Add.f t265 t266 t262 t263).bind fun bt267 => (if x6_1.length < 8796093022208 then (frob_Half.l0 k1 a0 (x6_1 ++ [(⟨bt267.1, bt267.2⟩ : S24)]) (wrap64 (x7_1 + 1)) a1_0 a1_1) else (none))) = some (r1, r2, r3) := H
      have A14 := Aside0.mk A140
      clear A140
      replace H := Option.bind_eq_some_iff.mp H
      obtain ⟨⟨t267, t268⟩, A150, H⟩ := H
      replace H : (if x6_1.length < 8796093022208 then (frob_Half.l0 k1 a0 (x6_1 ++ [(⟨t267, t268⟩ : S24)]) (wrap64 (x7_1 + 1)) a1_0 a1_1) else (none)) = some (r1, r2, r3) := H
      have A15 := Aside0.mk A150
      clear A150
      by_cases c16 : x6_1.length < 8796093022208
      ·rw [if_pos c16] at H
       have LMc16 := Aside0.mk c16
       clear c16
       obtain ⟨y269, hy269⟩ : ∃ y_ : List (S24), y_ = (x6_1 ++ [(⟨t267, t268⟩ : S24)]) := ⟨_, rfl⟩
       replace H : (frob_Half.l0 k1 a0 y269 (wrap64 (x7_1 + 1)) a1_0 a1_1) = some (r1, r2, r3) := by first | (rw [hy269]; with_reducible exact H) | (have H2_ := (Option.bind_some _ _).symm.trans H; rw [hy269]; with_reducible exact H2_) | (have H2_ := (Option.bind_some _ _).symm.trans H; with_reducible exact H2_) | with_reducible exact H | (rw [hy269]; exact H) | exact H
       have Ny269 := Aside0.mk hy269
       clear hy269
       have H' := Aside0.mk H
       clear H
       try go_wp2_with (first | ((with_reducible refine gate_callee (f := 47) rfl ?_); refine goesL_ (some 26) rfl rfl Try.func47 (by kernel_rfl) rfl #[.int .i64 x7_1] rfl (by (try simp only [List.map_toArray, List.map_cons, List.map_nil]); first | done | rfl | (simp only [List.length_drop, List.length_take]; rfl)) ?_; (with_reducible refine (tower_Bit.calls k1 x7_1 t262 t263 _ A13.out).mono ?_); rintro e w17 ⟨rfl, hb⟩; refine ⟨_, rfl, ?_⟩; replace HO_6 := kb HO_6 hb; replace BK259 := bb BK259 hb; replace BK260 := bb BK260 hb; replace HB := bh HB hb; (try clear hb); (try clear hb2); (try clear hk); (try clear hi)) | ((with_reducible refine gate_dst (N := 8) rfl ?_); refine box_event ?hg (N := 8) ?hd (cs := #[.int .u64 0, .int .u64 0]) (t := 24) ?hr ?_; (case hd => rfl); (case hg => rfl); (case hr => first | (go_simp; done) | (go_simp; rfl)); intro gb264 hg w18 hbox hb; have BK264 := Aside0.mk hbox; have GW264 := ge hg HB; have GE264 := ge hg HB; have NB259_264 := nl hg BK259; have NB264_259 := ng hg BK259; have NB260_264 := nl hg BK260; have NB264_260 := ng hg BK260; replace HO_6 := Aside0.mk (Kd.R_below (Kd.R_elderB (kr HO_6.out) gb264 (Nat.le_of_eq hg.symm)) hb); replace BK259 := bb BK259 hb; replace BK260 := bb BK260 hb; replace HB := bh HB hb; clear hb hbox hg; have hnb19 := NB264_259.out; have hnc19 := NB259_264.out; have hnb20 := NB264_260.out; have hnc20 := NB260_264.out; obtain ⟨hcz21_0, hcz21_1⟩ := zc2 BK264; obtain ⟨hfz21_0, hfz21_1⟩ := zf2 BK264))
       have n0_ : Aside0 (Kd.R k24 24 ((w18.setCell ⟨gb264, 0, none⟩ (.int .u64 t262)).setCell ⟨gb264, 1, none⟩ (.int .u64 t263)) w.heap.size (fun k_ => k_ ≠ gb259 ∧ k_ ≠ gb260 ∧ k_ ≠ gb264) u6 x6_1) := ⟨by (with_reducible repeat refine kl ?_); exact Kd.R_mono (Kd.R_far (p := ⟨gb264, 1, none⟩) (Kd.R_far (p := ⟨gb264, 0, none⟩) (Kd.R_mono HO_6.out (fun k_ hk => (⟨hk, hk.2⟩ : _ ∧ k_ ≠ gb264))) (fun _ hk => hk.2) (.int .u64 t262)) (fun _ hk => hk.2) (.int .u64 t263)) (fun _ hk => ⟨hk.1.1.1, ⟨hk.1.1.2, hk.1.2⟩⟩)⟩
       have n1_ : Aside0 (((w18.setCell ⟨gb264, 0, none⟩ (.int .u64 t262)).setCell ⟨gb264, 1, none⟩ (.int .u64 t263)).heap[gb259]? = some (.cells #[.int .u64 a1_0, .int .u64 a1_1] 24 (0, 0))) := ⟨by (with_reducible repeat refine bl ?_); refine blk_far ?_ NB259_264.out _; (with_reducible repeat refine bl ?_); refine blk_far ?_ NB259_264.out _; (with_reducible repeat refine bl ?_); exact BK259.out⟩
       have n2_ : Aside0 (((w18.setCell ⟨gb264, 0, none⟩ (.int .u64 t262)).setCell ⟨gb264, 1, none⟩ (.int .u64 t263)).heap[gb260]? = some (.cells #[.int .u64 0, .int .u64 0] 24 (0, 0))) := ⟨by (with_reducible repeat refine bl ?_); refine blk_far ?_ NB260_264.out _; (with_reducible repeat refine bl ?_); refine blk_far ?_ NB260_264.out _; (with_reducible repeat refine bl ?_); exact BK260.out⟩
       have n3_ : Aside0 (((w18.setCell ⟨gb264, 0, none⟩ (.int .u64 t262)).setCell ⟨gb264, 1, none⟩ (.int .u64 t263)).heap[gb264]? = some (.cells #[.int .u64 t262, .int .u64 t263] 24 (0, 0))) := ⟨by (with_reducible repeat refine bl ?_); refine blk_put (cs := #[.int .u64 t262, .int .u64 0]) ?_ 1 _ rfl; (with_reducible repeat refine bl ?_); refine blk_put (cs := #[.int .u64 0, .int .u64 0]) ?_ 0 _ rfl; (with_reducible repeat refine bl ?_); exact BK264.out⟩
       have n4_ : Aside0 (Below w.heap.size w ((w18.setCell ⟨gb264, 0, none⟩ (.int .u64 t262)).setCell ⟨gb264, 1, none⟩ (.int .u64 t263))) := ⟨bq HB.out⟩
       (try clear HO_6)
       (try clear BK259)
       (try clear BK260)
       (try clear BK264)
       (try clear HB)
       generalize ((w18.setCell ⟨gb264, 0, none⟩ (.int .u64 t262)).setCell ⟨gb264, 1, none⟩ (.int .u64 t263)) = w22 at n0_ n1_ n2_ n3_ n4_ ⊢
       have HO_6 := n0_
       have BK259 := n1_
       have BK260 := n2_
       have BK264 := n3_
       have HB := n4_
       clear n0_ n1_ n2_ n3_ n4_
       replace HO_6 := Aside0.mk (Kd.R_drew HO_6.out)
       replace BK259 := Aside0.mk (blk_drew BK259.out)
       replace BK260 := Aside0.mk (blk_drew BK260.out)
       replace BK264 := Aside0.mk (blk_drew BK264.out)
       replace HB := Aside0.mk (below_drew1 HB.out)
       refine start_ (n := 9) (S := fun w' => w'.cell? ⟨gb264, 0, none⟩ = some (.int .u64 t262) ∧ w'.cell? ⟨gb264, 1, none⟩ = some (.int .u64 t263)) (ds := []) #[false, false, false, false, false, false, false, false, false] (by kernel_rfl) rfl rfl ⟨(blk_cell BK264.out 0).trans rfl, (blk_cell BK264.out 1).trans rfl⟩ (fun hHeld => ?_); refine with_tabW frob_Half.tab8 frob_Half.bits8 (fun HT_ HW_ => ?_)
       generalize w22.drew = w23 at HO_6 BK259 BK260 BK264 HB hHeld ⊢
       refine pure_ (i := 0) (N := some 27) (v := ?_) (a' := ?_) #[true, false, false, false, false, false, false, false, false] rfl rfl (any_of HT_.out (by kernel_rfl)) (fun _ _ _ h => h) (Or.inl ⟨by rfl, ?_⟩) ?_ ?_
       rotate_left
       ·intro w'
        go_simp
        with_reducible rfl
       rotate_left
       ·simp only [Act.put, List.setIfInBounds_toArray, List.set_cons_zero, List.set_cons_succ, i64_w, i32_w]
        rfl
       refine pure_ (i := 1) (N := some 28) (v := ?_) (a' := ?_) #[true, true, false, false, false, false, false, false, false] rfl rfl (any_of HT_.out (by kernel_rfl)) (fun _ _ _ h => h) (Or.inl ⟨by rfl, ?_⟩) ?_ ?_
       rotate_left
       ·intro w'
        go_simp
        with_reducible rfl
       rotate_left
       ·simp only [Act.put, List.setIfInBounds_toArray, List.set_cons_zero, List.set_cons_succ, i64_w, i32_w]
        rfl
       refine take_ (i := 2) (N := some 29) (v := ?_) (a' := ?_) #[true, true, true, false, false, false, false, false, false] rfl rfl (take_ofW HT_.out HW_.out (by kernel_rfl)) (fun _ _ _ h => h) (Or.inl ⟨by rfl, ?_⟩) hHeld ?_ ?_
       rotate_left
       ·rintro w' ⟨s0, s1⟩
        go_simp
        with_reducible rfl
       rotate_left
       ·simp only [Act.put, List.setIfInBounds_toArray, List.set_cons_zero, List.set_cons_succ, i64_w, i32_w]
        rfl
       refine take_ (i := 4) (N := some 31) (v := ?_) (a' := ?_) #[true, true, true, false, true, false, false, false, false] rfl rfl (take_ofW HT_.out HW_.out (by kernel_rfl)) (fun _ _ _ h => h) (Or.inl ⟨by rfl, ?_⟩) hHeld ?_ ?_
       rotate_left
       ·rintro w' ⟨s0, s1⟩
        go_simp
        with_reducible rfl
       rotate_left
       ·simp only [Act.put, List.setIfInBounds_toArray, List.set_cons_zero, List.set_cons_succ, i64_w, i32_w]
        rfl
       refine one_ (i := 3) (N := some 30) #[true, true, true, true, true, false, false, false, false] rfl rfl (one_of HT_.out (by kernel_rfl)) (by decide) (fun K hK => ?_)
       refine goes_ Try.func45 (by kernel_rfl) rfl #[.int .i64 a0, .agg #[.int .u64 t262, .int .u64 t263]] (by rfl) rfl rfl (by (try simp only [List.map_toArray, List.map_cons, List.map_nil]); first | done | rfl | (simp only [List.length_drop, List.length_take]; rfl)) ?_
       with_reducible refine (tower_Square.calls k1 a0 t262 t263 t265 t266 _ A14.out).mono ?_
       rintro e w24 ⟨rfl, hb⟩
       refine ⟨_, rfl, ?_⟩
       replace HO_6 := kb HO_6 hb
       replace BK259 := bb BK259 hb
       replace BK260 := bb BK260 hb
       replace BK264 := bb BK264 hb
       replace HB := bh HB hb
       (try clear hb)
       (try clear hb2)
       (try clear hk)
       (try clear hi)
       refine hK.out _ _ ⟨(blk_cell BK264.out 0).trans rfl, (blk_cell BK264.out 1).trans rfl⟩ (fun hHeld => ?_)
       clear hK K
       refine norm_ (a' := ?_) ?_ ?_
       rotate_left
       ·show Act.put _ (some 30) _ = _
        simp only [Act.put, List.setIfInBounds_toArray, List.set_cons_zero, List.set_cons_succ, i64_w, i32_w]
        rfl
       refine one_ (i := 5) (N := some 32) #[true, true, true, true, true, true, false, false, false] rfl rfl (one_of HT_.out (by kernel_rfl)) (by decide) (fun K hK => ?_)
       refine goes_ Try.func12 (by kernel_rfl) rfl #[.agg #[.int .u64 t265, .int .u64 t266], .agg #[.int .u64 t262, .int .u64 t263]] (by rfl) rfl rfl (by (try simp only [List.map_toArray, List.map_cons, List.map_nil]); first | done | rfl | (simp only [List.length_drop, List.length_take]; rfl)) ?_
       with_reducible refine (tower_Add.calls t265 t266 t262 t263 t267 t268 _ A15.out).mono ?_
       rintro e w25 ⟨rfl, hb⟩
       refine ⟨_, rfl, ?_⟩
       replace HO_6 := kb HO_6 hb
       replace BK259 := bb BK259 hb
       replace BK260 := bb BK260 hb
       replace BK264 := bb BK264 hb
       replace HB := bh HB hb
       (try clear hb)
       (try clear hb2)
       (try clear hk)
       (try clear hi)
       refine hK.out _ _ ⟨(blk_cell BK264.out 0).trans rfl, (blk_cell BK264.out 1).trans rfl⟩ (fun hHeld => ?_)
       clear hK K
       refine norm_ (a' := ?_) ?_ ?_
       rotate_left
       ·show Act.put _ (some 32) _ = _
        simp only [Act.put, List.setIfInBounds_toArray, List.set_cons_zero, List.set_cons_succ, i64_w, i32_w]
        rfl
       refine one_ (i := 6) (N := some 33) #[true, true, true, true, true, true, true, false, false] rfl rfl (one_of HT_.out (by kernel_rfl)) (by decide) (fun K hK => ?_)
       refine value_ (w1 := ?_) (v := ?_) (by rfl) rfl ?_ ?_
       rotate_left 2
       ·go_simp
        constructor
        ·rfl
        ·rfl
       refine hK.out _ _ ⟨(blk_cell (blk_alloc BK264.out _) 0).trans rfl, (blk_cell (blk_alloc BK264.out _) 1).trans rfl⟩ (fun hHeld => ?_)
       clear hK K
       refine norm_ (a' := ?_) ?_ ?_
       rotate_left
       ·show Act.put _ (some 33) _ = _
        simp only [Act.put, List.setIfInBounds_toArray, List.set_cons_zero, List.set_cons_succ, i64_w, i32_w]
        rfl
       refine one_ (i := 7) (N := some 34) #[true, true, true, true, true, true, true, true, false] rfl rfl (one_of HT_.out (by kernel_rfl)) (by decide) (fun K hK => ?_)
       refine Kd.R_append_step k24 (w0 := w) w.heap.size (by rfl) (.tmp 27) (.tmp 33) 48 24 (.agg #[(.int .u64 0), (.int .u64 0)]) 16 rfl Try.underlying48 info24 rfl (by decide) (by omega) u6 x6_1 (⟨t267, t268⟩ : S24) [.int .u64 t267, .int .u64 t268] (fun k_ => k_ ≠ gb259 ∧ k_ ≠ gb260 ∧ k_ ≠ gb264) (fun _ => False) rfl rfl ?aP (fun _ hk => hk.elim) ?aF ?aO ?aB ?aS ?aL ?_
       (case aP => exact k24_mkM _ _ _ (⟨t267, t268⟩ : S24))
       (case aB => exact (bq HB.out))
       (case aF => exact (fun k_ hk => ⟨Kd.freshB (g := gb259) (o := .cells #[.int .u64 a1_0, .int .u64 a1_1] 24 (0, 0)) (bk BK259.out) k_ hk, Kd.freshB (g := gb260) (o := .cells #[.int .u64 0, .int .u64 0] 24 (0, 0)) (bk BK260.out) k_ hk, Kd.freshB (g := gb264) (o := .cells #[.int .u64 t262, .int .u64 t263] 24 (0, 0)) (bk BK264.out) k_ hk⟩))
       (case aO => exact (kr HO_6.out))
       (case aS => exact (below_size (bq HB.out)))
       (case aL => have := LMc16.out; omega)
       intro v270 w26 ho hb hg hat
       rw [← Ny269.out] at ho
       have HO271 := Aside0.mk ho
       replace BK259 := Aside0.mk (blk_grown (g := gb259) (o := .cells #[.int .u64 a1_0, .int .u64 a1_1] 24 (0, 0)) (bk BK259.out) hg (Kd.R_away HO_6.out (fun _ hk => hk.1)))
       replace BK260 := Aside0.mk (blk_grown (g := gb260) (o := .cells #[.int .u64 0, .int .u64 0] 24 (0, 0)) (bk BK260.out) hg (Kd.R_away HO_6.out (fun _ hk => hk.2.1)))
       replace BK264 := Aside0.mk (blk_grown (g := gb264) (o := .cells #[.int .u64 t262, .int .u64 t263] 24 (0, 0)) (bk BK264.out) hg (Kd.R_away HO_6.out (fun _ hk => hk.2.2)))
       replace HB := Aside0.mk hb
       clear HO_6
       clear ho hb hg hat
       refine hK.out _ _ ⟨(blk_cell BK264.out 0).trans rfl, (blk_cell BK264.out 1).trans rfl⟩ (fun hHeld => ?_)
       clear hK K
       refine norm_ (a' := ?_) ?_ ?_
       rotate_left
       ·show Act.put _ (some 34) _ = _
        simp only [Act.put, List.setIfInBounds_toArray, List.set_cons_zero, List.set_cons_succ, i64_w, i32_w]
        rfl
       refine pure_ (i := 8) (N := some 6) (v := ?_) (a' := ?_) #[true, true, true, true, true, true, true, true, true] rfl rfl (any_of HT_.out (by kernel_rfl)) (fun _ _ _ h => h) (Or.inl ⟨by rfl, ?_⟩) ?_ ?_
       rotate_left
       ·intro w'
        go_simp
        with_reducible rfl
       rotate_left
       ·simp only [Act.put, List.setIfInBounds_toArray, List.set_cons_zero, List.set_cons_succ, i64_w, i32_w]
        rfl
       refine done_ (done_of HT_.out (by kernel_rfl)) ?_
       try go_wp2
       go_roundg k1
       case measure => have := HK1.out; omega
       case rel => exact ⟨(y269), (wrap64 (x7_1 + 1)), (by first | rfl | (simp; done) | (simp [*]; done)), H', ⟨by have := HK1.out; omega⟩, ⟨by (with_reducible repeat refine kl ?_); exact Kd.R_mono HO271.out (fun _ hk => ⟨hk.1, hk.2.1⟩)⟩, ⟨bk BK259.out⟩, ⟨bk BK260.out⟩, ⟨bq HB.out⟩⟩
      ·rw [if_neg c16] at H
       exact absurd H (by simp)
     ·rw [if_neg c12] at H
      have c12b0 : decide (x7_1 < (ji11)) = false := decide_eq_false c12
      clear c12
      replace H := Option.bind_eq_some_iff.mp H
      obtain ⟨⟨t272, t275⟩, A270, H⟩ := H
      replace H : (if t275 = true then (frob_Half.l1 k1 t272 (t272.length : Int) 0 0 0) else (some (0, 0, false))) = some (r1, r2, r3) := H
      have A27 := Aside0.mk A270
      clear A270
      by_cases c28 : t275 = true
      ·subst c28
       have H1 : (frob_Half.l1 k1 t272 (t272.length : Int) 0 0 0) = some (r1, r2, r3) := by rw [if_pos rfl] at H; exact H
       clear H
       have H := H1
       clear H1
       have H' := Aside0.mk H
       clear H
       have hnb29 := NB259_260.out
       have hnc29 := NB260_259.out
       obtain ⟨hcz30_0, hcz30_1⟩ := zc2 BK259
       obtain ⟨hfz30_0, hfz30_1⟩ := zf2 BK259
       obtain ⟨Ao31, co31, eo31⟩ := Kd.R_slice HO_6.out
       subst eo31
       go_wp2_with (first | ((with_reducible refine gate_callee (f := 48) rfl ?_); refine goesL_ (some 38) rfl rfl Try.func48 (by kernel_rfl) rfl #[.slice Ao31 x6_1.length co31, .agg #[.int .u64 a1_0, .int .u64 a1_1]] rfl (by (try simp only [List.map_toArray, List.map_cons, List.map_nil]); first | done | rfl | (simp only [List.length_drop, List.length_take]; rfl)) ?_; (with_reducible refine (span_Solve.calls k1 _ _ x6_1 a1_0 a1_1 t272 true _ ?side1 ?side2 A27.out).mono ?_); (case side1 => repeat (first | exact (Kd.R_reads' HO_6.out).2.2 | (with_reducible refine Kd.C_alloc ?_ _) | (with_reducible refine Kd.C_drewN ?_ _) | (with_reducible refine Kd.C_drew ?_))); (case side2 => exact (Kd.R_reads' HO_6.out).2.1); rintro e w32 ⟨v273, rfl, ho0, hb⟩; refine ⟨_, rfl, ?_⟩; have HO274 := kw ho0 HB; replace HO_6 := kb HO_6 hb; replace BK259 := bb BK259 hb; replace BK260 := bb BK260 hb; replace HB := bh HB hb; (try clear hb); (try clear hb2); (try clear hk); (try clear hi); (try clear ho0)) | ((with_reducible refine gate_dst (N := 11) rfl ?_); refine box_event ?hg (N := 11) ?hd (cs := #[.int .u64 0, .int .u64 0]) (t := 24) ?hr ?_; (case hd => rfl); (case hg => rfl); (case hr => first | (go_simp; done) | (go_simp; rfl)); intro gb276 hg w33 hbox hb; have BK276 := Aside0.mk hbox; have GW276 := ge hg HB; have GE276 := ge hg HB; have NB259_276 := nl hg BK259; have NB276_259 := ng hg BK259; have NB260_276 := nl hg BK260; have NB276_260 := ng hg BK260; replace HO_6 := Aside0.mk (Kd.R_below (Kd.R_elderB (kr HO_6.out) gb276 (Nat.le_of_eq hg.symm)) hb); replace HO274 := kb HO274 hb; replace BK259 := bb BK259 hb; replace BK260 := bb BK260 hb; replace HB := bh HB hb; clear hb hbox hg; obtain ⟨Ao34, co34, eo34⟩ := Kd.R_slice HO274.out; subst eo34))
       go_loopg [46] k1 (fun kq v46 w' => ∃ (x46_2 : Int) (x277000_2 : Int) (x277001_2 : Int), v46 = .int .i64 x46_2 ∧ Aside0 (frob_Half.l1 kq t272 (t272.length : Int) x46_2 x277000_2 x277001_2 = some (r1, r2, r3)) ∧ Aside0 (kq ≤ k1) ∧ Aside0 (Kd.R Kd.bool 4 w' w.heap.size (fun _ => True) (.slice Ao34 t272.length co34) t272) ∧ Aside0 (w'.heap[gb259]? = some (.cells #[.int .u64 a1_0, .int .u64 a1_1] 24 (0, 0))) ∧ Aside0 (w'.heap[gb260]? = some (.cells #[.int .u64 0, .int .u64 0] 24 (0, 0))) ∧ Aside0 (w'.heap[gb276]? = some (.cells #[.int .u64 x277000_2, .int .u64 x277001_2] 24 (0, 0))) ∧ Aside0 (Below w.heap.size w w'))
       case atStart => exact ⟨(0), (0), (0), (by first | rfl | (simp; done) | (simp [*]; done)), H', ⟨Nat.le_refl _⟩, ⟨kr HO274.out⟩, ⟨bk BK259.out⟩, ⟨bk BK260.out⟩, ⟨bk BK276.out⟩, ⟨bq HB.out⟩⟩
       case round =>
        clear H'
        try clear c1
        try clear c2
        try clear p2
        try clear c3
        try clear c4
        try clear p6
        try clear c7
        try clear c10
        try clear c10b0
        try clear c10b1
        try clear c12
        try clear c12b0
        try clear c16
        try clear c19
        try clear c20
        try clear c26
        try clear c28
        try clear c29
        try clear c33
        try clear hcz21_0
        try clear hcz21_1
        try clear hcz30_0
        try clear hcz30_1
        try clear hcz8_0
        try clear hcz8_1
        try clear hfz21_0
        try clear hfz21_1
        try clear hfz30_0
        try clear hfz30_1
        try clear hfz8_0
        try clear hfz8_1
        try clear p2
        obtain ⟨x46_2, x277000_2, x277001_2, rfl, HA, HK2, HO_44, BK259, BK260, BK276, HB⟩ := hrel
        cases gk with
        | zero => exact absurd HA.out (by simp [frob_Half.l1])
        | succ k2 =>
         have H := HA.out
         clear HA
         simp only [frob_Half.l1] at H
         by_cases c35 : x46_2 < (t272.length : Int)
         ·rw [if_pos c35] at H
          have c35b0 : decide (x46_2 < (t272.length : Int)) = true := decide_eq_true c35
          clear c35
          by_cases c36 : 0 ≤ x46_2
          ·rw [if_pos c36] at H
           have c36b0 : decide (0 ≤ x46_2) = true := decide_eq_true c36
           clear c36
           by_cases c37 : x46_2 < (t272.length : Int)
           ·rw [if_pos c37] at H
            have c37b0 : decide (x46_2 < (t272.length : Int)) = true := decide_eq_true c37
            clear c37
            obtain ⟨bq38, hbq38⟩ : ∃ b_ : Bool, b_ = (rdOf false t272 x46_2) := ⟨_, rfl⟩
            replace H : (if bq38 = true then ((tower_Bit.f k2 (wrap64 (x46_2 + 1))).bind fun bt278 => ((tower_Add.f x277000_2 x277001_2 bt278.1 bt278.2).bind fun bt280 => (frob_Half.l1 k2 t272 (t272.length : Int) (wrap64 (x46_2 + 1)) bt280.1 bt280.2))) else (frob_Half.l1 k2 t272 (t272.length : Int) (wrap64 (x46_2 + 1)) x277000_2 x277001_2)) = some (r1, r2, r3) := by rw [← hbq38] at H; exact H
            have Nbq38 := Aside0.mk hbq38
            clear hbq38
            by_cases c39 : bq38 = true
            ·subst c39
             have H1 : ((tower_Bit.f k2 (wrap64 (x46_2 + 1))).bind fun bt278 => ((tower_Add.f x277000_2 x277001_2 bt278.1 bt278.2).bind fun bt280 => (frob_Half.l1 k2 t272 (t272.length : Int) (wrap64 (x46_2 + 1)) bt280.1 bt280.2))) = some (r1, r2, r3) := by rw [if_pos rfl] at H; exact H
             clear H
             have H := H1
             clear H1
             replace H := Option.bind_eq_some_iff.mp H
             obtain ⟨⟨t278, t279⟩, A400, H⟩ := H
             replace H : ((tower_Add.f x277000_2 x277001_2 t278 t279).bind fun bt280 => (frob_Half.l1 k2 t272 (t272.length : Int) (wrap64 (x46_2 + 1)) bt280.1 bt280.2)) = some (r1, r2, r3) := H
             have A40 := Aside0.mk A400
             clear A400
             replace H := Option.bind_eq_some_iff.mp H
             obtain ⟨⟨t280, t281⟩, A410, H⟩ := H
             replace H : (frob_Half.l1 k2 t272 (t272.length : Int) (wrap64 (x46_2 + 1)) t280 t281) = some (r1, r2, r3) := H
             have A41 := Aside0.mk A410
             clear A410
             have H' := Aside0.mk H
             clear H
             have p277 : 0 ≤ (x46_2 : Int) := of_decide_eq_true (by first | (with_reducible assumption) | assumption)
             have q277 : x46_2 < (t272.length : Int) := of_decide_eq_true (by first | (with_reducible assumption) | assumption)
             (try (obtain ⟨Ap_, cp_, ep_⟩ := Kd.R_slice HO_44.out; subst ep_))
             obtain ⟨ad277, e277, hx277_0⟩ := Kd.at_bool (Kd.R_reads' HO_44.out).2.2 x46_2 p277 q277
             (try rw [← Nbq38.out] at hx277_0)
             cases e277
             replace p277 := eq_true p277
             replace q277 := eq_true q277
             try go_wp2
             replace HO_44 := Aside0.mk (Kd.R_drew HO_44.out)
             replace BK259 := Aside0.mk (blk_drew BK259.out)
             replace BK260 := Aside0.mk (blk_drew BK260.out)
             replace BK276 := Aside0.mk (blk_drew BK276.out)
             replace HB := Aside0.mk (below_drew1 HB.out)
             refine start_ (n := 6) (S := fun w' => w'.cell? ⟨gb276, 0, none⟩ = some (.int .u64 x277000_2) ∧ w'.cell? ⟨gb276, 1, none⟩ = some (.int .u64 x277001_2)) (ds := [5]) #[false, false, false, false, false, false] (by kernel_rfl) rfl rfl ⟨(blk_cell BK276.out 0).trans rfl, (blk_cell BK276.out 1).trans rfl⟩ (fun hHeld => ?_)
             generalize wr.drew = w42 at HO_44 BK259 BK260 BK276 HB hHeld ⊢
             refine pure_ (i := 1) (N := some 53) (v := ?_) (a' := ?_) #[false, true, false, false, false, false] rfl rfl (by kernel_rfl) (fun _ _ _ h => h) (Or.inl ⟨by rfl, ?_⟩) ?_ ?_
             rotate_left
             ·intro w'
              go_simp
              with_reducible rfl
             rotate_left
             ·simp only [Act.put, List.setIfInBounds_toArray, List.set_cons_zero, List.set_cons_succ, i64_w, i32_w]
              rfl
             refine pure_ (i := 2) (N := some 54) (v := ?_) (a' := ?_) #[false, true, true, false, false, false] rfl rfl (by kernel_rfl) (fun _ _ _ h => h) (Or.inl ⟨by rfl, ?_⟩) ?_ ?_
             rotate_left
             ·intro w'
              go_simp
              with_reducible rfl
             rotate_left
             ·simp only [Act.put, List.setIfInBounds_toArray, List.set_cons_zero, List.set_cons_succ, i64_w, i32_w]
              rfl
             refine take_ (i := 0) (N := some 52) (v := ?_) (a' := ?_) #[true, true, true, false, false, false] rfl rfl (by kernel_rfl) (fun _ _ _ h => h) (Or.inl ⟨by rfl, ?_⟩) hHeld ?_ ?_
             rotate_left
             ·rintro w' ⟨s0, s1⟩
              go_simp
              with_reducible rfl
             rotate_left
             ·simp only [Act.put, List.setIfInBounds_toArray, List.set_cons_zero, List.set_cons_succ, i64_w, i32_w]
              rfl
             refine one_ (i := 3) (N := some 55) #[true, true, true, true, false, false] rfl rfl (by kernel_rfl) (by decide) (fun K hK => ?_)
             refine goes_ Try.func47 (by kernel_rfl) rfl #[.int .i64 (wrap64 (x46_2 + 1))] (by rfl) rfl rfl (by (try simp only [List.map_toArray, List.map_cons, List.map_nil]); first | done | rfl | (simp only [List.length_drop, List.length_take]; rfl)) ?_
             with_reducible refine (tower_Bit.calls k2 (wrap64 (x46_2 + 1)) t278 t279 _ A40.out).mono ?_
             rintro e w43 ⟨rfl, hb⟩
             refine ⟨_, rfl, ?_⟩
             replace HO_44 := kb HO_44 hb
             replace BK259 := bb BK259 hb
             replace BK260 := bb BK260 hb
             replace BK276 := bb BK276 hb
             replace HB := bh HB hb
             (try clear hb)
             (try clear hb2)
             (try clear hk)
             (try clear hi)
             refine hK.out _ _ ⟨(blk_cell BK276.out 0).trans rfl, (blk_cell BK276.out 1).trans rfl⟩ (fun hHeld => ?_)
             clear hK K
             refine norm_ (a' := ?_) ?_ ?_
             rotate_left
             ·show Act.put _ (some 55) _ = _
              simp only [Act.put, List.setIfInBounds_toArray, List.set_cons_zero, List.set_cons_succ, i64_w, i32_w]
              rfl
             refine one_ (i := 4) (N := some 56) #[true, true, true, true, true, false] rfl rfl (by kernel_rfl) (by decide) (fun K hK => ?_)
             refine goes_ Try.func12 (by kernel_rfl) rfl #[.agg #[.int .u64 x277000_2, .int .u64 x277001_2], .agg #[.int .u64 t278, .int .u64 t279]] (by rfl) rfl rfl (by (try simp only [List.map_toArray, List.map_cons, List.map_nil]); first | done | rfl | (simp only [List.length_drop, List.length_take]; rfl)) ?_
             with_reducible refine (tower_Add.calls x277000_2 x277001_2 t278 t279 t280 t281 _ A41.out).mono ?_
             rintro e w44 ⟨rfl, hb⟩
             refine ⟨_, rfl, ?_⟩
             replace HO_44 := kb HO_44 hb
             replace BK259 := bb BK259 hb
             replace BK260 := bb BK260 hb
             replace BK276 := bb BK276 hb
             replace HB := bh HB hb
             (try clear hb)
             (try clear hb2)
             (try clear hk)
             (try clear hi)
             refine hK.out _ _ ⟨(blk_cell BK276.out 0).trans rfl, (blk_cell BK276.out 1).trans rfl⟩ (fun hHeld => ?_)
             clear hK K
             refine norm_ (a' := ?_) ?_ ?_
             rotate_left
             ·show Act.put _ (some 56) _ = _
              simp only [Act.put, List.setIfInBounds_toArray, List.set_cons_zero, List.set_cons_succ, i64_w, i32_w]
              rfl
             refine last_ (i := 5) (N := none) #[true, true, true, true, true, true] rfl rfl (by kernel_rfl) (by decide) (fun K hK => ?_)
             have hs45 : w44.cell? ⟨gb276, 0, none⟩ = some (.int .u64 x277000_2) := (blk_cell BK276.out 0).trans rfl
             have hfs45 := blk_frozen BK276.out 0
             have hns45_0 := NB259_276.out
             have hns45_1 := NB260_276.out
             have hms45_0 := NB276_259.out
             have hms45_1 := NB276_260.out
             have hs46 : w44.cell? ⟨gb276, 1, none⟩ = some (.int .u64 x277001_2) := (blk_cell BK276.out 1).trans rfl
             have hfs46 := blk_frozen BK276.out 1
             have hns46_0 := NB259_276.out
             have hns46_1 := NB260_276.out
             have hms46_0 := NB276_259.out
             have hms46_1 := NB276_260.out
             refine skip_ (w1 := ?_) (by rfl) rfl ?_ ?_
             rotate_left
             ·go_simp
              rfl
             refine hK.out _ _ ?_
             clear hK K
             refine done_ (by kernel_rfl) ?_
             try go_wp2
             go_roundg k2
             case measure => have := HK1.out; have := HK2.out; omega
             case rel => exact ⟨(wrap64 (x46_2 + 1)), (t280), (t281), (by first | rfl | (simp; done) | (simp [*]; done)), H', ⟨by have := HK1.out; have := HK2.out; omega⟩, ⟨by (with_reducible repeat refine kl ?_); exact Kd.R_mono (Kd.R_far (p := ⟨gb276, 1, none⟩) (Kd.R_far (p := ⟨gb276, 0, none⟩) (Kd.R_types HO_44.out BK276.out (by decide)) (fun _ hk => hk.2) (.int .u64 t280)) (fun _ hk => hk.2) (.int .u64 t281)) (fun _ hk => trivial)⟩, ⟨by (with_reducible repeat refine bl ?_); refine blk_far ?_ NB259_276.out _; (with_reducible repeat refine bl ?_); refine blk_far ?_ NB259_276.out _; (with_reducible repeat refine bl ?_); exact BK259.out⟩, ⟨by (with_reducible repeat refine bl ?_); refine blk_far ?_ NB260_276.out _; (with_reducible repeat refine bl ?_); refine blk_far ?_ NB260_276.out _; (with_reducible repeat refine bl ?_); exact BK260.out⟩, ⟨by (with_reducible repeat refine bl ?_); refine blk_put (cs := #[.int .u64 t280, .int .u64 x277001_2]) ?_ 1 _ rfl; (with_reducible repeat refine bl ?_); refine blk_put (cs := #[.int .u64 x277000_2, .int .u64 x277001_2]) ?_ 0 _ rfl; (with_reducible repeat refine bl ?_); exact BK276.out⟩, ⟨bq HB.out⟩⟩
            ·replace c39 := Bool.eq_false_iff.mpr c39
             subst c39
             have H1 : (frob_Half.l1 k2 t272 (t272.length : Int) (wrap64 (x46_2 + 1)) x277000_2 x277001_2) = some (r1, r2, r3) := by rw [if_neg (show ¬ (false = true) by decide)] at H; exact H
             clear H
             have H := H1
             clear H1
             have H' := Aside0.mk H
             clear H
             have p277 : 0 ≤ (x46_2 : Int) := of_decide_eq_true (by first | (with_reducible assumption) | assumption)
             have q277 : x46_2 < (t272.length : Int) := of_decide_eq_true (by first | (with_reducible assumption) | assumption)
             (try (obtain ⟨Ap_, cp_, ep_⟩ := Kd.R_slice HO_44.out; subst ep_))
             obtain ⟨ad277, e277, hx277_0⟩ := Kd.at_bool (Kd.R_reads' HO_44.out).2.2 x46_2 p277 q277
             (try rw [← Nbq38.out] at hx277_0)
             cases e277
             replace p277 := eq_true p277
             replace q277 := eq_true q277
             go_wp2
             go_roundg k2
             case measure => have := HK1.out; have := HK2.out; omega
             case rel => exact ⟨(wrap64 (x46_2 + 1)), (x277000_2), (x277001_2), (by first | rfl | (simp; done) | (simp [*]; done)), H', ⟨by have := HK1.out; have := HK2.out; omega⟩, ⟨kr HO_44.out⟩, ⟨bk BK259.out⟩, ⟨bk BK260.out⟩, ⟨bk BK276.out⟩, ⟨bq HB.out⟩⟩
           ·rw [if_neg c37] at H
            exact absurd H (by simp)
          ·rw [if_neg c36] at H
           exact absurd H (by simp)
         ·rw [if_neg c35] at H
          have c35b0 : decide (x46_2 < (t272.length : Int)) = false := decide_eq_false c35
          clear c35
          simp only [Option.some.injEq, Prod.mk.injEq] at H
          obtain ⟨rfl, rfl, rfl⟩ := H
          have hnb47 := NB276_259.out
          have hnc47 := NB259_276.out
          have hnb48 := NB276_260.out
          have hnc48 := NB260_276.out
          obtain ⟨hcz49_0, hcz49_1⟩ := zc2 BK276
          obtain ⟨hfz49_0, hfz49_1⟩ := zf2 BK276
          have hnb50 := NB260_259.out
          have hnc50 := NB259_260.out
          obtain ⟨hcz51_0, hcz51_1⟩ := zc2 BK260
          obtain ⟨hfz51_0, hfz51_1⟩ := zf2 BK260
          go_wp2
          refine bodyPost_ret (results_ct rfl _ _ gb260 24 #[.int .u64 x277000_2, .int .u64 x277001_2] (0, 0) _ rfl (by (with_reducible repeat refine bl ?_); refine blk_put (cs := #[.int .u64 x277000_2, .int .u64 0]) ?_ 1 _ rfl; (with_reducible repeat refine bl ?_); refine blk_put (cs := #[.int .u64 0, .int .u64 0]) ?_ 0 _ rfl; (with_reducible repeat refine bl ?_); exact BK260.out) Try.underlying24 rfl (by kernel_rfl)) rfl ?_
          exact ⟨by first | rfl | (simp [errW_none, errW_some] <;> rfl) | (simp only [← hji11]; first | rfl | (simp [errW_none, errW_some] <;> rfl)) | (simp [*, errW_none, errW_some] <;> rfl), bq HB.out⟩
      ·replace c28 := Bool.eq_false_iff.mpr c28
       subst c28
       have H1 : (some (0, 0, false)) = some (r1, r2, r3) := by rw [if_neg (show ¬ (false = true) by decide)] at H; exact H
       clear H
       have H := H1
       clear H1
       simp only [Option.some.injEq, Prod.mk.injEq] at H
       obtain ⟨rfl, rfl, rfl⟩ := H
       have hnb52 := NB259_260.out
       have hnc52 := NB260_259.out
       obtain ⟨hcz53_0, hcz53_1⟩ := zc2 BK259
       obtain ⟨hfz53_0, hfz53_1⟩ := zf2 BK259
       obtain ⟨Ao54, co54, eo54⟩ := Kd.R_slice HO_6.out
       subst eo54
       go_wp2_with (first | ((with_reducible refine gate_callee (f := 48) rfl ?_); refine goesL_ (some 38) rfl rfl Try.func48 (by kernel_rfl) rfl #[.slice Ao54 x6_1.length co54, .agg #[.int .u64 a1_0, .int .u64 a1_1]] rfl (by (try simp only [List.map_toArray, List.map_cons, List.map_nil]); first | done | rfl | (simp only [List.length_drop, List.length_take]; rfl)) ?_; (with_reducible refine (span_Solve.calls k1 _ _ x6_1 a1_0 a1_1 t272 false _ ?side1 ?side2 A27.out).mono ?_); (case side1 => repeat (first | exact (Kd.R_reads' HO_6.out).2.2 | (with_reducible refine Kd.C_alloc ?_ _) | (with_reducible refine Kd.C_drewN ?_ _) | (with_reducible refine Kd.C_drew ?_))); (case side2 => exact (Kd.R_reads' HO_6.out).2.1); rintro e w55 ⟨v273, rfl, ho0, hb⟩; refine ⟨_, rfl, ?_⟩; have HO274 := kw ho0 HB; replace HO_6 := kb HO_6 hb; replace BK259 := bb BK259 hb; replace BK260 := bb BK260 hb; replace HB := bh HB hb; (try clear hb); (try clear hb2); (try clear hk); (try clear hi); (try clear ho0); obtain ⟨hcz56_0, hcz56_1⟩ := zc2 BK260; obtain ⟨hfz56_0, hfz56_1⟩ := zf2 BK260))
       refine bodyPost_ret (results_ct rfl _ _ gb260 24 #[.int .u64 0, .int .u64 0] (0, 0) _ rfl (by (with_reducible repeat refine bl ?_); refine blk_put (cs := #[.int .u64 0, .int .u64 0]) ?_ 1 _ rfl; (with_reducible repeat refine bl ?_); refine blk_put (cs := #[.int .u64 0, .int .u64 0]) ?_ 0 _ rfl; (with_reducible repeat refine bl ?_); exact BK260.out) Try.underlying24 rfl (by kernel_rfl)) rfl ?_
       exact ⟨by first | rfl | (simp [errW_none, errW_some] <;> rfl) | (simp only [← hji11]; first | rfl | (simp [errW_none, errW_some] <;> rfl)) | (simp [*, errW_none, errW_some] <;> rfl), bq HB.out⟩
    ·rw [if_neg c10] at H
     exact absurd H (by simp)
 ·replace c4 := Bool.eq_false_iff.mpr c4
  subst c4
  have H1 : (some (0, 0, false)) = some (r1, r2, r3) := by rw [if_neg (show ¬ (false = true) by decide)] at H; exact H
  clear H
  have H := H1
  clear H1
  simp only [Option.some.injEq, Prod.mk.injEq] at H
  obtain ⟨rfl, rfl, rfl⟩ := H
  go_enter Try.func33, Try.ntmps33
  go_wp2_with (first | ((with_reducible refine gate_dst (N := 3) rfl ?_); refine box_event ?hg (N := 3) ?hd (cs := #[.int .u64 a1_0, .int .u64 a1_1]) (t := 24) ?hr ?_; (case hd => rfl); (case hg => rfl); (case hr => first | (go_simp; done) | (go_simp; rfl)); intro gb259 hg w57 hbox hb; have BK259 := Aside0.mk hbox; have GW259 := ge hg HB; have GE259 := ge hg HB; replace HB := bh HB hb; clear hb hbox hg) | ((with_reducible refine gate_dst (N := 4) rfl ?_); refine box_event ?hg (N := 4) ?hd (cs := #[.int .u64 0, .int .u64 0]) (t := 24) ?hr ?_; (case hd => rfl); (case hg => rfl); (case hr => first | (go_simp; done) | (go_simp; rfl)); intro gb260 hg w58 hbox hb; have BK260 := Aside0.mk hbox; have GW260 := ge hg HB; have GE260 := ge hg HB; have NB259_260 := nl hg BK259; have NB260_259 := ng hg BK259; replace BK259 := bb BK259 hb; replace HB := bh HB hb; clear hb hbox hg; have hnb59 := NB259_260.out; have hnc59 := NB260_259.out; obtain ⟨hcz60_0, hcz60_1⟩ := zc2 BK259; obtain ⟨hfz60_0, hfz60_1⟩ := zf2 BK259) | ((with_reducible refine gate_callee (f := 26) rfl ?_); refine goesL_ (some 16) rfl rfl Try.func26 (by kernel_rfl) rfl #[.int .i64 a0, .agg #[.int .u64 a1_0, .int .u64 a1_1]] rfl (by (try simp only [List.map_toArray, List.map_cons, List.map_nil]); first | done | rfl | (simp only [List.length_drop, List.length_take]; rfl)) ?_; (with_reducible refine (octet_Of.calls k a0 a1_0 a1_1 false _ A3.out).mono ?_); rintro e w61 ⟨rfl, hb⟩; refine ⟨_, rfl, ?_⟩; replace BK259 := bb BK259 hb; replace BK260 := bb BK260 hb; replace HB := bh HB hb; (try clear hb); (try clear hb2); (try clear hk); (try clear hi); obtain ⟨hcz62_0, hcz62_1⟩ := zc2 BK260; obtain ⟨hfz62_0, hfz62_1⟩ := zf2 BK260))
  refine bodyPost_ret (results_ct rfl _ _ gb260 24 #[.int .u64 0, .int .u64 0] (0, 0) _ rfl (by (with_reducible repeat refine bl ?_); refine blk_put (cs := #[.int .u64 0, .int .u64 0]) ?_ 1 _ rfl; (with_reducible repeat refine bl ?_); refine blk_put (cs := #[.int .u64 0, .int .u64 0]) ?_ 0 _ rfl; (with_reducible repeat refine bl ?_); exact BK260.out) Try.underlying24 rfl (by kernel_rfl)) rfl ?_
  exact ⟨by first | rfl | (simp [errW_none, errW_some] <;> rfl) | (simp [*, errW_none, errW_some] <;> rfl), bq HB.out⟩

end Go.Proofs.Ytlegcabfgkccmaa.P
