/- Written by a program of this session: functions that the law reaches, as Lean functions, and that the code comes to their answers. Conditions: those that each theorem names. -/
import Derived.Test.YtbfncpcpmigidaaPx0
import Derived.Test.YtbfncpcpmigidaaPx3
import Derived.Test.YtbfncpcpmigidaaPx4
namespace Go.Proofs.Ytbfncpcpmigidaa.P
open Go.RowKit Go.Proofs.YtbfncpcpmigidaaX Go.Proofs.YtbfncpcpmigidaaW.PrintWords Go.Proofs.YtbfncpcpmigidaaW.PrintLast Go.Proofs.YtbfncpcpmigidaaW.PrintMore
attribute [local go_sem] max2_int min2_int max_two min_two max_three min_three max_four min_four   -- for this text's walks alone
set_option linter.unusedVariables false
set_option linter.unusedSimpArgs false

/-! ### steepleref10_Make: function 18 -/
mutual
def steepleref10_Make.l0 : Nat → Int → List Int → Option (List Int × (List (List Int)))
 | 0, _, _ => none
 | k + 1, x2, x237000 => if x2 < 256 then ((steepleref10_Box.f k x2).bind fun t237 => (if x237000.length < 17592186044416 then (steepleref10_Make.l0 k (wrap64 (x2 + 1)) (x237000 ++ [t237])) else (none))) else (steepleref10_Make.l1 k 0 x237000 ([] : List (List Int)))
def steepleref10_Make.l1 : Nat → Int → List Int → List (List Int) → Option (List Int × (List (List Int)))
 | 0, _, _, _ => none
 | k + 1, x3, x237000, x237001 => if x3 < 8 then (steepleref10_Make.l2 k x3 ([] : List Int) 0 x237000 x237001) else (some (x237000, x237001))
def steepleref10_Make.l2 : Nat → Int → List Int → Int → List Int → List (List Int) → Option (List Int × (List (List Int)))
 | 0, _, _, _, _, _ => none
 | k + 1, x3, x4, x5, x237000, x237001 => if x5 < 256 then ((steepleref10_Times.f k x3 x5).bind fun t241 => (if x4.length < 17592186044416 then (steepleref10_Make.l2 k x3 (x4 ++ [t241]) (wrap64 (x5 + 1)) x237000 x237001) else (none))) else (if x237001.length < 5864062014805 then (steepleref10_Make.l1 k (wrap64 (x3 + 1)) x237000 (x237001 ++ [x4])) else (none))
end
def steepleref10_Make.f (k : Nat)  : Option (List Int × (List (List Int))) := steepleref10_Make.l0 k 0 ([] : List Int)
theorem steepleref10_Make.mono_l : ∀ k, (∀ y0 y1, LeO (steepleref10_Make.l0 k y0 y1) (steepleref10_Make.l0 (k + 1) y0 y1)) ∧ (∀ y0 y1 y2, LeO (steepleref10_Make.l1 k y0 y1 y2) (steepleref10_Make.l1 (k + 1) y0 y1 y2)) ∧ (∀ y0 y1 y2 y3 y4, LeO (steepleref10_Make.l2 k y0 y1 y2 y3 y4) (steepleref10_Make.l2 (k + 1) y0 y1 y2 y3 y4))
 | 0 => ⟨fun _ _ r h => by simp [steepleref10_Make.l0] at h, fun _ _ _ r h => by simp [steepleref10_Make.l1] at h, fun _ _ _ _ _ r h => by simp [steepleref10_Make.l2] at h⟩
 | k + 1 => by
  obtain ⟨ih0, ih1, ih2⟩ := steepleref10_Make.mono_l k
  refine ⟨?_, ?_, ?_⟩
  ·intro y0 y1
   unfold steepleref10_Make.l0
   repeat' first
   | (with_reducible exact ih0 _ _)
   | (with_reducible exact ih1 _ _ _)
   | (with_reducible exact ih2 _ _ _ _ _)
   | (with_reducible exact steepleref10_Box.mono _ _)
   | (with_reducible exact steepleref10_Times.mono _ _ _)
   | (with_reducible exact LeO.refl _)
   | (with_reducible exact LeO.none _)
   | (with_reducible refine LeO.ite ?_ ?_)
   | (with_reducible refine LeO.bind ?_ (fun _ => ?_))
   | exact ih0 _ _
   | exact ih1 _ _ _
   | exact ih2 _ _ _ _ _
   | exact steepleref10_Box.mono _ _
   | exact steepleref10_Times.mono _ _ _
   | exact LeO.none _
   | refine LeO.ite ?_ ?_
   | refine LeO.bind ?_ (fun _ => ?_)
  ·intro y0 y1 y2
   unfold steepleref10_Make.l1
   repeat' first
   | (with_reducible exact ih0 _ _)
   | (with_reducible exact ih1 _ _ _)
   | (with_reducible exact ih2 _ _ _ _ _)
   | (with_reducible exact steepleref10_Box.mono _ _)
   | (with_reducible exact steepleref10_Times.mono _ _ _)
   | (with_reducible exact LeO.refl _)
   | (with_reducible exact LeO.none _)
   | (with_reducible refine LeO.ite ?_ ?_)
   | (with_reducible refine LeO.bind ?_ (fun _ => ?_))
   | exact ih0 _ _
   | exact ih1 _ _ _
   | exact ih2 _ _ _ _ _
   | exact steepleref10_Box.mono _ _
   | exact steepleref10_Times.mono _ _ _
   | exact LeO.none _
   | refine LeO.ite ?_ ?_
   | refine LeO.bind ?_ (fun _ => ?_)
  ·intro y0 y1 y2 y3 y4
   unfold steepleref10_Make.l2
   repeat' first
   | (with_reducible exact ih0 _ _)
   | (with_reducible exact ih1 _ _ _)
   | (with_reducible exact ih2 _ _ _ _ _)
   | (with_reducible exact steepleref10_Box.mono _ _)
   | (with_reducible exact steepleref10_Times.mono _ _ _)
   | (with_reducible exact LeO.refl _)
   | (with_reducible exact LeO.none _)
   | (with_reducible refine LeO.ite ?_ ?_)
   | (with_reducible refine LeO.bind ?_ (fun _ => ?_))
   | exact ih0 _ _
   | exact ih1 _ _ _
   | exact ih2 _ _ _ _ _
   | exact steepleref10_Box.mono _ _
   | exact steepleref10_Times.mono _ _ _
   | exact LeO.none _
   | refine LeO.ite ?_ ?_
   | refine LeO.bind ?_ (fun _ => ?_)
theorem steepleref10_Make.mono : ∀ k, LeO (steepleref10_Make.f k ) (steepleref10_Make.f (k + 1) ) := by
 intro  k
 obtain ⟨ih0, ih1, ih2⟩ := steepleref10_Make.mono_l k
 unfold steepleref10_Make.f
 repeat' first
   | (with_reducible exact ih0 _ _)
   | (with_reducible exact ih1 _ _ _)
   | (with_reducible exact ih2 _ _ _ _ _)
   | (with_reducible exact steepleref10_Box.mono _ _)
   | (with_reducible exact steepleref10_Times.mono _ _ _)
   | (with_reducible exact LeO.refl _)
   | (with_reducible exact LeO.none _)
   | (with_reducible refine LeO.ite ?_ ?_)
   | (with_reducible refine LeO.bind ?_ (fun _ => ?_))
   | exact ih0 _ _
   | exact ih1 _ _ _
   | exact ih2 _ _ _ _ _
   | exact steepleref10_Box.mono _ _
   | exact steepleref10_Times.mono _ _ _
   | exact LeO.none _
   | refine LeO.ite ?_ ?_
   | refine LeO.bind ?_ (fun _ => ?_)
def steepleref10_Make.T5 : Bool × List (List Nat × List Nat) := (true, [([], []), ([0], [0]), ([], []), ([2], [2]), ([3], [3]), ([1, 4, 3], [1, 4]), ([0, 1, 2, 3, 4, 5], []), ([6, 5, 5, 0, 1, 2, 3, 4, 5], [5, 6])])
def steepleref10_Make.B5 : List Nat := [0, 1, 0, 4, 12, 31, 63, 127]
theorem steepleref10_Make.tab5 : rtab .any (opsOf Try.f18 5) = steepleref10_Make.T5 := by kernel_rfl
theorem steepleref10_Make.bits5 : waitsOk steepleref10_Make.T5.2 steepleref10_Make.B5 = true := by kernel_rfl
set_option maxHeartbeats 8000000 in
set_option maxRecDepth 100000 in
theorem steepleref10_Make.calls (k : Nat)  (r1 : List Int) (r2 : List (List Int)) (w : World) (h : steepleref10_Make.f k  = some (r1, r2)) :
  Calls Try.prog 18 #[] w fun e w' => ∃ v0_ v1_ : Value, e = .returned (.agg #[v0_, v1_]) ∧ Kd.R (Kd.int .i64) 3 w' w.heap.size (fun _ => True) v0_ r1 ∧ Kd.S (Kd.slice 3 (Kd.int .i64)) 30 w' w.heap.size (fun k_ => some k_ ≠ (v0_ : Value).ownBlock) v1_ r2 ∧ Below w.heap.size w w' := by
 have hu37 := Try.underlying37
 have HB := Aside0.mk (Below.refl w.heap.size w)
 have H : (steepleref10_Make.l0 k 0 ([] : List Int)) = some (r1, r2) := h
 clear h
 have H' := Aside0.mk H
 clear H
 go_enter Try.func18, Try.ntmps18
 go_wp2_with (first | ((with_reducible refine gate_dst (N := 0) rfl ?_); refine box_event ?hg (N := 0) ?hd (cs := #[.slice none 0 0, .slice none 0 0]) (t := 37) ?hr ?_; (case hd => rfl); (case hg => rfl); (case hr => first | (go_simp; done) | (go_simp; rfl)); intro gb235 hg w1 hbox hb; have BK235 := Aside0.mk hbox; have GW235 := ge hg HB; have GE235 := ge hg HB; replace HB := bh HB hb; clear hb hbox hg) | ((with_reducible refine gate_dst (N := 1) rfl ?_); refine box_event ?hg (N := 1) ?hd (cs := #[.slice none 0 0, .slice none 0 0]) (t := 37) ?hr ?_; (case hd => rfl); (case hg => rfl); (case hr => first | (go_simp; done) | (go_simp; rfl)); intro gb236 hg w2 hbox hb; have BK236 := Aside0.mk hbox; have GW236 := ge hg HB; have GE236 := ge hg HB; have NB235_236 := nl hg BK235; have NB236_235 := ng hg BK235; replace BK235 := bb BK235 hb; replace HB := bh HB hb; clear hb hbox hg))
 go_loopg [2] k (fun kq v2 w' => ∃ (x2_1 : Int) (x237000_1 : List Int) (u237000 : Value), v2 = .int .i64 x2_1 ∧ Aside0 (steepleref10_Make.l0 kq x2_1 x237000_1 = some (r1, r2)) ∧ Aside0 (kq ≤ k) ∧ Aside0 (Kd.R (Kd.int .i64) 3 w' w.heap.size (fun _ => True) u237000 x237000_1) ∧ Aside0 (w'.heap[gb235]? = some (.cells #[(.slice none 0 0), (.slice none 0 0)] 37 (0, 0))) ∧ Aside0 (w'.heap[gb236]? = some (.cells #[u237000, (.slice none 0 0)] 37 (0, 0))) ∧ Aside0 (Below w.heap.size w w'))
 case atStart => exact ⟨(0), (([] : List Int)), (.slice none 0 0), (by first | rfl | (simp; done) | (simp [*]; done)), H', ⟨Nat.le_refl _⟩, ⟨by first | exact Kd.R_nil _ _ _ _ _ | exact Kd.N_nil _ _ _ _ _ | exact Kd.V_nil _ _ _ _ _ | exact Kd.Q_nil _ _ _ _ _ | exact Kd.S_nil _ _ _ _ _⟩, ⟨bk BK235.out⟩, ⟨bk BK236.out⟩, ⟨bq HB.out⟩⟩
 case round =>
  clear H'
  try clear c1
  try clear p2
  obtain ⟨x2_1, x237000_1, u237000, rfl, HA, HK1, HO_237000, BK235, BK236, HB⟩ := hrel
  cases gk with
  | zero => exact absurd HA.out (by simp [steepleref10_Make.l0])
  | succ k1 =>
   have H := HA.out
   clear HA
   simp only [steepleref10_Make.l0] at H
   by_cases c3 : x2_1 < 256
   ·rw [if_pos c3] at H
    have c3b0 : decide (x2_1 < 256) = true := decide_eq_true c3
    clear c3
    replace H := Option.bind_eq_some_iff.mp H
    obtain ⟨t237, A40, H⟩ := H
    replace H : (if x237000_1.length < 17592186044416 then (steepleref10_Make.l0 k1 (wrap64 (x2_1 + 1)) (x237000_1 ++ [t237])) else (none)) = some (r1, r2) := H
    have A4 := Aside0.mk A40
    clear A40
    by_cases c5 : x237000_1.length < 17592186044416
    ·rw [if_pos c5] at H
     have LMc5 := Aside0.mk c5
     clear c5
     obtain ⟨y238, hy238⟩ : ∃ y_ : List Int, y_ = (x237000_1 ++ [t237]) := ⟨_, rfl⟩
     replace H : (steepleref10_Make.l0 k1 (wrap64 (x2_1 + 1)) y238) = some (r1, r2) := by first | (rw [hy238]; with_reducible exact H) | (have H2_ := (Option.bind_some _ _).symm.trans H; rw [hy238]; with_reducible exact H2_) | (have H2_ := (Option.bind_some _ _).symm.trans H; with_reducible exact H2_) | with_reducible exact H | (rw [hy238]; exact H) | exact H
     have Ny238 := Aside0.mk hy238
     clear hy238
     have H' := Aside0.mk H
     clear H
     try go_wp2
     replace HO_237000 := Aside0.mk (Kd.R_drew HO_237000.out)
     replace BK235 := Aside0.mk (blk_drew BK235.out)
     replace BK236 := Aside0.mk (blk_drew BK236.out)
     replace HB := Aside0.mk (below_drew1 HB.out)
     refine start_ (n := 8) (S := fun w' => w'.cell? ⟨gb236, 0, none⟩ = some (u237000) ∧ w'.cell? ⟨gb236, 1, none⟩ = some (.slice none 0 0)) (ds := [7]) #[false, false, false, false, false, false, false, false] (by kernel_rfl) rfl rfl ⟨(blk_cell BK236.out 0).trans rfl, (blk_cell BK236.out 1).trans rfl⟩ (fun hHeld => ?_); refine with_tabW steepleref10_Make.tab5 steepleref10_Make.bits5 (fun HT_ HW_ => ?_)
     generalize wr.drew = w6 at HO_237000 BK235 BK236 HB hHeld ⊢
     refine pure_ (i := 0) (N := some 10) (v := ?_) (a' := ?_) #[true, false, false, false, false, false, false, false] rfl rfl (any_of HT_.out (by kernel_rfl)) (fun _ _ _ h => h) (Or.inl ⟨by rfl, ?_⟩) ?_ ?_
     rotate_left
     ·intro w'
      go_simp
      with_reducible rfl
     rotate_left
     ·simp only [Act.put, List.setIfInBounds_toArray, List.set_cons_zero, List.set_cons_succ, i64_w, i32_w]
      rfl
     refine pure_ (i := 2) (N := some 12) (v := ?_) (a' := ?_) #[true, false, true, false, false, false, false, false] rfl rfl (any_of HT_.out (by kernel_rfl)) (fun _ _ _ h => h) (Or.inl ⟨by rfl, ?_⟩) ?_ ?_
     rotate_left
     ·intro w'
      go_simp
      with_reducible rfl
     rotate_left
     ·simp only [Act.put, List.setIfInBounds_toArray, List.set_cons_zero, List.set_cons_succ, i64_w, i32_w]
      rfl
     refine take_ (i := 1) (N := some 11) (v := ?_) (a' := ?_) #[true, true, true, false, false, false, false, false] rfl rfl (take_ofW HT_.out HW_.out (by kernel_rfl)) (fun _ _ _ h => h) (Or.inl ⟨by rfl, ?_⟩) hHeld ?_ ?_
     rotate_left
     ·rintro w' ⟨s0, s1⟩
      go_simp
      with_reducible rfl
     rotate_left
     ·simp only [Act.put, List.setIfInBounds_toArray, List.set_cons_zero, List.set_cons_succ, i64_w, i32_w]
      rfl
     refine one_ (i := 3) (N := some 13) #[true, true, true, true, false, false, false, false] rfl rfl (one_of HT_.out (by kernel_rfl)) (by decide) (fun K hK => ?_)
     refine goes_ Try.func12 (by kernel_rfl) rfl #[.int .i64 x2_1] (by rfl) rfl rfl (by (try simp only [List.map_toArray, List.map_cons, List.map_nil]); first | done | rfl | (simp only [List.length_drop, List.length_take]; rfl)) ?_
     with_reducible refine (steepleref10_Box.calls k1 x2_1 t237 _ A4.out).mono ?_
     rintro e w7 ⟨rfl, hb⟩
     refine ⟨_, rfl, ?_⟩
     replace HO_237000 := kb HO_237000 hb
     replace BK235 := bb BK235 hb
     replace BK236 := bb BK236 hb
     replace HB := bh HB hb
     (try clear hb)
     (try clear hb2)
     (try clear hk)
     (try clear hi)
     refine hK.out _ _ ⟨(blk_cell BK236.out 0).trans rfl, (blk_cell BK236.out 1).trans rfl⟩ (fun hHeld => ?_)
     clear hK K
     refine norm_ (a' := ?_) ?_ ?_
     rotate_left
     ·show Act.put _ (some 13) _ = _
      simp only [Act.put, List.setIfInBounds_toArray, List.set_cons_zero, List.set_cons_succ, i64_w, i32_w]
      rfl
     refine one_ (i := 4) (N := some 14) #[true, true, true, true, true, false, false, false] rfl rfl (one_of HT_.out (by kernel_rfl)) (by decide) (fun K hK => ?_)
     refine value_ (w1 := ?_) (v := ?_) (by rfl) rfl ?_ ?_
     rotate_left 2
     ·go_simp
      constructor
      ·rfl
      ·rfl
     refine hK.out _ _ ⟨(blk_cell (blk_alloc BK236.out _) 0).trans rfl, (blk_cell (blk_alloc BK236.out _) 1).trans rfl⟩ (fun hHeld => ?_)
     clear hK K
     refine norm_ (a' := ?_) ?_ ?_
     rotate_left
     ·show Act.put _ (some 14) _ = _
      simp only [Act.put, List.setIfInBounds_toArray, List.set_cons_zero, List.set_cons_succ, i64_w, i32_w]
      rfl
     refine one_ (i := 5) (N := some 15) #[true, true, true, true, true, true, false, false] rfl rfl (one_of HT_.out (by kernel_rfl)) (by decide) (fun K hK => ?_)
     refine Kd.R_append_step (Kd.int .i64) (w0 := w) w.heap.size (by rfl) (.tmp 11) (.tmp 14) 30 3 (.int .i64 0) 8 rfl Try.underlying30 info3 rfl (by decide) (by omega) u237000 x237000_1 t237 [.int .i64 t237] (fun _ => True) (fun _ => False) rfl rfl ?aP (fun _ hk => hk.elim) ?aF ?aO ?aB ?aS ?aL ?_
     (case aP => exact rfl)
     (case aB => exact (bq HB.out))
     (case aF => exact (fun _ _ => trivial))
     (case aO => exact (kr HO_237000.out))
     (case aS => exact (below_size (bq HB.out)))
     (case aL => have := LMc5.out; omega)
     intro v239 w8 ho hb hg hat
     rw [← Ny238.out] at ho
     have HO240 := Aside0.mk ho
     replace BK235 := Aside0.mk (blk_grown (g := gb235) (o := .cells #[.slice none 0 0, .slice none 0 0] 37 (0, 0)) (bk BK235.out) hg (Kd.R_ne HO_237000.out BK235.out (by decide)))
     replace BK236 := Aside0.mk (blk_grown (g := gb236) (o := .cells #[u237000, .slice none 0 0] 37 (0, 0)) (bk BK236.out) hg (Kd.R_ne HO_237000.out BK236.out (by decide)))
     replace HB := Aside0.mk hb
     clear HO_237000
     clear ho hb hg hat
     obtain ⟨Ao9, co9, eo9⟩ := Kd.R_slice HO240.out
     (first | subst eo9 | (injection eo9 with f1_ f2_ f3_; have f4_ := f1_.symm; have f5_ := f3_.symm; clear f1_ f2_ f3_; subst f4_; subst f5_))
     refine hK.out _ _ ⟨(blk_cell BK236.out 0).trans rfl, (blk_cell BK236.out 1).trans rfl⟩ (fun hHeld => ?_)
     clear hK K
     refine norm_ (a' := ?_) ?_ ?_
     rotate_left
     ·show Act.put _ (some 15) _ = _
      simp only [Act.put, List.setIfInBounds_toArray, List.set_cons_zero, List.set_cons_succ, i64_w, i32_w]
      rfl
     refine pure_ (i := 6) (N := some 16) (v := ?_) (a' := ?_) #[true, true, true, true, true, true, true, false] rfl rfl (any_of HT_.out (by kernel_rfl)) (fun _ _ _ h => h) (Or.inl ⟨by rfl, ?_⟩) ?_ ?_
     rotate_left
     ·intro w'
      go_simp
      with_reducible rfl
     rotate_left
     ·simp only [Act.put, List.setIfInBounds_toArray, List.set_cons_zero, List.set_cons_succ, i64_w, i32_w]
      rfl
     refine last_ (i := 7) (N := none) #[true, true, true, true, true, true, true, true] rfl rfl (one_of HT_.out (by kernel_rfl)) (by decide) (fun K hK => ?_)
     have hs10 : w8.cell? ⟨gb236, 0, none⟩ = some (u237000) := (blk_cell BK236.out 0).trans rfl
     have hfs10 := blk_frozen BK236.out 0
     have hns10_0 := NB235_236.out
     have hms10_0 := NB236_235.out
     refine skip_ (w1 := ?_) (by rfl) rfl ?_ ?_
     rotate_left
     ·go_simp
      rfl
     refine hK.out _ _ ?_
     clear hK K
     refine done_ (done_of HT_.out (by kernel_rfl)) ?_
     try go_wp2
     go_roundg k1
     case measure => have := HK1.out; omega
     case rel => exact ⟨(wrap64 (x2_1 + 1)), (y238), (.slice Ao9 y238.length co9), (by first | rfl | (simp; done) | (simp [*]; done)), H', ⟨by have := HK1.out; omega⟩, ⟨by (with_reducible repeat refine kl ?_); exact Kd.R_mono (Kd.R_far (p := ⟨gb236, 0, none⟩) (Kd.R_types HO240.out BK236.out (by decide)) (fun _ hk => hk.2) (.slice Ao9 y238.length co9)) (fun _ hk => trivial)⟩, ⟨by (with_reducible repeat refine bl ?_); refine blk_far ?_ NB235_236.out _; (with_reducible repeat refine bl ?_); exact BK235.out⟩, ⟨by (with_reducible repeat refine bl ?_); refine blk_put (cs := #[u237000, .slice none 0 0]) ?_ 0 _ rfl; (with_reducible repeat refine bl ?_); exact BK236.out⟩, ⟨bq HB.out⟩⟩
    ·rw [if_neg c5] at H
     exact absurd H (by simp)
   ·rw [if_neg c3] at H
    have c3b0 : decide (x2_1 < 256) = false := decide_eq_false c3
    clear c3
    have H' := Aside0.mk H
    clear H
    go_wp2
    go_loopg [3] k1 (fun kq v3 w' => ∃ (x3_2 : Int) (x237001_2 : List (List Int)) (u237001 : Value), v3 = .int .i64 x3_2 ∧ Aside0 (steepleref10_Make.l1 kq x3_2 x237000_1 x237001_2 = some (r1, r2)) ∧ Aside0 (kq ≤ k1) ∧ Aside0 (Kd.R (Kd.int .i64) 3 w' w.heap.size (fun _ => True) u237000 x237000_1) ∧ Aside0 (Kd.S (Kd.slice 3 (Kd.int .i64)) 30 w' w.heap.size (fun k_ => some k_ ≠ (u237000 : Value).ownBlock) u237001 x237001_2) ∧ Aside0 (w'.heap[gb235]? = some (.cells #[(.slice none 0 0), (.slice none 0 0)] 37 (0, 0))) ∧ Aside0 (w'.heap[gb236]? = some (.cells #[u237000, u237001] 37 (0, 0))) ∧ Aside0 (Below w.heap.size w w'))
    case atStart => exact ⟨(0), (([] : List (List Int))), (.slice none 0 0), (by first | rfl | (simp; done) | (simp [*]; done)), H', ⟨Nat.le_refl _⟩, ⟨kr HO_237000.out⟩, ⟨by first | exact Kd.S_nil _ _ _ _ _ | exact Kd.N_nil _ _ _ _ _ | exact Kd.V_nil _ _ _ _ _ | exact Kd.Q_nil _ _ _ _ _ | exact Kd.R_nil _ _ _ _ _⟩, ⟨bk BK235.out⟩, ⟨bk BK236.out⟩, ⟨bq HB.out⟩⟩
    case round =>
     clear H'
     try clear c1
     try clear p2
     try clear c3
     try clear c3b0
     try clear c5
     try clear p6
     try clear p2
     obtain ⟨x3_2, x237001_2, u237001, rfl, HA, HK2, HO_237000, HO_237001, BK235, BK236, HB⟩ := hrel
     cases gk with
     | zero => exact absurd HA.out (by simp [steepleref10_Make.l1])
     | succ k2 =>
      have H := HA.out
      clear HA
      simp only [steepleref10_Make.l1] at H
      by_cases c11 : x3_2 < 8
      ·rw [if_pos c11] at H
       have c11b0 : decide (x3_2 < 8) = true := decide_eq_true c11
       clear c11
       have H' := Aside0.mk H
       clear H
       go_wp2
       go_loopg [4, 5] k2 (fun kq v4 v5 w' => ∃ (x4_3 : List Int) (x5_3 : Int), v5 = .int .i64 x5_3 ∧ Aside0 (steepleref10_Make.l2 kq x3_2 x4_3 x5_3 x237000_1 x237001_2 = some (r1, r2)) ∧ Aside0 (kq ≤ k2) ∧ Aside0 (Kd.R (Kd.int .i64) 3 w' w.heap.size (fun k_ => some k_ ≠ (u237000 : Value).ownBlock) v4 x4_3) ∧ Aside0 (Kd.R (Kd.int .i64) 3 w' w.heap.size (fun k_ => some k_ ≠ (v4 : Value).ownBlock) u237000 x237000_1) ∧ Aside0 (Kd.S (Kd.slice 3 (Kd.int .i64)) 30 w' w.heap.size (fun k_ => some k_ ≠ (v4 : Value).ownBlock ∧ some k_ ≠ (u237000 : Value).ownBlock) u237001 x237001_2) ∧ Aside0 (w'.heap[gb235]? = some (.cells #[(.slice none 0 0), (.slice none 0 0)] 37 (0, 0))) ∧ Aside0 (w'.heap[gb236]? = some (.cells #[u237000, u237001] 37 (0, 0))) ∧ Aside0 (Below w.heap.size w w'))
       case atStart => exact ⟨(([] : List Int)), (0), (by first | rfl | (simp; done) | (simp [*]; done)), H', ⟨Nat.le_refl _⟩, ⟨by first | exact Kd.R_nil _ _ _ _ _ | exact Kd.N_nil _ _ _ _ _ | exact Kd.V_nil _ _ _ _ _ | exact Kd.Q_nil _ _ _ _ _ | exact Kd.S_nil _ _ _ _ _⟩, ⟨by (with_reducible repeat refine kl ?_); exact Kd.R_mono HO_237000.out (fun _ hk => (by simp [Value.ownBlock]))⟩, ⟨by (with_reducible repeat (first | apply Kd.S_alloc | apply Kd.S_drewN | apply Kd.S_drew)); exact Kd.S_mono HO_237001.out (fun _ hk => ⟨(by simp [Value.ownBlock]), hk⟩)⟩, ⟨bk BK235.out⟩, ⟨bk BK236.out⟩, ⟨bq HB.out⟩⟩
       case round =>
        clear H'
        try clear c1
        try clear p2
        try clear c3
        try clear c3b0
        try clear c5
        try clear p6
        try clear c11
        try clear c11b0
        try clear p2
        try clear p6
        obtain ⟨x4_3, x5_3, rfl, HA, HK3, HO_4, HO_237000, HO_237001, BK235, BK236, HB⟩ := hrel
        cases gk with
        | zero => exact absurd HA.out (by simp [steepleref10_Make.l2])
        | succ k3 =>
         have H := HA.out
         clear HA
         simp only [steepleref10_Make.l2] at H
         by_cases c12 : x5_3 < 256
         ·rw [if_pos c12] at H
          have c12b0 : decide (x5_3 < 256) = true := decide_eq_true c12
          clear c12
          replace H := Option.bind_eq_some_iff.mp H
          obtain ⟨t241, A130, H⟩ := H
          replace H : (if x4_3.length < 17592186044416 then (steepleref10_Make.l2 k3 x3_2 (x4_3 ++ [t241]) (wrap64 (x5_3 + 1)) x237000_1 x237001_2) else (none)) = some (r1, r2) := H
          have A13 := Aside0.mk A130
          clear A130
          by_cases c14 : x4_3.length < 17592186044416
          ·rw [if_pos c14] at H
           have LMc14 := Aside0.mk c14
           clear c14
           obtain ⟨y242, hy242⟩ : ∃ y_ : List Int, y_ = (x4_3 ++ [t241]) := ⟨_, rfl⟩
           replace H : (steepleref10_Make.l2 k3 x3_2 y242 (wrap64 (x5_3 + 1)) x237000_1 x237001_2) = some (r1, r2) := by first | (rw [hy242]; with_reducible exact H) | (have H2_ := (Option.bind_some _ _).symm.trans H; rw [hy242]; with_reducible exact H2_) | (have H2_ := (Option.bind_some _ _).symm.trans H; with_reducible exact H2_) | with_reducible exact H | (rw [hy242]; exact H) | exact H
           have Ny242 := Aside0.mk hy242
           clear hy242
           have H' := Aside0.mk H
           clear H
           go_wp2_with (first | ((with_reducible refine gate_callee (f := 10) rfl ?_); refine goesL_ (some 28) rfl rfl Try.func10 (by kernel_rfl) rfl #[.int .i64 x3_2, .int .i64 x5_3] rfl (by (try simp only [List.map_toArray, List.map_cons, List.map_nil]); first | done | rfl | (simp only [List.length_drop, List.length_take]; rfl)) ?_; (with_reducible refine (steepleref10_Times.calls k3 x3_2 x5_3 t241 _ A13.out).mono ?_); rintro e w15 ⟨rfl, hb⟩; refine ⟨_, rfl, ?_⟩; replace HO_4 := kb HO_4 hb; replace HO_237000 := kb HO_237000 hb; replace HO_237001 := Aside0.mk (Kd.S_below (by (with_reducible repeat (first | apply Kd.S_alloc | apply Kd.S_drewN | apply Kd.S_drew)); exact HO_237001.out) hb); replace BK235 := bb BK235 hb; replace BK236 := bb BK236 hb; replace HB := bh HB hb; (try clear hb); (try clear hb2); (try clear hk); (try clear hi)) | ((with_reducible refine gate_builtin (b := .append) (xs := #[.tmp 25, .tmp 29]) rfl ?_); at_builtin; refine Kd.R_append (Kd.int .i64) (w0 := w) w.heap.size rfl (.tmp 25) (.tmp 29) 30 3 (.int .i64 0) 8 rfl Try.underlying30 info3 rfl (by decide) (by omega) u4 x4_3 t241 [.int .i64 t241] (fun k_ => some k_ ≠ (u237000 : Value).ownBlock) (fun _ => False) rfl rfl ?aP (fun _ hk => hk.elim) ?aF ?aO ?aB ?aS ?aL ?_; (case aP => exact rfl); (case aB => exact (bq HB.out)); (case aF => exact (fun k_ hk => Kd.fresh' (Kd.R_lt (kr HO_237000.out)) k_ hk)); (case aO => exact (kr HO_4.out)); (case aS => exact (below_size (bq HB.out))); (case aL => have := LMc14.out; omega); intro v243 w16 ho hb hg hat; rw [← Ny242.out] at ho; have HO244 := Aside0.mk ho; replace HO_237000 := Aside0.mk (Kd.R_after (ok := (fun _ => True)) (by (with_reducible repeat refine kl ?_); exact Kd.R_mono HO_237000.out (fun _ hk => ⟨trivial, hk⟩)) hg hat); replace HO_237001 := Aside0.mk (Kd.S_after (ok := (fun k_ => some k_ ≠ (u237000 : Value).ownBlock)) (by (with_reducible repeat (first | apply Kd.S_alloc | apply Kd.S_drewN | apply Kd.S_drew)); exact Kd.S_mono HO_237001.out (fun _ hk => ⟨hk.2, hk.1⟩)) hg hat); replace BK235 := Aside0.mk (blk_grown (g := gb235) (o := .cells #[.slice none 0 0, .slice none 0 0] 37 (0, 0)) (bk BK235.out) hg (Kd.R_ne HO_4.out BK235.out (by decide))); replace BK236 := Aside0.mk (blk_grown (g := gb236) (o := .cells #[u237000, u237001] 37 (0, 0)) (bk BK236.out) hg (Kd.R_ne HO_4.out BK236.out (by decide))); replace HB := Aside0.mk hb; clear HO_4; clear ho hb hg hat))
           go_roundg k3
           case measure => have := HK1.out; have := HK2.out; have := HK3.out; omega
           case rel => exact ⟨(y242), (wrap64 (x5_3 + 1)), (by first | rfl | (simp; done) | (simp [*]; done)), H', ⟨by have := HK1.out; have := HK2.out; have := HK3.out; omega⟩, ⟨kr HO244.out⟩, ⟨by (with_reducible repeat refine kl ?_); exact Kd.R_mono HO_237000.out (fun _ hk => hk.2)⟩, ⟨by (with_reducible repeat (first | apply Kd.S_alloc | apply Kd.S_drewN | apply Kd.S_drew)); exact Kd.S_mono HO_237001.out (fun _ hk => ⟨hk.2, hk.1⟩)⟩, ⟨bk BK235.out⟩, ⟨bk BK236.out⟩, ⟨bq HB.out⟩⟩
          ·rw [if_neg c14] at H
           exact absurd H (by simp)
         ·rw [if_neg c12] at H
          have c12b0 : decide (x5_3 < 256) = false := decide_eq_false c12
          clear c12
          by_cases c17 : x237001_2.length < 5864062014805
          ·rw [if_pos c17] at H
           have LMc17 := Aside0.mk c17
           clear c17
           obtain ⟨y245, hy245⟩ : ∃ y_ : List (List Int), y_ = (x237001_2 ++ [x4_3]) := ⟨_, rfl⟩
           replace H : (steepleref10_Make.l1 k3 (wrap64 (x3_2 + 1)) x237000_1 y245) = some (r1, r2) := by first | (rw [hy245]; with_reducible exact H) | (have H2_ := (Option.bind_some _ _).symm.trans H; rw [hy245]; with_reducible exact H2_) | (have H2_ := (Option.bind_some _ _).symm.trans H; with_reducible exact H2_) | with_reducible exact H | (rw [hy245]; exact H) | exact H
           have Ny245 := Aside0.mk hy245
           clear hy245
           have H' := Aside0.mk H
           clear H
           have hnb18 := NB236_235.out
           have hnc18 := NB235_236.out
           obtain ⟨hcz19_0, hcz19_1⟩ := zc2 BK236
           obtain ⟨hfz19_0, hfz19_1⟩ := zf2 BK236
           obtain ⟨Ao21, co21, eo21⟩ := Kd.R_slice HO_4.out
           subst eo21
           go_wp2_with (first | ((with_reducible refine gate_builtin (b := .append) (xs := #[.tmp 32, .tmp 34]) rfl ?_); at_builtin; refine Kd.S_append (Kd.slice 3 (Kd.int .i64)) (w0 := w) w.heap.size rfl (.tmp 32) (.tmp 34) 35 30 (.slice none 0 0) 24 rfl Try.underlying35 info30 rfl (by decide) (by omega) u237001 x237001_2 x4_3 [.slice Ao21 x4_3.length co21] (fun k_ => some k_ ≠ (u237000 : Value).ownBlock) (fun k_ => some k_ = (.slice Ao21 x4_3.length co21 : Value).ownBlock) rfl rfl ?aP (fun k_ hk_ => ((Kd.R_mono (ok' := fun k_ => ((fun k_ => some k_ ≠ (u237000 : Value).ownBlock)) k_ ∧ some k_ ≠ (u237001 : Value).ownBlock) (Kd.R_apart' (HO_4.out) (Kd.S_typed HO_237001.out) (by decide)) (fun k_ hk => ⟨hk.1, hk.2⟩))).1 k_ hk_.symm) ?aF ?aO ?aB ?aS ?aL ?_; (case aP => exact Kd.M_row (Kd.R_mono (Kd.R_tight rfl (Kd.R_mono (ok' := fun k_ => ((fun k_ => some k_ ≠ (u237000 : Value).ownBlock)) k_ ∧ some k_ ≠ (u237001 : Value).ownBlock) (Kd.R_apart' (HO_4.out) (Kd.S_typed HO_237001.out) (by decide)) (fun k_ hk => ⟨hk.1, hk.2⟩))) (fun _ h_ => h_))); (case aB => exact (bq HB.out)); (case aF => exact (fun k_ hk => Kd.fresh' (Kd.R_lt (kr HO_237000.out)) k_ hk)); (case aO => exact (by (with_reducible repeat (first | apply Kd.S_alloc | apply Kd.S_drewN | apply Kd.S_drew)); exact Kd.S_mono HO_237001.out (fun k_ hk => ⟨hk.2, fun e_ => hk.1 e_⟩))); (case aS => exact (below_size (bq HB.out))); (case aL => have := LMc17.out; omega); intro v246 w20 ho hb hg hat; rw [← Ny245.out] at ho; have HO247 := Aside0.mk ho; replace HO_237000 := Aside0.mk (Kd.R_over' (kr HO_237000.out) (Kd.S_typed (by (with_reducible repeat (first | apply Kd.S_alloc | apply Kd.S_drewN | apply Kd.S_drew)); exact HO_237001.out)) (by decide) hg); replace BK235 := Aside0.mk (blk_grown (g := gb235) (o := .cells #[.slice none 0 0, .slice none 0 0] 37 (0, 0)) (bk BK235.out) hg (Kd.S_ne HO_237001.out BK235.out (by decide))); replace BK236 := Aside0.mk (blk_grown (g := gb236) (o := .cells #[u237000, u237001] 37 (0, 0)) (bk BK236.out) hg (Kd.S_ne HO_237001.out BK236.out (by decide))); replace HB := Aside0.mk hb; clear HO_237001; clear HO_4; clear ho hb hg hat; obtain ⟨Ao22, co22, eo22⟩ := Kd.S_slice HO247.out; subst eo22; obtain ⟨hcz23_0, hcz23_1⟩ := zc2 BK236; obtain ⟨hfz23_0, hfz23_1⟩ := zf2 BK236))
           go_roundg k3
           case measure => have := HK1.out; have := HK2.out; have := HK3.out; omega
           case rel => exact ⟨(wrap64 (x3_2 + 1)), (y245), (.slice Ao22 y245.length co22), (by first | rfl | (simp; done) | (simp [*]; done)), H', ⟨by have := HK1.out; have := HK2.out; have := HK3.out; omega⟩, ⟨by (with_reducible repeat refine kl ?_); exact Kd.R_mono (Kd.R_far (p := ⟨gb236, 1, none⟩) (Kd.R_types HO_237000.out BK236.out (by decide)) (fun _ hk => hk.2) (.slice Ao22 y245.length co22)) (fun _ hk => trivial)⟩, ⟨by (with_reducible repeat (first | apply Kd.S_alloc | apply Kd.S_drewN | apply Kd.S_drew)); exact Kd.S_mono (Kd.S_far (p := ⟨gb236, 1, none⟩) (Kd.S_types HO247.out BK236.out (by decide)) (fun _ hk => hk.2) (.slice Ao22 y245.length co22)) (fun _ hk => hk.1)⟩, ⟨by (with_reducible repeat refine bl ?_); refine blk_far ?_ NB235_236.out _; (with_reducible repeat refine bl ?_); exact BK235.out⟩, ⟨by (with_reducible repeat refine bl ?_); refine blk_put (cs := #[u237000, u237001]) ?_ 1 _ rfl; (with_reducible repeat refine bl ?_); exact BK236.out⟩, ⟨bq HB.out⟩⟩
          ·rw [if_neg c17] at H
           exact absurd H (by simp)
      ·rw [if_neg c11] at H
       have c11b0 : decide (x3_2 < 8) = false := decide_eq_false c11
       clear c11
       simp only [Option.some.injEq, Prod.mk.injEq] at H
       obtain ⟨rfl, rfl⟩ := H
       have hnb24 := NB236_235.out
       have hnc24 := NB235_236.out
       obtain ⟨hcz25_0, hcz25_1⟩ := zc2 BK236
       obtain ⟨hfz25_0, hfz25_1⟩ := zf2 BK236
       obtain ⟨Ao26, co26, eo26⟩ := Kd.R_slice HO_237000.out
       subst eo26
       obtain ⟨hcz27_0, hcz27_1⟩ := zc2 BK235
       obtain ⟨hfz27_0, hfz27_1⟩ := zf2 BK235
       obtain ⟨Ao28, co28, eo28⟩ := Kd.S_slice HO_237001.out
       subst eo28
       go_wp2
       refine bodyPost_ret (results_cell_row rfl _ _ gb235 37 #[.slice Ao26 x237000_1.length co26, .slice Ao28 x237001_2.length co28] (0, 0) _ rfl (by (with_reducible repeat refine bl ?_); refine blk_put (cs := #[.slice Ao26 x237000_1.length co26, .slice none 0 0]) ?_ 1 _ rfl; (with_reducible repeat refine bl ?_); refine blk_put (cs := #[.slice none 0 0, .slice none 0 0]) ?_ 0 _ rfl; (with_reducible repeat refine bl ?_); exact BK235.out) Try.underlying37 rfl (by kernel_rfl)) rfl ?_
       exact ⟨_, _, by first | rfl | (simp [errW_none, errW_some] <;> rfl) | (simp [*, errW_none, errW_some] <;> rfl), by (with_reducible repeat refine kl ?_); exact Kd.R_mono (Kd.R_far (p := ⟨gb235, 1, none⟩) (Kd.R_far (p := ⟨gb235, 0, none⟩) (Kd.R_types HO_237000.out BK235.out (by decide)) (fun _ hk => hk.2) (.slice Ao26 x237000_1.length co26)) (fun _ hk => hk.2) (.slice Ao28 x237001_2.length co28)) (fun _ hk => trivial), by (with_reducible repeat (first | apply Kd.S_alloc | apply Kd.S_drewN | apply Kd.S_drew)); exact Kd.S_mono (Kd.S_far (p := ⟨gb235, 1, none⟩) (Kd.S_far (p := ⟨gb235, 0, none⟩) (Kd.S_types HO_237001.out BK235.out (by decide)) (fun _ hk => hk.2) (.slice Ao26 x237000_1.length co26)) (fun _ hk => hk.2) (.slice Ao28 x237001_2.length co28)) (fun _ hk => hk.1), bq HB.out⟩

end Go.Proofs.Ytbfncpcpmigidaa.P
