/- Written by a program of this session: functions that the law reaches, as Lean functions, and that the code comes to their answers. Conditions: those that each theorem names. -/
import Derived.Test.YtmibjgjgfombaaaPx0
import Derived.Test.YtmibjgjgfombaaaPx8
namespace Go.Proofs.Ytmibjgjgfombaaa.P
open Go.RowKit Go.Proofs.YtmibjgjgfombaaaX Go.Proofs.YtmibjgjgfombaaaW.PrintWords Go.Proofs.YtmibjgjgfombaaaW.PrintLast Go.Proofs.YtmibjgjgfombaaaW.PrintMore
attribute [local go_sem] max2_int min2_int max_two min_two max_three min_three max_four min_four   -- for this text's walks alone
set_option linter.unusedVariables false
set_option linter.unusedSimpArgs false
set_option maxRecDepth 100000 in
theorem fld_lo9b (w : World) (a b : Int) : Sem.run Try.prog (Instr.field 91 (Value.agg #[Value.int IntKind.u64 a, Value.int IntKind.u64 b]) 1) w = Result.ok (Value.int IntKind.u64 b) w := by
  have hu := Try.underlying91
  go_simp
  rfl
attribute [local go_sem] fld_lo9b
set_option maxRecDepth 100000 in
theorem fld_lo9a (w : World) (a b : Int) : Sem.run Try.prog (Instr.field 87 (Value.agg #[Value.int IntKind.u64 a, Value.int IntKind.u64 b]) 1) w = Result.ok (Value.int IntKind.u64 b) w := by
  have hu := Try.underlying87
  go_simp
  rfl
attribute [local go_sem] fld_lo9a

/-! ### steepleref10_Make: function 16 -/
mutual
def steepleref10_Make.l0 : Nat → Int → List Int → Option (List Int × (List (List Int)))
 | 0, _, _ => none
 | k + 1, x2, x265000 => if x2 < 256 then ((steepleref10_Box.f k x2).bind fun t265 => (if x265000.length < 17592186044416 then (steepleref10_Make.l0 k (wrap64 (x2 + 1)) (x265000 ++ [t265])) else (none))) else (steepleref10_Make.l1 k 0 x265000 ([] : List (List Int)))
def steepleref10_Make.l1 : Nat → Int → List Int → List (List Int) → Option (List Int × (List (List Int)))
 | 0, _, _, _ => none
 | k + 1, x3, x265000, x265001 => if x3 < 8 then (steepleref10_Make.l2 k x3 ([] : List Int) 0 x265000 x265001) else (some (x265000, x265001))
def steepleref10_Make.l2 : Nat → Int → List Int → Int → List Int → List (List Int) → Option (List Int × (List (List Int)))
 | 0, _, _, _, _, _ => none
 | k + 1, x3, x4, x5, x265000, x265001 => if x5 < 256 then ((steepleref10_Times.f k x3 x5).bind fun t269 => (if x4.length < 17592186044416 then (steepleref10_Make.l2 k x3 (x4 ++ [t269]) (wrap64 (x5 + 1)) x265000 x265001) else (none))) else (if x265001.length < 5864062014805 then (steepleref10_Make.l1 k (wrap64 (x3 + 1)) x265000 (x265001 ++ [x4])) else (none))
end
def steepleref10_Make.f (k : Nat)  : Option (List Int × (List (List Int))) := steepleref10_Make.l0 k 0 ([] : List Int)
def steepleref10_Make.T5 : Bool × List (List Nat × List Nat) := (true, [([], []), ([0], [0]), ([], []), ([2], [2]), ([3], [3]), ([1, 4, 3], [1, 4]), ([0, 1, 2, 3, 4, 5], []), ([6, 5, 5, 0, 1, 2, 3, 4, 5], [5, 6])])
def steepleref10_Make.B5 : List Nat := [0, 1, 0, 4, 12, 31, 63, 127]
theorem steepleref10_Make.tab5 : rtab .any (opsOf Try.f16 5) = steepleref10_Make.T5 := by kernel_rfl
theorem steepleref10_Make.bits5 : waitsOk steepleref10_Make.T5.2 steepleref10_Make.B5 = true := by kernel_rfl
set_option maxHeartbeats 8000000 in
set_option maxRecDepth 100000 in
theorem steepleref10_Make.calls (k : Nat)  (r1 : List Int) (r2 : List (List Int)) (w : World) (h : steepleref10_Make.f k  = some (r1, r2)) :
  Calls Try.prog 16 #[] w fun e w' => ∃ v0_ v1_ : Value, e = .returned (.agg #[v0_, v1_]) ∧ Kd.R (Kd.int .i64) 3 w' w.heap.size (fun _ => True) v0_ r1 ∧ Kd.S (Kd.slice 3 (Kd.int .i64)) 36 w' w.heap.size (fun k_ => some k_ ≠ (v0_ : Value).ownBlock) v1_ r2 ∧ Below w.heap.size w w' := by
 have hu39 := Try.underlying39
 have HB := Aside0.mk (Below.refl w.heap.size w)
 have H : (steepleref10_Make.l0 k 0 ([] : List Int)) = some (r1, r2) := h
 clear h
 have H' := Aside0.mk H
 clear H
 go_enter Try.func16, Try.ntmps16
 go_wp2_with (first | ((with_reducible refine gate_dst (N := 0) rfl ?_); refine box_event ?hg (N := 0) ?hd (cs := #[.slice none 0 0, .slice none 0 0]) (t := 39) ?hr ?_; (case hd => rfl); (case hg => rfl); (case hr => first | (go_simp; done) | (go_simp; rfl)); intro gb263 hg w1 hbox hb; have BK263 := Aside0.mk hbox; have GW263 := ge hg HB; have GE263 := ge hg HB; replace HB := bh HB hb; clear hb hbox hg) | ((with_reducible refine gate_dst (N := 1) rfl ?_); refine box_event ?hg (N := 1) ?hd (cs := #[.slice none 0 0, .slice none 0 0]) (t := 39) ?hr ?_; (case hd => rfl); (case hg => rfl); (case hr => first | (go_simp; done) | (go_simp; rfl)); intro gb264 hg w2 hbox hb; have BK264 := Aside0.mk hbox; have GW264 := ge hg HB; have GE264 := ge hg HB; have NB263_264 := nl hg BK263; have NB264_263 := ng hg BK263; replace BK263 := bb BK263 hb; replace HB := bh HB hb; clear hb hbox hg))
 go_loopg [2] k (fun kq v2 w' => ∃ (x2_1 : Int) (x265000_1 : List Int) (u265000 : Value), v2 = .int .i64 x2_1 ∧ Aside0 (steepleref10_Make.l0 kq x2_1 x265000_1 = some (r1, r2)) ∧ Aside0 (kq ≤ k) ∧ Aside0 (Kd.R (Kd.int .i64) 3 w' w.heap.size (fun _ => True) u265000 x265000_1) ∧ Aside0 (w'.heap[gb263]? = some (.cells #[(.slice none 0 0), (.slice none 0 0)] 39 (0, 0))) ∧ Aside0 (w'.heap[gb264]? = some (.cells #[u265000, (.slice none 0 0)] 39 (0, 0))) ∧ Aside0 (Below w.heap.size w w'))
 case atStart => exact ⟨(0), (([] : List Int)), (.slice none 0 0), (by first | rfl | (simp; done) | (simp [*]; done)), H', ⟨Nat.le_refl _⟩, ⟨by first | exact Kd.R_nil _ _ _ _ _ | exact Kd.N_nil _ _ _ _ _ | exact Kd.V_nil _ _ _ _ _ | exact Kd.Q_nil _ _ _ _ _ | exact Kd.S_nil _ _ _ _ _⟩, ⟨bk BK263.out⟩, ⟨bk BK264.out⟩, ⟨bq HB.out⟩⟩
 case round =>
  clear H'
  try clear c1
  try clear p2
  obtain ⟨x2_1, x265000_1, u265000, rfl, HA, HK1, HO_265000, BK263, BK264, HB⟩ := hrel
  cases gk with
  | zero => exact absurd HA.out (by simp [steepleref10_Make.l0])
  | succ k1 =>
   have H := HA.out
   clear HA
   simp only [steepleref10_Make.l0] at H
   by_cases c3 : x2_1 < 256
   ·rw [if_pos c3] at H
    have c3b0 : decide (x2_1 < 256) = true := decide_eq_true c3
    clear c3
    replace H := Option.bind_eq_some_iff.mp H
    obtain ⟨t265, A40, H⟩ := H
    replace H : (if x265000_1.length < 17592186044416 then (steepleref10_Make.l0 k1 (wrap64 (x2_1 + 1)) (x265000_1 ++ [t265])) else (none)) = some (r1, r2) := H
    have A4 := Aside0.mk A40
    clear A40
    by_cases c5 : x265000_1.length < 17592186044416
    ·rw [if_pos c5] at H
     have LMc5 := Aside0.mk c5
     clear c5
     obtain ⟨y266, hy266⟩ : ∃ y_ : List Int, y_ = (x265000_1 ++ [t265]) := ⟨_, rfl⟩
     replace H : (steepleref10_Make.l0 k1 (wrap64 (x2_1 + 1)) y266) = some (r1, r2) := by first | (rw [hy266]; with_reducible exact H) | (have H2_ := (Option.bind_some _ _).symm.trans H; rw [hy266]; with_reducible exact H2_) | (have H2_ := (Option.bind_some _ _).symm.trans H; with_reducible exact H2_) | with_reducible exact H | (rw [hy266]; exact H) | exact H
     have Ny266 := Aside0.mk hy266
     clear hy266
     have H' := Aside0.mk H
     clear H
     try go_wp2
     replace HO_265000 := Aside0.mk (Kd.R_drew HO_265000.out)
     replace BK263 := Aside0.mk (blk_drew BK263.out)
     replace BK264 := Aside0.mk (blk_drew BK264.out)
     replace HB := Aside0.mk (below_drew1 HB.out)
     refine start_ (n := 8) (S := fun w' => w'.cell? ⟨gb264, 0, none⟩ = some (u265000) ∧ w'.cell? ⟨gb264, 1, none⟩ = some (.slice none 0 0)) (ds := [7]) #[false, false, false, false, false, false, false, false] (by kernel_rfl) rfl rfl ⟨(blk_cell BK264.out 0).trans rfl, (blk_cell BK264.out 1).trans rfl⟩ (fun hHeld => ?_); refine with_tabW steepleref10_Make.tab5 steepleref10_Make.bits5 (fun HT_ HW_ => ?_)
     generalize wr.drew = w6 at HO_265000 BK263 BK264 HB hHeld ⊢
     refine pure_ (i := 0) (N := some 10) (v := ?_) (a' := ?_) #[true, false, false, false, false, false, false, false] rfl rfl (any_of HT_.out (by kernel_rfl)) (fun _ _ _ h => h) (Or.inl ⟨by rfl, ?_⟩) ?_ ?_
     rotate_left
     ·intro w'
      go_simp
      with_reducible rfl
     rotate_left
     ·simp only [Act.put, List.setIfInBounds_toArray, List.set_cons_zero, List.set_cons_succ, i64_w, i32_w]
      rfl
     refine pure_ (i := 2) (N := some 12) (v := ?_) (a' := ?_) #[true, false, true, false, false, false, false, false] rfl rfl (any_of HT_.out (by kernel_rfl)) (fun _ _ _ h => h) (Or.inl ⟨by rfl, ?_⟩) ?_ ?_
     rotate_left
     ·intro w'
      go_simp
      with_reducible rfl
     rotate_left
     ·simp only [Act.put, List.setIfInBounds_toArray, List.set_cons_zero, List.set_cons_succ, i64_w, i32_w]
      rfl
     refine take_ (i := 1) (N := some 11) (v := ?_) (a' := ?_) #[true, true, true, false, false, false, false, false] rfl rfl (take_ofW HT_.out HW_.out (by kernel_rfl)) (fun _ _ _ h => h) (Or.inl ⟨by rfl, ?_⟩) hHeld ?_ ?_
     rotate_left
     ·rintro w' ⟨s0, s1⟩
      go_simp
      with_reducible rfl
     rotate_left
     ·simp only [Act.put, List.setIfInBounds_toArray, List.set_cons_zero, List.set_cons_succ, i64_w, i32_w]
      rfl
     refine one_ (i := 3) (N := some 13) #[true, true, true, true, false, false, false, false] rfl rfl (one_of HT_.out (by kernel_rfl)) (by decide) (fun K hK => ?_)
     refine goes_ Try.func34 (by kernel_rfl) rfl #[.int .i64 x2_1] (by rfl) rfl rfl (by (try simp only [List.map_toArray, List.map_cons, List.map_nil]); first | done | rfl | (simp only [List.length_drop, List.length_take]; rfl)) ?_
     with_reducible refine (steepleref10_Box.calls k1 x2_1 t265 _ A4.out).mono ?_
     rintro e w7 ⟨rfl, hb⟩
     refine ⟨_, rfl, ?_⟩
     replace HO_265000 := kb HO_265000 hb
     replace BK263 := bb BK263 hb
     replace BK264 := bb BK264 hb
     replace HB := bh HB hb
     (try clear hb)
     (try clear hb2)
     (try clear hk)
     (try clear hi)
     refine hK.out _ _ ⟨(blk_cell BK264.out 0).trans rfl, (blk_cell BK264.out 1).trans rfl⟩ (fun hHeld => ?_)
     clear hK K
     refine norm_ (a' := ?_) ?_ ?_
     rotate_left
     ·show Act.put _ (some 13) _ = _
      simp only [Act.put, List.setIfInBounds_toArray, List.set_cons_zero, List.set_cons_succ, i64_w, i32_w]
      rfl
     refine one_ (i := 4) (N := some 14) #[true, true, true, true, true, false, false, false] rfl rfl (one_of HT_.out (by kernel_rfl)) (by decide) (fun K hK => ?_)
     refine value_ (w1 := ?_) (v := ?_) (by rfl) rfl ?_ ?_
     rotate_left 2
     ·go_simp
      constructor
      ·rfl
      ·rfl
     refine hK.out _ _ ⟨(blk_cell (blk_alloc BK264.out _) 0).trans rfl, (blk_cell (blk_alloc BK264.out _) 1).trans rfl⟩ (fun hHeld => ?_)
     clear hK K
     refine norm_ (a' := ?_) ?_ ?_
     rotate_left
     ·show Act.put _ (some 14) _ = _
      simp only [Act.put, List.setIfInBounds_toArray, List.set_cons_zero, List.set_cons_succ, i64_w, i32_w]
      rfl
     refine one_ (i := 5) (N := some 15) #[true, true, true, true, true, true, false, false] rfl rfl (one_of HT_.out (by kernel_rfl)) (by decide) (fun K hK => ?_)
     refine Kd.R_append_step (Kd.int .i64) (w0 := w) w.heap.size (by rfl) (.tmp 11) (.tmp 14) 36 3 (.int .i64 0) 8 rfl Try.underlying36 info3 rfl (by decide) (by omega) u265000 x265000_1 t265 [.int .i64 t265] (fun _ => True) (fun _ => False) rfl rfl ?aP (fun _ hk => hk.elim) ?aF ?aO ?aB ?aS ?aL ?_
     (case aP => exact rfl)
     (case aB => exact (bq HB.out))
     (case aF => exact (fun _ _ => trivial))
     (case aO => exact (kr HO_265000.out))
     (case aS => exact (below_size (bq HB.out)))
     (case aL => have := LMc5.out; omega)
     intro v267 w8 ho hb hg hat
     rw [← Ny266.out] at ho
     have HO268 := Aside0.mk ho
     replace BK263 := Aside0.mk (blk_grown (g := gb263) (o := .cells #[.slice none 0 0, .slice none 0 0] 39 (0, 0)) (bk BK263.out) hg (Kd.R_ne HO_265000.out BK263.out (by decide)))
     replace BK264 := Aside0.mk (blk_grown (g := gb264) (o := .cells #[u265000, .slice none 0 0] 39 (0, 0)) (bk BK264.out) hg (Kd.R_ne HO_265000.out BK264.out (by decide)))
     replace HB := Aside0.mk hb
     clear HO_265000
     clear ho hb hg hat
     obtain ⟨Ao9, co9, eo9⟩ := Kd.R_slice HO268.out
     (first | subst eo9 | (injection eo9 with f1_ f2_ f3_; have f4_ := f1_.symm; have f5_ := f3_.symm; clear f1_ f2_ f3_; subst f4_; subst f5_))
     refine hK.out _ _ ⟨(blk_cell BK264.out 0).trans rfl, (blk_cell BK264.out 1).trans rfl⟩ (fun hHeld => ?_)
     clear hK K
     refine norm_ (a' := ?_) ?_ ?_
     rotate_left
     ·show Act.put _ (some 15) _ = _
      simp only [Act.put, List.setIfInBounds_toArray, List.set_cons_zero, List.set_cons_succ, i64_w, i32_w]
      rfl
     refine pure_ (i := 6) (N := some 16) (v := ?_) (a' := ?_) #[true, true, true, true, true, true, true, false] rfl rfl (any_of HT_.out (by kernel_rfl)) (fun _ _ _ h => h) (Or.inl ⟨by rfl, ?_⟩) ?_ ?_
     rotate_left
     ·intro w'
      go_simp
      with_reducible rfl
     rotate_left
     ·simp only [Act.put, List.setIfInBounds_toArray, List.set_cons_zero, List.set_cons_succ, i64_w, i32_w]
      rfl
     refine last_ (i := 7) (N := none) #[true, true, true, true, true, true, true, true] rfl rfl (one_of HT_.out (by kernel_rfl)) (by decide) (fun K hK => ?_)
     have hs10 : w8.cell? ⟨gb264, 0, none⟩ = some (u265000) := (blk_cell BK264.out 0).trans rfl
     have hfs10 := blk_frozen BK264.out 0
     have hns10_0 := NB263_264.out
     have hms10_0 := NB264_263.out
     refine skip_ (w1 := ?_) (by rfl) rfl ?_ ?_
     rotate_left
     ·go_simp
      rfl
     refine hK.out _ _ ?_
     clear hK K
     refine done_ (done_of HT_.out (by kernel_rfl)) ?_
     try go_wp2
     go_roundg k1
     case measure => have := HK1.out; omega
     case rel => exact ⟨(wrap64 (x2_1 + 1)), (y266), (.slice Ao9 y266.length co9), (by first | rfl | (simp; done) | (simp [*]; done)), H', ⟨by have := HK1.out; omega⟩, ⟨by (with_reducible repeat refine kl ?_); exact Kd.R_mono (Kd.R_far (p := ⟨gb264, 0, none⟩) (Kd.R_types HO268.out BK264.out (by decide)) (fun _ hk => hk.2) (.slice Ao9 y266.length co9)) (fun _ hk => trivial)⟩, ⟨by (with_reducible repeat refine bl ?_); refine blk_far ?_ NB263_264.out _; (with_reducible repeat refine bl ?_); exact BK263.out⟩, ⟨by (with_reducible repeat refine bl ?_); refine blk_put (cs := #[u265000, .slice none 0 0]) ?_ 0 _ rfl; (with_reducible repeat refine bl ?_); exact BK264.out⟩, ⟨bq HB.out⟩⟩
    ·rw [if_neg c5] at H
     exact absurd H (by simp)
   ·rw [if_neg c3] at H
    have c3b0 : decide (x2_1 < 256) = false := decide_eq_false c3
    clear c3
    have H' := Aside0.mk H
    clear H
    go_wp2
    go_loopg [3] k1 (fun kq v3 w' => ∃ (x3_2 : Int) (x265001_2 : List (List Int)) (u265001 : Value), v3 = .int .i64 x3_2 ∧ Aside0 (steepleref10_Make.l1 kq x3_2 x265000_1 x265001_2 = some (r1, r2)) ∧ Aside0 (kq ≤ k1) ∧ Aside0 (Kd.R (Kd.int .i64) 3 w' w.heap.size (fun _ => True) u265000 x265000_1) ∧ Aside0 (Kd.S (Kd.slice 3 (Kd.int .i64)) 36 w' w.heap.size (fun k_ => some k_ ≠ (u265000 : Value).ownBlock) u265001 x265001_2) ∧ Aside0 (w'.heap[gb263]? = some (.cells #[(.slice none 0 0), (.slice none 0 0)] 39 (0, 0))) ∧ Aside0 (w'.heap[gb264]? = some (.cells #[u265000, u265001] 39 (0, 0))) ∧ Aside0 (Below w.heap.size w w'))
    case atStart => exact ⟨(0), (([] : List (List Int))), (.slice none 0 0), (by first | rfl | (simp; done) | (simp [*]; done)), H', ⟨Nat.le_refl _⟩, ⟨kr HO_265000.out⟩, ⟨by first | exact Kd.S_nil _ _ _ _ _ | exact Kd.N_nil _ _ _ _ _ | exact Kd.V_nil _ _ _ _ _ | exact Kd.Q_nil _ _ _ _ _ | exact Kd.R_nil _ _ _ _ _⟩, ⟨bk BK263.out⟩, ⟨bk BK264.out⟩, ⟨bq HB.out⟩⟩
    case round =>
     clear H'
     try clear c1
     try clear p2
     try clear c3
     try clear c3b0
     try clear c5
     try clear p6
     try clear p2
     obtain ⟨x3_2, x265001_2, u265001, rfl, HA, HK2, HO_265000, HO_265001, BK263, BK264, HB⟩ := hrel
     cases gk with
     | zero => exact absurd HA.out (by simp [steepleref10_Make.l1])
     | succ k2 =>
      have H := HA.out
      clear HA
      simp only [steepleref10_Make.l1] at H
      by_cases c11 : x3_2 < 8
      ·rw [if_pos c11] at H
       have c11b0 : decide (x3_2 < 8) = true := decide_eq_true c11
       clear c11
       have H' := Aside0.mk H
       clear H
       go_wp2
       go_loopg [4, 5] k2 (fun kq v4 v5 w' => ∃ (x4_3 : List Int) (x5_3 : Int), v5 = .int .i64 x5_3 ∧ Aside0 (steepleref10_Make.l2 kq x3_2 x4_3 x5_3 x265000_1 x265001_2 = some (r1, r2)) ∧ Aside0 (kq ≤ k2) ∧ Aside0 (Kd.R (Kd.int .i64) 3 w' w.heap.size (fun k_ => some k_ ≠ (u265000 : Value).ownBlock) v4 x4_3) ∧ Aside0 (Kd.R (Kd.int .i64) 3 w' w.heap.size (fun k_ => some k_ ≠ (v4 : Value).ownBlock) u265000 x265000_1) ∧ Aside0 (Kd.S (Kd.slice 3 (Kd.int .i64)) 36 w' w.heap.size (fun k_ => some k_ ≠ (v4 : Value).ownBlock ∧ some k_ ≠ (u265000 : Value).ownBlock) u265001 x265001_2) ∧ Aside0 (w'.heap[gb263]? = some (.cells #[(.slice none 0 0), (.slice none 0 0)] 39 (0, 0))) ∧ Aside0 (w'.heap[gb264]? = some (.cells #[u265000, u265001] 39 (0, 0))) ∧ Aside0 (Below w.heap.size w w'))
       case atStart => exact ⟨(([] : List Int)), (0), (by first | rfl | (simp; done) | (simp [*]; done)), H', ⟨Nat.le_refl _⟩, ⟨by first | exact Kd.R_nil _ _ _ _ _ | exact Kd.N_nil _ _ _ _ _ | exact Kd.V_nil _ _ _ _ _ | exact Kd.Q_nil _ _ _ _ _ | exact Kd.S_nil _ _ _ _ _⟩, ⟨by (with_reducible repeat refine kl ?_); exact Kd.R_mono HO_265000.out (fun _ hk => (by simp [Value.ownBlock]))⟩, ⟨by (with_reducible repeat (first | apply Kd.S_alloc | apply Kd.S_drewN | apply Kd.S_drew)); exact Kd.S_mono HO_265001.out (fun _ hk => ⟨(by simp [Value.ownBlock]), hk⟩)⟩, ⟨bk BK263.out⟩, ⟨bk BK264.out⟩, ⟨bq HB.out⟩⟩
       case round =>
        clear H'
        try clear c1
        try clear p2
        try clear c3
        try clear c3b0
        try clear c5
        try clear p6
        try clear c11
        try clear c11b0
        try clear p2
        try clear p6
        obtain ⟨x4_3, x5_3, rfl, HA, HK3, HO_4, HO_265000, HO_265001, BK263, BK264, HB⟩ := hrel
        cases gk with
        | zero => exact absurd HA.out (by simp [steepleref10_Make.l2])
        | succ k3 =>
         have H := HA.out
         clear HA
         simp only [steepleref10_Make.l2] at H
         by_cases c12 : x5_3 < 256
         ·rw [if_pos c12] at H
          have c12b0 : decide (x5_3 < 256) = true := decide_eq_true c12
          clear c12
          replace H := Option.bind_eq_some_iff.mp H
          obtain ⟨t269, A130, H⟩ := H
          replace H : (if x4_3.length < 17592186044416 then (steepleref10_Make.l2 k3 x3_2 (x4_3 ++ [t269]) (wrap64 (x5_3 + 1)) x265000_1 x265001_2) else (none)) = some (r1, r2) := H
          have A13 := Aside0.mk A130
          clear A130
          by_cases c14 : x4_3.length < 17592186044416
          ·rw [if_pos c14] at H
           have LMc14 := Aside0.mk c14
           clear c14
           obtain ⟨y270, hy270⟩ : ∃ y_ : List Int, y_ = (x4_3 ++ [t269]) := ⟨_, rfl⟩
           replace H : (steepleref10_Make.l2 k3 x3_2 y270 (wrap64 (x5_3 + 1)) x265000_1 x265001_2) = some (r1, r2) := by first | (rw [hy270]; with_reducible exact H) | (have H2_ := (Option.bind_some _ _).symm.trans H; rw [hy270]; with_reducible exact H2_) | (have H2_ := (Option.bind_some _ _).symm.trans H; with_reducible exact H2_) | with_reducible exact H | (rw [hy270]; exact H) | exact H
           have Ny270 := Aside0.mk hy270
           clear hy270
           have H' := Aside0.mk H
           clear H
           go_wp2_with (first | ((with_reducible refine gate_callee (f := 35) rfl ?_); refine goesL_ (some 28) rfl rfl Try.func35 (by kernel_rfl) rfl #[.int .i64 x3_2, .int .i64 x5_3] rfl (by (try simp only [List.map_toArray, List.map_cons, List.map_nil]); first | done | rfl | (simp only [List.length_drop, List.length_take]; rfl)) ?_; (with_reducible refine (steepleref10_Times.calls k3 x3_2 x5_3 t269 _ A13.out).mono ?_); rintro e w15 ⟨rfl, hb⟩; refine ⟨_, rfl, ?_⟩; replace HO_4 := kb HO_4 hb; replace HO_265000 := kb HO_265000 hb; replace HO_265001 := Aside0.mk (Kd.S_below (by (with_reducible repeat (first | apply Kd.S_alloc | apply Kd.S_drewN | apply Kd.S_drew)); exact HO_265001.out) hb); replace BK263 := bb BK263 hb; replace BK264 := bb BK264 hb; replace HB := bh HB hb; (try clear hb); (try clear hb2); (try clear hk); (try clear hi)) | ((with_reducible refine gate_builtin (b := .append) (xs := #[.tmp 25, .tmp 29]) rfl ?_); at_builtin; refine Kd.R_append (Kd.int .i64) (w0 := w) w.heap.size rfl (.tmp 25) (.tmp 29) 36 3 (.int .i64 0) 8 rfl Try.underlying36 info3 rfl (by decide) (by omega) u4 x4_3 t269 [.int .i64 t269] (fun k_ => some k_ ≠ (u265000 : Value).ownBlock) (fun _ => False) rfl rfl ?aP (fun _ hk => hk.elim) ?aF ?aO ?aB ?aS ?aL ?_; (case aP => exact rfl); (case aB => exact (bq HB.out)); (case aF => exact (fun k_ hk => Kd.fresh' (Kd.R_lt (kr HO_265000.out)) k_ hk)); (case aO => exact (kr HO_4.out)); (case aS => exact (below_size (bq HB.out))); (case aL => have := LMc14.out; omega); intro v271 w16 ho hb hg hat; rw [← Ny270.out] at ho; have HO272 := Aside0.mk ho; replace HO_265000 := Aside0.mk (Kd.R_after (ok := (fun _ => True)) (by (with_reducible repeat refine kl ?_); exact Kd.R_mono HO_265000.out (fun _ hk => ⟨trivial, hk⟩)) hg hat); replace HO_265001 := Aside0.mk (Kd.S_after (ok := (fun k_ => some k_ ≠ (u265000 : Value).ownBlock)) (by (with_reducible repeat (first | apply Kd.S_alloc | apply Kd.S_drewN | apply Kd.S_drew)); exact Kd.S_mono HO_265001.out (fun _ hk => ⟨hk.2, hk.1⟩)) hg hat); replace BK263 := Aside0.mk (blk_grown (g := gb263) (o := .cells #[.slice none 0 0, .slice none 0 0] 39 (0, 0)) (bk BK263.out) hg (Kd.R_ne HO_4.out BK263.out (by decide))); replace BK264 := Aside0.mk (blk_grown (g := gb264) (o := .cells #[u265000, u265001] 39 (0, 0)) (bk BK264.out) hg (Kd.R_ne HO_4.out BK264.out (by decide))); replace HB := Aside0.mk hb; clear HO_4; clear ho hb hg hat))
           go_roundg k3
           case measure => have := HK1.out; have := HK2.out; have := HK3.out; omega
           case rel => exact ⟨(y270), (wrap64 (x5_3 + 1)), (by first | rfl | (simp; done) | (simp [*]; done)), H', ⟨by have := HK1.out; have := HK2.out; have := HK3.out; omega⟩, ⟨kr HO272.out⟩, ⟨by (with_reducible repeat refine kl ?_); exact Kd.R_mono HO_265000.out (fun _ hk => hk.2)⟩, ⟨by (with_reducible repeat (first | apply Kd.S_alloc | apply Kd.S_drewN | apply Kd.S_drew)); exact Kd.S_mono HO_265001.out (fun _ hk => ⟨hk.2, hk.1⟩)⟩, ⟨bk BK263.out⟩, ⟨bk BK264.out⟩, ⟨bq HB.out⟩⟩
          ·rw [if_neg c14] at H
           exact absurd H (by simp)
         ·rw [if_neg c12] at H
          have c12b0 : decide (x5_3 < 256) = false := decide_eq_false c12
          clear c12
          by_cases c17 : x265001_2.length < 5864062014805
          ·rw [if_pos c17] at H
           have LMc17 := Aside0.mk c17
           clear c17
           obtain ⟨y273, hy273⟩ : ∃ y_ : List (List Int), y_ = (x265001_2 ++ [x4_3]) := ⟨_, rfl⟩
           replace H : (steepleref10_Make.l1 k3 (wrap64 (x3_2 + 1)) x265000_1 y273) = some (r1, r2) := by first | (rw [hy273]; with_reducible exact H) | (have H2_ := (Option.bind_some _ _).symm.trans H; rw [hy273]; with_reducible exact H2_) | (have H2_ := (Option.bind_some _ _).symm.trans H; with_reducible exact H2_) | with_reducible exact H | (rw [hy273]; exact H) | exact H
           have Ny273 := Aside0.mk hy273
           clear hy273
           have H' := Aside0.mk H
           clear H
           have hnb18 := NB264_263.out
           have hnc18 := NB263_264.out
           obtain ⟨hcz19_0, hcz19_1⟩ := zc2 BK264
           obtain ⟨hfz19_0, hfz19_1⟩ := zf2 BK264
           obtain ⟨Ao21, co21, eo21⟩ := Kd.R_slice HO_4.out
           subst eo21
           go_wp2_with (first | ((with_reducible refine gate_builtin (b := .append) (xs := #[.tmp 32, .tmp 34]) rfl ?_); at_builtin; refine Kd.S_append (Kd.slice 3 (Kd.int .i64)) (w0 := w) w.heap.size rfl (.tmp 32) (.tmp 34) 37 36 (.slice none 0 0) 24 rfl Try.underlying37 info36 rfl (by decide) (by omega) u265001 x265001_2 x4_3 [.slice Ao21 x4_3.length co21] (fun k_ => some k_ ≠ (u265000 : Value).ownBlock) (fun k_ => some k_ = (.slice Ao21 x4_3.length co21 : Value).ownBlock) rfl rfl ?aP (fun k_ hk_ => ((Kd.R_mono (ok' := fun k_ => ((fun k_ => some k_ ≠ (u265000 : Value).ownBlock)) k_ ∧ some k_ ≠ (u265001 : Value).ownBlock) (Kd.R_apart' (HO_4.out) (Kd.S_typed HO_265001.out) (by decide)) (fun k_ hk => ⟨hk.1, hk.2⟩))).1 k_ hk_.symm) ?aF ?aO ?aB ?aS ?aL ?_; (case aP => exact Kd.M_row (Kd.R_mono (Kd.R_tight rfl (Kd.R_mono (ok' := fun k_ => ((fun k_ => some k_ ≠ (u265000 : Value).ownBlock)) k_ ∧ some k_ ≠ (u265001 : Value).ownBlock) (Kd.R_apart' (HO_4.out) (Kd.S_typed HO_265001.out) (by decide)) (fun k_ hk => ⟨hk.1, hk.2⟩))) (fun _ h_ => h_))); (case aB => exact (bq HB.out)); (case aF => exact (fun k_ hk => Kd.fresh' (Kd.R_lt (kr HO_265000.out)) k_ hk)); (case aO => exact (by (with_reducible repeat (first | apply Kd.S_alloc | apply Kd.S_drewN | apply Kd.S_drew)); exact Kd.S_mono HO_265001.out (fun k_ hk => ⟨hk.2, fun e_ => hk.1 e_⟩))); (case aS => exact (below_size (bq HB.out))); (case aL => have := LMc17.out; omega); intro v274 w20 ho hb hg hat; rw [← Ny273.out] at ho; have HO275 := Aside0.mk ho; replace HO_265000 := Aside0.mk (Kd.R_over' (kr HO_265000.out) (Kd.S_typed (by (with_reducible repeat (first | apply Kd.S_alloc | apply Kd.S_drewN | apply Kd.S_drew)); exact HO_265001.out)) (by decide) hg); replace BK263 := Aside0.mk (blk_grown (g := gb263) (o := .cells #[.slice none 0 0, .slice none 0 0] 39 (0, 0)) (bk BK263.out) hg (Kd.S_ne HO_265001.out BK263.out (by decide))); replace BK264 := Aside0.mk (blk_grown (g := gb264) (o := .cells #[u265000, u265001] 39 (0, 0)) (bk BK264.out) hg (Kd.S_ne HO_265001.out BK264.out (by decide))); replace HB := Aside0.mk hb; clear HO_265001; clear HO_4; clear ho hb hg hat; obtain ⟨Ao22, co22, eo22⟩ := Kd.S_slice HO275.out; subst eo22; obtain ⟨hcz23_0, hcz23_1⟩ := zc2 BK264; obtain ⟨hfz23_0, hfz23_1⟩ := zf2 BK264))
           go_roundg k3
           case measure => have := HK1.out; have := HK2.out; have := HK3.out; omega
           case rel => exact ⟨(wrap64 (x3_2 + 1)), (y273), (.slice Ao22 y273.length co22), (by first | rfl | (simp; done) | (simp [*]; done)), H', ⟨by have := HK1.out; have := HK2.out; have := HK3.out; omega⟩, ⟨by (with_reducible repeat refine kl ?_); exact Kd.R_mono (Kd.R_far (p := ⟨gb264, 1, none⟩) (Kd.R_types HO_265000.out BK264.out (by decide)) (fun _ hk => hk.2) (.slice Ao22 y273.length co22)) (fun _ hk => trivial)⟩, ⟨by (with_reducible repeat (first | apply Kd.S_alloc | apply Kd.S_drewN | apply Kd.S_drew)); exact Kd.S_mono (Kd.S_far (p := ⟨gb264, 1, none⟩) (Kd.S_types HO275.out BK264.out (by decide)) (fun _ hk => hk.2) (.slice Ao22 y273.length co22)) (fun _ hk => hk.1)⟩, ⟨by (with_reducible repeat refine bl ?_); refine blk_far ?_ NB263_264.out _; (with_reducible repeat refine bl ?_); exact BK263.out⟩, ⟨by (with_reducible repeat refine bl ?_); refine blk_put (cs := #[u265000, u265001]) ?_ 1 _ rfl; (with_reducible repeat refine bl ?_); exact BK264.out⟩, ⟨bq HB.out⟩⟩
          ·rw [if_neg c17] at H
           exact absurd H (by simp)
      ·rw [if_neg c11] at H
       have c11b0 : decide (x3_2 < 8) = false := decide_eq_false c11
       clear c11
       simp only [Option.some.injEq, Prod.mk.injEq] at H
       obtain ⟨rfl, rfl⟩ := H
       have hnb24 := NB264_263.out
       have hnc24 := NB263_264.out
       obtain ⟨hcz25_0, hcz25_1⟩ := zc2 BK264
       obtain ⟨hfz25_0, hfz25_1⟩ := zf2 BK264
       obtain ⟨Ao26, co26, eo26⟩ := Kd.R_slice HO_265000.out
       subst eo26
       obtain ⟨hcz27_0, hcz27_1⟩ := zc2 BK263
       obtain ⟨hfz27_0, hfz27_1⟩ := zf2 BK263
       obtain ⟨Ao28, co28, eo28⟩ := Kd.S_slice HO_265001.out
       subst eo28
       go_wp2
       refine bodyPost_ret (results_cell_row rfl _ _ gb263 39 #[.slice Ao26 x265000_1.length co26, .slice Ao28 x265001_2.length co28] (0, 0) _ rfl (by (with_reducible repeat refine bl ?_); refine blk_put (cs := #[.slice Ao26 x265000_1.length co26, .slice none 0 0]) ?_ 1 _ rfl; (with_reducible repeat refine bl ?_); refine blk_put (cs := #[.slice none 0 0, .slice none 0 0]) ?_ 0 _ rfl; (with_reducible repeat refine bl ?_); exact BK263.out) Try.underlying39 rfl (by kernel_rfl)) rfl ?_
       exact ⟨_, _, by first | rfl | (simp [errW_none, errW_some] <;> rfl) | (simp [*, errW_none, errW_some] <;> rfl), by (with_reducible repeat refine kl ?_); exact Kd.R_mono (Kd.R_far (p := ⟨gb263, 1, none⟩) (Kd.R_far (p := ⟨gb263, 0, none⟩) (Kd.R_types HO_265000.out BK263.out (by decide)) (fun _ hk => hk.2) (.slice Ao26 x265000_1.length co26)) (fun _ hk => hk.2) (.slice Ao28 x265001_2.length co28)) (fun _ hk => trivial), by (with_reducible repeat (first | apply Kd.S_alloc | apply Kd.S_drewN | apply Kd.S_drew)); exact Kd.S_mono (Kd.S_far (p := ⟨gb263, 1, none⟩) (Kd.S_far (p := ⟨gb263, 0, none⟩) (Kd.S_types HO_265001.out BK263.out (by decide)) (fun _ hk => hk.2) (.slice Ao26 x265000_1.length co26)) (fun _ hk => hk.2) (.slice Ao28 x265001_2.length co28)) (fun _ hk => hk.1), bq HB.out⟩

/-! ### steepleref11_zeros: function 41 -/
def steepleref11_zeros.l0 : Nat → Int → List Int → Int → Option (ByteArray)
 | 0, _, _, _ => none
 | k + 1, x0, x3, x4 => if x4 < x0 then (if x3.length < 140737488355328 then (steepleref11_zeros.l0 k x0 (x3 ++ [0]) (wrap64 (x4 + 1))) else (none)) else (some (strOfNums x3))
def steepleref11_zeros.f (k : Nat) (a0 : Int) : Option (ByteArray) := steepleref11_zeros.l0 k a0 ([] : List Int) 0
set_option maxHeartbeats 8000000 in
set_option maxRecDepth 100000 in
theorem steepleref11_zeros.calls (k : Nat) (a0 : Int) (r : ByteArray) (w : World) (h : steepleref11_zeros.f k a0 = some r) :
  Calls Try.prog 41 #[.int .i64 a0] w fun e w' => e = .returned (.string r) ∧ Below w.heap.size w w' := by
 have HB := Aside0.mk (Below.refl w.heap.size w)
 have H : (steepleref11_zeros.l0 k a0 ([] : List Int) 0) = some r := h
 clear h
 have H' := Aside0.mk H
 clear H
 go_enter Try.func41, Try.ntmps41
 go_wp2
 go_loopg [3, 4] k (fun kq v3 v4 w' => ∃ (x3_1 : List Int) (x4_1 : Int), v4 = .int .i64 x4_1 ∧ Aside0 (steepleref11_zeros.l0 kq a0 x3_1 x4_1 = some r) ∧ Aside0 (kq ≤ k) ∧ Aside0 (Kd.R (Kd.int .u8) 5 w' w.heap.size (fun _ => True) v3 x3_1) ∧ Aside0 (Below w.heap.size w w'))
 case atStart => exact ⟨(([] : List Int)), (0), (by first | rfl | (simp; done) | (simp [*]; done)), H', ⟨Nat.le_refl _⟩, ⟨by first | exact Kd.R_nil _ _ _ _ _ | exact Kd.N_nil _ _ _ _ _ | exact Kd.V_nil _ _ _ _ _ | exact Kd.Q_nil _ _ _ _ _ | exact Kd.S_nil _ _ _ _ _⟩, ⟨bq HB.out⟩⟩
 case round =>
  clear H'
  obtain ⟨x3_1, x4_1, rfl, HA, HK1, HO_3, HB⟩ := hrel
  cases gk with
  | zero => exact absurd HA.out (by simp [steepleref11_zeros.l0])
  | succ k1 =>
   have H := HA.out
   clear HA
   simp only [steepleref11_zeros.l0] at H
   by_cases c2 : x4_1 < a0
   ·rw [if_pos c2] at H
    have c2b0 : decide (x4_1 < a0) = true := decide_eq_true c2
    clear c2
    by_cases c3 : x3_1.length < 140737488355328
    ·rw [if_pos c3] at H
     have LMc3 := Aside0.mk c3
     clear c3
     obtain ⟨y276, hy276⟩ : ∃ y_ : List Int, y_ = (x3_1 ++ [0]) := ⟨_, rfl⟩
     replace H : (steepleref11_zeros.l0 k1 a0 y276 (wrap64 (x4_1 + 1))) = some r := by first | (rw [hy276]; with_reducible exact H) | (have H2_ := (Option.bind_some _ _).symm.trans H; rw [hy276]; with_reducible exact H2_) | (have H2_ := (Option.bind_some _ _).symm.trans H; with_reducible exact H2_) | with_reducible exact H | (rw [hy276]; exact H) | exact H
     have Ny276 := Aside0.mk hy276
     clear hy276
     have H' := Aside0.mk H
     clear H
     go_wp2_with (first | ((with_reducible refine gate_builtin (b := .append) (xs := #[.tmp 10, .tmp 11]) rfl ?_); at_builtin; refine Kd.R_append (Kd.int .u8) (w0 := w) w.heap.size rfl (.tmp 10) (.tmp 11) 97 5 (.int .u8 0) 1 rfl Try.underlying97 info5 rfl (by decide) (by omega) u3 x3_1 0 [.int .u8 0] (fun _ => True) (fun _ => False) rfl rfl ?aP (fun _ hk => hk.elim) ?aF ?aO ?aB ?aS ?aL ?_; (case aP => exact rfl); (case aB => exact (bq HB.out)); (case aF => exact (fun _ _ => trivial)); (case aO => exact (kr HO_3.out)); (case aS => exact (below_size (bq HB.out))); (case aL => have := LMc3.out; omega); intro v277 w4 ho hb hg hat; rw [← Ny276.out] at ho; have HO278 := Aside0.mk ho; replace HB := Aside0.mk hb; clear HO_3; clear ho hb hg hat))
     go_roundg k1
     case measure => have := HK1.out; omega
     case rel => exact ⟨(y276), (wrap64 (x4_1 + 1)), (by first | rfl | (simp; done) | (simp [*]; done)), H', ⟨by have := HK1.out; omega⟩, ⟨kr HO278.out⟩, ⟨bq HB.out⟩⟩
    ·rw [if_neg c3] at H
     exact absurd H (by simp)
   ·rw [if_neg c2] at H
    have c2b0 : decide (x4_1 < a0) = false := decide_eq_false c2
    clear c2
    obtain rfl := Option.some.inj H
    have hcv5 := own_string (P := Try.prog) Try.underlying97 Try.underlying5 Try.underlying9 (Kd.own_of_R HO_3.out)
    go_wp2
    go_ret
    exact ⟨by first | rfl | (simp [errW_none, errW_some] <;> rfl) | (simp [*, errW_none, errW_some] <;> rfl), bq HB.out⟩

/-! ### steepleref11_Fill: function 42 -/
mutual
def steepleref11_Fill.l0 : Nat → ByteArray → Int → Option (ByteArray)
 | 0, _, _ => none
 | k + 1, x0, x3 => if (Int.tmod (wrap64 ((wrap64 ((wrap64 ((x0.size : Int) + 1)) + x3)) + 8)) 64) = 0 then (if x0.size + 1 ≤ 9223372036854775807 then ((steepleref11_zeros.f k x3).bind fun t279 => (if (x0 ++ (⟨#[128]⟩ : ByteArray)).size + t279.size ≤ 9223372036854775807 then (steepleref11_Fill.l1 k ((x0 ++ (⟨#[128]⟩ : ByteArray)) ++ t279) (wrap64 (Int.tdiv (wrap64 ((((x0 ++ (⟨#[128]⟩ : ByteArray)) ++ t279).size : Int) + 8)) 64)) ([] : List Int) 0) else (none))) else (none)) else (steepleref11_Fill.l0 k x0 (wrap64 (x3 + 1)))
def steepleref11_Fill.l1 : Nat → ByteArray → Int → List Int → Int → Option (ByteArray)
 | 0, _, _, _, _ => none
 | k + 1, x4, x5, x6, x7 => if x7 < 8 then (if x6.length < 140737488355328 then (steepleref11_Fill.l1 k x4 x5 (x6 ++ [0]) (wrap64 (x7 + 1))) else (none)) else (steepleref11_Fill.l2 k x4 x5 x6 7)
def steepleref11_Fill.l2 : Nat → ByteArray → Int → List Int → Int → Option (ByteArray)
 | 0, _, _, _, _ => none
 | k + 1, x4, x5, x6, x8 => if x8 ≥ 0 then (if 0 ≤ x8 then (if x8 < (x6.length : Int) then (steepleref11_Fill.l2 k x4 (wrap64 (Int.tdiv x5 256)) (x6.set (x8 : Int).toNat ((Int.tmod x5 256) % 256)) (wrap64 (x8 - 1))) else (none)) else (none)) else (if x4.size + (strOfNums x6).size ≤ 9223372036854775807 then (some (x4 ++ (strOfNums x6))) else (none))
end
def steepleref11_Fill.f (k : Nat) (a0 : ByteArray) : Option (ByteArray) := steepleref11_Fill.l0 k a0 0
set_option maxHeartbeats 8000000 in
set_option maxRecDepth 100000 in
theorem steepleref11_Fill.calls (k : Nat) (a0 : ByteArray) (r : ByteArray) (w : World) (h : steepleref11_Fill.f k a0 = some r) :
  Calls Try.prog 42 #[.string a0] w fun e w' => e = .returned (.string r) ∧ Below w.heap.size w w' := by
 have HB := Aside0.mk (Below.refl w.heap.size w)
 have H : (steepleref11_Fill.l0 k a0 0) = some r := h
 clear h
 have H' := Aside0.mk H
 clear H
 go_enter Try.func42, Try.ntmps42
 go_wp2
 go_loopg [3] k (fun kq v3 w' => ∃ (x3_1 : Int), v3 = .int .i64 x3_1 ∧ Aside0 (steepleref11_Fill.l0 kq a0 x3_1 = some r) ∧ Aside0 (kq ≤ k) ∧ Aside0 (Below w.heap.size w w'))
 case atStart => exact ⟨(0), (by first | rfl | (simp; done) | (simp; rfl) | (simp [*]; done)), H', ⟨Nat.le_refl _⟩, ⟨bq HB.out⟩⟩
 case round =>
  clear H'
  obtain ⟨x3_1, rfl, HA, HK1, HB⟩ := hrel
  cases gk with
  | zero => exact absurd HA.out (by simp [steepleref11_Fill.l0])
  | succ k1 =>
   have H := HA.out
   clear HA
   simp only [steepleref11_Fill.l0] at H
   by_cases c2 : (Int.tmod (wrap64 ((wrap64 ((wrap64 ((a0.size : Int) + 1)) + x3_1)) + 8)) 64) = 0
   ·rw [if_pos c2] at H
    have c2b0 : ((Int.tmod (wrap64 ((wrap64 ((wrap64 ((a0.size : Int) + 1)) + x3_1)) + 8)) 64) == 0) = true := beq_iff_eq.mpr c2
    have c2b1 : ((Int.tmod (wrap64 ((wrap64 ((wrap64 ((a0.size : Int) + 1)) + x3_1)) + 8)) 64) != 0) = false := bne_eq_false_iff_eq.mpr c2
    clear c2
    by_cases c3 : a0.size + 1 ≤ 9223372036854775807
    ·rw [if_pos c3] at H
     have c3b0 := eq_true c3
     have c3b1 : decide (a0.size + 1 ≤ 9223372036854775807) = true := decide_eq_true c3
     try have c3b2 : (9223372036854775807 < a0.size + 1) = False := eq_false (Nat.not_lt.2 c3)
     have c2b8 : wrap64 ((a0.size : Int) + 1) = (a0.size : Int) + 1 := by unfold wrap64; omega
     have c2b9 := c2b0
     have c2b7 := c2b1
     rw [c2b8] at c2b9 c2b7
     clear c2b8
     replace H := Option.bind_eq_some_iff.mp H
     obtain ⟨t279, A40, H⟩ := H
     replace H : (if (a0 ++ (⟨#[128]⟩ : ByteArray)).size + t279.size ≤ 9223372036854775807 then (steepleref11_Fill.l1 k1 ((a0 ++ (⟨#[128]⟩ : ByteArray)) ++ t279) (wrap64 (Int.tdiv (wrap64 ((((a0 ++ (⟨#[128]⟩ : ByteArray)) ++ t279).size : Int) + 8)) 64)) ([] : List Int) 0) else (none)) = some r := H
     have A4 := Aside0.mk A40
     clear A40
     by_cases c5 : (a0 ++ (⟨#[128]⟩ : ByteArray)).size + t279.size ≤ 9223372036854775807
     ·rw [if_pos c5] at H
      have c5b0 := eq_true c5
      have c5b1 : decide ((a0 ++ (⟨#[128]⟩ : ByteArray)).size + t279.size ≤ 9223372036854775807) = true := decide_eq_true c5
      try have c5b2 : (9223372036854775807 < (a0 ++ (⟨#[128]⟩ : ByteArray)).size + t279.size) = False := eq_false (Nat.not_lt.2 c5)
      try have c5b3 : (9223372036854775807 < a0.size + (⟨#[128]⟩ : ByteArray).size + t279.size) = False := by have h_ := c5; simp only [ByteArray.size_append] at h_; exact eq_false (Nat.not_lt.2 h_)
      have c5b4 : a0.size + 1 + t279.size ≤ 9223372036854775807 := by have h := c5; rw [ByteArray.size_append] at h; exact h
      have c5b5 := eq_true c5b4
      have c5b6 : decide (a0.size + 1 + t279.size ≤ 9223372036854775807) = true := decide_eq_true c5b4
      have c5b7 : (9223372036854775807 < a0.size + 1 + t279.size) = False := eq_false (Nat.not_lt.2 c5b4)
      have H' := Aside0.mk H
      clear H
      go_wp2_with (first | ((with_reducible refine gate_callee (f := 41) rfl ?_); refine goesL_ (some 22) rfl rfl Try.func41 (by kernel_rfl) rfl #[.int .i64 x3_1] rfl (by (try simp only [List.map_toArray, List.map_cons, List.map_nil]); first | done | rfl | (simp only [List.length_drop, List.length_take]; rfl)) ?_; (with_reducible refine (steepleref11_zeros.calls k1 x3_1 t279 _ A4.out).mono ?_); rintro e w6 ⟨rfl, hb⟩; refine ⟨_, rfl, ?_⟩; replace HB := bh HB hb; (try clear hb); (try clear hb2); (try clear hk); (try clear hi)))
      go_loopg [6, 7] k1 (fun kq v6 v7 w' => ∃ (x6_2 : List Int) (x7_2 : Int), v7 = .int .i64 x7_2 ∧ Aside0 (steepleref11_Fill.l1 kq ((a0 ++ (⟨#[128]⟩ : ByteArray)) ++ t279) (wrap64 (Int.tdiv (wrap64 ((((a0 ++ (⟨#[128]⟩ : ByteArray)) ++ t279).size : Int) + 8)) 64)) x6_2 x7_2 = some r) ∧ Aside0 (kq ≤ k1) ∧ Aside0 (Kd.R (Kd.int .u8) 5 w' w.heap.size (fun _ => True) v6 x6_2) ∧ Aside0 (Below w.heap.size w w'))
      case atStart => exact ⟨(([] : List Int)), (0), (by first | rfl | (simp; done) | (simp; rfl) | (simp [*]; done)), H', ⟨Nat.le_refl _⟩, ⟨by first | exact Kd.R_nil _ _ _ _ _ | exact Kd.N_nil _ _ _ _ _ | exact Kd.V_nil _ _ _ _ _ | exact Kd.Q_nil _ _ _ _ _ | exact Kd.S_nil _ _ _ _ _⟩, ⟨bq HB.out⟩⟩
      case round =>
       clear H'
       try clear c2
       try clear c2b0
       try clear c2b1
       try clear p2
       try clear c3
       try clear c3b0
       try clear c3b1
       try clear c3b2
       try clear c4
       try clear c5
       try clear c5b0
       try clear c5b1
       try clear c5b2
       try clear p6
       obtain ⟨x6_2, x7_2, rfl, HA, HK2, HO_6, HB⟩ := hrel
       cases gk with
       | zero => exact absurd HA.out (by simp [steepleref11_Fill.l1])
       | succ k2 =>
        have H := HA.out
        clear HA
        simp only [steepleref11_Fill.l1] at H
        by_cases c7 : x7_2 < 8
        ·rw [if_pos c7] at H
         have c7b0 : decide (x7_2 < 8) = true := decide_eq_true c7
         clear c7
         by_cases c8 : x6_2.length < 140737488355328
         ·rw [if_pos c8] at H
          have LMc8 := Aside0.mk c8
          clear c8
          obtain ⟨y280, hy280⟩ : ∃ y_ : List Int, y_ = (x6_2 ++ [0]) := ⟨_, rfl⟩
          replace H : (steepleref11_Fill.l1 k2 ((a0 ++ (⟨#[128]⟩ : ByteArray)) ++ t279) (wrap64 (Int.tdiv (wrap64 ((((a0 ++ (⟨#[128]⟩ : ByteArray)) ++ t279).size : Int) + 8)) 64)) y280 (wrap64 (x7_2 + 1))) = some r := by first | (rw [hy280]; with_reducible exact H) | (have H2_ := (Option.bind_some _ _).symm.trans H; rw [hy280]; with_reducible exact H2_) | (have H2_ := (Option.bind_some _ _).symm.trans H; with_reducible exact H2_) | with_reducible exact H | (rw [hy280]; exact H) | exact H
          have Ny280 := Aside0.mk hy280
          clear hy280
          have H' := Aside0.mk H
          clear H
          go_wp2_with (first | ((with_reducible refine gate_builtin (b := .append) (xs := #[.tmp 32, .tmp 33]) rfl ?_); at_builtin; refine Kd.R_append (Kd.int .u8) (w0 := w) w.heap.size rfl (.tmp 32) (.tmp 33) 97 5 (.int .u8 0) 1 rfl Try.underlying97 info5 rfl (by decide) (by omega) u6 x6_2 0 [.int .u8 0] (fun _ => True) (fun _ => False) rfl rfl ?aP (fun _ hk => hk.elim) ?aF ?aO ?aB ?aS ?aL ?_; (case aP => exact rfl); (case aB => exact (bq HB.out)); (case aF => exact (fun _ _ => trivial)); (case aO => exact (kr HO_6.out)); (case aS => exact (below_size (bq HB.out))); (case aL => have := LMc8.out; omega); intro v281 w9 ho hb hg hat; rw [← Ny280.out] at ho; have HO282 := Aside0.mk ho; replace HB := Aside0.mk hb; clear HO_6; clear ho hb hg hat))
          go_roundg k2
          case measure => have := HK1.out; have := HK2.out; omega
          case rel => exact ⟨(y280), (wrap64 (x7_2 + 1)), (by first | rfl | (simp; done) | (simp; rfl) | (simp [*]; done)), H', ⟨by have := HK1.out; have := HK2.out; omega⟩, ⟨kr HO282.out⟩, ⟨bq HB.out⟩⟩
         ·rw [if_neg c8] at H
          exact absurd H (by simp)
        ·rw [if_neg c7] at H
         have c7b0 : decide (x7_2 < 8) = false := decide_eq_false c7
         clear c7
         have H' := Aside0.mk H
         clear H
         go_wp2
         go_loopg [5, 8] k2 (fun kq v5 v8 w' => ∃ (x5_3 : Int) (x6_3 : List Int) (x8_3 : Int), v5 = .int .i64 x5_3 ∧ v8 = .int .i64 x8_3 ∧ Aside0 (steepleref11_Fill.l2 kq ((a0 ++ (⟨#[128]⟩ : ByteArray)) ++ t279) x5_3 x6_3 x8_3 = some r) ∧ Aside0 (kq ≤ k2) ∧ Aside0 (Kd.R (Kd.int .u8) 5 w' w.heap.size (fun _ => True) u6 x6_3) ∧ Aside0 (Below w.heap.size w w'))
         case atStart => exact ⟨((wrap64 (Int.tdiv (wrap64 ((((a0 ++ (⟨#[128]⟩ : ByteArray)) ++ t279).size : Int) + 8)) 64))), (x6_2), (7), (by first | rfl | (simp; done) | (simp; rfl) | (simp [*]; done)), (by first | rfl | (simp; done) | (simp; rfl) | (simp [*]; done)), H', ⟨Nat.le_refl _⟩, ⟨kr HO_6.out⟩, ⟨bq HB.out⟩⟩
         case round =>
          clear H'
          try clear c2
          try clear c2b0
          try clear c2b1
          try clear p2
          try clear c3
          try clear c3b0
          try clear c3b1
          try clear c3b2
          try clear c4
          try clear c5
          try clear c5b0
          try clear c5b1
          try clear c5b2
          try clear p6
          try clear c7
          try clear c7b0
          try clear c8
          try clear p2
          try clear p6
          obtain ⟨x5_3, x6_3, x8_3, rfl, rfl, HA, HK3, HO_6, HB⟩ := hrel
          cases gk with
          | zero => exact absurd HA.out (by simp [steepleref11_Fill.l2])
          | succ k3 =>
           have H := HA.out
           clear HA
           simp only [steepleref11_Fill.l2] at H
           by_cases c10 : x8_3 ≥ 0
           ·rw [if_pos c10] at H
            have c10b0 : decide (0 ≤ x8_3) = true := decide_eq_true c10
            clear c10
            by_cases c11 : 0 ≤ x8_3
            ·rw [if_pos c11] at H
             have c11b0 : decide (0 ≤ x8_3) = true := decide_eq_true c11
             clear c11
             by_cases c12 : x8_3 < (x6_3.length : Int)
             ·rw [if_pos c12] at H
              have c12b0 : decide (x8_3 < (x6_3.length : Int)) = true := decide_eq_true c12
              clear c12
              obtain ⟨y283, hy283⟩ : ∃ y_ : List Int, y_ = (x6_3.set (x8_3 : Int).toNat ((Int.tmod x5_3 256) % 256)) := ⟨_, rfl⟩
              replace H : (steepleref11_Fill.l2 k3 ((a0 ++ (⟨#[128]⟩ : ByteArray)) ++ t279) (wrap64 (Int.tdiv x5_3 256)) y283 (wrap64 (x8_3 - 1))) = some r := by first | (rw [hy283]; with_reducible exact H) | (have H2_ := (Option.bind_some _ _).symm.trans H; rw [hy283]; with_reducible exact H2_) | (have H2_ := (Option.bind_some _ _).symm.trans H; with_reducible exact H2_) | with_reducible exact H | (rw [hy283]; exact H) | exact H
              have Ny283 := Aside0.mk hy283
              clear hy283
              have H' := Aside0.mk H
              clear H
              have p13 : 0 ≤ (x8_3 : Int) := of_decide_eq_true (by first | (with_reducible assumption) | assumption)
              have q13 : (x8_3 : Int) < ((x6_3.length : Int) : Int) := of_decide_eq_true (by first | (with_reducible assumption) | assumption)
              obtain ⟨go13, co13, eo13, gb13, gl13, cl13, HG13⟩ := Kd.R_form HO_6.out (by omega)
              (first | cases eo13 | (injection eo13 with ea_ en_ ec_; (first | subst ea_ | (injection ea_ with ea_; subst ea_)); subst ec_; clear en_))
              have GB13 := Aside0.mk gb13
              have GG13 := Aside0.mk HG13
              clear gb13 gl13 HG13
              obtain ⟨hx13_0, hf13_0⟩ := Kd.R_celln 0 HO_6.out (x8_3 : Int) p13 q13
              replace p13 := eq_true p13
              replace q13 := eq_true q13
              have HP14 := Kd.R_putg HO_6.out (x8_3 : Int) ((Int.tmod x5_3 256) % 256)
              go_wp2_with (first | ((with_reducible refine gate_store (t := 5) (p := 44) rfl ?_); refine store_event (t := 5) (p := 44) (v := ?vo_w15) (w1 := (wr.setCell ⟨go13, (x8_3 : Int).toNat, none⟩ (.int .u8 ((Int.tmod x5_3 256) % 256)))) ?hg ?ho ?hn ?hr ?_; (case ho => rfl); (case hg => rfl); (case hn => rfl); (case hr => first | (go_simp; done) | (go_simp; rfl)); intro w15 hw; have hg : wr.grownBy w15 (some go13) := (by rw [hw]; exact HP14.2); have hp_ : Kd.R (Kd.int .u8) 5 w15 w.heap.size (fun _ => True) (.slice (some ⟨go13, 0, none⟩) x6_3.length co13) y283 := (by rw [hw, Ny283.out]; exact HP14.1); clear HP14; replace HO_6 := Aside0.mk hp_; replace HB := Aside0.mk ((by rw [hw]; exact below_set (HB.out) GB13.out : Below w.heap.size w w15)); clear hg hw hp_))
              go_roundg k3
              case measure => have := HK1.out; have := HK2.out; have := HK3.out; omega
              case rel => exact ⟨(wrap64 (Int.tdiv x5_3 256)), (y283), (wrap64 (x8_3 - 1)), (by first | rfl | (simp; done) | (simp; rfl) | (simp [*]; done)), (by first | rfl | (simp; done) | (simp; rfl) | (simp [*]; done)), H', ⟨by have := HK1.out; have := HK2.out; have := HK3.out; omega⟩, ⟨kr HO_6.out⟩, ⟨bq HB.out⟩⟩
             ·rw [if_neg c12] at H
              exact absurd H (by simp)
            ·rw [if_neg c11] at H
             exact absurd H (by simp)
           ·rw [if_neg c10] at H
            have c10b0 : decide (0 ≤ x8_3) = false := decide_eq_false c10
            clear c10
            by_cases c16 : ((a0 ++ (⟨#[128]⟩ : ByteArray)) ++ t279).size + (strOfNums x6_3).size ≤ 9223372036854775807
            ·rw [if_pos c16] at H
             have c16b0 := eq_true c16
             have c16b1 : decide (((a0 ++ (⟨#[128]⟩ : ByteArray)) ++ t279).size + (strOfNums x6_3).size ≤ 9223372036854775807) = true := decide_eq_true c16
             try have c16b2 : (9223372036854775807 < ((a0 ++ (⟨#[128]⟩ : ByteArray)) ++ t279).size + (strOfNums x6_3).size) = False := eq_false (Nat.not_lt.2 c16)
             try have c16b3 : (9223372036854775807 < a0.size + (⟨#[128]⟩ : ByteArray).size + t279.size + (strOfNums x6_3).size) = False := by have h_ := c16; simp only [ByteArray.size_append] at h_; exact eq_false (Nat.not_lt.2 h_)
             obtain rfl := Option.some.inj H
             have hcv17 := own_string (P := Try.prog) Try.underlying97 Try.underlying5 Try.underlying9 (Kd.own_of_R HO_6.out)
             go_wp2
             go_ret
             exact ⟨by first | rfl | (simp [errW_none, errW_some] <;> rfl) | (simp [*, errW_none, errW_some] <;> rfl), bq HB.out⟩
            ·rw [if_neg c16] at H
             exact absurd H (by simp)
     ·rw [if_neg c5] at H
      exact absurd H (by simp)
    ·rw [if_neg c3] at H
     exact absurd H (by simp)
   ·rw [if_neg c2] at H
    have c2b0 : ((Int.tmod (wrap64 ((wrap64 ((wrap64 ((a0.size : Int) + 1)) + x3_1)) + 8)) 64) == 0) = false := beq_eq_false_iff_ne.mpr c2
    have c2b1 : ((Int.tmod (wrap64 ((wrap64 ((wrap64 ((a0.size : Int) + 1)) + x3_1)) + 8)) 64) != 0) = true := bne_iff_ne.mpr c2
    have H' := Aside0.mk H
    clear H
    go_wp2
    go_roundg k1
    case measure => have := HK1.out; omega
    case rel => exact ⟨(wrap64 (x3_1 + 1)), (by first | rfl | (simp; done) | (simp; rfl) | (simp [*]; done)), H', ⟨by have := HK1.out; omega⟩, ⟨bq HB.out⟩⟩

end Go.Proofs.Ytmibjgjgfombaaa.P
