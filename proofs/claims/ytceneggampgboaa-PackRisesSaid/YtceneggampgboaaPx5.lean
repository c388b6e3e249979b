/- Written by a program of this session: functions that the law reaches, as Lean functions, and that the code comes to their answers. Conditions: those that each theorem names. -/
import Derived.Test.YtceneggampgboaaPx0
import Derived.Test.YtceneggampgboaaPx1
import Derived.Test.YtceneggampgboaaPx3
import Derived.Test.YtceneggampgboaaPx4
import Derived.Test.YtceneggampgboaaHClone
namespace Go.Proofs.Ytceneggampgboaa.P
open Go.RowKit Go.Proofs.YtceneggampgboaaX Go.Proofs.YtceneggampgboaaW.PrintWords Go.Proofs.YtceneggampgboaaW.PrintLast Go.Proofs.YtceneggampgboaaW.PrintMore
attribute [local go_sem] max2_int min2_int max_two min_two max_three min_three max_four min_four   -- for this text's walks alone
set_option linter.unusedVariables false
set_option linter.unusedSimpArgs false

attribute [local go_sem high] eqA25
/-! ### pack_Rise: function 17 -/
def pack_Rise.j0 : Nat → Bool → Int → Int → List Int → Option (Int × Int × List Int × Int)
 | 0, _, _, _, _ => none
 | k + 1, x12, x130000, x130001, x130002 => if x12 = true then (some (0, 0, ([] : List Int), 6)) else ((slices_Clone_uint64_uint64.f x130002).bind fun t131 => ((pack_vec.f (wrap64 (x130000 + 1)) (wrap64 (Int.tdiv x130001 2)) t131).bind fun bt134 => (some (bt134.1, bt134.2.1, bt134.2.2, 0))))
def pack_Rise.f (k : Nat) (a0_0 : Int) (a0_1 : Int) (l0_2 : List Int) : Option (Int × Int × List Int × Int) := if a0_0 = 6 then (pack_Rise.j0 k true a0_0 a0_1 l0_2) else (pack_Rise.j0 k ((Int.tmod a0_1 2) == 1) a0_0 a0_1 l0_2)
theorem pack_Rise.mono_l : ∀ k, (∀ y0 y1 y2 y3, LeO (pack_Rise.j0 k y0 y1 y2 y3) (pack_Rise.j0 (k + 1) y0 y1 y2 y3))
 | 0 => fun _ _ _ _ r h => by simp [pack_Rise.j0] at h
 | k + 1 => by
  have ih0 := pack_Rise.mono_l k
  ·intro y0 y1 y2 y3
   unfold pack_Rise.j0
   repeat' first
   | (with_reducible exact ih0 _ _ _ _)
   | (with_reducible exact LeO.refl _)
   | (with_reducible exact LeO.none _)
   | (with_reducible refine LeO.ite ?_ ?_)
   | (with_reducible refine LeO.bind ?_ (fun _ => ?_))
   | exact ih0 _ _ _ _
   | exact LeO.none _
   | refine LeO.ite ?_ ?_
   | refine LeO.bind ?_ (fun _ => ?_)
theorem pack_Rise.mono : ∀ a0 a1 a2 k, LeO (pack_Rise.f k a0 a1 a2) (pack_Rise.f (k + 1) a0 a1 a2) := by
 intro a0 a1 a2 k
 have ih0 := pack_Rise.mono_l k
 unfold pack_Rise.f
 repeat' first
   | (with_reducible exact ih0 _ _ _ _)
   | (with_reducible exact LeO.refl _)
   | (with_reducible exact LeO.none _)
   | (with_reducible refine LeO.ite ?_ ?_)
   | (with_reducible refine LeO.bind ?_ (fun _ => ?_))
   | exact ih0 _ _ _ _
   | exact LeO.none _
   | refine LeO.ite ?_ ?_
   | refine LeO.bind ?_ (fun _ => ?_)
def pack_Rise.T3 : Bool × List (List Nat × List Nat) := (true, [([], []), ([0], [0]), ([1], [1]), ([], []), ([3], [3]), ([4], [4]), ([], []), ([6], [6]), ([7], [7]), ([2, 5, 8, 8], [2, 5, 8]), ([9, 9, 0, 1, 2, 3, 4, 5, 6, 7, 8, 9], [9]), ([10, 0, 1, 2, 3, 4, 5, 6, 7, 8, 9, 10], [])])
def pack_Rise.B3 : List Nat := [0, 1, 3, 0, 8, 24, 0, 64, 192, 511, 1023, 2047]
theorem pack_Rise.tab3 : rtab .any (opsOf Try.f17 3) = pack_Rise.T3 := by kernel_rfl
theorem pack_Rise.bits3 : waitsOk pack_Rise.T3.2 pack_Rise.B3 = true := by kernel_rfl
set_option maxHeartbeats 8000000 in
set_option maxRecDepth 100000 in
theorem pack_Rise.calls (k : Nat) (a0_0 : Int) (a0_1 : Int) (A0_2 : Option Addr) (c0_2 : Nat) (l0_2 : List Int) (r1 : Int) (r2 : Int) (r3 : List Int) (r4 : Int) (w : World) (hr0_2 : Kd.C (Kd.int .u64) w A0_2 l0_2.length l0_2) (hc0_2 : l0_2.length ≤ c0_2) (h : pack_Rise.f k a0_0 a0_1 l0_2 = some (r1, r2, r3, r4)) :
  Calls Try.prog 17 #[.agg #[.int .i64 a0_0, .int .i64 a0_1, .slice A0_2 l0_2.length c0_2]] w fun e w' => ∃ v2_ : Value, e = .returned (.tuple #[.agg #[.int .i64 r1, .int .i64 r2, v2_], .int .i64 r4]) ∧ Kd.R (Kd.int .u64) 23 w' w.heap.size (fun _ => True) v2_ r3 ∧ Below w.heap.size w w' := by
 have hu31 := Try.underlying31
 have HR0_2 := Aside0.mk hr0_2
 have HC0_2 := Aside0.mk hc0_2
 clear hr0_2 hc0_2
 have HB := Aside0.mk (Below.refl w.heap.size w)
 have H : (if a0_0 = 6 then (pack_Rise.j0 k true a0_0 a0_1 l0_2) else (pack_Rise.j0 k ((Int.tmod a0_1 2) == 1) a0_0 a0_1 l0_2)) = some (r1, r2, r3, r4) := h
 clear h
 have HC2 := Aside0.mk H
 clear H
 go_enter Try.func17, Try.ntmps17
 go_upto_region 1 with (first | ((with_reducible refine gate_dst (N := 1) rfl ?_); refine box_event ?hg (N := 1) ?hd (cs := #[.int .i64 a0_0, .int .i64 a0_1, .slice A0_2 l0_2.length c0_2]) (t := 31) ?hr ?_; (case hd => rfl); (case hg => rfl); (case hr => first | (go_simp; done) | (go_simp; rfl)); intro gb129 hg w3 hbox hb; have BK129 := Aside0.mk hbox; have GW129 := ge hg HB; have GE129 := ge hg HB; replace HB := bh HB hb; clear hb hbox hg) | ((with_reducible refine gate_dst (N := 2) rfl ?_); refine box_event ?hg (N := 2) ?hd (cs := #[.int .i64 0, .int .i64 0, .slice none 0 0]) (t := 31) ?hr ?_; (case hd => rfl); (case hg => rfl); (case hr => first | (go_simp; done) | (go_simp; rfl)); intro gb130 hg w4 hbox hb; have BK130 := Aside0.mk hbox; have GW130 := ge hg HB; have GE130 := ge hg HB; have NB129_130 := nl hg BK129; have NB130_129 := ng hg BK129; replace BK129 := bb BK129 hb; replace HB := bh HB hb; clear hb hbox hg))
 (try simp only [Act.put, List.setIfInBounds_toArray, List.set_cons_zero, List.set_cons_succ])
 go_cut [12] (fun v12 wc => ∃ (kq : Nat) (x12_1 : Bool), v12 = .bool x12_1 ∧ Aside0 (pack_Rise.j0 kq x12_1 a0_0 a0_1 l0_2 = some (r1, r2, r3, r4)) ∧ Aside0 (kq ≤ k) ∧ Aside0 (wc.heap[gb129]? = some (.cells #[.int .i64 a0_0, .int .i64 a0_1, (.slice A0_2 l0_2.length c0_2)] 31 (0, 0))) ∧ Aside0 (wc.heap[gb130]? = some (.cells #[.int .i64 0, .int .i64 0, (.slice none 0 0)] 31 (0, 0))) ∧ Aside0 (Below w.heap.size w wc))
 case first =>
  have H := HC2.out
  clear HC2
  by_cases c5 : a0_0 = 6
  ·rw [if_pos c5] at H
   have c5b0 : (a0_0 == 6) = true := beq_iff_eq.mpr c5
   have c5b1 : (a0_0 != 6) = false := bne_eq_false_iff_eq.mpr c5
   clear c5
   (first | rw [c5b0] | (simp only [i64_w, i32_w]; rw [c5b0]) | skip)
   have H' := Aside0.mk H
   clear H
   have hnb6 := NB129_130.out
   have hnc6 := NB130_129.out
   obtain ⟨hcz7_0, hcz7_1, hcz7_2⟩ := zc3 BK129
   obtain ⟨hfz7_0, hfz7_1, hfz7_2⟩ := zf3 BK129
   go_wp2
   go_meet
   case rel => exact ⟨_, (true), (by first | rfl | (simp; done) | (simp [*]; done)), H', ⟨by first | omega | exact Nat.le_refl _⟩, ⟨bk BK129.out⟩, ⟨bk BK130.out⟩, ⟨bq HB.out⟩⟩
  ·rw [if_neg c5] at H
   have c5b0 : (a0_0 == 6) = false := beq_eq_false_iff_ne.mpr c5
   have c5b1 : (a0_0 != 6) = true := bne_iff_ne.mpr c5
   (first | rw [c5b0] | (simp only [i64_w, i32_w]; rw [c5b0]) | skip)
   have H' := Aside0.mk H
   clear H
   have hnb8 := NB129_130.out
   have hnc8 := NB130_129.out
   obtain ⟨hcz9_0, hcz9_1, hcz9_2⟩ := zc3 BK129
   obtain ⟨hfz9_0, hfz9_1, hfz9_2⟩ := zf3 BK129
   go_wp2
   go_meet
   case rel => exact ⟨_, (((Int.tmod a0_1 2) == 1)), (by first | rfl | (simp; done) | (simp [*]; done)), H', ⟨by first | omega | exact Nat.le_refl _⟩, ⟨bk BK129.out⟩, ⟨bk BK130.out⟩, ⟨bq HB.out⟩⟩
 case rest =>
  clear HC2
  try clear c1
  try clear p2
  try clear c5
  try clear c5b0
  try clear c5b1
  try clear c6
  try clear c8
  try clear hcz7_0
  try clear hcz7_1
  try clear hcz7_2
  try clear hcz9_0
  try clear hcz9_1
  try clear hcz9_2
  try clear hfz7_0
  try clear hfz7_1
  try clear hfz7_2
  try clear hfz9_0
  try clear hfz9_1
  try clear hfz9_2
  obtain ⟨kq, x12_1, rfl, HA, HJ1, BK129, BK130, HB⟩ := hcut
  cases kq with
  | zero => exact absurd HA.out (by simp [pack_Rise.j0])
  | succ kj1 =>
   have H := HA.out
   clear HA
   simp only [pack_Rise.j0] at H
   by_cases c10 : x12_1 = true
   ·subst c10
    have H1 : (some (0, 0, ([] : List Int), 6)) = some (r1, r2, r3, r4) := by rw [if_pos rfl] at H; exact H
    clear H
    have H := H1
    clear H1
    simp only [Option.some.injEq, Prod.mk.injEq] at H
    obtain ⟨rfl, rfl, rfl, rfl⟩ := H
    have hnb11 := NB130_129.out
    have hnc11 := NB129_130.out
    obtain ⟨hcz12_0, hcz12_1, hcz12_2⟩ := zc3 BK130
    obtain ⟨hfz12_0, hfz12_1, hfz12_2⟩ := zf3 BK130
    go_wp2
    refine bodyPost_ret (results_ct rfl _ _ gb130 31 #[.int .i64 0, .int .i64 0, .slice none 0 0] (0, 0) _ rfl (by (with_reducible repeat refine bl ?_); refine blk_put (cs := #[.int .i64 0, .int .i64 0, .slice none 0 0]) ?_ 2 _ rfl; (with_reducible repeat refine bl ?_); refine blk_put (cs := #[.int .i64 0, .int .i64 0, .slice none 0 0]) ?_ 1 _ rfl; (with_reducible repeat refine bl ?_); refine blk_put (cs := #[.int .i64 0, .int .i64 0, .slice none 0 0]) ?_ 0 _ rfl; (with_reducible repeat refine bl ?_); exact BK130.out) Try.underlying31 rfl (by kernel_rfl)) rfl ?_
    exact ⟨_, by first | rfl | (simp [errW_none, errW_some] <;> rfl) | (simp [*, errW_none, errW_some] <;> rfl), by first | exact Kd.R_nil _ _ _ _ _ | exact Kd.N_nil _ _ _ _ _ | exact Kd.V_nil _ _ _ _ _ | exact Kd.Q_nil _ _ _ _ _ | exact Kd.S_nil _ _ _ _ _, bq HB.out⟩
   ·replace c10 := Bool.eq_false_iff.mpr c10
    subst c10
    have H1 : ((slices_Clone_uint64_uint64.f l0_2).bind fun t131 => ((pack_vec.f (wrap64 (a0_0 + 1)) (wrap64 (Int.tdiv a0_1 2)) t131).bind fun bt134 => (some (bt134.1, bt134.2.1, bt134.2.2, 0)))) = some (r1, r2, r3, r4) := by rw [if_neg (show ¬ (false = true) by decide)] at H; exact H
    clear H
    have H := H1
    clear H1
    replace H := Option.bind_eq_some_iff.mp H
    obtain ⟨t131, A130, H⟩ := H
    replace H : ((pack_vec.f (wrap64 (a0_0 + 1)) (wrap64 (Int.tdiv a0_1 2)) t131).bind fun bt134 => (some (bt134.1, bt134.2.1, bt134.2.2, 0))) = some (r1, r2, r3, r4) := H
    have A13 := Aside0.mk A130
    clear A130
    replace H := Option.bind_eq_some_iff.mp H
    obtain ⟨⟨t134, t135, t136⟩, A140, H⟩ := H
    replace H : (some (t134, t135, t136, 0)) = some (r1, r2, r3, r4) := H
    have A14 := Aside0.mk A140
    clear A140
    simp only [Option.some.injEq, Prod.mk.injEq] at H
    obtain ⟨rfl, rfl, rfl, rfl⟩ := H
    try go_wp2
    replace BK129 := Aside0.mk (blk_drew BK129.out)
    replace BK130 := Aside0.mk (blk_drew BK130.out)
    replace HB := Aside0.mk (below_drew1 HB.out)
    refine start_ (n := 12) (S := fun w' => w'.cell? ⟨gb129, 0, none⟩ = some (.int .i64 a0_0) ∧ w'.cell? ⟨gb129, 1, none⟩ = some (.int .i64 a0_1) ∧ w'.cell? ⟨gb129, 2, none⟩ = some (.slice A0_2 l0_2.length c0_2)) (ds := []) #[false, false, false, false, false, false, false, false, false, false, false, false] (by kernel_rfl) rfl rfl ⟨(blk_cell BK129.out 0).trans rfl, (blk_cell BK129.out 1).trans rfl, (blk_cell BK129.out 2).trans rfl⟩ (fun hHeld => ?_); refine with_tabW pack_Rise.tab3 pack_Rise.bits3 (fun HT_ HW_ => ?_)
    generalize wc.drew = w15 at BK129 BK130 HB hHeld ⊢
    refine pure_ (i := 0) (N := some 14) (v := ?_) (a' := ?_) #[true, false, false, false, false, false, false, false, false, false, false, false] rfl rfl (any_of HT_.out (by kernel_rfl)) (fun _ _ _ h => h) (Or.inl ⟨by rfl, ?_⟩) ?_ ?_
    rotate_left
    ·intro w'
     go_simp
     with_reducible rfl
    rotate_left
    ·simp only [Act.put, List.setIfInBounds_toArray, List.set_cons_zero, List.set_cons_succ, i64_w, i32_w]
     rfl
    refine pure_ (i := 3) (N := some 17) (v := ?_) (a' := ?_) #[true, false, false, true, false, false, false, false, false, false, false, false] rfl rfl (any_of HT_.out (by kernel_rfl)) (fun _ _ _ h => h) (Or.inl ⟨by rfl, ?_⟩) ?_ ?_
    rotate_left
    ·intro w'
     go_simp
     with_reducible rfl
    rotate_left
    ·simp only [Act.put, List.setIfInBounds_toArray, List.set_cons_zero, List.set_cons_succ, i64_w, i32_w]
     rfl
    refine pure_ (i := 6) (N := some 20) (v := ?_) (a' := ?_) #[true, false, false, true, false, false, true, false, false, false, false, false] rfl rfl (any_of HT_.out (by kernel_rfl)) (fun _ _ _ h => h) (Or.inl ⟨by rfl, ?_⟩) ?_ ?_
    rotate_left
    ·intro w'
     go_simp
     with_reducible rfl
    rotate_left
    ·simp only [Act.put, List.setIfInBounds_toArray, List.set_cons_zero, List.set_cons_succ, i64_w, i32_w]
     rfl
    refine take_ (i := 1) (N := some 15) (v := ?_) (a' := ?_) #[true, true, false, true, false, false, true, false, false, false, false, false] rfl rfl (take_ofW HT_.out HW_.out (by kernel_rfl)) (fun _ _ _ h => h) (Or.inl ⟨by rfl, ?_⟩) hHeld ?_ ?_
    rotate_left
    ·rintro w' ⟨s0, s1, s2⟩
     go_simp
     with_reducible rfl
    rotate_left
    ·simp only [Act.put, List.setIfInBounds_toArray, List.set_cons_zero, List.set_cons_succ, i64_w, i32_w]
     rfl
    refine pure_ (i := 2) (N := some 16) (v := ?_) (a' := ?_) #[true, true, true, true, false, false, true, false, false, false, false, false] rfl rfl (any_of HT_.out (by kernel_rfl)) (fun _ _ _ h => h) (Or.inl ⟨by rfl, ?_⟩) ?_ ?_
    rotate_left
    ·intro w'
     go_simp
     with_reducible rfl
    rotate_left
    ·simp only [Act.put, List.setIfInBounds_toArray, List.set_cons_zero, List.set_cons_succ, i64_w, i32_w]
     rfl
    refine take_ (i := 4) (N := some 18) (v := ?_) (a' := ?_) #[true, true, true, true, true, false, true, false, false, false, false, false] rfl rfl (take_ofW HT_.out HW_.out (by kernel_rfl)) (fun _ _ _ h => h) (Or.inl ⟨by rfl, ?_⟩) hHeld ?_ ?_
    rotate_left
    ·rintro w' ⟨s0, s1, s2⟩
     go_simp
     with_reducible rfl
    rotate_left
    ·simp only [Act.put, List.setIfInBounds_toArray, List.set_cons_zero, List.set_cons_succ, i64_w, i32_w]
     rfl
    refine pure_ (i := 5) (N := some 19) (v := ?_) (a' := ?_) #[true, true, true, true, true, true, true, false, false, false, false, false] rfl rfl (any_of HT_.out (by kernel_rfl)) (fun _ _ _ h => h) (Or.inl ⟨by rfl, ?_⟩) ?_ ?_
    rotate_left
    ·intro w'
     go_simp
     with_reducible rfl
    rotate_left
    ·simp only [Act.put, List.setIfInBounds_toArray, List.set_cons_zero, List.set_cons_succ, i64_w, i32_w]
     rfl
    refine take_ (i := 7) (N := some 21) (v := ?_) (a' := ?_) #[true, true, true, true, true, true, true, true, false, false, false, false] rfl rfl (take_ofW HT_.out HW_.out (by kernel_rfl)) (fun _ _ _ h => h) (Or.inl ⟨by rfl, ?_⟩) hHeld ?_ ?_
    rotate_left
    ·rintro w' ⟨s0, s1, s2⟩
     go_simp
     with_reducible rfl
    rotate_left
    ·simp only [Act.put, List.setIfInBounds_toArray, List.set_cons_zero, List.set_cons_succ, i64_w, i32_w]
     rfl
    refine one_ (i := 8) (N := some 22) #[true, true, true, true, true, true, true, true, true, false, false, false] rfl rfl (one_of HT_.out (by kernel_rfl)) (by decide) (fun K hK => ?_)
    refine goes_ Try.func43 (by kernel_rfl) rfl #[.slice A0_2 l0_2.length c0_2] (by rfl) rfl rfl (by (try simp only [List.map_toArray, List.map_cons, List.map_nil]); first | done | rfl | (simp only [List.length_drop, List.length_take]; rfl)) ?_
    with_reducible refine (slices_Clone_uint64_uint64.calls _ _ l0_2 t131 _ ?side1 ?side2 A13.out).mono ?_
    (case side1 => repeat (first | exact (Kd.C_below HR0_2.out HB.out) | (with_reducible refine Kd.C_alloc ?_ _) | (with_reducible refine Kd.C_drewN ?_ _) | (with_reducible refine Kd.C_drew ?_)))
    (case side2 => exact HC0_2.out)
    rintro e w16 ⟨v132, rfl, ho0, hb⟩
    refine ⟨_, rfl, ?_⟩
    have HO133 := kw ho0 HB
    replace BK129 := bb BK129 hb
    replace BK130 := bb BK130 hb
    replace HB := bh HB hb
    (try clear hb)
    (try clear hb2)
    (try clear hk)
    (try clear hi)
    (try clear ho0)
    obtain ⟨Ao17, co17, eo17⟩ := Kd.R_slice HO133.out
    (first | subst eo17 | (injection eo17 with f1_ f2_ f3_; have f4_ := f1_.symm; have f5_ := f3_.symm; clear f1_ f2_ f3_; subst f4_; subst f5_))
    refine hK.out _ _ ⟨(blk_cell BK129.out 0).trans rfl, (blk_cell BK129.out 1).trans rfl, (blk_cell BK129.out 2).trans rfl⟩ (fun hHeld => ?_)
    clear hK K
    refine norm_ (a' := ?_) ?_ ?_
    rotate_left
    ·show Act.put _ (some 22) _ = _
     simp only [Act.put, List.setIfInBounds_toArray, List.set_cons_zero, List.set_cons_succ, i64_w, i32_w]
     rfl
    refine one_ (i := 9) (N := some 23) #[true, true, true, true, true, true, true, true, true, true, false, false] rfl rfl (one_of HT_.out (by kernel_rfl)) (by decide) (fun K hK => ?_)
    refine goes_ Try.func40 (by kernel_rfl) rfl #[.int .i64 (wrap64 (a0_0 + 1)), .int .i64 (wrap64 (Int.tdiv a0_1 2)), .slice Ao17 t131.length co17] (by rfl) rfl rfl (by (try simp only [List.map_toArray, List.map_cons, List.map_nil]); first | done | rfl | (simp only [List.length_drop, List.length_take]; rfl)) ?_
    with_reducible refine (pack_vec.calls (wrap64 (a0_0 + 1)) (wrap64 (Int.tdiv a0_1 2)) (fun k_ => some k_ = (.slice Ao17 t131.length co17 : Value).ownBlock) (.slice Ao17 t131.length co17) t131 t134 t135 t136 w _ ?side1 ?side2 A14.out).mono ?_
    (case side1 => repeat (first | (with_reducible first | exact HB.out | apply below_alloc | apply pw_below_drewN | apply below_drew1 | refine below_set ?_ GE129.out | refine below_set ?_ GE130.out) | exact HB.out))
    (case side2 => exact Kd.R_tight rfl HO133.out)
    rintro e w18 ⟨v137, rfl, ho0, hb, hkp⟩
    refine ⟨_, rfl, ?_⟩
    have HO138 := Aside0.mk (Kd.R_mono (ok' := fun k_ => True) ho0 (fun k_ hk_ => trivial))
    replace BK129 := Aside0.mk (blk_kept (bk BK129.out) hkp (fun hs_ => (fun e_ => (Kd.R_ne HO133.out BK129.out (by decide)) e_) hs_))
    replace BK130 := Aside0.mk (blk_kept (bk BK130.out) hkp (fun hs_ => (fun e_ => (Kd.R_ne HO133.out BK130.out (by decide)) e_) hs_))
    replace HB := Aside0.mk hb
    clear HO133
    (try clear hb)
    (try clear hkp)
    (try clear ho0)
    obtain ⟨Ao21, co21, eo21⟩ := Kd.R_slice HO138.out
    (first | subst eo21 | (injection eo21 with f1_ f2_ f3_; have f4_ := f1_.symm; have f5_ := f3_.symm; clear f1_ f2_ f3_; subst f4_; subst f5_))
    refine hK.out _ _ ⟨(blk_cell BK129.out 0).trans rfl, (blk_cell BK129.out 1).trans rfl, (blk_cell BK129.out 2).trans rfl⟩ (fun hHeld => ?_)
    clear hK K
    refine norm_ (a' := ?_) ?_ ?_
    rotate_left
    ·show Act.put _ (some 23) _ = _
     simp only [Act.put, List.setIfInBounds_toArray, List.set_cons_zero, List.set_cons_succ, i64_w, i32_w]
     rfl
    refine one_ (i := 10) (N := none) #[true, true, true, true, true, true, true, true, true, true, true, false] rfl rfl (one_of HT_.out (by kernel_rfl)) (by decide) (fun K hK => ?_)
    have hs19 : w18.cell? ⟨gb130, 0, none⟩ = some (.int .i64 0) := (blk_cell BK130.out 0).trans rfl
    have hfs19 := blk_frozen BK130.out 0
    have hns19_0 := NB129_130.out
    have hms19_0 := NB130_129.out
    have hs20 : w18.cell? ⟨gb130, 1, none⟩ = some (.int .i64 0) := (blk_cell BK130.out 1).trans rfl
    have hfs20 := blk_frozen BK130.out 1
    have hns20_0 := NB129_130.out
    have hms20_0 := NB130_129.out
    have hs22 : w18.cell? ⟨gb130, 2, none⟩ = some (.slice none 0 0) := (blk_cell BK130.out 2).trans rfl
    have hfs22 := blk_frozen BK130.out 2
    have hns22_0 := NB129_130.out
    have hms22_0 := NB130_129.out
    refine skip_ (w1 := ?_) (by rfl) rfl ?_ ?_
    rotate_left
    ·go_simp
     rfl
    refine hK.out _ _ ⟨((cell_far (p := ⟨gb130, _, none⟩) NB129_130.out _).trans (((cell_far (p := ⟨gb130, _, none⟩) NB129_130.out _).trans (((cell_far (p := ⟨gb130, _, none⟩) NB129_130.out _).trans (hHeld.1)))))), ((cell_far (p := ⟨gb130, _, none⟩) NB129_130.out _).trans (((cell_far (p := ⟨gb130, _, none⟩) NB129_130.out _).trans (((cell_far (p := ⟨gb130, _, none⟩) NB129_130.out _).trans (hHeld.2.1)))))), ((cell_far (p := ⟨gb130, _, none⟩) NB129_130.out _).trans (((cell_far (p := ⟨gb130, _, none⟩) NB129_130.out _).trans (((cell_far (p := ⟨gb130, _, none⟩) NB129_130.out _).trans (hHeld.2.2))))))⟩ (fun hHeld => ?_)
    clear hK K
    refine pure_ (i := 11) (N := some 3) (v := ?_) (a' := ?_) #[true, true, true, true, true, true, true, true, true, true, true, true] rfl rfl (any_of HT_.out (by kernel_rfl)) (fun _ _ _ h => h) (Or.inl ⟨by rfl, ?_⟩) ?_ ?_
    rotate_left
    ·intro w'
     go_simp
     with_reducible rfl
    rotate_left
    ·simp only [Act.put, List.setIfInBounds_toArray, List.set_cons_zero, List.set_cons_succ, i64_w, i32_w]
     rfl
    refine done_ (done_of HT_.out (by kernel_rfl)) ?_
    try go_wp2
    refine bodyPost_ret (results_ct rfl _ _ gb130 31 #[.int .i64 t134, .int .i64 t135, .slice Ao21 t136.length co21] (0, 0) _ rfl (by (with_reducible repeat refine bl ?_); refine blk_put (cs := #[.int .i64 t134, .int .i64 t135, .slice none 0 0]) ?_ 2 _ rfl; (with_reducible repeat refine bl ?_); refine blk_put (cs := #[.int .i64 t134, .int .i64 0, .slice none 0 0]) ?_ 1 _ rfl; (with_reducible repeat refine bl ?_); refine blk_put (cs := #[.int .i64 0, .int .i64 0, .slice none 0 0]) ?_ 0 _ rfl; (with_reducible repeat refine bl ?_); exact BK130.out) Try.underlying31 rfl (by kernel_rfl)) rfl ?_
    exact ⟨_, by first | rfl | (simp [errW_none, errW_some] <;> rfl) | (simp [*, errW_none, errW_some] <;> rfl), by (with_reducible repeat refine kl ?_); exact Kd.R_mono (Kd.R_far (p := ⟨gb130, 2, none⟩) (Kd.R_far (p := ⟨gb130, 1, none⟩) (Kd.R_far (p := ⟨gb130, 0, none⟩) (Kd.R_types HO138.out BK130.out (by decide)) (fun _ hk => hk.2) (.int .i64 t134)) (fun _ hk => hk.2) (.int .i64 t135)) (fun _ hk => hk.2) (.slice Ao21 t136.length co21)) (fun _ hk => trivial), bq HB.out⟩

/-! ### pack_Vec_Level: function 27 -/
def pack_Vec_Level.f (a0_0 : Int) (a0_1 : Int) (l0_2 : List Int) : Option (Int) := some a0_0
set_option maxHeartbeats 8000000 in
set_option maxRecDepth 100000 in
theorem pack_Vec_Level.calls (a0_0 : Int) (a0_1 : Int) (A0_2 : Option Addr) (c0_2 : Nat) (l0_2 : List Int) (r : Int) (w : World) (hr0_2 : Kd.C (Kd.int .u64) w A0_2 l0_2.length l0_2) (hc0_2 : l0_2.length ≤ c0_2) (h : pack_Vec_Level.f a0_0 a0_1 l0_2 = some r) :
  Calls Try.prog 27 #[.agg #[.int .i64 a0_0, .int .i64 a0_1, .slice A0_2 l0_2.length c0_2]] w fun e w' => e = .returned (.int .i64 r) ∧ Below w.heap.size w w' := by
 have hu31 := Try.underlying31
 have HR0_2 := Aside0.mk hr0_2
 have HC0_2 := Aside0.mk hc0_2
 clear hr0_2 hc0_2
 have HB := Aside0.mk (Below.refl w.heap.size w)
 have H : (some a0_0) = some r := h
 clear h
 obtain rfl := Option.some.inj H
 go_enter Try.func27, Try.ntmps27
 go_wp2_with (first | ((with_reducible refine gate_dst (N := 1) rfl ?_); refine box_event ?hg (N := 1) ?hd (cs := #[.int .i64 a0_0, .int .i64 a0_1, .slice A0_2 l0_2.length c0_2]) (t := 31) ?hr ?_; (case hd => rfl); (case hg => rfl); (case hr => first | (go_simp; done) | (go_simp; rfl)); intro gb139 hg w2 hbox hb; have BK139 := Aside0.mk hbox; have GW139 := ge hg HB; have GE139 := ge hg HB; replace HB := bh HB hb; clear hb hbox hg; obtain ⟨hcz3_0, hcz3_1, hcz3_2⟩ := zc3 BK139; obtain ⟨hfz3_0, hfz3_1, hfz3_2⟩ := zf3 BK139))
 go_ret
 exact ⟨by first | rfl | (simp [errW_none, errW_some] <;> rfl) | (simp [*, errW_none, errW_some] <;> rfl), bq HB.out⟩

/-! ### steeplelaw03_few: function 34 -/
def steeplelaw03_few.l0 : Nat → List Int → List (S25) → Int → Option ((List (S25)))
 | 0, _, _, _ => none
 | k + 1, x0, x3, x4 => if x4 < (x0.length : Int) then (if 0 ≤ x4 then (if x3.length < 8796093022208 then (steeplelaw03_few.l0 k x0 (x3 ++ [(⟨0, rd x0 x4⟩ : S25)]) (wrap64 (x4 + 1))) else (none)) else (none)) else (some x3)
def steeplelaw03_few.f (k : Nat) (l0 : List Int) : Option ((List (S25))) := steeplelaw03_few.l0 k l0 ([] : List (S25)) 0
theorem steeplelaw03_few.mono_l : ∀ k, (∀ y0 y1 y2, LeO (steeplelaw03_few.l0 k y0 y1 y2) (steeplelaw03_few.l0 (k + 1) y0 y1 y2))
 | 0 => fun _ _ _ r h => by simp [steeplelaw03_few.l0] at h
 | k + 1 => by
  have ih0 := steeplelaw03_few.mono_l k
  ·intro y0 y1 y2
   unfold steeplelaw03_few.l0
   repeat' first
   | (with_reducible exact ih0 _ _ _)
   | (with_reducible exact LeO.refl _)
   | (with_reducible exact LeO.none _)
   | (with_reducible refine LeO.ite ?_ ?_)
   | (with_reducible refine LeO.bind ?_ (fun _ => ?_))
   | exact ih0 _ _ _
   | exact LeO.none _
   | refine LeO.ite ?_ ?_
   | refine LeO.bind ?_ (fun _ => ?_)
theorem steeplelaw03_few.mono : ∀ a0 k, LeO (steeplelaw03_few.f k a0) (steeplelaw03_few.f (k + 1) a0) := by
 intro a0 k
 have ih0 := steeplelaw03_few.mono_l k
 unfold steeplelaw03_few.f
 repeat' first
   | (with_reducible exact ih0 _ _ _)
   | (with_reducible exact LeO.refl _)
   | (with_reducible exact LeO.none _)
   | (with_reducible refine LeO.ite ?_ ?_)
   | (with_reducible refine LeO.bind ?_ (fun _ => ?_))
   | exact ih0 _ _ _
   | exact LeO.none _
   | refine LeO.ite ?_ ?_
   | refine LeO.bind ?_ (fun _ => ?_)
set_option maxHeartbeats 8000000 in
set_option maxRecDepth 100000 in
theorem steeplelaw03_few.calls (k : Nat) (A0 : Option Addr) (c0 : Nat) (l0 : List Int) (r : List (S25)) (w : World) (hr0 : Kd.C (Kd.int .u64) w A0 l0.length l0) (hc0 : l0.length ≤ c0) (h : steeplelaw03_few.f k l0 = some r) :
  Calls Try.prog 34 #[.slice A0 l0.length c0] w fun e w' => ∃ v0_ : Value, e = .returned (v0_) ∧ Kd.R k25 25 w' w.heap.size (fun _ => True) v0_ r ∧ Below w.heap.size w w' := by
 have hu25 := Try.underlying25
 have HR0 := Aside0.mk hr0
 have HC0 := Aside0.mk hc0
 clear hr0 hc0
 have HB := Aside0.mk (Below.refl w.heap.size w)
 have H : (steeplelaw03_few.l0 k l0 ([] : List (S25)) 0) = some r := h
 clear h
 have H' := Aside0.mk H
 clear H
 go_enter Try.func34, Try.ntmps34
 go_wp2
 go_loopg [3, 4] k (fun kq v3 v4 w' => ∃ (x3_1 : List (S25)) (x4_1 : Int), v4 = .int .i64 x4_1 ∧ Aside0 (steeplelaw03_few.l0 kq l0 x3_1 x4_1 = some r) ∧ Aside0 (kq ≤ k) ∧ Aside0 (Kd.R k25 25 w' w.heap.size (fun _ => True) v3 x3_1) ∧ Aside0 (Below w.heap.size w w'))
 case atStart => exact ⟨(([] : List (S25))), (0), (by first | rfl | (simp; done) | (simp [*]; done)), H', ⟨Nat.le_refl _⟩, ⟨by first | exact Kd.R_nil _ _ _ _ _ | exact Kd.N_nil _ _ _ _ _ | exact Kd.V_nil _ _ _ _ _ | exact Kd.Q_nil _ _ _ _ _ | exact Kd.S_nil _ _ _ _ _⟩, ⟨bq HB.out⟩⟩
 case round =>
  clear H'
  obtain ⟨x3_1, x4_1, rfl, HA, HK1, HO_3, HB⟩ := hrel
  cases gk with
  | zero => exact absurd HA.out (by simp [steeplelaw03_few.l0])
  | succ k1 =>
   have H := HA.out
   clear HA
   simp only [steeplelaw03_few.l0] at H
   by_cases c2 : x4_1 < (l0.length : Int)
   ·rw [if_pos c2] at H
    have c2b0 : decide (x4_1 < (l0.length : Int)) = true := decide_eq_true c2
    clear c2
    by_cases c3 : 0 ≤ x4_1
    ·rw [if_pos c3] at H
     have c3b0 : decide (0 ≤ x4_1) = true := decide_eq_true c3
     clear c3
     by_cases c4 : x3_1.length < 8796093022208
     ·rw [if_pos c4] at H
      have LMc4 := Aside0.mk c4
      clear c4
      obtain ⟨y141, hy141⟩ : ∃ y_ : List (S25), y_ = (x3_1 ++ [(⟨0, rd l0 x4_1⟩ : S25)]) := ⟨_, rfl⟩
      replace H : (steeplelaw03_few.l0 k1 l0 y141 (wrap64 (x4_1 + 1))) = some r := by first | (rw [hy141]; with_reducible exact H) | (have H2_ := (Option.bind_some _ _).symm.trans H; rw [hy141]; with_reducible exact H2_) | (have H2_ := (Option.bind_some _ _).symm.trans H; with_reducible exact H2_) | with_reducible exact H | (rw [hy141]; exact H) | exact H
      have Ny141 := Aside0.mk hy141
      clear hy141
      have H' := Aside0.mk H
      clear H
      have p140 : 0 ≤ (x4_1 : Int) := of_decide_eq_true (by first | (with_reducible assumption) | assumption)
      have q140 : x4_1 < (l0.length : Int) := of_decide_eq_true (by first | (with_reducible assumption) | assumption)
      obtain ⟨ad140, e140, hx140_0⟩ := Kd.at_int HR0.out x4_1 p140 q140
      cases e140
      replace hx140_0 := (HB.out.cell (World.block_lt_of_cell? w _ hx140_0)).trans hx140_0
      replace p140 := eq_true p140
      replace q140 := eq_true q140
      go_wp2_with (first | ((with_reducible refine gate_builtin (b := .append) (xs := #[.tmp 11, .tmp 17]) rfl ?_); at_builtin; refine Kd.R_append k25 (w0 := w) w.heap.size rfl (.tmp 11) (.tmp 17) 22 25 (.agg #[(.int .u64 0), (.int .u64 0)]) 16 rfl Try.underlying22 info25 rfl (by decide) (by omega) u3 x3_1 (⟨0, rd l0 x4_1⟩ : S25) [.int .u64 0, .int .u64 (rd l0 x4_1)] (fun _ => True) (fun _ => False) rfl rfl ?aP (fun _ hk => hk.elim) ?aF ?aO ?aB ?aS ?aL ?_; (case aP => exact k25_mkM _ _ _ (⟨0, rd l0 x4_1⟩ : S25)); (case aB => exact (bq HB.out)); (case aF => exact (fun _ _ => trivial)); (case aO => exact (kr HO_3.out)); (case aS => exact (below_size (bq HB.out))); (case aL => have := LMc4.out; omega); intro v142 w5 ho hb hg hat; rw [← Ny141.out] at ho; have HO143 := Aside0.mk ho; replace HB := Aside0.mk hb; clear HO_3; clear ho hb hg hat))
      go_roundg k1
      case measure => have := HK1.out; omega
      case rel => exact ⟨(y141), (wrap64 (x4_1 + 1)), (by first | rfl | (simp; done) | (simp [*]; done)), H', ⟨by have := HK1.out; omega⟩, ⟨kr HO143.out⟩, ⟨bq HB.out⟩⟩
     ·rw [if_neg c4] at H
      exact absurd H (by simp)
    ·rw [if_neg c3] at H
     exact absurd H (by simp)
   ·rw [if_neg c2] at H
    have c2b0 : decide (x4_1 < (l0.length : Int)) = false := decide_eq_false c2
    clear c2
    obtain rfl := Option.some.inj H
    go_wp2
    go_ret
    exact ⟨_, by first | rfl | (simp [errW_none, errW_some] <;> rfl) | (simp [*, errW_none, errW_some] <;> rfl), by (with_reducible repeat refine kl ?_); exact HO_3.out, bq HB.out⟩

/-! ### pack_Vec_Words: function 35 -/
def pack_Vec_Words.f (a0_0 : Int) (a0_1 : Int) (l0_2 : List Int) : Option (List Int) := (slices_Clone_uint64_uint64.f l0_2).bind fun t145 => (some t145)
set_option maxHeartbeats 8000000 in
set_option maxRecDepth 100000 in
theorem pack_Vec_Words.calls (a0_0 : Int) (a0_1 : Int) (A0_2 : Option Addr) (c0_2 : Nat) (l0_2 : List Int) (r : List Int) (w : World) (hr0_2 : Kd.C (Kd.int .u64) w A0_2 l0_2.length l0_2) (hc0_2 : l0_2.length ≤ c0_2) (h : pack_Vec_Words.f a0_0 a0_1 l0_2 = some r) :
  Calls Try.prog 35 #[.agg #[.int .i64 a0_0, .int .i64 a0_1, .slice A0_2 l0_2.length c0_2]] w fun e w' => ∃ v0_ : Value, e = .returned (v0_) ∧ Kd.R (Kd.int .u64) 23 w' w.heap.size (fun _ => True) v0_ r ∧ Below w.heap.size w w' := by
 have hu31 := Try.underlying31
 have HR0_2 := Aside0.mk hr0_2
 have HC0_2 := Aside0.mk hc0_2
 clear hr0_2 hc0_2
 have HB := Aside0.mk (Below.refl w.heap.size w)
 have H : ((slices_Clone_uint64_uint64.f l0_2).bind fun t145 => (some t145)) = some r := h
 clear h
 replace H := Option.bind_eq_some_iff.mp H
 obtain ⟨t145, A20, H⟩ := H
 replace H : (some t145) = some r := H
 have A2 := Aside0.mk A20
 clear A20
 obtain rfl := Option.some.inj H
 go_enter Try.func35, Try.ntmps35
 go_wp2_with (first | ((with_reducible refine gate_dst (N := 1) rfl ?_); refine box_event ?hg (N := 1) ?hd (cs := #[.int .i64 a0_0, .int .i64 a0_1, .slice A0_2 l0_2.length c0_2]) (t := 31) ?hr ?_; (case hd => rfl); (case hg => rfl); (case hr => first | (go_simp; done) | (go_simp; rfl)); intro gb144 hg w3 hbox hb; have BK144 := Aside0.mk hbox; have GW144 := ge hg HB; have GE144 := ge hg HB; replace HB := bh HB hb; clear hb hbox hg; obtain ⟨hcz4_0, hcz4_1, hcz4_2⟩ := zc3 BK144; obtain ⟨hfz4_0, hfz4_1, hfz4_2⟩ := zf3 BK144) | ((with_reducible refine gate_callee (f := 43) rfl ?_); refine goesL_ (some 5) rfl rfl Try.func43 (by kernel_rfl) rfl #[.slice A0_2 l0_2.length c0_2] rfl (by (try simp only [List.map_toArray, List.map_cons, List.map_nil]); first | done | rfl | (simp only [List.length_drop, List.length_take]; rfl)) ?_; (with_reducible refine (slices_Clone_uint64_uint64.calls _ _ l0_2 t145 _ ?side1 ?side2 A2.out).mono ?_); (case side1 => repeat (first | exact (Kd.C_below HR0_2.out HB.out) | (with_reducible refine Kd.C_alloc ?_ _) | (with_reducible refine Kd.C_drewN ?_ _) | (with_reducible refine Kd.C_drew ?_))); (case side2 => exact HC0_2.out); rintro e w5 ⟨v146, rfl, ho0, hb⟩; refine ⟨_, rfl, ?_⟩; have HO147 := kw ho0 HB; replace BK144 := bb BK144 hb; replace HB := bh HB hb; (try clear hb); (try clear hb2); (try clear hk); (try clear hi); (try clear ho0)))
 go_ret
 exact ⟨_, by first | rfl | (simp [errW_none, errW_some] <;> rfl) | (simp [*, errW_none, errW_some] <;> rfl), by (with_reducible repeat refine kl ?_); exact HO147.out, bq HB.out⟩

/-! ### steeplelaw03_awake: function 8 -/
def steeplelaw03_awake.f (k : Nat)  : Option (Bool) := (steeplelaw03_few.f k (([1, 2, 3] : List Int))).bind fun t151 => ((pack_Make.f k 2 t151).bind fun bt154 => ((steeplelaw03_few.f k (([1, 2, 3, 4] : List Int))).bind fun t164 => ((pack_Make.f k 2 t164).bind fun bt167 => ((pack_Rise.f k bt167.1 bt167.2.1 bt167.2.2.1).bind fun bt174 => ((pack_Vec_Words.f bt154.1 bt154.2.1 bt154.2.2.1).bind fun t181 => ((pack_Vec_Get.f k bt174.1 bt174.2.1 bt174.2.2.1 1).bind fun bt184 => (if bt154.2.2.2 = 0 then (if bt167.2.2.2 = 0 then (if bt174.2.2.2 = 0 then (if (t181.length : Int) = 1 then (if 0 < (t181.length : Int) then (if (rd t181 0) = 801 then ((pack_Vec_Level.f bt174.1 bt174.2.1 bt174.2.2.1).bind fun t189 => (if t189 = 3 then (if bt184.2.2 = true then (some (bt184.1 == 0 && (bt184.2.1 == 67))) else (none)) else (none))) else (none)) else (none)) else (none)) else (none)) else (none)) else (none))))))))
theorem steeplelaw03_awake.mono : ∀ k, LeO (steeplelaw03_awake.f k ) (steeplelaw03_awake.f (k + 1) ) := by
 intro  k
 unfold steeplelaw03_awake.f
 repeat' first
   | (with_reducible exact pack_Make.mono _ _ _)
   | (with_reducible exact pack_Rise.mono _ _ _ _)
   | (with_reducible exact pack_Vec_Get.mono _ _ _ _ _)
   | (with_reducible exact steeplelaw03_few.mono _ _)
   | (with_reducible exact LeO.refl _)
   | (with_reducible exact LeO.none _)
   | (with_reducible refine LeO.ite ?_ ?_)
   | (with_reducible refine LeO.bind ?_ (fun _ => ?_))
   | exact pack_Make.mono _ _ _
   | exact pack_Rise.mono _ _ _ _
   | exact pack_Vec_Get.mono _ _ _ _ _
   | exact steeplelaw03_few.mono _ _
   | exact LeO.none _
   | refine LeO.ite ?_ ?_
   | refine LeO.bind ?_ (fun _ => ?_)
set_option maxHeartbeats 8000000 in
set_option maxRecDepth 100000 in
theorem steeplelaw03_awake.calls (k : Nat)  (r : Bool) (w : World) (h : steeplelaw03_awake.f k  = some r) :
  Calls Try.prog 8 #[] w fun e w' => e = .returned (.bool r) ∧ Below w.heap.size w w' := by
 have hu31 := Try.underlying31
 have hu25 := Try.underlying25
 have HB := Aside0.mk (Below.refl w.heap.size w)
 have H : ((steeplelaw03_few.f k (([1, 2, 3] : List Int))).bind fun t151 => ((pack_Make.f k 2 t151).bind fun bt154 => ((steeplelaw03_few.f k (([1, 2, 3, 4] : List Int))).bind fun t164 => ((pack_Make.f k 2 t164).bind fun bt167 => ((pack_Rise.f k bt167.1 bt167.2.1 bt167.2.2.1).bind fun bt174 => ((pack_Vec_Words.f bt154.1 bt154.2.1 bt154.2.2.1).bind fun t181 => ((pack_Vec_Get.f k bt174.1 bt174.2.1 bt174.2.2.1 1).bind fun bt184 => (if bt154.2.2.2 = 0 then (if bt167.2.2.2 = 0 then (if bt174.2.2.2 = 0 then (if (t181.length : Int) = 1 then (if 0 < (t181.length : Int) then (if (rd t181 0) = 801 then ((pack_Vec_Level.f bt174.1 bt174.2.1 bt174.2.2.1).bind fun t189 => (if t189 = 3 then (if bt184.2.2 = true then (some (bt184.1 == 0 && (bt184.2.1 == 67))) else (none)) else (none))) else (none)) else (none)) else (none)) else (none)) else (none)) else (none))))))))) = some r := h
 clear h
 obtain ⟨y148, hy148⟩ : ∃ y_ : List Int, y_ = (([1, 2, 3] : List Int)) := ⟨_, rfl⟩
 replace H : ((steeplelaw03_few.f k y148).bind fun t151 => ((pack_Make.f k 2 t151).bind fun bt154 => ((steeplelaw03_few.f k (([1, 2, 3, 4] : List Int))).bind fun t164 => ((pack_Make.f k 2 t164).bind fun bt167 => ((pack_Rise.f k bt167.1 bt167.2.1 bt167.2.2.1).bind fun bt174 => ((pack_Vec_Words.f bt154.1 bt154.2.1 bt154.2.2.1).bind fun t181 => ((pack_Vec_Get.f k bt174.1 bt174.2.1 bt174.2.2.1 1).bind fun bt184 => (if bt154.2.2.2 = 0 then (if bt167.2.2.2 = 0 then (if bt174.2.2.2 = 0 then (if (t181.length : Int) = 1 then (if 0 < (t181.length : Int) then (if (rd t181 0) = 801 then ((pack_Vec_Level.f bt174.1 bt174.2.1 bt174.2.2.1).bind fun t189 => (if t189 = 3 then (if bt184.2.2 = true then (some (bt184.1 == 0 && (bt184.2.1 == 67))) else (none)) else (none))) else (none)) else (none)) else (none)) else (none)) else (none)) else (none))))))))) = some r := by first | (rw [hy148]; with_reducible exact H) | (have H2_ := (Option.bind_some _ _).symm.trans H; rw [hy148]; with_reducible exact H2_) | (have H2_ := (Option.bind_some _ _).symm.trans H; with_reducible exact H2_) | with_reducible exact H | (rw [hy148]; exact H) | exact H
 have Ny148 := Aside0.mk hy148
 clear hy148
 replace H := Option.bind_eq_some_iff.mp H
 obtain ⟨t151, A10, H⟩ := H
 replace H : ((pack_Make.f k 2 t151).bind fun bt154 => ((steeplelaw03_few.f k (([1, 2, 3, 4] : List Int))).bind fun t164 => ((pack_Make.f k 2 t164).bind fun bt167 => ((pack_Rise.f k bt167.1 bt167.2.1 bt167.2.2.1).bind fun bt174 => ((pack_Vec_Words.f bt154.1 bt154.2.1 bt154.2.2.1).bind fun t181 => ((pack_Vec_Get.f k bt174.1 bt174.2.1 bt174.2.2.1 1).bind fun bt184 => (if bt154.2.2.2 = 0 then (if bt167.2.2.2 = 0 then (if bt174.2.2.2 = 0 then (if (t181.length : Int) = 1 then (if 0 < (t181.length : Int) then (if (rd t181 0) = 801 then ((pack_Vec_Level.f bt174.1 bt174.2.1 bt174.2.2.1).bind fun t189 => (if t189 = 3 then (if bt184.2.2 = true then (some (bt184.1 == 0 && (bt184.2.1 == 67))) else (none)) else (none))) else (none)) else (none)) else (none)) else (none)) else (none)) else (none)))))))) = some r := H
 have A1 := Aside0.mk A10
 clear A10
 replace H := Option.bind_eq_some_iff.mp H
 obtain ⟨⟨t154, t155, t156, t159⟩, A20, H⟩ := H
 replace H : ((steeplelaw03_few.f k (([1, 2, 3, 4] : List Int))).bind fun t164 => ((pack_Make.f k 2 t164).bind fun bt167 => ((pack_Rise.f k bt167.1 bt167.2.1 bt167.2.2.1).bind fun bt174 => ((pack_Vec_Words.f t154 t155 t156).bind fun t181 => ((pack_Vec_Get.f k bt174.1 bt174.2.1 bt174.2.2.1 1).bind fun bt184 => (if t159 = 0 then (if bt167.2.2.2 = 0 then (if bt174.2.2.2 = 0 then (if (t181.length : Int) = 1 then (if 0 < (t181.length : Int) then (if (rd t181 0) = 801 then ((pack_Vec_Level.f bt174.1 bt174.2.1 bt174.2.2.1).bind fun t189 => (if t189 = 3 then (if bt184.2.2 = true then (some (bt184.1 == 0 && (bt184.2.1 == 67))) else (none)) else (none))) else (none)) else (none)) else (none)) else (none)) else (none)) else (none))))))) = some r := H
 have A2 := Aside0.mk A20
 clear A20
 obtain ⟨y161, hy161⟩ : ∃ y_ : List Int, y_ = (([1, 2, 3, 4] : List Int)) := ⟨_, rfl⟩
 replace H : ((steeplelaw03_few.f k y161).bind fun t164 => ((pack_Make.f k 2 t164).bind fun bt167 => ((pack_Rise.f k bt167.1 bt167.2.1 bt167.2.2.1).bind fun bt174 => ((pack_Vec_Words.f t154 t155 t156).bind fun t181 => ((pack_Vec_Get.f k bt174.1 bt174.2.1 bt174.2.2.1 1).bind fun bt184 => (if t159 = 0 then (if bt167.2.2.2 = 0 then (if bt174.2.2.2 = 0 then (if (t181.length : Int) = 1 then (if 0 < (t181.length : Int) then (if (rd t181 0) = 801 then ((pack_Vec_Level.f bt174.1 bt174.2.1 bt174.2.2.1).bind fun t189 => (if t189 = 3 then (if bt184.2.2 = true then (some (bt184.1 == 0 && (bt184.2.1 == 67))) else (none)) else (none))) else (none)) else (none)) else (none)) else (none)) else (none)) else (none))))))) = some r := by first | (rw [hy161]; with_reducible exact H) | (have H2_ := (Option.bind_some _ _).symm.trans H; rw [hy161]; with_reducible exact H2_) | (have H2_ := (Option.bind_some _ _).symm.trans H; with_reducible exact H2_) | with_reducible exact H | (rw [hy161]; exact H) | exact H
 have Ny161 := Aside0.mk hy161
 clear hy161
 replace H := Option.bind_eq_some_iff.mp H
 obtain ⟨t164, A30, H⟩ := H
 replace H : ((pack_Make.f k 2 t164).bind fun bt167 => ((pack_Rise.f k bt167.1 bt167.2.1 bt167.2.2.1).bind fun bt174 => ((pack_Vec_Words.f t154 t155 t156).bind fun t181 => ((pack_Vec_Get.f k bt174.1 bt174.2.1 bt174.2.2.1 1).bind fun bt184 => (if t159 = 0 then (if bt167.2.2.2 = 0 then (if bt174.2.2.2 = 0 then (if (t181.length : Int) = 1 then (if 0 < (t181.length : Int) then (if (rd t181 0) = 801 then ((pack_Vec_Level.f bt174.1 bt174.2.1 bt174.2.2.1).bind fun t189 => (if t189 = 3 then (if bt184.2.2 = true then (some (bt184.1 == 0 && (bt184.2.1 == 67))) else (none)) else (none))) else (none)) else (none)) else (none)) else (none)) else (none)) else (none)))))) = some r := H
 have A3 := Aside0.mk A30
 clear A30
 replace H := Option.bind_eq_some_iff.mp H
 obtain ⟨⟨t167, t168, t169, t172⟩, A40, H⟩ := H
 replace H : ((pack_Rise.f k t167 t168 t169).bind fun bt174 => ((pack_Vec_Words.f t154 t155 t156).bind fun t181 => ((pack_Vec_Get.f k bt174.1 bt174.2.1 bt174.2.2.1 1).bind fun bt184 => (if t159 = 0 then (if t172 = 0 then (if bt174.2.2.2 = 0 then (if (t181.length : Int) = 1 then (if 0 < (t181.length : Int) then (if (rd t181 0) = 801 then ((pack_Vec_Level.f bt174.1 bt174.2.1 bt174.2.2.1).bind fun t189 => (if t189 = 3 then (if bt184.2.2 = true then (some (bt184.1 == 0 && (bt184.2.1 == 67))) else (none)) else (none))) else (none)) else (none)) else (none)) else (none)) else (none)) else (none))))) = some r := H
 have A4 := Aside0.mk A40
 clear A40
 replace H := Option.bind_eq_some_iff.mp H
 obtain ⟨⟨t174, t175, t176, t179⟩, A50, H⟩ := H
 replace H : ((pack_Vec_Words.f t154 t155 t156).bind fun t181 => ((pack_Vec_Get.f k t174 t175 t176 1).bind fun bt184 => (if t159 = 0 then (if t172 = 0 then (if t179 = 0 then (if (t181.length : Int) = 1 then (if 0 < (t181.length : Int) then (if (rd t181 0) = 801 then ((pack_Vec_Level.f t174 t175 t176).bind fun t189 => (if t189 = 3 then (if bt184.2.2 = true then (some (bt184.1 == 0 && (bt184.2.1 == 67))) else (none)) else (none))) else (none)) else (none)) else (none)) else (none)) else (none)) else (none)))) = some r := H
 have A5 := Aside0.mk A50
 clear A50
 replace H := Option.bind_eq_some_iff.mp H
 obtain ⟨t181, A60, H⟩ := H
 replace H : ((pack_Vec_Get.f k t174 t175 t176 1).bind fun bt184 => (if t159 = 0 then (if t172 = 0 then (if t179 = 0 then (if (t181.length : Int) = 1 then (if 0 < (t181.length : Int) then (if (rd t181 0) = 801 then ((pack_Vec_Level.f t174 t175 t176).bind fun t189 => (if t189 = 3 then (if bt184.2.2 = true then (some (bt184.1 == 0 && (bt184.2.1 == 67))) else (none)) else (none))) else (none)) else (none)) else (none)) else (none)) else (none)) else (none))) = some r := H
 have A6 := Aside0.mk A60
 clear A60
 replace H := Option.bind_eq_some_iff.mp H
 obtain ⟨⟨t184, t185, t186⟩, A70, H⟩ := H
 replace H : (if t159 = 0 then (if t172 = 0 then (if t179 = 0 then (if (t181.length : Int) = 1 then (if 0 < (t181.length : Int) then (if (rd t181 0) = 801 then ((pack_Vec_Level.f t174 t175 t176).bind fun t189 => (if t189 = 3 then (if t186 = true then (some (t184 == 0 && (t185 == 67))) else (none)) else (none))) else (none)) else (none)) else (none)) else (none)) else (none)) else (none)) = some r := H
 have A7 := Aside0.mk A70
 clear A70
 by_cases c8 : t159 = 0
 ·rw [if_pos c8] at H
  have c8b0 : (t159 == 0) = true := beq_iff_eq.mpr c8
  have c8b1 : (t159 != 0) = false := bne_eq_false_iff_eq.mpr c8
  clear c8
  by_cases c9 : t172 = 0
  ·rw [if_pos c9] at H
   have c9b0 : (t172 == 0) = true := beq_iff_eq.mpr c9
   have c9b1 : (t172 != 0) = false := bne_eq_false_iff_eq.mpr c9
   clear c9
   by_cases c10 : t179 = 0
   ·rw [if_pos c10] at H
    have c10b0 : (t179 == 0) = true := beq_iff_eq.mpr c10
    have c10b1 : (t179 != 0) = false := bne_eq_false_iff_eq.mpr c10
    clear c10
    by_cases c11 : (t181.length : Int) = 1
    ·rw [if_pos c11] at H
     have c11b0 : ((t181.length : Int) == 1) = true := beq_iff_eq.mpr c11
     have c11b1 : ((t181.length : Int) != 1) = false := bne_eq_false_iff_eq.mpr c11
     clear c11
     by_cases c12 : 0 < (t181.length : Int)
     ·rw [if_pos c12] at H
      have c12b0 : decide (0 < (t181.length : Int)) = true := decide_eq_true c12
      have c12b1 : decide (0 < t181.length) = true := decide_eq_true (by omega)
      clear c12
      by_cases c13 : (rd t181 0) = 801
      ·rw [if_pos c13] at H
       have c13b0 : ((rd t181 0) == 801) = true := beq_iff_eq.mpr c13
       have c13b1 : ((rd t181 0) != 801) = false := bne_eq_false_iff_eq.mpr c13
       clear c13
       replace H := Option.bind_eq_some_iff.mp H
       obtain ⟨t189, A140, H⟩ := H
       replace H : (if t189 = 3 then (if t186 = true then (some (t184 == 0 && (t185 == 67))) else (none)) else (none)) = some r := H
       have A14 := Aside0.mk A140
       clear A140
       by_cases c15 : t189 = 3
       ·rw [if_pos c15] at H
        have c15b0 : (t189 == 3) = true := beq_iff_eq.mpr c15
        have c15b1 : (t189 != 3) = false := bne_eq_false_iff_eq.mpr c15
        clear c15
        by_cases c16 : t186 = true
        ·subst c16
         have H1 : (some (t184 == 0 && (t185 == 67))) = some r := by rw [if_pos rfl] at H; exact H
         clear H
         have H := H1
         clear H1
         obtain rfl := Option.some.inj H
         go_enter Try.func8, Try.ntmps8
         go_wp2_with (first | ((with_reducible refine gate_dst (N := 11) rfl ?_); (try (refine gate_guard (by rfl) ?_; dsimp only)); refine Kd.R_lit (Kd.int .u64) _ 23 ?hg (N := 11) ?hd (xs := ([1, 2, 3] : List Int)) (inner := [.int .u64 1, .int .u64 2, .int .u64 3]) (ok := fun _ => True) (okp := fun _ => True) ?hr ?hp (fun _ hk => hk) trivial (Below.refl _ _) (Nat.le_refl _) (by simp) ?_; (case hd => rfl); (case hg => rfl); (case hr => first | (go_simp; done) | (go_simp; rfl)); (case hp => exact (Reps.one (show Kd.M (Kd.int .u64) _ _ _ 1 [.int .u64 1] from rfl) (Reps.one (show Kd.M (Kd.int .u64) _ _ _ 2 [.int .u64 2] from rfl) (Reps.one (show Kd.M (Kd.int .u64) _ _ _ 3 [.int .u64 3] from rfl) (Reps.none _ _))))); intro v149 w17 ho18 hb hg_ hnew_; clear hg_ hnew_; (first | rw [← Ny148.out] at ho18 | (simp only [Int.reduceToNat] at ho18; rw [← Ny148.out] at ho18)); have HO150 := kw ho18 HB; replace HB := bh HB hb; clear hb ho18; obtain ⟨Ao19, co19, eo19⟩ := Kd.R_slice HO150.out; subst eo19) | ((with_reducible refine gate_callee (f := 34) rfl ?_); refine goesL_ (some 12) rfl rfl Try.func34 (by kernel_rfl) rfl #[.slice Ao19 y148.length co19] rfl (by (try simp only [List.map_toArray, List.map_cons, List.map_nil]); first | done | rfl | (simp only [List.length_drop, List.length_take]; rfl)) ?_; (with_reducible refine (steeplelaw03_few.calls k _ _ y148 t151 _ ?side1 ?side2 A1.out).mono ?_); (case side1 => repeat (first | exact (Kd.R_reads' HO150.out).2.2 | (with_reducible refine Kd.C_alloc ?_ _) | (with_reducible refine Kd.C_drewN ?_ _) | (with_reducible refine Kd.C_drew ?_))); (case side2 => exact (Kd.R_reads' HO150.out).2.1); rintro e w20 ⟨v152, rfl, ho0, hb⟩; refine ⟨_, rfl, ?_⟩; have HO153 := kw ho0 HB; replace HO150 := kb HO150 hb; replace HB := bh HB hb; (try clear hb); (try clear hb2); (try clear hk); (try clear hi); (try clear ho0); obtain ⟨Ao21, co21, eo21⟩ := Kd.R_slice HO153.out; subst eo21) | ((with_reducible refine gate_callee (f := 9) rfl ?_); refine goesL_ (some 13) rfl rfl Try.func9 (by kernel_rfl) rfl #[.int .i64 2, .slice Ao21 t151.length co21] rfl (by (try simp only [List.map_toArray, List.map_cons, List.map_nil]); first | done | rfl | (simp only [List.length_drop, List.length_take]; rfl)) ?_; (with_reducible refine (pack_Make.calls k 2 _ _ t151 t154 t155 t156 t159 _ ?side1 ?side2 A2.out).mono ?_); (case side1 => repeat (first | exact (Kd.R_reads' HO153.out).2.2 | (with_reducible refine Kd.C_alloc ?_ _) | (with_reducible refine Kd.C_drewN ?_ _) | (with_reducible refine Kd.C_drew ?_))); (case side2 => exact (Kd.R_reads' HO153.out).2.1); rintro e w22 ⟨v157, rfl, ho0, hb⟩; refine ⟨_, rfl, ?_⟩; have HO158 := Aside0.mk (Kd.R_lower (Kd.R_new' ho0 (Kd.R_lt (kr HO150.out))) (below_size (bq HB.out))); replace HO150 := Aside0.mk (Kd.R_elder' (kr HO150.out) (Kd.R_base ho0) hb); replace HO153 := kb HO153 hb; replace HB := bh HB hb; (try clear hb); (try clear hb2); (try clear hk); (try clear hi); (try clear ho0)) | ((with_reducible refine gate_dst (N := 1) rfl ?_); (try (refine gate_guard (by rfl) ?_; dsimp only)); refine box_event ?hg (N := 1) ?hd (cs := #[.int .i64 0, .int .i64 0, .slice none 0 0]) (t := 31) ?hr ?_; (case hd => rfl); (case hg => rfl); (case hr => first | (go_simp; done) | (go_simp; rfl)); intro gb160 hg w23 hbox hb; have BK160 := Aside0.mk hbox; have GW160 := ge hg HB; have GE160 := ge hg HB; replace HO150 := kb HO150 hb; replace HO153 := kb HO153 hb; replace HO158 := kb HO158 hb; replace HB := bh HB hb; clear hb hbox hg; obtain ⟨hcz24_0, hcz24_1, hcz24_2⟩ := zc3 BK160; obtain ⟨hfz24_0, hfz24_1, hfz24_2⟩ := zf3 BK160; obtain ⟨Ao25, co25, eo25⟩ := Kd.R_slice HO158.out; subst eo25) | ((with_reducible refine gate_dst (N := 17) rfl ?_); (try (refine gate_guard (by rfl) ?_; dsimp only)); refine Kd.R_lit (Kd.int .u64) _ 23 ?hg (N := 17) ?hd (xs := ([1, 2, 3, 4] : List Int)) (inner := [.int .u64 1, .int .u64 2, .int .u64 3, .int .u64 4]) (ok := fun _ => True) (okp := fun _ => True) ?hr ?hp (fun _ hk => hk) trivial (Below.refl _ _) (Nat.le_refl _) (by simp) ?_; (case hd => rfl); (case hg => rfl); (case hr => first | (go_simp; done) | (go_simp; rfl)); (case hp => exact (Reps.one (show Kd.M (Kd.int .u64) _ _ _ 1 [.int .u64 1] from rfl) (Reps.one (show Kd.M (Kd.int .u64) _ _ _ 2 [.int .u64 2] from rfl) (Reps.one (show Kd.M (Kd.int .u64) _ _ _ 3 [.int .u64 3] from rfl) (Reps.one (show Kd.M (Kd.int .u64) _ _ _ 4 [.int .u64 4] from rfl) (Reps.none _ _)))))); intro v162 w26 ho27 hb hg_ hnew_; clear hg_ hnew_; (first | rw [← Ny161.out] at ho27 | (simp only [Int.reduceToNat] at ho27; rw [← Ny161.out] at ho27)); have HO163 := Aside0.mk (Kd.R_lower (Kd.R_new' (Kd.R_new' ho27 (Kd.R_lt (by (with_reducible repeat refine kl ?_); exact (kf3 HO150 BK160 (by decide))))) (Kd.R_lt (by (with_reducible repeat refine kl ?_); exact (kf3 HO158 BK160 (by decide))))) (below_size (bq HB.out))); replace HO150 := Aside0.mk (Kd.R_elder' (by (with_reducible repeat refine kl ?_); exact (kf3 HO150 BK160 (by decide))) (Kd.R_base ho27) hb); replace HO153 := Aside0.mk (Kd.R_below (by (with_reducible repeat refine kl ?_); exact (kf3 HO153 BK160 (by decide))) hb); replace HO158 := Aside0.mk (Kd.R_elder' (by (with_reducible repeat refine kl ?_); exact (kf3 HO158 BK160 (by decide))) (Kd.R_base ho27) hb); replace BK160 := Aside0.mk (blk_below (g := gb160) (o := .cells #[.int .i64 t154, .int .i64 t155, .slice Ao25 t156.length co25] 31 (0, 0)) (by (with_reducible repeat refine bl ?_); refine blk_put (cs := #[.int .i64 t154, .int .i64 t155, .slice none 0 0]) ?_ 2 _ rfl; (with_reducible repeat refine bl ?_); refine blk_put (cs := #[.int .i64 t154, .int .i64 0, .slice none 0 0]) ?_ 1 _ rfl; (with_reducible repeat refine bl ?_); refine blk_put (cs := #[.int .i64 0, .int .i64 0, .slice none 0 0]) ?_ 0 _ rfl; (with_reducible repeat refine bl ?_); exact BK160.out) hb); replace HB := bh HB hb; clear hb ho27; obtain ⟨Ao28, co28, eo28⟩ := Kd.R_slice HO163.out; subst eo28) | ((with_reducible refine gate_callee (f := 34) rfl ?_); refine goesL_ (some 18) rfl rfl Try.func34 (by kernel_rfl) rfl #[.slice Ao28 y161.length co28] rfl (by (try simp only [List.map_toArray, List.map_cons, List.map_nil]); first | done | rfl | (simp only [List.length_drop, List.length_take]; rfl)) ?_; (with_reducible refine (steeplelaw03_few.calls k _ _ y161 t164 _ ?side1 ?side2 A3.out).mono ?_); (case side1 => repeat (first | exact (Kd.R_reads' HO163.out).2.2 | (with_reducible refine Kd.C_alloc ?_ _) | (with_reducible refine Kd.C_drewN ?_ _) | (with_reducible refine Kd.C_drew ?_))); (case side2 => exact (Kd.R_reads' HO163.out).2.1); rintro e w29 ⟨v165, rfl, ho0, hb⟩; refine ⟨_, rfl, ?_⟩; have HO166 := Aside0.mk (Kd.R_lower (Kd.R_new' ho0 (Kd.R_lt (kr HO153.out))) (below_size (bq HB.out))); replace HO150 := kb HO150 hb; replace HO153 := Aside0.mk (Kd.R_elder' (kr HO153.out) (Kd.R_base ho0) hb); replace HO158 := kb HO158 hb; replace HO163 := kb HO163 hb; replace BK160 := bb BK160 hb; replace HB := bh HB hb; (try clear hb); (try clear hb2); (try clear hk); (try clear hi); (try clear ho0); obtain ⟨Ao30, co30, eo30⟩ := Kd.R_slice HO166.out; subst eo30) | ((with_reducible refine gate_callee (f := 9) rfl ?_); refine goesL_ (some 19) rfl rfl Try.func9 (by kernel_rfl) rfl #[.int .i64 2, .slice Ao30 t164.length co30] rfl (by (try simp only [List.map_toArray, List.map_cons, List.map_nil]); first | done | rfl | (simp only [List.length_drop, List.length_take]; rfl)) ?_; (with_reducible refine (pack_Make.calls k 2 _ _ t164 t167 t168 t169 t172 _ ?side1 ?side2 A4.out).mono ?_); (case side1 => repeat (first | exact (Kd.R_reads' HO166.out).2.2 | (with_reducible refine Kd.C_alloc ?_ _) | (with_reducible refine Kd.C_drewN ?_ _) | (with_reducible refine Kd.C_drew ?_))); (case side2 => exact (Kd.R_reads' HO166.out).2.1); rintro e w31 ⟨v170, rfl, ho0, hb⟩; refine ⟨_, rfl, ?_⟩; have HO171 := Aside0.mk (Kd.R_lower (Kd.R_new' (Kd.R_new' (Kd.R_new' ho0 (Kd.R_lt (kr HO150.out))) (Kd.R_lt (kr HO158.out))) (Kd.R_lt (kr HO163.out))) (below_size (bq HB.out))); replace HO150 := Aside0.mk (Kd.R_elder' (kr HO150.out) (Kd.R_base ho0) hb); replace HO153 := kb HO153 hb; replace HO158 := Aside0.mk (Kd.R_elder' (kr HO158.out) (Kd.R_base ho0) hb); replace HO163 := Aside0.mk (Kd.R_elder' (kr HO163.out) (Kd.R_base ho0) hb); replace HO166 := kb HO166 hb; replace BK160 := bb BK160 hb; replace HB := bh HB hb; (try clear hb); (try clear hb2); (try clear hk); (try clear hi); (try clear ho0)) | ((with_reducible refine gate_dst (N := 3) rfl ?_); (try (refine gate_guard (by rfl) ?_; dsimp only)); refine box_event ?hg (N := 3) ?hd (cs := #[.int .i64 0, .int .i64 0, .slice none 0 0]) (t := 31) ?hr ?_; (case hd => rfl); (case hg => rfl); (case hr => first | (go_simp; done) | (go_simp; rfl)); intro gb173 hg w32 hbox hb; have BK173 := Aside0.mk hbox; have GW173 := ge hg HB; have GE173 := ge hg HB; have NB160_173 := nl hg BK160; have NB173_160 := ng hg BK160; replace HO150 := kb HO150 hb; replace HO153 := kb HO153 hb; replace HO158 := kb HO158 hb; replace HO163 := kb HO163 hb; replace HO166 := kb HO166 hb; replace HO171 := kb HO171 hb; replace BK160 := bb BK160 hb; replace HB := bh HB hb; clear hb hbox hg; have hnb33 := NB173_160.out; have hnc33 := NB160_173.out; obtain ⟨hcz34_0, hcz34_1, hcz34_2⟩ := zc3 BK173; obtain ⟨hfz34_0, hfz34_1, hfz34_2⟩ := zf3 BK173; obtain ⟨Ao35, co35, eo35⟩ := Kd.R_slice HO171.out; subst eo35) | ((with_reducible refine gate_callee (f := 17) rfl ?_); refine goesL_ (some 24) rfl rfl Try.func17 (by kernel_rfl) rfl #[.agg #[.int .i64 t167, .int .i64 t168, .slice Ao35 t169.length co35]] rfl (by (try simp only [List.map_toArray, List.map_cons, List.map_nil]); first | done | rfl | (simp only [List.length_drop, List.length_take]; rfl)) ?_; (with_reducible refine (pack_Rise.calls k t167 t168 _ _ t169 t174 t175 t176 t179 _ ?side1 ?side2 A5.out).mono ?_); (case side1 => refine (Kd.R_reads' (e := 23) (base := w.heap.size) (ok := fun k_ => (((True ∧ some k_ ≠ (.slice Ao19 y148.length co19 : Value).ownBlock) ∧ some k_ ≠ (.slice Ao25 t156.length co25 : Value).ownBlock) ∧ some k_ ≠ (.slice Ao28 y161.length co28 : Value).ownBlock)) (n := t169.length) (c := co35) ?_).2.2; exact (by (with_reducible repeat refine kl ?_); exact (kf3 HO171 BK173 (by decide)))); (case side2 => exact (Kd.R_reads' HO171.out).2.1); rintro e w36 ⟨v177, rfl, ho0, hb⟩; refine ⟨_, rfl, ?_⟩; have HO178 := Aside0.mk (Kd.R_lower (Kd.R_new' (Kd.R_new' (Kd.R_new' (Kd.R_new' ho0 (Kd.R_lt (by (with_reducible repeat refine kl ?_); exact (kf3 HO150 BK173 (by decide))))) (Kd.R_lt (by (with_reducible repeat refine kl ?_); exact (kf3 HO158 BK173 (by decide))))) (Kd.R_lt (by (with_reducible repeat refine kl ?_); exact (kf3 HO163 BK173 (by decide))))) (Kd.R_lt (by (with_reducible repeat refine kl ?_); exact (kf3 HO171 BK173 (by decide))))) (below_size (bq HB.out))); replace HO150 := Aside0.mk (Kd.R_elder' (by (with_reducible repeat refine kl ?_); exact (kf3 HO150 BK173 (by decide))) (Kd.R_base ho0) hb); replace HO153 := Aside0.mk (Kd.R_below (by (with_reducible repeat refine kl ?_); exact (kf3 HO153 BK173 (by decide))) hb); replace HO158 := Aside0.mk (Kd.R_elder' (by (with_reducible repeat refine kl ?_); exact (kf3 HO158 BK173 (by decide))) (Kd.R_base ho0) hb); replace HO163 := Aside0.mk (Kd.R_elder' (by (with_reducible repeat refine kl ?_); exact (kf3 HO163 BK173 (by decide))) (Kd.R_base ho0) hb); replace HO166 := Aside0.mk (Kd.R_below (by (with_reducible repeat refine kl ?_); exact (kf3 HO166 BK173 (by decide))) hb); replace HO171 := Aside0.mk (Kd.R_elder' (by (with_reducible repeat refine kl ?_); exact (kf3 HO171 BK173 (by decide))) (Kd.R_base ho0) hb); replace BK160 := Aside0.mk (blk_below (g := gb160) (o := .cells #[.int .i64 t154, .int .i64 t155, .slice Ao25 t156.length co25] 31 (0, 0)) (by (with_reducible repeat refine bl ?_); refine blk_far ?_ NB160_173.out _; (with_reducible repeat refine bl ?_); refine blk_far ?_ NB160_173.out _; (with_reducible repeat refine bl ?_); refine blk_far ?_ NB160_173.out _; (with_reducible repeat refine bl ?_); exact BK160.out) hb); replace BK173 := Aside0.mk (blk_below (g := gb173) (o := .cells #[.int .i64 t167, .int .i64 t168, .slice Ao35 t169.length co35] 31 (0, 0)) (by (with_reducible repeat refine bl ?_); refine blk_put (cs := #[.int .i64 t167, .int .i64 t168, .slice none 0 0]) ?_ 2 _ rfl; (with_reducible repeat refine bl ?_); refine blk_put (cs := #[.int .i64 t167, .int .i64 0, .slice none 0 0]) ?_ 1 _ rfl; (with_reducible repeat refine bl ?_); refine blk_put (cs := #[.int .i64 0, .int .i64 0, .slice none 0 0]) ?_ 0 _ rfl; (with_reducible repeat refine bl ?_); exact BK173.out) hb); replace HB := bh HB hb; (try clear hb); (try clear hb2); (try clear hk); (try clear hi); (try clear ho0)) | ((with_reducible refine gate_dst (N := 5) rfl ?_); (try (refine gate_guard (by rfl) ?_; dsimp only)); refine box_event ?hg (N := 5) ?hd (cs := #[.int .i64 0, .int .i64 0, .slice none 0 0]) (t := 31) ?hr ?_; (case hd => rfl); (case hg => rfl); (case hr => first | (go_simp; done) | (go_simp; rfl)); intro gb180 hg w37 hbox hb; have BK180 := Aside0.mk hbox; have GW180 := ge hg HB; have GE180 := ge hg HB; have NB160_180 := nl hg BK160; have NB180_160 := ng hg BK160; have NB173_180 := nl hg BK173; have NB180_173 := ng hg BK173; replace HO150 := kb HO150 hb; replace HO153 := kb HO153 hb; replace HO158 := kb HO158 hb; replace HO163 := kb HO163 hb; replace HO166 := kb HO166 hb; replace HO171 := kb HO171 hb; replace HO178 := kb HO178 hb; replace BK160 := bb BK160 hb; replace BK173 := bb BK173 hb; replace HB := bh HB hb; clear hb hbox hg; have hnb38 := NB180_160.out; have hnc38 := NB160_180.out; have hnb39 := NB180_173.out; have hnc39 := NB173_180.out; obtain ⟨hcz40_0, hcz40_1, hcz40_2⟩ := zc3 BK180; obtain ⟨hfz40_0, hfz40_1, hfz40_2⟩ := zf3 BK180; obtain ⟨Ao41, co41, eo41⟩ := Kd.R_slice HO178.out; subst eo41; obtain ⟨hcz42_0, hcz42_1, hcz42_2⟩ := zc3 BK160; obtain ⟨hfz42_0, hfz42_1, hfz42_2⟩ := zf3 BK160) | ((with_reducible refine gate_callee (f := 35) rfl ?_); refine goesL_ (some 28) rfl rfl Try.func35 (by kernel_rfl) rfl #[.agg #[.int .i64 t154, .int .i64 t155, .slice Ao25 t156.length co25]] rfl (by (try simp only [List.map_toArray, List.map_cons, List.map_nil]); first | done | rfl | (simp only [List.length_drop, List.length_take]; rfl)) ?_; (with_reducible refine (pack_Vec_Words.calls t154 t155 _ _ t156 t181 _ ?side1 ?side2 A6.out).mono ?_); (case side1 => refine (Kd.R_reads' (e := 23) (base := w.heap.size) (ok := fun k_ => ((((True ∧ some k_ ≠ (.slice Ao19 y148.length co19 : Value).ownBlock) ∧ some k_ ≠ (.slice Ao28 y161.length co28 : Value).ownBlock) ∧ some k_ ≠ (.slice Ao35 t169.length co35 : Value).ownBlock) ∧ some k_ ≠ (.slice Ao41 t176.length co41 : Value).ownBlock)) (n := t156.length) (c := co25) ?_).2.2; exact (by (with_reducible repeat refine kl ?_); exact (kf3 HO158 BK180 (by decide)))); (case side2 => exact (Kd.R_reads' HO158.out).2.1); rintro e w43 ⟨v182, rfl, ho0, hb⟩; refine ⟨_, rfl, ?_⟩; have HO183 := Aside0.mk (Kd.R_lower (Kd.R_new' (Kd.R_new' (Kd.R_new' (Kd.R_new' (Kd.R_new' ho0 (Kd.R_lt (by (with_reducible repeat refine kl ?_); exact (kf3 HO150 BK180 (by decide))))) (Kd.R_lt (by (with_reducible repeat refine kl ?_); exact (kf3 HO158 BK180 (by decide))))) (Kd.R_lt (by (with_reducible repeat refine kl ?_); exact (kf3 HO163 BK180 (by decide))))) (Kd.R_lt (by (with_reducible repeat refine kl ?_); exact (kf3 HO171 BK180 (by decide))))) (Kd.R_lt (by (with_reducible repeat refine kl ?_); exact (kf3 HO178 BK180 (by decide))))) (below_size (bq HB.out))); replace HO150 := Aside0.mk (Kd.R_elder' (by (with_reducible repeat refine kl ?_); exact (kf3 HO150 BK180 (by decide))) (Kd.R_base ho0) hb); replace HO153 := Aside0.mk (Kd.R_below (by (with_reducible repeat refine kl ?_); exact (kf3 HO153 BK180 (by decide))) hb); replace HO158 := Aside0.mk (Kd.R_elder' (by (with_reducible repeat refine kl ?_); exact (kf3 HO158 BK180 (by decide))) (Kd.R_base ho0) hb); replace HO163 := Aside0.mk (Kd.R_elder' (by (with_reducible repeat refine kl ?_); exact (kf3 HO163 BK180 (by decide))) (Kd.R_base ho0) hb); replace HO166 := Aside0.mk (Kd.R_below (by (with_reducible repeat refine kl ?_); exact (kf3 HO166 BK180 (by decide))) hb); replace HO171 := Aside0.mk (Kd.R_elder' (by (with_reducible repeat refine kl ?_); exact (kf3 HO171 BK180 (by decide))) (Kd.R_base ho0) hb); replace HO178 := Aside0.mk (Kd.R_elder' (by (with_reducible repeat refine kl ?_); exact (kf3 HO178 BK180 (by decide))) (Kd.R_base ho0) hb); replace BK160 := Aside0.mk (blk_below (g := gb160) (o := .cells #[.int .i64 t154, .int .i64 t155, .slice Ao25 t156.length co25] 31 (0, 0)) (by (with_reducible repeat refine bl ?_); refine blk_far ?_ NB160_180.out _; (with_reducible repeat refine bl ?_); refine blk_far ?_ NB160_180.out _; (with_reducible repeat refine bl ?_); refine blk_far ?_ NB160_180.out _; (with_reducible repeat refine bl ?_); exact BK160.out) hb); replace BK173 := Aside0.mk (blk_below (g := gb173) (o := .cells #[.int .i64 t167, .int .i64 t168, .slice Ao35 t169.length co35] 31 (0, 0)) (by (with_reducible repeat refine bl ?_); refine blk_far ?_ NB173_180.out _; (with_reducible repeat refine bl ?_); refine blk_far ?_ NB173_180.out _; (with_reducible repeat refine bl ?_); refine blk_far ?_ NB173_180.out _; (with_reducible repeat refine bl ?_); exact BK173.out) hb); replace BK180 := Aside0.mk (blk_below (g := gb180) (o := .cells #[.int .i64 t174, .int .i64 t175, .slice Ao41 t176.length co41] 31 (0, 0)) (by (with_reducible repeat refine bl ?_); refine blk_put (cs := #[.int .i64 t174, .int .i64 t175, .slice none 0 0]) ?_ 2 _ rfl; (with_reducible repeat refine bl ?_); refine blk_put (cs := #[.int .i64 t174, .int .i64 0, .slice none 0 0]) ?_ 1 _ rfl; (with_reducible repeat refine bl ?_); refine blk_put (cs := #[.int .i64 0, .int .i64 0, .slice none 0 0]) ?_ 0 _ rfl; (with_reducible repeat refine bl ?_); exact BK180.out) hb); replace HB := bh HB hb; (try clear hb); (try clear hb2); (try clear hk); (try clear hi); (try clear ho0); obtain ⟨hcz44_0, hcz44_1, hcz44_2⟩ := zc3 BK180; obtain ⟨hfz44_0, hfz44_1, hfz44_2⟩ := zf3 BK180) | ((with_reducible refine gate_callee (f := 13) rfl ?_); refine goesL_ (some 31) rfl rfl Try.func13 (by kernel_rfl) rfl #[.agg #[.int .i64 t174, .int .i64 t175, .slice Ao41 t176.length co41], .int .i64 1] rfl (by (try simp only [List.map_toArray, List.map_cons, List.map_nil]); first | done | rfl | (simp only [List.length_drop, List.length_take]; rfl)) ?_; (with_reducible refine (pack_Vec_Get.calls k t174 t175 _ _ t176 1 t184 t185 true _ ?side1 ?side2 A7.out).mono ?_); (case side1 => repeat (first | exact (Kd.R_reads' HO178.out).2.2 | (with_reducible refine Kd.C_alloc ?_ _) | (with_reducible refine Kd.C_drewN ?_ _) | (with_reducible refine Kd.C_drew ?_))); (case side2 => exact (Kd.R_reads' HO178.out).2.1); rintro e w45 ⟨rfl, hb⟩; refine ⟨_, rfl, ?_⟩; replace HO150 := kb HO150 hb; replace HO153 := kb HO153 hb; replace HO158 := kb HO158 hb; replace HO163 := kb HO163 hb; replace HO166 := kb HO166 hb; replace HO171 := kb HO171 hb; replace HO178 := kb HO178 hb; replace HO183 := kb HO183 hb; replace BK160 := bb BK160 hb; replace BK173 := bb BK173 hb; replace BK180 := bb BK180 hb; replace HB := bh HB hb; (try clear hb); (try clear hb2); (try clear hk); (try clear hi)) | ((with_reducible refine gate_dst (N := 8) rfl ?_); (try (refine gate_guard (by rfl) ?_; dsimp only)); refine box_event ?hg (N := 8) ?hd (cs := #[.int .u64 0, .int .u64 0]) (t := 25) ?hr ?_; (case hd => rfl); (case hg => rfl); (case hr => first | (go_simp; done) | (go_simp; rfl)); intro gb187 hg w46 hbox hb; have BK187 := Aside0.mk hbox; have GW187 := ge hg HB; have GE187 := ge hg HB; have NB160_187 := nl hg BK160; have NB187_160 := ng hg BK160; have NB173_187 := nl hg BK173; have NB187_173 := ng hg BK173; have NB180_187 := nl hg BK180; have NB187_180 := ng hg BK180; replace HO150 := kb HO150 hb; replace HO153 := Aside0.mk (Kd.R_below (Kd.R_elderB (kr HO153.out) gb187 (Nat.le_of_eq hg.symm)) hb); replace HO158 := kb HO158 hb; replace HO163 := kb HO163 hb; replace HO166 := Aside0.mk (Kd.R_below (Kd.R_elderB (kr HO166.out) gb187 (Nat.le_of_eq hg.symm)) hb); replace HO171 := kb HO171 hb; replace HO178 := kb HO178 hb; replace HO183 := kb HO183 hb; replace BK160 := bb BK160 hb; replace BK173 := bb BK173 hb; replace BK180 := bb BK180 hb; replace HB := bh HB hb; clear hb hbox hg; have hnb47 := NB187_160.out; have hnc47 := NB160_187.out; have hnb48 := NB187_173.out; have hnc48 := NB173_187.out; have hnb49 := NB187_180.out; have hnc49 := NB180_187.out; obtain ⟨hcz50_0, hcz50_1⟩ := zc2 BK187; obtain ⟨hfz50_0, hfz50_1⟩ := zf2 BK187; obtain ⟨Ao51, co51, eo51⟩ := Kd.R_slice HO183.out; subst eo51; have p188 : 0 ≤ (0 : Int) := (by omega); have q188 : 0 < (t181.length : Int) := of_decide_eq_true (by first | (with_reducible assumption) | assumption); obtain ⟨ad188, e188, hx188_0⟩ := Kd.at_int (Kd.R_reads' HO183.out).2.2 0 p188 q188; cases e188; have qi188 : (0 < t181.length) = True := eq_true (by omega); (try rw [show ((0 : Int)).toNat = 0 from rfl] at hx188_0); (try rw [Addr.add_zero'] at hx188_0); have hn188_0 : ad188.block ≠ gb187 := Kd.own_blk (Kd.R_ne HO183.out BK187.out (by decide)); have hn188_1 : ad188.block ≠ gb187 := Kd.own_blk (Kd.R_ne HO183.out BK187.out (by decide)); replace hx188_0 := (cell_far (p := ⟨gb187, 0, none⟩) (by first | (rw [add_block]; exact hn188_0) | (show (Addr.add _ _).block ≠ _; rw [add_block]; exact hn188_0) | exact hn188_0) (.int .u64 t184)).trans hx188_0; replace hx188_0 := (cell_far (p := ⟨gb187, 1, none⟩) (by first | (rw [add_block]; exact hn188_1) | (show (Addr.add _ _).block ≠ _; rw [add_block]; exact hn188_1) | exact hn188_1) (.int .u64 t185)).trans hx188_0; clear hn188_0; clear hn188_1; replace p188 := eq_true p188; replace q188 := eq_true q188; obtain ⟨hcz52_0, hcz52_1, hcz52_2⟩ := zc3 BK180; obtain ⟨hfz52_0, hfz52_1, hfz52_2⟩ := zf3 BK180) | (go_at_call 27; (with_reducible refine (pack_Vec_Level.calls t174 t175 _ _ t176 t189 _ ?side1 ?side2 A14.out).mono ?_); (case side1 => refine (Kd.R_reads' (e := 23) (base := w.heap.size) (ok := fun k_ => (((((True ∧ some k_ ≠ (.slice Ao19 y148.length co19 : Value).ownBlock) ∧ some k_ ≠ (.slice Ao25 t156.length co25 : Value).ownBlock) ∧ some k_ ≠ (.slice Ao28 y161.length co28 : Value).ownBlock) ∧ some k_ ≠ (.slice Ao35 t169.length co35 : Value).ownBlock) ∧ some k_ ≠ (.slice (some ad188) t181.length co51 : Value).ownBlock)) (n := t176.length) (c := co41) ?_).2.2; exact (by (with_reducible repeat refine kl ?_); exact (kf2 HO178 BK187 (by decide)))); (case side2 => exact (Kd.R_reads' HO178.out).2.1); rintro e w53 ⟨rfl, hb⟩; replace HO150 := Aside0.mk (Kd.R_below (by (with_reducible repeat refine kl ?_); exact (kf2 HO150 BK187 (by decide))) hb); replace HO153 := Aside0.mk (Kd.R_below (by (with_reducible repeat refine kl ?_); exact (Kd.R_mono (Kd.R_far (p := ⟨gb187, 1, none⟩) (Kd.R_far (p := ⟨gb187, 0, none⟩) (Kd.R_mono HO153.out (fun k_ hk => (⟨hk, hk.2⟩ : _ ∧ k_ ≠ gb187))) (fun _ hk => hk.2) (.int .u64 t184)) (fun _ hk => hk.2) (.int .u64 t185)) (fun _ h_ => h_.1))) hb); replace HO158 := Aside0.mk (Kd.R_below (by (with_reducible repeat refine kl ?_); exact (kf2 HO158 BK187 (by decide))) hb); replace HO163 := Aside0.mk (Kd.R_below (by (with_reducible repeat refine kl ?_); exact (kf2 HO163 BK187 (by decide))) hb); replace HO166 := Aside0.mk (Kd.R_below (by (with_reducible repeat refine kl ?_); exact (Kd.R_mono (Kd.R_far (p := ⟨gb187, 1, none⟩) (Kd.R_far (p := ⟨gb187, 0, none⟩) (Kd.R_mono HO166.out (fun k_ hk => (⟨hk, hk.2⟩ : _ ∧ k_ ≠ gb187))) (fun _ hk => hk.2) (.int .u64 t184)) (fun _ hk => hk.2) (.int .u64 t185)) (fun _ h_ => h_.1))) hb); replace HO171 := Aside0.mk (Kd.R_below (by (with_reducible repeat refine kl ?_); exact (kf2 HO171 BK187 (by decide))) hb); replace HO178 := Aside0.mk (Kd.R_below (by (with_reducible repeat refine kl ?_); exact (kf2 HO178 BK187 (by decide))) hb); replace HO183 := Aside0.mk (Kd.R_below (by (with_reducible repeat refine kl ?_); exact (kf2 HO183 BK187 (by decide))) hb); replace BK160 := Aside0.mk (blk_below (g := gb160) (o := .cells #[.int .i64 t154, .int .i64 t155, .slice Ao25 t156.length co25] 31 (0, 0)) (by (with_reducible repeat refine bl ?_); refine blk_far ?_ NB160_187.out _; (with_reducible repeat refine bl ?_); refine blk_far ?_ NB160_187.out _; (with_reducible repeat refine bl ?_); exact BK160.out) hb); replace BK173 := Aside0.mk (blk_below (g := gb173) (o := .cells #[.int .i64 t167, .int .i64 t168, .slice Ao35 t169.length co35] 31 (0, 0)) (by (with_reducible repeat refine bl ?_); refine blk_far ?_ NB173_187.out _; (with_reducible repeat refine bl ?_); refine blk_far ?_ NB173_187.out _; (with_reducible repeat refine bl ?_); exact BK173.out) hb); replace BK180 := Aside0.mk (blk_below (g := gb180) (o := .cells #[.int .i64 t174, .int .i64 t175, .slice Ao41 t176.length co41] 31 (0, 0)) (by (with_reducible repeat refine bl ?_); refine blk_far ?_ NB180_187.out _; (with_reducible repeat refine bl ?_); refine blk_far ?_ NB180_187.out _; (with_reducible repeat refine bl ?_); exact BK180.out) hb); replace BK187 := Aside0.mk (blk_below (g := gb187) (o := .cells #[.int .u64 t184, .int .u64 t185] 25 (0, 0)) (by (with_reducible repeat refine bl ?_); refine blk_put (cs := #[.int .u64 t184, .int .u64 0]) ?_ 1 _ rfl; (with_reducible repeat refine bl ?_); refine blk_put (cs := #[.int .u64 0, .int .u64 0]) ?_ 0 _ rfl; (with_reducible repeat refine bl ?_); exact BK187.out) hb); replace HB := bh HB hb; (try clear hb); (try clear hb2); (try clear hk); (try clear hi); obtain ⟨hcz54_0, hcz54_1⟩ := zc2 BK187; obtain ⟨hfz54_0, hfz54_1⟩ := zf2 BK187))
         go_ret
         exact ⟨by first | rfl | (simp [errW_none, errW_some] <;> rfl) | (simp [*, errW_none, errW_some] <;> rfl), bq HB.out⟩
        ·replace c16 := Bool.eq_false_iff.mpr c16
         subst c16
         have H1 : (none) = some r := by rw [if_neg (show ¬ (false = true) by decide)] at H; exact H
         clear H
         have H := H1
         clear H1
         exact absurd H (by simp)
       ·rw [if_neg c15] at H
        exact absurd H (by simp)
      ·rw [if_neg c13] at H
       exact absurd H (by simp)
     ·rw [if_neg c12] at H
      exact absurd H (by simp)
    ·rw [if_neg c11] at H
     exact absurd H (by simp)
   ·rw [if_neg c10] at H
    exact absurd H (by simp)
  ·rw [if_neg c9] at H
   exact absurd H (by simp)
 ·rw [if_neg c8] at H
  exact absurd H (by simp)

/-! ### steepleref01_bit: function 50 -/
def steepleref01_bit.f (a0_0 : Int) (a0_1 : Int) (a1 : Int) : Option (Int) := if a1 ≥ 64 then (if 0 ≤ (IntKind.u64.wrap (wrap64 (a1 - 64))) then (some (Go.bits .and .u64 (shr .u64 a0_0 (IntKind.u64.wrap (wrap64 (a1 - 64)))) 1)) else (none)) else (if 0 ≤ (IntKind.u64.wrap (a1)) then (some (Go.bits .and .u64 (shr .u64 a0_1 (IntKind.u64.wrap (a1))) 1)) else (none))
set_option maxHeartbeats 8000000 in
set_option maxRecDepth 100000 in
theorem steepleref01_bit.calls (a0_0 : Int) (a0_1 : Int) (a1 : Int) (r : Int) (w : World) (h : steepleref01_bit.f a0_0 a0_1 a1 = some r) :
  Calls Try.prog 50 #[.agg #[.int .u64 a0_0, .int .u64 a0_1], .int .i64 a1] w fun e w' => e = .returned (.int .u64 r) ∧ Below w.heap.size w w' := by
 have hu44 := Try.underlying44
 have HB := Aside0.mk (Below.refl w.heap.size w)
 have H : (if a1 ≥ 64 then (if 0 ≤ (IntKind.u64.wrap (wrap64 (a1 - 64))) then (some (Go.bits .and .u64 (shr .u64 a0_0 (IntKind.u64.wrap (wrap64 (a1 - 64)))) 1)) else (none)) else (if 0 ≤ (IntKind.u64.wrap (a1)) then (some (Go.bits .and .u64 (shr .u64 a0_1 (IntKind.u64.wrap (a1))) 1)) else (none))) = some r := h
 clear h
 by_cases c3 : a1 ≥ 64
 ·rw [if_pos c3] at H
  have c3b0 : decide (64 ≤ a1) = true := decide_eq_true c3
  clear c3
  obtain ⟨ji4, hji4⟩ : ∃ j_ : Int, (IntKind.u64.wrap (wrap64 (a1 - 64))) = j_ := ⟨_, rfl⟩
  replace H : (if 0 ≤ (ji4) then (some (Go.bits .and .u64 (shr .u64 a0_0 (ji4)) 1)) else (none)) = some r := by first | (rw [hji4] at H; exact H) | (simp only [hji4] at H ⊢; exact H)
  by_cases c5 : 0 ≤ (ji4)
  ·rw [if_pos c5] at H
   have c5b0 := eq_true c5
   have c5b1 : decide (0 ≤ (ji4)) = true := decide_eq_true c5
   clear c5
   obtain ⟨ji6, hji6⟩ : ∃ j_ : Int, (shr .u64 a0_0 (ji4)) = j_ := ⟨_, rfl⟩
   replace H : (some (Go.bits .and .u64 (ji6) 1)) = some r := by first | (rw [hji6] at H; exact H) | (simp only [hji6] at H ⊢; exact H)
   have hji6_ : (a0_0 / 2 ^ min (ji4).toNat 64) = ji6 := hji6
   have hji6z : (ji4) ≤ 64 → (a0_0 / 2 ^ (ji4).toNat) = ji6 := shr_small hji6
   obtain rfl := Option.some.inj H
   go_enter Try.func50, Try.ntmps50
   go_wp2_with (first | ((with_reducible refine gate_dst (N := 2) rfl ?_); refine box_event ?hg (N := 2) ?hd (cs := #[.int .u64 a0_0, .int .u64 a0_1]) (t := 44) ?hr ?_; (case hd => rfl); (case hg => rfl); (case hr => first | (go_simp; done) | (go_simp; rfl)); intro gb190 hg w7 hbox hb; have BK190 := Aside0.mk hbox; have GW190 := ge hg HB; have GE190 := ge hg HB; replace HB := bh HB hb; clear hb hbox hg; obtain ⟨hcz8_0, hcz8_1⟩ := zc2 BK190; obtain ⟨hfz8_0, hfz8_1⟩ := zf2 BK190))
   go_ret
   exact ⟨by first | rfl | (simp [errW_none, errW_some] <;> rfl) | (simp only [← hji4, ← hji6]; first | rfl | (simp [errW_none, errW_some] <;> rfl)) | (simp [*, errW_none, errW_some] <;> rfl), bq HB.out⟩
  ·rw [if_neg c5] at H
   exact absurd H (by simp)
 ·rw [if_neg c3] at H
  have c3b0 : decide (64 ≤ a1) = false := decide_eq_false c3
  clear c3
  obtain ⟨ji9, hji9⟩ : ∃ j_ : Int, (IntKind.u64.wrap (a1)) = j_ := ⟨_, rfl⟩
  replace H : (if 0 ≤ (ji9) then (some (Go.bits .and .u64 (shr .u64 a0_1 (ji9)) 1)) else (none)) = some r := by first | (rw [hji9] at H; exact H) | (simp only [hji9] at H ⊢; exact H)
  by_cases c10 : 0 ≤ (ji9)
  ·rw [if_pos c10] at H
   have c10b0 := eq_true c10
   have c10b1 : decide (0 ≤ (ji9)) = true := decide_eq_true c10
   clear c10
   obtain ⟨ji11, hji11⟩ : ∃ j_ : Int, (shr .u64 a0_1 (ji9)) = j_ := ⟨_, rfl⟩
   replace H : (some (Go.bits .and .u64 (ji11) 1)) = some r := by first | (rw [hji11] at H; exact H) | (simp only [hji11] at H ⊢; exact H)
   have hji11_ : (a0_1 / 2 ^ min (ji9).toNat 64) = ji11 := hji11
   have hji11z : (ji9) ≤ 64 → (a0_1 / 2 ^ (ji9).toNat) = ji11 := shr_small hji11
   obtain rfl := Option.some.inj H
   go_enter Try.func50, Try.ntmps50
   go_wp2_with (first | ((with_reducible refine gate_dst (N := 2) rfl ?_); refine box_event ?hg (N := 2) ?hd (cs := #[.int .u64 a0_0, .int .u64 a0_1]) (t := 44) ?hr ?_; (case hd => rfl); (case hg => rfl); (case hr => first | (go_simp; done) | (go_simp; rfl)); intro gb190 hg w12 hbox hb; have BK190 := Aside0.mk hbox; have GW190 := ge hg HB; have GE190 := ge hg HB; replace HB := bh HB hb; clear hb hbox hg; obtain ⟨hcz13_0, hcz13_1⟩ := zc2 BK190; obtain ⟨hfz13_0, hfz13_1⟩ := zf2 BK190))
   go_ret
   exact ⟨by first | rfl | (simp [errW_none, errW_some] <;> rfl) | (simp only [← hji9, ← hji11]; first | rfl | (simp [errW_none, errW_some] <;> rfl)) | (simp [*, errW_none, errW_some] <;> rfl), bq HB.out⟩
  ·rw [if_neg c10] at H
   exact absurd H (by simp)

/-! ### steepleref01_Of: function 25 -/
mutual
def steepleref01_Of.j0 : Nat → Int → List Int → Bool → Int → Int → Option (Bool)
 | 0, _, _, _, _, _ => none
 | k + 1, x0, x5, x13, x192000, x192001 => if x13 = true then (some false) else (if 0 ≤ x0 then (if x0 < (x5.length : Int) then (steepleref01_Of.l0 k (rd x5 x0) x192000 x192001) else (none)) else (none))
def steepleref01_Of.l0 : Nat → Int → Int → Int → Option (Bool)
 | 0, _, _, _ => none
 | k + 1, x6, x192000, x192001 => if x6 < 128 then ((steepleref01_bit.f x192000 x192001 x6).bind fun t196 => (if t196 = 1 then (some false) else (steepleref01_Of.l0 k (wrap64 (x6 + 1)) x192000 x192001))) else (some true)
end
def steepleref01_Of.f (k : Nat) (a0 : Int) (a1_0 : Int) (a1_1 : Int) : Option (Bool) := (some (([1, 2, 4, 8, 16, 32, 64, 128] : List Int) : List Int)).bind fun y192 => (if a0 < 0 then (steepleref01_Of.j0 k a0 y192 true a1_0 a1_1) else (steepleref01_Of.j0 k a0 y192 (decide (a0 > 7)) a1_0 a1_1))
theorem steepleref01_Of.mono_l : ∀ k, (∀ y0 y1 y2 y3 y4, LeO (steepleref01_Of.j0 k y0 y1 y2 y3 y4) (steepleref01_Of.j0 (k + 1) y0 y1 y2 y3 y4)) ∧ (∀ y0 y1 y2, LeO (steepleref01_Of.l0 k y0 y1 y2) (steepleref01_Of.l0 (k + 1) y0 y1 y2))
 | 0 => ⟨fun _ _ _ _ _ r h => by simp [steepleref01_Of.j0] at h, fun _ _ _ r h => by simp [steepleref01_Of.l0] at h⟩
 | k + 1 => by
  obtain ⟨ih0, ih1⟩ := steepleref01_Of.mono_l k
  refine ⟨?_, ?_⟩
  ·intro y0 y1 y2 y3 y4
   unfold steepleref01_Of.j0
   repeat' first
   | (with_reducible exact ih0 _ _ _ _ _)
   | (with_reducible exact ih1 _ _ _)
   | (with_reducible exact LeO.refl _)
   | (with_reducible exact LeO.none _)
   | (with_reducible refine LeO.ite ?_ ?_)
   | (with_reducible refine LeO.bind ?_ (fun _ => ?_))
   | exact ih0 _ _ _ _ _
   | exact ih1 _ _ _
   | exact LeO.none _
   | refine LeO.ite ?_ ?_
   | refine LeO.bind ?_ (fun _ => ?_)
  ·intro y0 y1 y2
   unfold steepleref01_Of.l0
   repeat' first
   | (with_reducible exact ih0 _ _ _ _ _)
   | (with_reducible exact ih1 _ _ _)
   | (with_reducible exact LeO.refl _)
   | (with_reducible exact LeO.none _)
   | (with_reducible refine LeO.ite ?_ ?_)
   | (with_reducible refine LeO.bind ?_ (fun _ => ?_))
   | exact ih0 _ _ _ _ _
   | exact ih1 _ _ _
   | exact LeO.none _
   | refine LeO.ite ?_ ?_
   | refine LeO.bind ?_ (fun _ => ?_)
theorem steepleref01_Of.mono : ∀ a0 a1 a2 k, LeO (steepleref01_Of.f k a0 a1 a2) (steepleref01_Of.f (k + 1) a0 a1 a2) := by
 intro a0 a1 a2 k
 obtain ⟨ih0, ih1⟩ := steepleref01_Of.mono_l k
 unfold steepleref01_Of.f
 repeat' first
   | (with_reducible exact ih0 _ _ _ _ _)
   | (with_reducible exact ih1 _ _ _)
   | (with_reducible exact LeO.refl _)
   | (with_reducible exact LeO.none _)
   | (with_reducible refine LeO.ite ?_ ?_)
   | (with_reducible refine LeO.bind ?_ (fun _ => ?_))
   | exact ih0 _ _ _ _ _
   | exact ih1 _ _ _
   | exact LeO.none _
   | refine LeO.ite ?_ ?_
   | refine LeO.bind ?_ (fun _ => ?_)
set_option maxHeartbeats 8000000 in
set_option maxRecDepth 100000 in
theorem steepleref01_Of.calls (k : Nat) (a0 : Int) (a1_0 : Int) (a1_1 : Int) (r : Bool) (w : World) (h : steepleref01_Of.f k a0 a1_0 a1_1 = some r) :
  Calls Try.prog 25 #[.int .i64 a0, .agg #[.int .u64 a1_0, .int .u64 a1_1]] w fun e w' => e = .returned (.bool r) ∧ Below w.heap.size w w' := by
 have hu44 := Try.underlying44
 have HB := Aside0.mk (Below.refl w.heap.size w)
 have H : ((some (([1, 2, 4, 8, 16, 32, 64, 128] : List Int) : List Int)).bind fun y192 => (if a0 < 0 then (steepleref01_Of.j0 k a0 y192 true a1_0 a1_1) else (steepleref01_Of.j0 k a0 y192 (decide (a0 > 7)) a1_0 a1_1))) = some r := h
 clear h
 obtain ⟨y192, hy192⟩ : ∃ y_ : List Int, y_ = (([1, 2, 4, 8, 16, 32, 64, 128] : List Int)) := ⟨_, rfl⟩
 replace H : (if a0 < 0 then (steepleref01_Of.j0 k a0 y192 true a1_0 a1_1) else (steepleref01_Of.j0 k a0 y192 (decide (a0 > 7)) a1_0 a1_1)) = some r := by first | (rw [hy192]; with_reducible exact H) | (have H2_ := (Option.bind_some _ _).symm.trans H; rw [hy192]; with_reducible exact H2_) | (have H2_ := (Option.bind_some _ _).symm.trans H; with_reducible exact H2_) | with_reducible exact H | (rw [hy192]; exact H) | exact H
 have Ny192 := Aside0.mk hy192
 clear hy192
 have HC3 := Aside0.mk H
 clear H
 go_enter Try.func25, Try.ntmps25
 go_upto_region 2 with (first | ((with_reducible refine gate_dst (N := 3) rfl ?_); refine box_event ?hg (N := 3) ?hd (cs := #[.int .u64 a1_0, .int .u64 a1_1]) (t := 44) ?hr ?_; (case hd => rfl); (case hg => rfl); (case hr => first | (go_simp; done) | (go_simp; rfl)); intro gb191 hg w4 hbox hb; have BK191 := Aside0.mk hbox; have GW191 := ge hg HB; have GE191 := ge hg HB; replace HB := bh HB hb; clear hb hbox hg) | ((with_reducible refine gate_dst (N := 7) rfl ?_); refine Kd.R_lit (Kd.int .i64) _ 3 ?hg (N := 7) ?hd (xs := ([1, 2, 4, 8, 16, 32, 64, 128] : List Int)) (inner := [.int .i64 1, .int .i64 2, .int .i64 4, .int .i64 8, .int .i64 16, .int .i64 32, .int .i64 64, .int .i64 128]) (ok := fun _ => True) (okp := fun _ => True) ?hr ?hp (fun _ hk => hk) trivial (Below.refl _ _) (Nat.le_refl _) (by simp) ?_; (case hd => rfl); (case hg => rfl); (case hr => first | (go_simp; done) | (go_simp; rfl)); (case hp => exact (Reps.one (show Kd.M (Kd.int .i64) _ _ _ 1 [.int .i64 1] from rfl) (Reps.one (show Kd.M (Kd.int .i64) _ _ _ 2 [.int .i64 2] from rfl) (Reps.one (show Kd.M (Kd.int .i64) _ _ _ 4 [.int .i64 4] from rfl) (Reps.one (show Kd.M (Kd.int .i64) _ _ _ 8 [.int .i64 8] from rfl) (Reps.one (show Kd.M (Kd.int .i64) _ _ _ 16 [.int .i64 16] from rfl) (Reps.one (show Kd.M (Kd.int .i64) _ _ _ 32 [.int .i64 32] from rfl) (Reps.one (show Kd.M (Kd.int .i64) _ _ _ 64 [.int .i64 64] from rfl) (Reps.one (show Kd.M (Kd.int .i64) _ _ _ 128 [.int .i64 128] from rfl) (Reps.none _ _)))))))))); intro v193 w5 ho6 hb hg_ hnew_; clear hg_ hnew_; (first | rw [← Ny192.out] at ho6 | (simp only [Int.reduceToNat] at ho6; rw [← Ny192.out] at ho6)); have HO194 := kw ho6 HB; replace BK191 := bb BK191 hb; replace HB := bh HB hb; clear hb ho6))
 (try simp only [Act.put, List.setIfInBounds_toArray, List.set_cons_zero, List.set_cons_succ])
 go_cut [13] (fun v13 wc => ∃ (kq : Nat) (x13_2 : Bool), v13 = .bool x13_2 ∧ Aside0 (steepleref01_Of.j0 kq a0 y192 x13_2 a1_0 a1_1 = some r) ∧ Aside0 (kq ≤ k) ∧ Aside0 (Kd.R (Kd.int .i64) 3 wc w.heap.size (fun _ => True) v193 y192) ∧ Aside0 (wc.heap[gb191]? = some (.cells #[.int .u64 a1_0, .int .u64 a1_1] 44 (0, 0))) ∧ Aside0 (Below w.heap.size w wc))
 case first =>
  have H := HC3.out
  clear HC3
  by_cases c7 : a0 < 0
  ·rw [if_pos c7] at H
   have c7b0 : decide (a0 < 0) = true := decide_eq_true c7
   clear c7
   (first | rw [c7b0] | (simp only [i64_w, i32_w]; rw [c7b0]) | skip)
   have H' := Aside0.mk H
   clear H
   go_wp2
   go_meet
   case rel => exact ⟨_, (true), (by first | rfl | (simp; done) | (simp [*]; done)), H', ⟨by first | omega | exact Nat.le_refl _⟩, ⟨kr HO194.out⟩, ⟨bk BK191.out⟩, ⟨bq HB.out⟩⟩
  ·rw [if_neg c7] at H
   have c7b0 : decide (a0 < 0) = false := decide_eq_false c7
   clear c7
   (first | rw [c7b0] | (simp only [i64_w, i32_w]; rw [c7b0]) | skip)
   have H' := Aside0.mk H
   clear H
   go_wp2
   go_meet
   case rel => exact ⟨_, (decide (a0 > 7)), (by first | rfl | (simp; done) | (simp [*]; done)), H', ⟨by first | omega | exact Nat.le_refl _⟩, ⟨kr HO194.out⟩, ⟨bk BK191.out⟩, ⟨bq HB.out⟩⟩
 case rest =>
  clear HC3
  try clear c2
  try clear p2
  try clear c7
  try clear c7b0
  obtain ⟨kq, x13_2, rfl, HA, HJ2, HO_5, BK191, HB⟩ := hcut
  cases kq with
  | zero => exact absurd HA.out (by simp [steepleref01_Of.j0])
  | succ kj2 =>
   have H := HA.out
   clear HA
   simp only [steepleref01_Of.j0] at H
   by_cases c8 : x13_2 = true
   ·subst c8
    have H1 : (some false) = some r := by rw [if_pos rfl] at H; exact H
    clear H
    have H := H1
    clear H1
    obtain rfl := Option.some.inj H
    go_wp2
    go_ret
    exact ⟨by first | rfl | (simp [errW_none, errW_some] <;> rfl) | (simp [*, errW_none, errW_some] <;> rfl), bq HB.out⟩
   ·replace c8 := Bool.eq_false_iff.mpr c8
    subst c8
    have H1 : (if 0 ≤ a0 then (if a0 < (y192.length : Int) then (steepleref01_Of.l0 kj2 (rd y192 a0) a1_0 a1_1) else (none)) else (none)) = some r := by rw [if_neg (show ¬ (false = true) by decide)] at H; exact H
    clear H
    have H := H1
    clear H1
    by_cases c9 : 0 ≤ a0
    ·rw [if_pos c9] at H
     have c9b0 : decide (0 ≤ a0) = true := decide_eq_true c9
     clear c9
     by_cases c10 : a0 < (y192.length : Int)
     ·rw [if_pos c10] at H
      have c10b0 : decide (a0 < (y192.length : Int)) = true := decide_eq_true c10
      clear c10
      have H' := Aside0.mk H
      clear H
      obtain ⟨Ao11, co11, eo11⟩ := Kd.R_slice HO_5.out
      subst eo11
      have p195 : 0 ≤ (a0 : Int) := of_decide_eq_true (by first | (with_reducible assumption) | assumption)
      have q195 : a0 < (y192.length : Int) := of_decide_eq_true (by first | (with_reducible assumption) | assumption)
      (try (obtain ⟨Ap_, cp_, ep_⟩ := Kd.R_slice HO_5.out; subst ep_))
      obtain ⟨ad195, e195, hx195_0⟩ := Kd.at_int (Kd.R_reads' HO_5.out).2.2 a0 p195 q195
      cases e195
      replace p195 := eq_true p195
      replace q195 := eq_true q195
      go_wp2
      go_loopg [6] kj2 (fun kq v6 w' => ∃ (x6_2 : Int), v6 = .int .i64 x6_2 ∧ Aside0 (steepleref01_Of.l0 kq x6_2 a1_0 a1_1 = some r) ∧ Aside0 (kq ≤ kj2) ∧ Aside0 (w'.heap[gb191]? = some (.cells #[.int .u64 a1_0, .int .u64 a1_1] 44 (0, 0))) ∧ Aside0 (Below w.heap.size w w'))
      case atStart => exact ⟨(rd y192 a0), (by first | rfl | (simp; done) | (simp [*]; done)), H', ⟨Nat.le_refl _⟩, ⟨bk BK191.out⟩, ⟨bq HB.out⟩⟩
      case round =>
       clear H'
       try clear c1
       try clear p1
       try clear q1
       try clear hx1
       try clear c2
       try clear p2
       try clear c7
       try clear c7b0
       try clear c8
       try clear c9
       try clear c9b0
       try clear c10
       try clear c10b0
       try clear hx195_0
       try clear p195
       try clear p2
       try clear q195
       obtain ⟨x6_2, rfl, HA, HK2, BK191, HB⟩ := hrel
       cases gk with
       | zero => exact absurd HA.out (by simp [steepleref01_Of.l0])
       | succ k2 =>
        have H := HA.out
        clear HA
        simp only [steepleref01_Of.l0] at H
        by_cases c12 : x6_2 < 128
        ·rw [if_pos c12] at H
         have c12b0 : decide (x6_2 < 128) = true := decide_eq_true c12
         clear c12
         replace H := Option.bind_eq_some_iff.mp H
         obtain ⟨t196, A130, H⟩ := H
         replace H : (if t196 = 1 then (some false) else (steepleref01_Of.l0 k2 (wrap64 (x6_2 + 1)) a1_0 a1_1)) = some r := H
         have A13 := Aside0.mk A130
         clear A130
         by_cases c14 : t196 = 1
         ·rw [if_pos c14] at H
          have c14b0 : (t196 == 1) = true := beq_iff_eq.mpr c14
          have c14b1 : (t196 != 1) = false := bne_eq_false_iff_eq.mpr c14
          clear c14
          obtain rfl := Option.some.inj H
          obtain ⟨hcz15_0, hcz15_1⟩ := zc2 BK191
          obtain ⟨hfz15_0, hfz15_1⟩ := zf2 BK191
          go_wp2_with (first | ((with_reducible refine gate_callee (f := 50) rfl ?_); refine goesL_ (some 24) rfl rfl Try.func50 (by kernel_rfl) rfl #[.agg #[.int .u64 a1_0, .int .u64 a1_1], .int .i64 x6_2] rfl (by (try simp only [List.map_toArray, List.map_cons, List.map_nil]); first | done | rfl | (simp only [List.length_drop, List.length_take]; rfl)) ?_; (with_reducible refine (steepleref01_bit.calls a1_0 a1_1 x6_2 t196 _ A13.out).mono ?_); rintro e w16 ⟨rfl, hb⟩; refine ⟨_, rfl, ?_⟩; replace BK191 := bb BK191 hb; replace HB := bh HB hb; (try clear hb); (try clear hb2); (try clear hk); (try clear hi)))
          go_ret
          exact ⟨by first | rfl | (simp [errW_none, errW_some] <;> rfl) | (simp [*, errW_none, errW_some] <;> rfl), bq HB.out⟩
         ·rw [if_neg c14] at H
          have c14b0 : (t196 == 1) = false := beq_eq_false_iff_ne.mpr c14
          have c14b1 : (t196 != 1) = true := bne_iff_ne.mpr c14
          have H' := Aside0.mk H
          clear H
          obtain ⟨hcz17_0, hcz17_1⟩ := zc2 BK191
          obtain ⟨hfz17_0, hfz17_1⟩ := zf2 BK191
          go_wp2_with (first | ((with_reducible refine gate_callee (f := 50) rfl ?_); refine goesL_ (some 24) rfl rfl Try.func50 (by kernel_rfl) rfl #[.agg #[.int .u64 a1_0, .int .u64 a1_1], .int .i64 x6_2] rfl (by (try simp only [List.map_toArray, List.map_cons, List.map_nil]); first | done | rfl | (simp only [List.length_drop, List.length_take]; rfl)) ?_; (with_reducible refine (steepleref01_bit.calls a1_0 a1_1 x6_2 t196 _ A13.out).mono ?_); rintro e w18 ⟨rfl, hb⟩; refine ⟨_, rfl, ?_⟩; replace BK191 := bb BK191 hb; replace HB := bh HB hb; (try clear hb); (try clear hb2); (try clear hk); (try clear hi)))
          go_roundg k2
          case measure => have := HJ2.out; have := HK2.out; omega
          case rel => exact ⟨(wrap64 (x6_2 + 1)), (by first | rfl | (simp; done) | (simp [*]; done)), H', ⟨by have := HJ2.out; have := HK2.out; omega⟩, ⟨bk BK191.out⟩, ⟨bq HB.out⟩⟩
        ·rw [if_neg c12] at H
         have c12b0 : decide (x6_2 < 128) = false := decide_eq_false c12
         clear c12
         obtain rfl := Option.some.inj H
         go_wp2
         go_ret
         exact ⟨by first | rfl | (simp [errW_none, errW_some] <;> rfl) | (simp [*, errW_none, errW_some] <;> rfl), bq HB.out⟩
     ·rw [if_neg c10] at H
      exact absurd H (by simp)
    ·rw [if_neg c9] at H
     exact absurd H (by simp)

end Go.Proofs.Ytceneggampgboaa.P
