/- Written by a program of this session: functions that the law reaches, as Lean functions, and that the code comes to their answers. Conditions: those that each theorem names. -/
import Derived.Test.YtceneggampgboaaPx0
import Derived.Test.YtceneggampgboaaPx3
import Derived.Test.YtceneggampgboaaHClone
namespace Go.Proofs.Ytceneggampgboaa.P
open Go.RowKit Go.Proofs.YtceneggampgboaaX Go.Proofs.YtceneggampgboaaW.PrintWords Go.Proofs.YtceneggampgboaaW.PrintLast Go.Proofs.YtceneggampgboaaW.PrintMore
attribute [local go_sem] max2_int min2_int max_two min_two max_three min_three max_four min_four   -- for this text's walks alone
set_option linter.unusedVariables false
set_option linter.unusedSimpArgs false

/-! ### pack_Vec_With: function 14 -/
def pack_Vec_With.j0 : Nat → Int → Bool → Int → Int → List Int → Int → Int → Option (Int × Int × List Int × Int)
 | 0, _, _, _, _, _, _, _ => none
 | k + 1, x1, x11, x254000, x254001, x254002, x255000, x255001 => if x11 = true then (some (0, 0, ([] : List Int), 4)) else ((octet_Of.f k x254000 x255000 x255001).bind fun t256 => (if t256 = true then ((pack_lanes.f x254000).bind fun t257 => (if t257 = 0 then (none) else (if 0 ≤ x254000 then ((slices_Clone_uint64_uint64.f x254002).bind fun t258 => (if 0 ≤ (wrap64 (Int.tdiv x1 t257)) then (if (wrap64 (Int.tdiv x1 t257)) < (t258.length : Int) then ((pack_Vec_mask.f x254000 x254001 x254002).bind fun t262 => (if 0 ≤ (shl .i64 (Int.tmod x1 t257) x254000) then ((pack_vec.f x254000 x254001 (t258.set ((wrap64 (Int.tdiv x1 t257)) : Int).toNat (Go.bits .or .u64 (Go.bits .andNot .u64 (rd t258 (wrap64 (Int.tdiv x1 t257))) (shl .u64 t262 (shl .i64 (Int.tmod x1 t257) x254000))) (shl .u64 x255001 (shl .i64 (Int.tmod x1 t257) x254000))))).bind fun bt264 => (some (bt264.1, bt264.2.1, bt264.2.2, 0))) else (none))) else (none)) else (none))) else (none)))) else (some (0, 0, ([] : List Int), 5))))
def pack_Vec_With.f (k : Nat) (a0_0 : Int) (a0_1 : Int) (l0_2 : List Int) (a1 : Int) (a2_0 : Int) (a2_1 : Int) : Option (Int × Int × List Int × Int) := if a1 < 0 then (pack_Vec_With.j0 k a1 true a0_0 a0_1 l0_2 a2_0 a2_1) else (pack_Vec_With.j0 k a1 (decide (a1 ≥ a0_1)) a0_0 a0_1 l0_2 a2_0 a2_1)
theorem pack_Vec_With.mono_l : ∀ k, (∀ y0 y1 y2 y3 y4 y5 y6, LeO (pack_Vec_With.j0 k y0 y1 y2 y3 y4 y5 y6) (pack_Vec_With.j0 (k + 1) y0 y1 y2 y3 y4 y5 y6))
 | 0 => fun _ _ _ _ _ _ _ r h => by simp [pack_Vec_With.j0] at h
 | k + 1 => by
  have ih0 := pack_Vec_With.mono_l k
  ·intro y0 y1 y2 y3 y4 y5 y6
   unfold pack_Vec_With.j0
   repeat' first
   | (with_reducible exact ih0 _ _ _ _ _ _ _)
   | (with_reducible exact octet_Of.mono _ _ _ _)
   | (with_reducible exact LeO.refl _)
   | (with_reducible exact LeO.none _)
   | (with_reducible refine LeO.ite ?_ ?_)
   | (with_reducible refine LeO.bind ?_ (fun _ => ?_))
   | exact ih0 _ _ _ _ _ _ _
   | exact octet_Of.mono _ _ _ _
   | exact LeO.none _
   | refine LeO.ite ?_ ?_
   | refine LeO.bind ?_ (fun _ => ?_)
theorem pack_Vec_With.mono : ∀ a0 a1 a2 a3 a4 a5 k, LeO (pack_Vec_With.f k a0 a1 a2 a3 a4 a5) (pack_Vec_With.f (k + 1) a0 a1 a2 a3 a4 a5) := by
 intro a0 a1 a2 a3 a4 a5 k
 have ih0 := pack_Vec_With.mono_l k
 unfold pack_Vec_With.f
 repeat' first
   | (with_reducible exact ih0 _ _ _ _ _ _ _)
   | (with_reducible exact octet_Of.mono _ _ _ _)
   | (with_reducible exact LeO.refl _)
   | (with_reducible exact LeO.none _)
   | (with_reducible refine LeO.ite ?_ ?_)
   | (with_reducible refine LeO.bind ?_ (fun _ => ?_))
   | exact ih0 _ _ _ _ _ _ _
   | exact octet_Of.mono _ _ _ _
   | exact LeO.none _
   | refine LeO.ite ?_ ?_
   | refine LeO.bind ?_ (fun _ => ?_)
def pack_Vec_With.T8 : Bool × List (List Nat × List Nat) := (true, [([], []), ([], []), ([], []), ([1, 2], [1, 2]), ([], []), ([], []), ([], []), ([5, 6], [5, 6]), ([4, 7], [4, 7]), ([8], [8]), ([], []), ([10], [10]), ([], []), ([11, 12], [11, 12]), ([9, 13], [9, 13]), ([], []), ([15], [15]), ([], []), ([16, 17], [16, 17]), ([14, 18], [14, 18]), ([0, 3, 0, 1, 2, 3, 4, 5, 6, 7, 8, 9, 10, 11, 12, 13, 14, 15, 16, 17, 18, 19], [0, 3]), ([20, 19, 11, 0, 1, 2, 3, 4, 5, 6, 7, 8, 9, 10, 11, 12, 13, 14, 15, 16, 17, 18, 19], [19, 20])])
def pack_Vec_With.B8 : List Nat := [0, 0, 0, 6, 0, 0, 0, 96, 240, 496, 0, 1024, 0, 7168, 16368, 0, 32768, 0, 229376, 524272, 1048575, 2097151]
theorem pack_Vec_With.tab8 : rtab .any (opsOf Try.f14 8) = pack_Vec_With.T8 := by kernel_rfl
theorem pack_Vec_With.bits8 : waitsOk pack_Vec_With.T8.2 pack_Vec_With.B8 = true := by kernel_rfl
set_option maxHeartbeats 8000000 in
set_option maxRecDepth 100000 in
theorem pack_Vec_With.calls (k : Nat) (a0_0 : Int) (a0_1 : Int) (A0_2 : Option Addr) (c0_2 : Nat) (l0_2 : List Int) (a1 : Int) (a2_0 : Int) (a2_1 : Int) (r1 : Int) (r2 : Int) (r3 : List Int) (r4 : Int) (w : World) (hr0_2 : Kd.C (Kd.int .u64) w A0_2 l0_2.length l0_2) (hc0_2 : l0_2.length ≤ c0_2) (h : pack_Vec_With.f k a0_0 a0_1 l0_2 a1 a2_0 a2_1 = some (r1, r2, r3, r4)) :
  Calls Try.prog 14 #[.agg #[.int .i64 a0_0, .int .i64 a0_1, .slice A0_2 l0_2.length c0_2], .int .i64 a1, .agg #[.int .u64 a2_0, .int .u64 a2_1]] w fun e w' => ∃ v2_ : Value, e = .returned (.tuple #[.agg #[.int .i64 r1, .int .i64 r2, v2_], .int .i64 r4]) ∧ Kd.R (Kd.int .u64) 23 w' w.heap.size (fun _ => True) v2_ r3 ∧ Below w.heap.size w w' := by
 have hu31 := Try.underlying31
 have hu25 := Try.underlying25
 have HR0_2 := Aside0.mk hr0_2
 have HC0_2 := Aside0.mk hc0_2
 clear hr0_2 hc0_2
 have HB := Aside0.mk (Below.refl w.heap.size w)
 have H : (if a1 < 0 then (pack_Vec_With.j0 k a1 true a0_0 a0_1 l0_2 a2_0 a2_1) else (pack_Vec_With.j0 k a1 (decide (a1 ≥ a0_1)) a0_0 a0_1 l0_2 a2_0 a2_1)) = some (r1, r2, r3, r4) := h
 clear h
 have HC4 := Aside0.mk H
 clear H
 go_enter Try.func14, Try.ntmps14
 go_upto_region 1 with (first | ((with_reducible refine gate_dst (N := 3) rfl ?_); refine box_event ?hg (N := 3) ?hd (cs := #[.int .i64 a0_0, .int .i64 a0_1, .slice A0_2 l0_2.length c0_2]) (t := 31) ?hr ?_; (case hd => rfl); (case hg => rfl); (case hr => first | (go_simp; done) | (go_simp; rfl)); intro gb253 hg w5 hbox hb; have BK253 := Aside0.mk hbox; have GW253 := ge hg HB; have GE253 := ge hg HB; replace HB := bh HB hb; clear hb hbox hg) | ((with_reducible refine gate_dst (N := 5) rfl ?_); refine box_event ?hg (N := 5) ?hd (cs := #[.int .u64 a2_0, .int .u64 a2_1]) (t := 25) ?hr ?_; (case hd => rfl); (case hg => rfl); (case hr => first | (go_simp; done) | (go_simp; rfl)); intro gb254 hg w6 hbox hb; have BK254 := Aside0.mk hbox; have GW254 := ge hg HB; have GE254 := ge hg HB; have NB253_254 := nl hg BK253; have NB254_253 := ng hg BK253; replace BK253 := bb BK253 hb; replace HB := bh HB hb; clear hb hbox hg) | ((with_reducible refine gate_dst (N := 6) rfl ?_); refine box_event ?hg (N := 6) ?hd (cs := #[.int .i64 0, .int .i64 0, .slice none 0 0]) (t := 31) ?hr ?_; (case hd => rfl); (case hg => rfl); (case hr => first | (go_simp; done) | (go_simp; rfl)); intro gb255 hg w7 hbox hb; have BK255 := Aside0.mk hbox; have GW255 := ge hg HB; have GE255 := ge hg HB; have NB253_255 := nl hg BK253; have NB255_253 := ng hg BK253; have NB254_255 := nl hg BK254; have NB255_254 := ng hg BK254; replace BK253 := bb BK253 hb; replace BK254 := bb BK254 hb; replace HB := bh HB hb; clear hb hbox hg))
 (try simp only [Act.put, List.setIfInBounds_toArray, List.set_cons_zero, List.set_cons_succ])
 go_cut [11] (fun v11 wc => ∃ (kq : Nat) (x11_3 : Bool), v11 = .bool x11_3 ∧ Aside0 (pack_Vec_With.j0 kq a1 x11_3 a0_0 a0_1 l0_2 a2_0 a2_1 = some (r1, r2, r3, r4)) ∧ Aside0 (kq ≤ k) ∧ Aside0 (wc.heap[gb253]? = some (.cells #[.int .i64 a0_0, .int .i64 a0_1, (.slice A0_2 l0_2.length c0_2)] 31 (0, 0))) ∧ Aside0 (wc.heap[gb254]? = some (.cells #[.int .u64 a2_0, .int .u64 a2_1] 25 (0, 0))) ∧ Aside0 (wc.heap[gb255]? = some (.cells #[.int .i64 0, .int .i64 0, (.slice none 0 0)] 31 (0, 0))) ∧ Aside0 (Below w.heap.size w wc))
 case first =>
  have H := HC4.out
  clear HC4
  by_cases c8 : a1 < 0
  ·rw [if_pos c8] at H
   have c8b0 : decide (a1 < 0) = true := decide_eq_true c8
   clear c8
   (first | rw [c8b0] | (simp only [i64_w, i32_w]; rw [c8b0]) | skip)
   have H' := Aside0.mk H
   clear H
   go_wp2
   go_meet
   case rel => exact ⟨_, (true), (by first | rfl | (simp; done) | (simp [*]; done)), H', ⟨by first | omega | exact Nat.le_refl _⟩, ⟨bk BK253.out⟩, ⟨bk BK254.out⟩, ⟨bk BK255.out⟩, ⟨bq HB.out⟩⟩
  ·rw [if_neg c8] at H
   have c8b0 : decide (a1 < 0) = false := decide_eq_false c8
   clear c8
   (first | rw [c8b0] | (simp only [i64_w, i32_w]; rw [c8b0]) | skip)
   have H' := Aside0.mk H
   clear H
   have hnb9 := NB253_254.out
   have hnc9 := NB254_253.out
   have hnb10 := NB253_255.out
   have hnc10 := NB255_253.out
   obtain ⟨hcz11_0, hcz11_1, hcz11_2⟩ := zc3 BK253
   obtain ⟨hfz11_0, hfz11_1, hfz11_2⟩ := zf3 BK253
   go_wp2
   go_meet
   case rel => exact ⟨_, (decide (a1 ≥ a0_1)), (by first | rfl | (simp; done) | (simp [*]; done)), H', ⟨by first | omega | exact Nat.le_refl _⟩, ⟨bk BK253.out⟩, ⟨bk BK254.out⟩, ⟨bk BK255.out⟩, ⟨bq HB.out⟩⟩
 case rest =>
  clear HC4
  try clear c1
  try clear p2
  try clear c8
  try clear c8b0
  try clear c9
  try clear c10
  try clear hcz11_0
  try clear hcz11_1
  try clear hcz11_2
  try clear hfz11_0
  try clear hfz11_1
  try clear hfz11_2
  obtain ⟨kq, x11_3, rfl, HA, HJ3, BK253, BK254, BK255, HB⟩ := hcut
  cases kq with
  | zero => exact absurd HA.out (by simp [pack_Vec_With.j0])
  | succ kj3 =>
   have H := HA.out
   clear HA
   simp only [pack_Vec_With.j0] at H
   by_cases c12 : x11_3 = true
   ·subst c12
    have H1 : (some (0, 0, ([] : List Int), 4)) = some (r1, r2, r3, r4) := by rw [if_pos rfl] at H; exact H
    clear H
    have H := H1
    clear H1
    simp only [Option.some.injEq, Prod.mk.injEq] at H
    obtain ⟨rfl, rfl, rfl, rfl⟩ := H
    have hnb13 := NB255_253.out
    have hnc13 := NB253_255.out
    have hnb14 := NB255_254.out
    have hnc14 := NB254_255.out
    obtain ⟨hcz15_0, hcz15_1, hcz15_2⟩ := zc3 BK255
    obtain ⟨hfz15_0, hfz15_1, hfz15_2⟩ := zf3 BK255
    go_wp2
    refine bodyPost_ret (results_ct rfl _ _ gb255 31 #[.int .i64 0, .int .i64 0, .slice none 0 0] (0, 0) _ rfl (by (with_reducible repeat refine bl ?_); refine blk_put (cs := #[.int .i64 0, .int .i64 0, .slice none 0 0]) ?_ 2 _ rfl; (with_reducible repeat refine bl ?_); refine blk_put (cs := #[.int .i64 0, .int .i64 0, .slice none 0 0]) ?_ 1 _ rfl; (with_reducible repeat refine bl ?_); refine blk_put (cs := #[.int .i64 0, .int .i64 0, .slice none 0 0]) ?_ 0 _ rfl; (with_reducible repeat refine bl ?_); exact BK255.out) Try.underlying31 rfl (by kernel_rfl)) rfl ?_
    exact ⟨_, by first | rfl | (simp [errW_none, errW_some] <;> rfl) | (simp [*, errW_none, errW_some] <;> rfl), by first | exact Kd.R_nil _ _ _ _ _ | exact Kd.N_nil _ _ _ _ _ | exact Kd.V_nil _ _ _ _ _ | exact Kd.Q_nil _ _ _ _ _ | exact Kd.S_nil _ _ _ _ _, bq HB.out⟩
   ·replace c12 := Bool.eq_false_iff.mpr c12
    subst c12
    have H1 : ((octet_Of.f kj3 a0_0 a2_0 a2_1).bind fun t256 => (if t256 = true then ((pack_lanes.f a0_0).bind fun t257 => (if t257 = 0 then (none) else (if 0 ≤ a0_0 then ((slices_Clone_uint64_uint64.f l0_2).bind fun t258 => (if 0 ≤ (wrap64 (Int.tdiv a1 t257)) then (if (wrap64 (Int.tdiv a1 t257)) < (t258.length : Int) then ((pack_Vec_mask.f a0_0 a0_1 l0_2).bind fun t262 => (if 0 ≤ (shl .i64 (Int.tmod a1 t257) a0_0) then ((pack_vec.f a0_0 a0_1 (t258.set ((wrap64 (Int.tdiv a1 t257)) : Int).toNat (Go.bits .or .u64 (Go.bits .andNot .u64 (rd t258 (wrap64 (Int.tdiv a1 t257))) (shl .u64 t262 (shl .i64 (Int.tmod a1 t257) a0_0))) (shl .u64 a2_1 (shl .i64 (Int.tmod a1 t257) a0_0))))).bind fun bt264 => (some (bt264.1, bt264.2.1, bt264.2.2, 0))) else (none))) else (none)) else (none))) else (none)))) else (some (0, 0, ([] : List Int), 5)))) = some (r1, r2, r3, r4) := by rw [if_neg (show ¬ (false = true) by decide)] at H; exact H
    clear H
    have H := H1
    clear H1
    replace H := Option.bind_eq_some_iff.mp H
    obtain ⟨t256, A160, H⟩ := H
    replace H : (if t256 = true then ((pack_lanes.f a0_0).bind fun t257 => (if t257 = 0 then (none) else (if 0 ≤ a0_0 then ((slices_Clone_uint64_uint64.f l0_2).bind fun t258 => (if 0 ≤ (wrap64 (Int.tdiv a1 t257)) then (if (wrap64 (Int.tdiv a1 t257)) < (t258.length : Int) then ((pack_Vec_mask.f a0_0 a0_1 l0_2).bind fun t262 => (if 0 ≤ (shl .i64 (Int.tmod a1 t257) a0_0) then ((pack_vec.f a0_0 a0_1 (t258.set ((wrap64 (Int.tdiv a1 t257)) : Int).toNat (Go.bits .or .u64 (Go.bits .andNot .u64 (rd t258 (wrap64 (Int.tdiv a1 t257))) (shl .u64 t262 (shl .i64 (Int.tmod a1 t257) a0_0))) (shl .u64 a2_1 (shl .i64 (Int.tmod a1 t257) a0_0))))).bind fun bt264 => (some (bt264.1, bt264.2.1, bt264.2.2, 0))) else (none))) else (none)) else (none))) else (none)))) else (some (0, 0, ([] : List Int), 5))) = some (r1, r2, r3, r4) := H
    have A16 := Aside0.mk A160
    clear A160
    by_cases c17 : t256 = true
    ·subst c17
     have H1 : ((pack_lanes.f a0_0).bind fun t257 => (if t257 = 0 then (none) else (if 0 ≤ a0_0 then ((slices_Clone_uint64_uint64.f l0_2).bind fun t258 => (if 0 ≤ (wrap64 (Int.tdiv a1 t257)) then (if (wrap64 (Int.tdiv a1 t257)) < (t258.length : Int) then ((pack_Vec_mask.f a0_0 a0_1 l0_2).bind fun t262 => (if 0 ≤ (shl .i64 (Int.tmod a1 t257) a0_0) then ((pack_vec.f a0_0 a0_1 (t258.set ((wrap64 (Int.tdiv a1 t257)) : Int).toNat (Go.bits .or .u64 (Go.bits .andNot .u64 (rd t258 (wrap64 (Int.tdiv a1 t257))) (shl .u64 t262 (shl .i64 (Int.tmod a1 t257) a0_0))) (shl .u64 a2_1 (shl .i64 (Int.tmod a1 t257) a0_0))))).bind fun bt264 => (some (bt264.1, bt264.2.1, bt264.2.2, 0))) else (none))) else (none)) else (none))) else (none)))) = some (r1, r2, r3, r4) := by rw [if_pos rfl] at H; exact H
     clear H
     have H := H1
     clear H1
     replace H := Option.bind_eq_some_iff.mp H
     obtain ⟨t257, A180, H⟩ := H
     replace H : (if t257 = 0 then (none) else (if 0 ≤ a0_0 then ((slices_Clone_uint64_uint64.f l0_2).bind fun t258 => (if 0 ≤ (wrap64 (Int.tdiv a1 t257)) then (if (wrap64 (Int.tdiv a1 t257)) < (t258.length : Int) then ((pack_Vec_mask.f a0_0 a0_1 l0_2).bind fun t262 => (if 0 ≤ (shl .i64 (Int.tmod a1 t257) a0_0) then ((pack_vec.f a0_0 a0_1 (t258.set ((wrap64 (Int.tdiv a1 t257)) : Int).toNat (Go.bits .or .u64 (Go.bits .andNot .u64 (rd t258 (wrap64 (Int.tdiv a1 t257))) (shl .u64 t262 (shl .i64 (Int.tmod a1 t257) a0_0))) (shl .u64 a2_1 (shl .i64 (Int.tmod a1 t257) a0_0))))).bind fun bt264 => (some (bt264.1, bt264.2.1, bt264.2.2, 0))) else (none))) else (none)) else (none))) else (none))) = some (r1, r2, r3, r4) := H
     have A18 := Aside0.mk A180
     clear A180
     by_cases c19 : t257 = 0
     ·rw [if_pos c19] at H
      exact absurd H (by simp)
     ·rw [if_neg c19] at H
      have c19b0 : (t257 == 0) = false := beq_eq_false_iff_ne.mpr c19
      have c19b1 : (t257 != 0) = true := bne_iff_ne.mpr c19
      by_cases c20 : 0 ≤ a0_0
      ·rw [if_pos c20] at H
       have c20b0 := eq_true c20
       have c20b1 : decide (0 ≤ a0_0) = true := decide_eq_true c20
       clear c20
       obtain ⟨ji21, hji21⟩ : ∃ j_ : Int, (shl .i64 (Int.tmod a1 t257) a0_0) = j_ := ⟨_, rfl⟩
       replace H : ((slices_Clone_uint64_uint64.f l0_2).bind fun t258 => (if 0 ≤ (wrap64 (Int.tdiv a1 t257)) then (if (wrap64 (Int.tdiv a1 t257)) < (t258.length : Int) then ((pack_Vec_mask.f a0_0 a0_1 l0_2).bind fun t262 => (if 0 ≤ (ji21) then ((pack_vec.f a0_0 a0_1 (t258.set ((wrap64 (Int.tdiv a1 t257)) : Int).toNat (Go.bits .or .u64 (Go.bits .andNot .u64 (rd t258 (wrap64 (Int.tdiv a1 t257))) (shl .u64 t262 (ji21))) (shl .u64 a2_1 (ji21))))).bind fun bt264 => (some (bt264.1, bt264.2.1, bt264.2.2, 0))) else (none))) else (none)) else (none))) = some (r1, r2, r3, r4) := by first | (rw [hji21] at H; exact H) | (simp only [hji21] at H ⊢; exact H)
       (try rw [hji21] at A16)
       (try rw [hji21] at A18)
       have hji21_ : (IntKind.i64.wrap ((Int.tmod a1 t257) * 2 ^ min a0_0.toNat 64)) = ji21 := hji21
       have hji21z : a0_0 ≤ 64 → (IntKind.i64.wrap ((Int.tmod a1 t257) * 2 ^ a0_0.toNat)) = ji21 := shl_small hji21
       have hji21y : (wrap64 ((Int.tmod a1 t257) * 2 ^ min a0_0.toNat 64)) = ji21 := (i64_w _).symm.trans hji21_
       have hji21x : a0_0 ≤ 64 → (wrap64 ((Int.tmod a1 t257) * 2 ^ a0_0.toNat)) = ji21 := fun h_ => (i64_w _).symm.trans (hji21z h_)
       replace H := Option.bind_eq_some_iff.mp H
       obtain ⟨t258, A220, H⟩ := H
       replace H : (if 0 ≤ (wrap64 (Int.tdiv a1 t257)) then (if (wrap64 (Int.tdiv a1 t257)) < (t258.length : Int) then ((pack_Vec_mask.f a0_0 a0_1 l0_2).bind fun t262 => (if 0 ≤ (ji21) then ((pack_vec.f a0_0 a0_1 (t258.set ((wrap64 (Int.tdiv a1 t257)) : Int).toNat (Go.bits .or .u64 (Go.bits .andNot .u64 (rd t258 (wrap64 (Int.tdiv a1 t257))) (shl .u64 t262 (ji21))) (shl .u64 a2_1 (ji21))))).bind fun bt264 => (some (bt264.1, bt264.2.1, bt264.2.2, 0))) else (none))) else (none)) else (none)) = some (r1, r2, r3, r4) := H
       have A22 := Aside0.mk A220
       clear A220
       obtain ⟨ji23, hji23⟩ : ∃ j_ : Int, (wrap64 (Int.tdiv a1 t257)) = j_ := ⟨_, rfl⟩
       replace H : (if 0 ≤ (ji23) then (if (ji23) < (t258.length : Int) then ((pack_Vec_mask.f a0_0 a0_1 l0_2).bind fun t262 => (if 0 ≤ (ji21) then ((pack_vec.f a0_0 a0_1 (t258.set ((ji23) : Int).toNat (Go.bits .or .u64 (Go.bits .andNot .u64 (rd t258 (ji23)) (shl .u64 t262 (ji21))) (shl .u64 a2_1 (ji21))))).bind fun bt264 => (some (bt264.1, bt264.2.1, bt264.2.2, 0))) else (none))) else (none)) else (none)) = some (r1, r2, r3, r4) := by first | (rw [hji23] at H; exact H) | (simp only [hji23] at H ⊢; exact H)
       (try rw [hji23] at A16)
       (try rw [hji23] at A18)
       (try rw [hji23] at A22)
       have hji23w : (IntKind.i64.wrap (Int.tdiv a1 t257)) = ji23 := (i64_w _).trans hji23
       by_cases c24 : 0 ≤ (ji23)
       ·rw [if_pos c24] at H
        have c24b0 : decide (0 ≤ (ji23)) = true := decide_eq_true c24
        clear c24
        by_cases c25 : (ji23) < (t258.length : Int)
        ·rw [if_pos c25] at H
         have c25b0 : decide ((ji23) < (t258.length : Int)) = true := decide_eq_true c25
         clear c25
         replace H := Option.bind_eq_some_iff.mp H
         obtain ⟨t262, A260, H⟩ := H
         replace H : (if 0 ≤ (ji21) then ((pack_vec.f a0_0 a0_1 (t258.set ((ji23) : Int).toNat (Go.bits .or .u64 (Go.bits .andNot .u64 (rd t258 (ji23)) (shl .u64 t262 (ji21))) (shl .u64 a2_1 (ji21))))).bind fun bt264 => (some (bt264.1, bt264.2.1, bt264.2.2, 0))) else (none)) = some (r1, r2, r3, r4) := H
         have A26 := Aside0.mk A260
         clear A260
         by_cases c27 : 0 ≤ (ji21)
         ·rw [if_pos c27] at H
          have c27b0 := eq_true c27
          have c27b1 : decide (0 ≤ (ji21)) = true := decide_eq_true c27
          clear c27
          obtain ⟨ji28, hji28⟩ : ∃ j_ : Int, (shl .u64 t262 (ji21)) = j_ := ⟨_, rfl⟩
          replace H : ((pack_vec.f a0_0 a0_1 (t258.set ((ji23) : Int).toNat (Go.bits .or .u64 (Go.bits .andNot .u64 (rd t258 (ji23)) (ji28)) (shl .u64 a2_1 (ji21))))).bind fun bt264 => (some (bt264.1, bt264.2.1, bt264.2.2, 0))) = some (r1, r2, r3, r4) := by first | (rw [hji28] at H; exact H) | (simp only [hji28] at H ⊢; exact H)
          (try rw [hji28] at A16)
          (try rw [hji28] at A18)
          (try rw [hji28] at A22)
          (try rw [hji28] at A26)
          have hji28_ : (IntKind.u64.wrap (t262 * 2 ^ min (ji21).toNat 64)) = ji28 := hji28
          have hji28z : (ji21) ≤ 64 → (IntKind.u64.wrap (t262 * 2 ^ (ji21).toNat)) = ji28 := shl_small hji28
          have hji28p0 := eq_true (show (0 : Int) ≤ ji28 by rw [← hji28_]; exact wrap_u64_nonneg _)
          have hji28p1 : decide (0 ≤ (ji28 : Int)) = true := decide_eq_true (of_eq_true hji28p0)
          have c29b0 := eq_true (of_decide_eq_true (by first | (with_reducible assumption) | assumption) : 0 ≤ (ji21))
          obtain ⟨ji30, hji30⟩ : ∃ j_ : Int, (shl .u64 a2_1 (ji21)) = j_ := ⟨_, rfl⟩
          replace H : ((pack_vec.f a0_0 a0_1 (t258.set ((ji23) : Int).toNat (Go.bits .or .u64 (Go.bits .andNot .u64 (rd t258 (ji23)) (ji28)) (ji30)))).bind fun bt264 => (some (bt264.1, bt264.2.1, bt264.2.2, 0))) = some (r1, r2, r3, r4) := by first | (rw [hji30] at H; exact H) | (simp only [hji30] at H ⊢; exact H)
          (try rw [hji30] at A16)
          (try rw [hji30] at A18)
          (try rw [hji30] at A22)
          (try rw [hji30] at A26)
          have hji30_ : (IntKind.u64.wrap (a2_1 * 2 ^ min (ji21).toNat 64)) = ji30 := hji30
          have hji30z : (ji21) ≤ 64 → (IntKind.u64.wrap (a2_1 * 2 ^ (ji21).toNat)) = ji30 := shl_small hji30
          have hji30p0 := eq_true (show (0 : Int) ≤ ji30 by rw [← hji30_]; exact wrap_u64_nonneg _)
          have hji30p1 : decide (0 ≤ (ji30 : Int)) = true := decide_eq_true (of_eq_true hji30p0)
          obtain ⟨y263, hy263⟩ : ∃ y_ : List Int, y_ = (t258.set ((ji23) : Int).toNat (Go.bits .or .u64 (Go.bits .andNot .u64 (rd t258 (ji23)) (ji28)) (ji30))) := ⟨_, rfl⟩
          replace H : ((pack_vec.f a0_0 a0_1 y263).bind fun bt264 => (some (bt264.1, bt264.2.1, bt264.2.2, 0))) = some (r1, r2, r3, r4) := by first | (rw [hy263]; with_reducible exact H) | (have H2_ := (Option.bind_some _ _).symm.trans H; rw [hy263]; with_reducible exact H2_) | (have H2_ := (Option.bind_some _ _).symm.trans H; with_reducible exact H2_) | with_reducible exact H | (rw [hy263]; exact H) | exact H
          have Ny263 := Aside0.mk hy263
          clear hy263
          replace H := Option.bind_eq_some_iff.mp H
          obtain ⟨⟨t264, t265, t266⟩, A320, H⟩ := H
          replace H : (some (t264, t265, t266, 0)) = some (r1, r2, r3, r4) := H
          have A32 := Aside0.mk A320
          clear A320
          simp only [Option.some.injEq, Prod.mk.injEq] at H
          obtain ⟨rfl, rfl, rfl, rfl⟩ := H
          have hnb33 := NB253_254.out
          have hnc33 := NB254_253.out
          have hnb34 := NB253_255.out
          have hnc34 := NB255_253.out
          obtain ⟨hcz35_0, hcz35_1, hcz35_2⟩ := zc3 BK253
          obtain ⟨hfz35_0, hfz35_1, hfz35_2⟩ := zf3 BK253
          have hnb36 := NB254_255.out
          have hnc36 := NB255_254.out
          obtain ⟨hcz37_0, hcz37_1⟩ := zc2 BK254
          obtain ⟨hfz37_0, hfz37_1⟩ := zf2 BK254
          try go_wp2_with (first | ((with_reducible refine gate_callee (f := 38) rfl ?_); refine goesL_ (some 25) rfl rfl Try.func38 (by kernel_rfl) rfl #[.int .i64 a0_0, .agg #[.int .u64 a2_0, .int .u64 a2_1]] rfl (by (try simp only [List.map_toArray, List.map_cons, List.map_nil]); first | done | rfl | (simp only [List.length_drop, List.length_take]; rfl)) ?_; (with_reducible refine (octet_Of.calls kj3 a0_0 a2_0 a2_1 true _ A16.out).mono ?_); rintro e w38 ⟨rfl, hb⟩; refine ⟨_, rfl, ?_⟩; replace BK253 := bb BK253 hb; replace BK254 := bb BK254 hb; replace BK255 := bb BK255 hb; replace HB := bh HB hb; (try clear hb); (try clear hb2); (try clear hk); (try clear hi); obtain ⟨hcz39_0, hcz39_1, hcz39_2⟩ := zc3 BK253; obtain ⟨hfz39_0, hfz39_1, hfz39_2⟩ := zf3 BK253) | ((with_reducible refine gate_callee (f := 39) rfl ?_); refine goesL_ (some 30) rfl rfl Try.func39 (by kernel_rfl) rfl #[.int .i64 a0_0] rfl (by (try simp only [List.map_toArray, List.map_cons, List.map_nil]); first | done | rfl | (simp only [List.length_drop, List.length_take]; rfl)) ?_; (with_reducible refine (pack_lanes.calls a0_0 t257 _ A18.out).mono ?_); rintro e w' ⟨rfl, ⟨nd, rfl⟩⟩; refine ⟨_, rfl, ?_⟩; (try (rw [drewN_self w38]; generalize hq_ : World.drewN w38 _ = w38; have n0_ : Aside0 (w38.heap[gb253]? = some (.cells #[.int .i64 a0_0, .int .i64 a0_1, .slice A0_2 l0_2.length c0_2] 31 (0, 0))) := ⟨by rw [← hq_]; exact (bk BK253.out)⟩; have n1_ : Aside0 (w38.heap[gb254]? = some (.cells #[.int .u64 a2_0, .int .u64 a2_1] 25 (0, 0))) := ⟨by rw [← hq_]; exact (bk BK254.out)⟩; have n2_ : Aside0 (w38.heap[gb255]? = some (.cells #[.int .i64 0, .int .i64 0, .slice none 0 0] 31 (0, 0))) := ⟨by rw [← hq_]; exact (bk BK255.out)⟩; have n3_ : Aside0 (Below w.heap.size w w38) := ⟨by rw [← hq_]; exact (bq HB.out)⟩; clear BK253 BK254 BK255 HB hq_; have BK253 := n0_; have BK254 := n1_; have BK255 := n2_; have HB := n3_; clear n0_ n1_ n2_ n3_))))
          replace BK253 := Aside0.mk (blk_drew BK253.out)
          replace BK254 := Aside0.mk (blk_drew BK254.out)
          replace BK255 := Aside0.mk (blk_drew BK255.out)
          replace HB := Aside0.mk (below_drew1 HB.out)
          refine start_ (n := 7) (S := fun w' => w'.cell? ⟨gb253, 0, none⟩ = some (.int .i64 a0_0) ∧ w'.cell? ⟨gb253, 1, none⟩ = some (.int .i64 a0_1) ∧ w'.cell? ⟨gb253, 2, none⟩ = some (.slice A0_2 l0_2.length c0_2)) (ds := []) #[false, false, false, false, false, false, false] (by kernel_rfl) rfl rfl ⟨(blk_cell BK253.out 0).trans rfl, (blk_cell BK253.out 1).trans rfl, (blk_cell BK253.out 2).trans rfl⟩ (fun hHeld => ?_)
          generalize w38.drew = w40 at BK253 BK254 BK255 HB hHeld ⊢
          refine pure_ (i := 0) (N := some 31) (v := ?_) (a' := ?_) #[true, false, false, false, false, false, false] rfl rfl (by kernel_rfl) (fun _ _ _ h => h) (Or.inl ⟨by rfl, ?_⟩) ?_ ?_
          rotate_left
          ·intro w'
           go_simp
           with_reducible rfl
          rotate_left
          ·simp only [Act.put, List.setIfInBounds_toArray, List.set_cons_zero, List.set_cons_succ, i64_w, i32_w]
           rfl
          refine pure_ (i := 1) (N := some 32) (v := ?_) (a' := ?_) #[true, true, false, false, false, false, false] rfl rfl (by kernel_rfl) (fun _ _ _ h => h) (Or.inl ⟨by rfl, ?_⟩) ?_ ?_
          rotate_left
          ·intro w'
           go_simp
           with_reducible rfl
          rotate_left
          ·simp only [Act.put, List.setIfInBounds_toArray, List.set_cons_zero, List.set_cons_succ, i64_w, i32_w]
           rfl
          refine pure_ (i := 2) (N := some 33) (v := ?_) (a' := ?_) #[true, true, true, false, false, false, false] rfl rfl (by kernel_rfl) (fun _ _ _ h => h) (Or.inl ⟨by rfl, ?_⟩) ?_ ?_
          rotate_left
          ·intro w'
           go_simp
           with_reducible rfl
          rotate_left
          ·simp only [Act.put, List.setIfInBounds_toArray, List.set_cons_zero, List.set_cons_succ, i64_w, i32_w]
           rfl
          refine pure_ (i := 3) (N := some 34) (v := ?_) (a' := ?_) #[true, true, true, true, false, false, false] rfl rfl (by kernel_rfl) (fun _ _ _ h => h) (Or.inl ⟨by rfl, ?_⟩) ?_ ?_
          rotate_left
          ·intro w'
           go_simp
           with_reducible rfl
          rotate_left
          ·simp only [Act.put, List.setIfInBounds_toArray, List.set_cons_zero, List.set_cons_succ, i64_w, i32_w]
           rfl
          refine take_ (i := 4) (N := some 35) (v := ?_) (a' := ?_) #[true, true, true, true, true, false, false] rfl rfl (by kernel_rfl) (fun _ _ _ h => h) (Or.inl ⟨by rfl, ?_⟩) hHeld ?_ ?_
          rotate_left
          ·rintro w' ⟨s0, s1, s2⟩
           go_simp
           with_reducible rfl
          rotate_left
          ·simp only [Act.put, List.setIfInBounds_toArray, List.set_cons_zero, List.set_cons_succ, i64_w, i32_w]
           rfl
          refine pure_ (i := 5) (N := some 36) (v := ?_) (a' := ?_) #[true, true, true, true, true, true, false] rfl rfl (by kernel_rfl) (fun _ _ _ h => h) (Or.inl ⟨by rfl, ?_⟩) ?_ ?_
          rotate_left
          ·intro w'
           go_simp
           with_reducible rfl
          rotate_left
          ·simp only [Act.put, List.setIfInBounds_toArray, List.set_cons_zero, List.set_cons_succ, i64_w, i32_w]
           rfl
          refine pure_ (i := 6) (N := some 9) (v := ?_) (a' := ?_) #[true, true, true, true, true, true, true] rfl rfl (by kernel_rfl) (fun _ _ _ h => h) (Or.inl ⟨by rfl, ?_⟩) ?_ ?_
          rotate_left
          ·intro w'
           go_simp
           with_reducible rfl
          rotate_left
          ·simp only [Act.put, List.setIfInBounds_toArray, List.set_cons_zero, List.set_cons_succ, i64_w, i32_w]
           rfl
          refine done_ (by kernel_rfl) ?_
          obtain ⟨hcz41_0, hcz41_1, hcz41_2⟩ := zc3 BK253
          obtain ⟨hfz41_0, hfz41_1, hfz41_2⟩ := zf3 BK253
          try go_wp2_with (first | ((with_reducible refine gate_callee (f := 43) rfl ?_); refine goesL_ (some 39) rfl rfl Try.func43 (by kernel_rfl) rfl #[.slice A0_2 l0_2.length c0_2] rfl (by (try simp only [List.map_toArray, List.map_cons, List.map_nil]); first | done | rfl | (simp only [List.length_drop, List.length_take]; rfl)) ?_; (with_reducible refine (slices_Clone_uint64_uint64.calls _ _ l0_2 t258 _ ?side1 ?side2 A22.out).mono ?_); (case side1 => repeat (first | exact (Kd.C_below HR0_2.out HB.out) | (with_reducible refine Kd.C_alloc ?_ _) | (with_reducible refine Kd.C_drewN ?_ _) | (with_reducible refine Kd.C_drew ?_))); (case side2 => exact HC0_2.out); rintro e w42 ⟨v259, rfl, ho0, hb⟩; refine ⟨_, rfl, ?_⟩; have HO260 := kw ho0 HB; replace BK253 := bb BK253 hb; replace BK254 := bb BK254 hb; replace BK255 := bb BK255 hb; replace HB := bh HB hb; (try clear hb); (try clear hb2); (try clear hk); (try clear hi); (try clear ho0)))
          replace HO260 := Aside0.mk (Kd.R_drew HO260.out)
          replace BK253 := Aside0.mk (blk_drew BK253.out)
          replace BK254 := Aside0.mk (blk_drew BK254.out)
          replace BK255 := Aside0.mk (blk_drew BK255.out)
          replace HB := Aside0.mk (below_drew1 HB.out)
          obtain ⟨Ao44, co44, eo44⟩ := Kd.R_slice HO260.out
          (first | subst eo44 | (injection eo44 with f1_ f2_ f3_; have f4_ := f1_.symm; have f5_ := f3_.symm; clear f1_ f2_ f3_; subst f4_; subst f5_))
          have p261 : 0 ≤ ((ji23) : Int) := of_decide_eq_true (by first | (with_reducible assumption) | assumption)
          have q261 : (ji23) < (t258.length : Int) := of_decide_eq_true (by first | (with_reducible assumption) | assumption)
          (try (obtain ⟨Ap_, cp_, ep_⟩ := Kd.R_slice HO260.out; subst ep_))
          obtain ⟨ad261, e261, hx261_0⟩ := Kd.at_int (Kd.R_reads' HO260.out).2.2 (ji23) p261 q261
          cases e261
          replace p261 := eq_true p261
          replace q261 := eq_true q261
          refine start_ (n := 22) (S := fun w' => w'.cell? ⟨gb253, 0, none⟩ = some (.int .i64 a0_0) ∧ w'.cell? ⟨gb253, 1, none⟩ = some (.int .i64 a0_1) ∧ w'.cell? ⟨gb253, 2, none⟩ = some (.slice A0_2 l0_2.length c0_2) ∧ w'.cell? ⟨gb254, 0, none⟩ = some (.int .u64 a2_0) ∧ w'.cell? ⟨gb254, 1, none⟩ = some (.int .u64 a2_1) ∧ w'.cell? (ad261.add ((ji23)).toNat) = some (.int .u64 (rd t258 (ji23)))) (ds := [21]) #[false, false, false, false, false, false, false, false, false, false, false, false, false, false, false, false, false, false, false, false, false, false] (by kernel_rfl) rfl rfl ⟨(blk_cell BK253.out 0).trans rfl, (blk_cell BK253.out 1).trans rfl, (blk_cell BK253.out 2).trans rfl, (blk_cell BK254.out 0).trans rfl, (blk_cell BK254.out 1).trans rfl, hx261_0⟩ (fun hHeld => ?_); refine with_tabW pack_Vec_With.tab8 pack_Vec_With.bits8 (fun HT_ HW_ => ?_)
          generalize w42.drew = w43 at HO260 BK253 BK254 BK255 HB hx261_0 hHeld ⊢
          refine pure_ (i := 0) (N := some 40) (v := ?_) (a' := ?_) #[true, false, false, false, false, false, false, false, false, false, false, false, false, false, false, false, false, false, false, false, false, false] rfl rfl (any_of HT_.out (by kernel_rfl)) (fun _ _ _ h => h) (Or.inl ⟨by rfl, ?_⟩) ?_ ?_
          rotate_left
          ·intro w'
           go_simp
           with_reducible rfl
          rotate_left
          ·simp only [Act.put, List.setIfInBounds_toArray, List.set_cons_zero, List.set_cons_succ, i64_w, i32_w]
           rfl
          refine pure_ (i := 1) (N := some 41) (v := ?_) (a' := ?_) #[true, true, false, false, false, false, false, false, false, false, false, false, false, false, false, false, false, false, false, false, false, false] rfl rfl (any_of HT_.out (by kernel_rfl)) (fun _ _ _ h => h) (Or.inl ⟨by rfl, ?_⟩) ?_ ?_
          rotate_left
          ·intro w'
           go_simp
           with_reducible rfl
          rotate_left
          ·simp only [Act.put, List.setIfInBounds_toArray, List.set_cons_zero, List.set_cons_succ, i64_w, i32_w]
           rfl
          refine pure_ (i := 2) (N := some 42) (v := ?_) (a' := ?_) #[true, true, true, false, false, false, false, false, false, false, false, false, false, false, false, false, false, false, false, false, false, false] rfl rfl (any_of HT_.out (by kernel_rfl)) (fun _ _ _ h => h) (Or.inl ⟨by rfl, ?_⟩) ?_ ?_
          rotate_left
          ·intro w'
           go_simp
           with_reducible rfl
          rotate_left
          ·simp only [Act.put, List.setIfInBounds_toArray, List.set_cons_zero, List.set_cons_succ, i64_w, i32_w]
           rfl
          refine pure_ (i := 3) (N := some 43) (v := ?_) (a' := ?_) #[true, true, true, true, false, false, false, false, false, false, false, false, false, false, false, false, false, false, false, false, false, false] rfl rfl (any_of HT_.out (by kernel_rfl)) (fun _ _ _ h => h) (Or.inl ⟨by rfl, ?_⟩) ?_ ?_
          rotate_left
          ·intro w'
           go_simp
           with_reducible rfl
          rotate_left
          ·simp only [Act.put, List.setIfInBounds_toArray, List.set_cons_zero, List.set_cons_succ, i64_w, i32_w]
           rfl
          refine pure_ (i := 4) (N := some 44) (v := ?_) (a' := ?_) #[true, true, true, true, true, false, false, false, false, false, false, false, false, false, false, false, false, false, false, false, false, false] rfl rfl (any_of HT_.out (by kernel_rfl)) (fun _ _ _ h => h) (Or.inl ⟨by rfl, ?_⟩) ?_ ?_
          rotate_left
          ·intro w'
           go_simp
           with_reducible rfl
          rotate_left
          ·simp only [Act.put, List.setIfInBounds_toArray, List.set_cons_zero, List.set_cons_succ, i64_w, i32_w]
           rfl
          refine pure_ (i := 5) (N := some 45) (v := ?_) (a' := ?_) #[true, true, true, true, true, true, false, false, false, false, false, false, false, false, false, false, false, false, false, false, false, false] rfl rfl (any_of HT_.out (by kernel_rfl)) (fun _ _ _ h => h) (Or.inl ⟨by rfl, ?_⟩) ?_ ?_
          rotate_left
          ·intro w'
           go_simp
           with_reducible rfl
          rotate_left
          ·simp only [Act.put, List.setIfInBounds_toArray, List.set_cons_zero, List.set_cons_succ, i64_w, i32_w]
           rfl
          refine pure_ (i := 6) (N := some 46) (v := ?_) (a' := ?_) #[true, true, true, true, true, true, true, false, false, false, false, false, false, false, false, false, false, false, false, false, false, false] rfl rfl (any_of HT_.out (by kernel_rfl)) (fun _ _ _ h => h) (Or.inl ⟨by rfl, ?_⟩) ?_ ?_
          rotate_left
          ·intro w'
           go_simp
           with_reducible rfl
          rotate_left
          ·simp only [Act.put, List.setIfInBounds_toArray, List.set_cons_zero, List.set_cons_succ, i64_w, i32_w]
           rfl
          refine pure_ (i := 7) (N := some 47) (v := ?_) (a' := ?_) #[true, true, true, true, true, true, true, true, false, false, false, false, false, false, false, false, false, false, false, false, false, false] rfl rfl (any_of HT_.out (by kernel_rfl)) (fun _ _ _ h => h) (Or.inl ⟨by rfl, ?_⟩) ?_ ?_
          rotate_left
          ·intro w'
           go_simp
           with_reducible rfl
          rotate_left
          ·simp only [Act.put, List.setIfInBounds_toArray, List.set_cons_zero, List.set_cons_succ, i64_w, i32_w]
           rfl
          refine pure_ (i := 8) (N := some 48) (v := ?_) (a' := ?_) #[true, true, true, true, true, true, true, true, true, false, false, false, false, false, false, false, false, false, false, false, false, false] rfl rfl (any_of HT_.out (by kernel_rfl)) (fun _ _ _ h => h) (Or.inl ⟨by rfl, ?_⟩) ?_ ?_
          rotate_left
          ·intro w'
           go_simp
           with_reducible rfl
          rotate_left
          ·simp only [Act.put, List.setIfInBounds_toArray, List.set_cons_zero, List.set_cons_succ, i64_w, i32_w]
           rfl
          refine pure_ (i := 12) (N := some 52) (v := ?_) (a' := ?_) #[true, true, true, true, true, true, true, true, true, false, false, false, true, false, false, false, false, false, false, false, false, false] rfl rfl (any_of HT_.out (by kernel_rfl)) (fun _ _ _ h => h) (Or.inl ⟨by rfl, ?_⟩) ?_ ?_
          rotate_left
          ·intro w'
           go_simp
           with_reducible rfl
          rotate_left
          ·simp only [Act.put, List.setIfInBounds_toArray, List.set_cons_zero, List.set_cons_succ, i64_w, i32_w]
           rfl
          refine pure_ (i := 15) (N := some 55) (v := ?_) (a' := ?_) #[true, true, true, true, true, true, true, true, true, false, false, false, true, false, false, true, false, false, false, false, false, false] rfl rfl (any_of HT_.out (by kernel_rfl)) (fun _ _ _ h => h) (Or.inl ⟨by rfl, ?_⟩) ?_ ?_
          rotate_left
          ·intro w'
           go_simp
           with_reducible rfl
          rotate_left
          ·simp only [Act.put, List.setIfInBounds_toArray, List.set_cons_zero, List.set_cons_succ, i64_w, i32_w]
           rfl
          refine pure_ (i := 17) (N := some 57) (v := ?_) (a' := ?_) #[true, true, true, true, true, true, true, true, true, false, false, false, true, false, false, true, false, true, false, false, false, false] rfl rfl (any_of HT_.out (by kernel_rfl)) (fun _ _ _ h => h) (Or.inl ⟨by rfl, ?_⟩) ?_ ?_
          rotate_left
          ·intro w'
           go_simp
           with_reducible rfl
          rotate_left
          ·simp only [Act.put, List.setIfInBounds_toArray, List.set_cons_zero, List.set_cons_succ, i64_w, i32_w]
           rfl
          refine take_ (i := 9) (N := some 49) (v := ?_) (a' := ?_) #[true, true, true, true, true, true, true, true, true, true, false, false, true, false, false, true, false, true, false, false, false, false] rfl rfl (take_ofW HT_.out HW_.out (by kernel_rfl)) (fun _ _ _ h => h) (Or.inl ⟨by rfl, ?_⟩) hHeld ?_ ?_
          rotate_left
          ·rintro w' ⟨s0, s1, s2, s3, s4, s5⟩
           go_simp
           with_reducible rfl
          rotate_left
          ·simp only [Act.put, List.setIfInBounds_toArray, List.set_cons_zero, List.set_cons_succ, i64_w, i32_w]
           rfl
          refine take_ (i := 10) (N := some 50) (v := ?_) (a' := ?_) #[true, true, true, true, true, true, true, true, true, true, true, false, true, false, false, true, false, true, false, false, false, false] rfl rfl (take_ofW HT_.out HW_.out (by kernel_rfl)) (fun _ _ _ h => h) (Or.inl ⟨by rfl, ?_⟩) hHeld ?_ ?_
          rotate_left
          ·rintro w' ⟨s0, s1, s2, s3, s4, s5⟩
           go_simp
           with_reducible rfl
          rotate_left
          ·simp only [Act.put, List.setIfInBounds_toArray, List.set_cons_zero, List.set_cons_succ, i64_w, i32_w]
           rfl
          refine take_ (i := 16) (N := some 56) (v := ?_) (a' := ?_) #[true, true, true, true, true, true, true, true, true, true, true, false, true, false, false, true, true, true, false, false, false, false] rfl rfl (take_ofW HT_.out HW_.out (by kernel_rfl)) (fun _ _ _ h => h) (Or.inl ⟨by rfl, ?_⟩) hHeld ?_ ?_
          rotate_left
          ·rintro w' ⟨s0, s1, s2, s3, s4, s5⟩
           go_simp
           with_reducible rfl
          rotate_left
          ·simp only [Act.put, List.setIfInBounds_toArray, List.set_cons_zero, List.set_cons_succ, i64_w, i32_w]
           rfl
          refine pure_ (i := 18) (N := some 58) (v := ?_) (a' := ?_) #[true, true, true, true, true, true, true, true, true, true, true, false, true, false, false, true, true, true, true, false, false, false] rfl rfl (any_of HT_.out (by kernel_rfl)) (fun _ _ _ h => h) (Or.inl ⟨by rfl, ?_⟩) ?_ ?_
          rotate_left
          ·intro w'
           go_simp
           with_reducible rfl
          rotate_left
          ·simp only [Act.put, List.setIfInBounds_toArray, List.set_cons_zero, List.set_cons_succ, i64_w, i32_w]
           rfl
          refine one_ (i := 11) (N := some 51) #[true, true, true, true, true, true, true, true, true, true, true, true, true, false, false, true, true, true, true, false, false, false] rfl rfl (one_of HT_.out (by kernel_rfl)) (by decide) (fun K hK => ?_)
          refine goes_ Try.func42 (by kernel_rfl) rfl #[.agg #[.int .i64 a0_0, .int .i64 a0_1, .slice A0_2 l0_2.length c0_2]] (by rfl) rfl rfl (by (try simp only [List.map_toArray, List.map_cons, List.map_nil]); first | done | rfl | (simp only [List.length_drop, List.length_take]; rfl)) ?_
          with_reducible refine (pack_Vec_mask.calls a0_0 a0_1 _ _ l0_2 t262 _ ?side1 ?side2 A26.out).mono ?_
          (case side1 => repeat (first | exact (Kd.C_below HR0_2.out HB.out) | (with_reducible refine Kd.C_alloc ?_ _) | (with_reducible refine Kd.C_drewN ?_ _) | (with_reducible refine Kd.C_drew ?_)))
          (case side2 => exact HC0_2.out)
          rintro e w45 ⟨rfl, hb⟩
          have HS5_ := (hb.cell (World.block_lt_of_cell? _ _ (hHeld.2.2.2.2.2))).trans (hHeld.2.2.2.2.2)
          refine ⟨_, rfl, ?_⟩
          replace HO260 := kb HO260 hb
          replace BK253 := bb BK253 hb
          replace BK254 := bb BK254 hb
          replace BK255 := bb BK255 hb
          replace HB := bh HB hb
          (try clear hb)
          (try clear hb2)
          (try clear hk)
          (try clear hi)
          have p31 : 0 ≤ ((ji23) : Int) := of_decide_eq_true (by first | (with_reducible assumption) | assumption)
          have q31 : ((ji23) : Int) < ((t258.length : Int) : Int) := of_decide_eq_true (by first | (with_reducible assumption) | assumption)
          obtain ⟨go31, co31, eo31, gb31, gl31, cl31, HG31⟩ := Kd.R_form HO260.out (by omega)
          (first | cases eo31 | (injection eo31 with ea_ en_ ec_; (first | subst ea_ | (injection ea_ with ea_; subst ea_)); subst ec_; clear en_))
          have GB31 := Aside0.mk gb31
          have GG31 := Aside0.mk HG31
          clear gb31 gl31 HG31
          (first | simp only [add_plain] at hx261_0 | skip)
          obtain ⟨hx31_0, hf31_0⟩ := Kd.R_celln 0 HO260.out ((ji23) : Int) p31 q31
          replace p31 := eq_true p31
          replace q31 := eq_true q31
          have HP46 := Kd.R_putn HO260.out ((ji23) : Int) (Go.bits .or .u64 (Go.bits .andNot .u64 (rd t258 (ji23)) (ji28)) (ji30))
          rw [← Ny263.out] at HP46
          have HQ46 := Aside0.mk HP46
          clear HP46
          refine hK.out _ _ ⟨(blk_cell BK253.out 0).trans rfl, (blk_cell BK253.out 1).trans rfl, (blk_cell BK253.out 2).trans rfl, (blk_cell BK254.out 0).trans rfl, (blk_cell BK254.out 1).trans rfl, HS5_⟩ (fun hHeld => ?_)
          clear hK K
          refine norm_ (a' := ?_) ?_ ?_
          rotate_left
          ·show Act.put _ (some 51) _ = _
           simp only [Act.put, List.setIfInBounds_toArray, List.set_cons_zero, List.set_cons_succ, i64_w, i32_w]
           rfl
          refine pure_ (i := 13) (N := some 53) (v := ?_) (a' := ?_) #[true, true, true, true, true, true, true, true, true, true, true, true, true, true, false, true, true, true, true, false, false, false] rfl rfl (any_of HT_.out (by kernel_rfl)) (fun _ _ _ h => h) (Or.inl ⟨by rfl, ?_⟩) ?_ ?_
          rotate_left
          ·intro w'
           go_simp
           with_reducible rfl
          rotate_left
          ·simp only [Act.put, List.setIfInBounds_toArray, List.set_cons_zero, List.set_cons_succ, i64_w, i32_w]
           rfl
          refine pure_ (i := 14) (N := some 54) (v := ?_) (a' := ?_) #[true, true, true, true, true, true, true, true, true, true, true, true, true, true, true, true, true, true, true, false, false, false] rfl rfl (any_of HT_.out (by kernel_rfl)) (fun _ _ _ h => h) (Or.inl ⟨by rfl, ?_⟩) ?_ ?_
          rotate_left
          ·intro w'
           go_simp
           with_reducible rfl
          rotate_left
          ·simp only [Act.put, List.setIfInBounds_toArray, List.set_cons_zero, List.set_cons_succ, i64_w, i32_w]
           rfl
          refine pure_ (i := 19) (N := some 59) (v := ?_) (a' := ?_) #[true, true, true, true, true, true, true, true, true, true, true, true, true, true, true, true, true, true, true, true, false, false] rfl rfl (any_of HT_.out (by kernel_rfl)) (fun _ _ _ h => h) (Or.inl ⟨by rfl, ?_⟩) ?_ ?_
          rotate_left
          ·intro w'
           go_simp
           with_reducible rfl
          rotate_left
          ·simp only [Act.put, List.setIfInBounds_toArray, List.set_cons_zero, List.set_cons_succ, i64_w, i32_w]
           rfl
          refine pure_ (i := 20) (N := some 60) (v := ?_) (a' := ?_) #[true, true, true, true, true, true, true, true, true, true, true, true, true, true, true, true, true, true, true, true, true, false] rfl rfl (any_of HT_.out (by kernel_rfl)) (fun _ _ _ h => h) (Or.inl ⟨by rfl, ?_⟩) ?_ ?_
          rotate_left
          ·intro w'
           go_simp
           with_reducible rfl
          rotate_left
          ·simp only [Act.put, List.setIfInBounds_toArray, List.set_cons_zero, List.set_cons_succ, i64_w, i32_w]
           rfl
          refine last_ (i := 21) (N := none) #[true, true, true, true, true, true, true, true, true, true, true, true, true, true, true, true, true, true, true, true, true, true] rfl rfl (one_of HT_.out (by kernel_rfl)) (by decide) (fun K hK => ?_)
          refine skip_ (w1 := ?_) (by rfl) rfl ?_ ?_
          rotate_left
          ·go_simp
           rfl
          refine hK.out _ _ ?_
          clear hK K
          refine done_ (done_of HT_.out (by kernel_rfl)) ?_
          have n0_ : Aside0 (Kd.R (Kd.int .u64) 23 (w45.setCell ⟨go31, ((ji23) : Int).toNat, none⟩ (.int .u64 (Go.bits .or .u64 (Go.bits .andNot .u64 (rd t258 (ji23)) (ji28)) (ji30)))) w.heap.size (fun _ => True) (.slice (some ⟨go31, 0, none⟩) t258.length co44) y263) := ⟨by (with_reducible repeat refine kl ?_); exact HQ46.out⟩
          have n1_ : Aside0 ((w45.setCell ⟨go31, ((ji23) : Int).toNat, none⟩ (.int .u64 (Go.bits .or .u64 (Go.bits .andNot .u64 (rd t258 (ji23)) (ji28)) (ji30)))).heap[gb253]? = some (.cells #[.int .i64 a0_0, .int .i64 a0_1, .slice A0_2 l0_2.length c0_2] 31 (0, 0))) := ⟨by (with_reducible repeat refine bl ?_); refine blk_far ?_ (by have h_ := Kd.R_ne HO260.out BK253.out (by decide); intro e_; exact h_ (by rw [e_]; rfl)) _; (with_reducible repeat refine bl ?_); exact BK253.out⟩
          have n2_ : Aside0 ((w45.setCell ⟨go31, ((ji23) : Int).toNat, none⟩ (.int .u64 (Go.bits .or .u64 (Go.bits .andNot .u64 (rd t258 (ji23)) (ji28)) (ji30)))).heap[gb254]? = some (.cells #[.int .u64 a2_0, .int .u64 a2_1] 25 (0, 0))) := ⟨by (with_reducible repeat refine bl ?_); refine blk_far ?_ (by have h_ := Kd.R_ne HO260.out BK254.out (by decide); intro e_; exact h_ (by rw [e_]; rfl)) _; (with_reducible repeat refine bl ?_); exact BK254.out⟩
          have n3_ : Aside0 ((w45.setCell ⟨go31, ((ji23) : Int).toNat, none⟩ (.int .u64 (Go.bits .or .u64 (Go.bits .andNot .u64 (rd t258 (ji23)) (ji28)) (ji30)))).heap[gb255]? = some (.cells #[.int .i64 0, .int .i64 0, .slice none 0 0] 31 (0, 0))) := ⟨by (with_reducible repeat refine bl ?_); refine blk_far ?_ (by have h_ := Kd.R_ne HO260.out BK255.out (by decide); intro e_; exact h_ (by rw [e_]; rfl)) _; (with_reducible repeat refine bl ?_); exact BK255.out⟩
          have n4_ : Aside0 (Below w.heap.size w (w45.setCell ⟨go31, ((ji23) : Int).toNat, none⟩ (.int .u64 (Go.bits .or .u64 (Go.bits .andNot .u64 (rd t258 (ji23)) (ji28)) (ji30))))) := ⟨by repeat (first | (with_reducible first | exact HB.out | apply below_alloc | apply pw_below_drewN | apply below_drew1 | refine below_set ?_ GB31.out | refine below_set ?_ GE253.out | refine below_set ?_ GE254.out | refine below_set ?_ GE255.out) | exact HB.out)⟩
          (try clear HO260)
          (try clear BK253)
          (try clear BK254)
          (try clear BK255)
          (try clear HB)
          generalize (w45.setCell ⟨go31, ((ji23) : Int).toNat, none⟩ (.int .u64 (Go.bits .or .u64 (Go.bits .andNot .u64 (rd t258 (ji23)) (ji28)) (ji30)))) = w47 at n0_ n1_ n2_ n3_ n4_ ⊢
          have HO260 := n0_
          have BK253 := n1_
          have BK254 := n2_
          have BK255 := n3_
          have HB := n4_
          clear n0_ n1_ n2_ n3_ n4_
          obtain ⟨hcz48_0, hcz48_1, hcz48_2⟩ := zc3 BK253
          obtain ⟨hfz48_0, hfz48_1, hfz48_2⟩ := zf3 BK253
          try go_wp2_with (first | ((with_reducible refine gate_callee (f := 40) rfl ?_); refine goesL_ (some 66) rfl rfl Try.func40 (by kernel_rfl) rfl #[.int .i64 a0_0, .int .i64 a0_1, .slice (some ⟨go31, 0, none⟩) t258.length co44] rfl (by (try simp only [List.map_toArray, List.map_cons, List.map_nil]); first | done | rfl | (simp only [List.length_drop, List.length_take]; rfl)) ?_; (with_reducible refine (pack_vec.calls a0_0 a0_1 (fun k_ => some k_ = (.slice (some ⟨go31, 0, none⟩) t258.length co44 : Value).ownBlock) (.slice (some ⟨go31, 0, none⟩) t258.length co44) y263 t264 t265 t266 w _ ?side1 ?side2 A32.out).mono ?_); (case side1 => repeat (first | (with_reducible first | exact HB.out | apply below_alloc | apply pw_below_drewN | apply below_drew1 | refine below_set ?_ GE253.out | refine below_set ?_ GE254.out | refine below_set ?_ GE255.out) | exact HB.out)); (case side2 => exact Kd.R_tight rfl HO260.out); rintro e w49 ⟨v267, rfl, ho0, hb, hkp⟩; refine ⟨_, rfl, ?_⟩; have HO268 := Aside0.mk (Kd.R_mono (ok' := fun k_ => True) ho0 (fun k_ hk_ => trivial)); replace BK253 := Aside0.mk (blk_kept (bk BK253.out) hkp (fun hs_ => (fun e_ => (Kd.R_ne HO260.out BK253.out (by decide)) e_) hs_)); replace BK254 := Aside0.mk (blk_kept (bk BK254.out) hkp (fun hs_ => (fun e_ => (Kd.R_ne HO260.out BK254.out (by decide)) e_) hs_)); replace BK255 := Aside0.mk (blk_kept (bk BK255.out) hkp (fun hs_ => (fun e_ => (Kd.R_ne HO260.out BK255.out (by decide)) e_) hs_)); replace HB := Aside0.mk hb; clear HO260; (try clear hb); (try clear hkp); (try clear ho0); obtain ⟨hcz50_0, hcz50_1, hcz50_2⟩ := zc3 BK255; obtain ⟨hfz50_0, hfz50_1, hfz50_2⟩ := zf3 BK255; obtain ⟨Ao51, co51, eo51⟩ := Kd.R_slice HO268.out; subst eo51))
          refine bodyPost_ret (results_ct rfl _ _ gb255 31 #[.int .i64 t264, .int .i64 t265, .slice Ao51 t266.length co51] (0, 0) _ rfl (by (with_reducible repeat refine bl ?_); refine blk_put (cs := #[.int .i64 t264, .int .i64 t265, .slice none 0 0]) ?_ 2 _ rfl; (with_reducible repeat refine bl ?_); refine blk_put (cs := #[.int .i64 t264, .int .i64 0, .slice none 0 0]) ?_ 1 _ rfl; (with_reducible repeat refine bl ?_); refine blk_put (cs := #[.int .i64 0, .int .i64 0, .slice none 0 0]) ?_ 0 _ rfl; (with_reducible repeat refine bl ?_); exact BK255.out) Try.underlying31 rfl (by kernel_rfl)) rfl ?_
          exact ⟨_, by first | rfl | (simp [errW_none, errW_some] <;> rfl) | (simp only [← hji21, ← hji23, ← hji28, ← hji30]; first | rfl | (simp [errW_none, errW_some] <;> rfl)) | (simp [*, errW_none, errW_some] <;> rfl), by (with_reducible repeat refine kl ?_); exact Kd.R_mono (Kd.R_far (p := ⟨gb255, 2, none⟩) (Kd.R_far (p := ⟨gb255, 1, none⟩) (Kd.R_far (p := ⟨gb255, 0, none⟩) (Kd.R_types HO268.out BK255.out (by decide)) (fun _ hk => hk.2) (.int .i64 t264)) (fun _ hk => hk.2) (.int .i64 t265)) (fun _ hk => hk.2) (.slice Ao51 t266.length co51)) (fun _ hk => trivial), bq HB.out⟩
         ·rw [if_neg c27] at H
          exact absurd H (by simp)
        ·rw [if_neg c25] at H
         exact absurd H (by simp)
       ·rw [if_neg c24] at H
        exact absurd H (by simp)
      ·rw [if_neg c20] at H
       exact absurd H (by simp)
    ·replace c17 := Bool.eq_false_iff.mpr c17
     subst c17
     have H1 : (some (0, 0, ([] : List Int), 5)) = some (r1, r2, r3, r4) := by rw [if_neg (show ¬ (false = true) by decide)] at H; exact H
     clear H
     have H := H1
     clear H1
     simp only [Option.some.injEq, Prod.mk.injEq] at H
     obtain ⟨rfl, rfl, rfl, rfl⟩ := H
     have hnb52 := NB253_254.out
     have hnc52 := NB254_253.out
     have hnb53 := NB253_255.out
     have hnc53 := NB255_253.out
     obtain ⟨hcz54_0, hcz54_1, hcz54_2⟩ := zc3 BK253
     obtain ⟨hfz54_0, hfz54_1, hfz54_2⟩ := zf3 BK253
     have hnb55 := NB254_255.out
     have hnc55 := NB255_254.out
     obtain ⟨hcz56_0, hcz56_1⟩ := zc2 BK254
     obtain ⟨hfz56_0, hfz56_1⟩ := zf2 BK254
     go_wp2_with (first | ((with_reducible refine gate_callee (f := 38) rfl ?_); refine goesL_ (some 25) rfl rfl Try.func38 (by kernel_rfl) rfl #[.int .i64 a0_0, .agg #[.int .u64 a2_0, .int .u64 a2_1]] rfl (by (try simp only [List.map_toArray, List.map_cons, List.map_nil]); first | done | rfl | (simp only [List.length_drop, List.length_take]; rfl)) ?_; (with_reducible refine (octet_Of.calls kj3 a0_0 a2_0 a2_1 false _ A16.out).mono ?_); rintro e w57 ⟨rfl, hb⟩; refine ⟨_, rfl, ?_⟩; replace BK253 := bb BK253 hb; replace BK254 := bb BK254 hb; replace BK255 := bb BK255 hb; replace HB := bh HB hb; (try clear hb); (try clear hb2); (try clear hk); (try clear hi); obtain ⟨hcz58_0, hcz58_1, hcz58_2⟩ := zc3 BK255; obtain ⟨hfz58_0, hfz58_1, hfz58_2⟩ := zf3 BK255))
     refine bodyPost_ret (results_ct rfl _ _ gb255 31 #[.int .i64 0, .int .i64 0, .slice none 0 0] (0, 0) _ rfl (by (with_reducible repeat refine bl ?_); refine blk_put (cs := #[.int .i64 0, .int .i64 0, .slice none 0 0]) ?_ 2 _ rfl; (with_reducible repeat refine bl ?_); refine blk_put (cs := #[.int .i64 0, .int .i64 0, .slice none 0 0]) ?_ 1 _ rfl; (with_reducible repeat refine bl ?_); refine blk_put (cs := #[.int .i64 0, .int .i64 0, .slice none 0 0]) ?_ 0 _ rfl; (with_reducible repeat refine bl ?_); exact BK255.out) Try.underlying31 rfl (by kernel_rfl)) rfl ?_
     exact ⟨_, by first | rfl | (simp [errW_none, errW_some] <;> rfl) | (simp [*, errW_none, errW_some] <;> rfl), by first | exact Kd.R_nil _ _ _ _ _ | exact Kd.N_nil _ _ _ _ _ | exact Kd.V_nil _ _ _ _ _ | exact Kd.Q_nil _ _ _ _ _ | exact Kd.S_nil _ _ _ _ _, bq HB.out⟩

end Go.Proofs.Ytceneggampgboaa.P
