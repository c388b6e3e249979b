/- Written by a program of this session: functions that the law reaches, as Lean functions, and that the code comes to their answers. Conditions: those that each theorem names. -/
import Derived.Test.YtlegcabfgkccmaaPx0
import Derived.Test.YtlegcabfgkccmaaPx1
import Derived.Test.YtlegcabfgkccmaaPx2
import Derived.Test.YtlegcabfgkccmaaPx3
import Derived.Test.YtlegcabfgkccmaaPx6
import Derived.Test.YtlegcabfgkccmaaPx7
import Derived.Test.YtlegcabfgkccmaaPx8
import Derived.Test.YtlegcabfgkccmaaPx11
namespace Go.Proofs.Ytlegcabfgkccmaa.P
open Go.RowKit Go.Proofs.YtlegcabfgkccmaaX Go.Proofs.YtlegcabfgkccmaaW.PrintWords Go.Proofs.YtlegcabfgkccmaaW.PrintLast Go.Proofs.YtlegcabfgkccmaaW.PrintMore
attribute [local go_sem] max2_int min2_int max_two min_two max_three min_three max_four min_four   -- for this text's walks alone
set_option linter.unusedVariables false
set_option linter.unusedSimpArgs false

attribute [local go_sem high] eqA24 eqA37
/-! ### steeplelaw33_FrobHalves: function 8 -/
def steeplelaw33_FrobHalves.f (k : Nat) (a0 : Int) (a1_0 : Int) (a1_1 : Int) : Option (Bool) := (frob_Half.f k a0 a1_0 a1_1).bind fun bt283 => ((steepleref01_Of.f k a0 a1_0 a1_1).bind fun t288 => (if t288 = true then ((steepleref33_Trace.f k a0 0 a1_0 a1_1).bind fun bt291 => (if (bt283.2.2 != (bt291.1 == 0 && (bt291.2 == 0))) = true then (none) else (if bt283.2.2 = true then ((steeplelaw33_awake.f k).bind fun t295 => (if t295 = true then ((octet_Of.f k a0 bt283.1 bt283.2.1).bind fun t296 => (if t296 = true then (if (Int.tmod bt283.2.1 2) = 0 then ((steepleref02_Product.f k bt283.1 bt283.2.1 bt283.1 bt283.2.1).bind fun bt297 => ((steepleref02_Add.f bt297.1 bt297.2 bt283.1 bt283.2.1).bind fun bt299 => (some (bt299.1 == a1_0 && (bt299.2 == a1_1))))) else (none)) else (none))) else (none))) else ((steeplelaw33_awake.f k).bind fun t293 => (if t293 = true then (some (bt283.1 == 0 && (bt283.2.1 == 0))) else (none)))))) else ((steeplelaw33_awake.f k).bind fun t289 => (if t289 = true then (if bt283.2.2 = true then (none) else (some (bt283.1 == 0 && (bt283.2.1 == 0)))) else (none)))))
theorem steeplelaw33_FrobHalves.mono : ∀ a0 a1 a2 k, LeO (steeplelaw33_FrobHalves.f k a0 a1 a2) (steeplelaw33_FrobHalves.f (k + 1) a0 a1 a2) := by
 intro a0 a1 a2 k
 unfold steeplelaw33_FrobHalves.f
 repeat' first
   | (with_reducible exact frob_Half.mono _ _ _ _)
   | (with_reducible exact octet_Of.mono _ _ _ _)
   | (with_reducible exact steeplelaw33_awake.mono _)
   | (with_reducible exact steepleref01_Of.mono _ _ _ _)
   | (with_reducible exact steepleref02_Product.mono _ _ _ _ _)
   | (with_reducible exact steepleref33_Trace.mono _ _ _ _ _)
   | (with_reducible exact LeO.refl _)
   | (with_reducible exact LeO.none _)
   | (with_reducible refine LeO.ite ?_ ?_)
   | (with_reducible refine LeO.bind ?_ (fun _ => ?_))
   | exact frob_Half.mono _ _ _ _
   | exact octet_Of.mono _ _ _ _
   | exact steeplelaw33_awake.mono _
   | exact steepleref01_Of.mono _ _ _ _
   | exact steepleref02_Product.mono _ _ _ _ _
   | exact steepleref33_Trace.mono _ _ _ _ _
   | exact LeO.none _
   | refine LeO.ite ?_ ?_
   | refine LeO.bind ?_ (fun _ => ?_)
def steeplelaw33_FrobHalves.T11 : Bool × List (List Nat × List Nat) := (true, [([], []), ([0, 0], [0]), ([1], [1]), ([1], [1]), ([2, 3, 1, 1], [1, 2, 3]), ([1, 4], [1, 4]), ([5, 4], [5]), ([6], [6]), ([7, 6], [6, 7]), ([8, 6], [6, 8]), ([9, 6], [6, 9]), ([6, 10], [6, 10]), ([11, 6], [11]), ([12], [12]), ([12], [12]), ([13, 14, 12, 12], [12, 13, 14]), ([12], [12]), ([15, 16, 15, 12], [12, 15, 16]), ([12], [12]), ([17, 18, 12], [12, 17, 18]), ([12, 19], [12, 19]), ([20, 17, 0, 1, 2, 3, 4, 5, 6, 7, 8, 9, 10, 11, 12, 13, 14, 15, 16, 17, 18, 19, 20], [20])])
def steeplelaw33_FrobHalves.B11 : List Nat := [0, 1, 3, 3, 15, 31, 63, 127, 255, 511, 1023, 2047, 4095, 8191, 8191, 32767, 8191, 131071, 8191, 524287, 1048575, 2097151]
theorem steeplelaw33_FrobHalves.tab11 : rtab .any (opsOf Try.f8 11) = steeplelaw33_FrobHalves.T11 := by kernel_rfl
theorem steeplelaw33_FrobHalves.bits11 : waitsOk steeplelaw33_FrobHalves.T11.2 steeplelaw33_FrobHalves.B11 = true := by kernel_rfl
set_option maxHeartbeats 8000000 in
set_option maxRecDepth 100000 in
theorem steeplelaw33_FrobHalves.calls (k : Nat) (a0 : Int) (a1_0 : Int) (a1_1 : Int) (r : Bool) (w : World) (h : steeplelaw33_FrobHalves.f k a0 a1_0 a1_1 = some r) :
  Calls Try.prog 8 #[.int .i64 a0, .agg #[.int .u64 a1_0, .int .u64 a1_1]] w fun e w' => e = .returned (.bool r) ∧ Below w.heap.size w w' := by
 have hu24 := Try.underlying24
 have hu37 := Try.underlying37
 have HB := Aside0.mk (Below.refl w.heap.size w)
 have H : ((frob_Half.f k a0 a1_0 a1_1).bind fun bt283 => ((steepleref01_Of.f k a0 a1_0 a1_1).bind fun t288 => (if t288 = true then ((steepleref33_Trace.f k a0 0 a1_0 a1_1).bind fun bt291 => (if (bt283.2.2 != (bt291.1 == 0 && (bt291.2 == 0))) = true then (none) else (if bt283.2.2 = true then ((steeplelaw33_awake.f k).bind fun t295 => (if t295 = true then ((octet_Of.f k a0 bt283.1 bt283.2.1).bind fun t296 => (if t296 = true then (if (Int.tmod bt283.2.1 2) = 0 then ((steepleref02_Product.f k bt283.1 bt283.2.1 bt283.1 bt283.2.1).bind fun bt297 => ((steepleref02_Add.f bt297.1 bt297.2 bt283.1 bt283.2.1).bind fun bt299 => (some (bt299.1 == a1_0 && (bt299.2 == a1_1))))) else (none)) else (none))) else (none))) else ((steeplelaw33_awake.f k).bind fun t293 => (if t293 = true then (some (bt283.1 == 0 && (bt283.2.1 == 0))) else (none)))))) else ((steeplelaw33_awake.f k).bind fun t289 => (if t289 = true then (if bt283.2.2 = true then (none) else (some (bt283.1 == 0 && (bt283.2.1 == 0)))) else (none)))))) = some r := h
 clear h
 replace H := Option.bind_eq_some_iff.mp H
 obtain ⟨⟨t283, t284, t285⟩, A30, H⟩ := H
 replace H : ((steepleref01_Of.f k a0 a1_0 a1_1).bind fun t288 => (if t288 = true then ((steepleref33_Trace.f k a0 0 a1_0 a1_1).bind fun bt291 => (if (t285 != (bt291.1 == 0 && (bt291.2 == 0))) = true then (none) else (if t285 = true then ((steeplelaw33_awake.f k).bind fun t295 => (if t295 = true then ((octet_Of.f k a0 t283 t284).bind fun t296 => (if t296 = true then (if (Int.tmod t284 2) = 0 then ((steepleref02_Product.f k t283 t284 t283 t284).bind fun bt297 => ((steepleref02_Add.f bt297.1 bt297.2 t283 t284).bind fun bt299 => (some (bt299.1 == a1_0 && (bt299.2 == a1_1))))) else (none)) else (none))) else (none))) else ((steeplelaw33_awake.f k).bind fun t293 => (if t293 = true then (some (t283 == 0 && (t284 == 0))) else (none)))))) else ((steeplelaw33_awake.f k).bind fun t289 => (if t289 = true then (if t285 = true then (none) else (some (t283 == 0 && (t284 == 0)))) else (none))))) = some r := H
 have A3 := Aside0.mk A30
 clear A30
 replace H := Option.bind_eq_some_iff.mp H
 obtain ⟨t288, A40, H⟩ := H
 replace H : (if t288 = true then ((steepleref33_Trace.f k a0 0 a1_0 a1_1).bind fun bt291 => (if (t285 != (bt291.1 == 0 && (bt291.2 == 0))) = true then (none) else (if t285 = true then ((steeplelaw33_awake.f k).bind fun t295 => (if t295 = true then ((octet_Of.f k a0 t283 t284).bind fun t296 => (if t296 = true then (if (Int.tmod t284 2) = 0 then ((steepleref02_Product.f k t283 t284 t283 t284).bind fun bt297 => ((steepleref02_Add.f bt297.1 bt297.2 t283 t284).bind fun bt299 => (some (bt299.1 == a1_0 && (bt299.2 == a1_1))))) else (none)) else (none))) else (none))) else ((steeplelaw33_awake.f k).bind fun t293 => (if t293 = true then (some (t283 == 0 && (t284 == 0))) else (none)))))) else ((steeplelaw33_awake.f k).bind fun t289 => (if t289 = true then (if t285 = true then (none) else (some (t283 == 0 && (t284 == 0)))) else (none)))) = some r := H
 have A4 := Aside0.mk A40
 clear A40
 by_cases c5 : t288 = true
 ·subst c5
  have H1 : ((steepleref33_Trace.f k a0 0 a1_0 a1_1).bind fun bt291 => (if (t285 != (bt291.1 == 0 && (bt291.2 == 0))) = true then (none) else (if t285 = true then ((steeplelaw33_awake.f k).bind fun t295 => (if t295 = true then ((octet_Of.f k a0 t283 t284).bind fun t296 => (if t296 = true then (if (Int.tmod t284 2) = 0 then ((steepleref02_Product.f k t283 t284 t283 t284).bind fun bt297 => ((steepleref02_Add.f bt297.1 bt297.2 t283 t284).bind fun bt299 => (some (bt299.1 == a1_0 && (bt299.2 == a1_1))))) else (none)) else (none))) else (none))) else ((steeplelaw33_awake.f k).bind fun t293 => (if t293 = true then (some (t283 == 0 && (t284 == 0))) else (none)))))) = some r := by rw [if_pos rfl] at H; exact H
  clear H
  have H := H1
  clear H1
  replace H := Option.bind_eq_some_iff.mp H
  obtain ⟨⟨t291, t292⟩, A60, H⟩ := H
  replace H : (if (t285 != (t291 == 0 && (t292 == 0))) = true then (none) else (if t285 = true then ((steeplelaw33_awake.f k).bind fun t295 => (if t295 = true then ((octet_Of.f k a0 t283 t284).bind fun t296 => (if t296 = true then (if (Int.tmod t284 2) = 0 then ((steepleref02_Product.f k t283 t284 t283 t284).bind fun bt297 => ((steepleref02_Add.f bt297.1 bt297.2 t283 t284).bind fun bt299 => (some (bt299.1 == a1_0 && (bt299.2 == a1_1))))) else (none)) else (none))) else (none))) else ((steeplelaw33_awake.f k).bind fun t293 => (if t293 = true then (some (t283 == 0 && (t284 == 0))) else (none))))) = some r := H
  have A6 := Aside0.mk A60
  clear A60
  by_cases c7 : (t285 != (t291 == 0 && (t292 == 0))) = true
  ·rw [if_pos c7] at H
   exact absurd H (by simp)
  ·rw [if_neg c7] at H
   have c7b0 : (t285 != (t291 == 0 && (t292 == 0))) = false := by simpa using c7
   (try (have c7b1 : decide (t285 = (t291 == 0 && (t292 == 0))) = true := by simpa using c7))
   (try (have c7b2 : (t285 == (t291 == 0 && (t292 == 0))) = true := by simpa using c7))
   clear c7
   by_cases c8 : t285 = true
   ·subst c8
    have H1 : ((steeplelaw33_awake.f k).bind fun t295 => (if t295 = true then ((octet_Of.f k a0 t283 t284).bind fun t296 => (if t296 = true then (if (Int.tmod t284 2) = 0 then ((steepleref02_Product.f k t283 t284 t283 t284).bind fun bt297 => ((steepleref02_Add.f bt297.1 bt297.2 t283 t284).bind fun bt299 => (some (bt299.1 == a1_0 && (bt299.2 == a1_1))))) else (none)) else (none))) else (none))) = some r := by rw [if_pos rfl] at H; exact H
    clear H
    have H := H1
    clear H1
    replace H := Option.bind_eq_some_iff.mp H
    obtain ⟨t295, A90, H⟩ := H
    replace H : (if t295 = true then ((octet_Of.f k a0 t283 t284).bind fun t296 => (if t296 = true then (if (Int.tmod t284 2) = 0 then ((steepleref02_Product.f k t283 t284 t283 t284).bind fun bt297 => ((steepleref02_Add.f bt297.1 bt297.2 t283 t284).bind fun bt299 => (some (bt299.1 == a1_0 && (bt299.2 == a1_1))))) else (none)) else (none))) else (none)) = some r := H
    have A9 := Aside0.mk A90
    clear A90
    by_cases c10 : t295 = true
    ·subst c10
     have H1 : ((octet_Of.f k a0 t283 t284).bind fun t296 => (if t296 = true then (if (Int.tmod t284 2) = 0 then ((steepleref02_Product.f k t283 t284 t283 t284).bind fun bt297 => ((steepleref02_Add.f bt297.1 bt297.2 t283 t284).bind fun bt299 => (some (bt299.1 == a1_0 && (bt299.2 == a1_1))))) else (none)) else (none))) = some r := by rw [if_pos rfl] at H; exact H
     clear H
     have H := H1
     clear H1
     replace H := Option.bind_eq_some_iff.mp H
     obtain ⟨t296, A110, H⟩ := H
     replace H : (if t296 = true then (if (Int.tmod t284 2) = 0 then ((steepleref02_Product.f k t283 t284 t283 t284).bind fun bt297 => ((steepleref02_Add.f bt297.1 bt297.2 t283 t284).bind fun bt299 => (some (bt299.1 == a1_0 && (bt299.2 == a1_1))))) else (none)) else (none)) = some r := H
     have A11 := Aside0.mk A110
     clear A110
     by_cases c12 : t296 = true
     ·subst c12
      have H1 : (if (Int.tmod t284 2) = 0 then ((steepleref02_Product.f k t283 t284 t283 t284).bind fun bt297 => ((steepleref02_Add.f bt297.1 bt297.2 t283 t284).bind fun bt299 => (some (bt299.1 == a1_0 && (bt299.2 == a1_1))))) else (none)) = some r := by rw [if_pos rfl] at H; exact H
      clear H
      have H := H1
      clear H1
      by_cases c13 : (Int.tmod t284 2) = 0
      ·rw [if_pos c13] at H
       have c13b0 : ((Int.tmod t284 2) == 0) = true := beq_iff_eq.mpr c13
       have c13b1 : ((Int.tmod t284 2) != 0) = false := bne_eq_false_iff_eq.mpr c13
       clear c13
       replace H := Option.bind_eq_some_iff.mp H
       obtain ⟨⟨t297, t298⟩, A140, H⟩ := H
       replace H : ((steepleref02_Add.f t297 t298 t283 t284).bind fun bt299 => (some (bt299.1 == a1_0 && (bt299.2 == a1_1)))) = some r := H
       have A14 := Aside0.mk A140
       clear A140
       replace H := Option.bind_eq_some_iff.mp H
       obtain ⟨⟨t299, t300⟩, A150, H⟩ := H
       replace H : (some (t299 == a1_0 && (t300 == a1_1))) = some r := H
       have A15 := Aside0.mk A150
       clear A150
       obtain rfl := Option.some.inj H
       go_enter Try.func8, Try.ntmps8
       try go_wp2_with (first | ((with_reducible refine gate_dst (N := 3) rfl ?_); refine box_event ?hg (N := 3) ?hd (cs := #[.int .u64 a1_0, .int .u64 a1_1]) (t := 24) ?hr ?_; (case hd => rfl); (case hg => rfl); (case hr => first | (go_simp; done) | (go_simp; rfl)); intro gb282 hg w16 hbox hb; have BK282 := Aside0.mk hbox; have GW282 := ge hg HB; have GE282 := ge hg HB; replace HB := bh HB hb; clear hb hbox hg; obtain ⟨hcz17_0, hcz17_1⟩ := zc2 BK282; obtain ⟨hfz17_0, hfz17_1⟩ := zf2 BK282) | ((with_reducible refine gate_callee (f := 33) rfl ?_); refine goesL_ (some 13) rfl rfl Try.func33 (by kernel_rfl) rfl #[.int .i64 a0, .agg #[.int .u64 a1_0, .int .u64 a1_1]] rfl (by (try simp only [List.map_toArray, List.map_cons, List.map_nil]); first | done | rfl | (simp only [List.length_drop, List.length_take]; rfl)) ?_; (with_reducible refine (frob_Half.calls k a0 a1_0 a1_1 t283 t284 true _ A3.out).mono ?_); rintro e w18 ⟨rfl, hb⟩; refine ⟨_, rfl, ?_⟩; replace BK282 := bb BK282 hb; replace HB := bh HB hb; (try clear hb); (try clear hb2); (try clear hk); (try clear hi)) | ((with_reducible refine gate_dst (N := 5) rfl ?_); refine box_event ?hg (N := 5) ?hd (cs := #[.int .u64 0, .int .u64 0]) (t := 24) ?hr ?_; (case hd => rfl); (case hg => rfl); (case hr => first | (go_simp; done) | (go_simp; rfl)); intro gb286 hg w19 hbox hb; have BK286 := Aside0.mk hbox; have GW286 := ge hg HB; have GE286 := ge hg HB; have NB282_286 := nl hg BK282; have NB286_282 := ng hg BK282; replace BK282 := bb BK282 hb; replace HB := bh HB hb; clear hb hbox hg; have hnb20 := NB286_282.out; have hnc20 := NB282_286.out; obtain ⟨hcz21_0, hcz21_1⟩ := zc2 BK286; obtain ⟨hfz21_0, hfz21_1⟩ := zf2 BK286; obtain ⟨hcz22_0, hcz22_1⟩ := zc2 BK282; obtain ⟨hfz22_0, hfz22_1⟩ := zf2 BK282) | ((with_reducible refine gate_dst (N := 7) rfl ?_); refine box_event ?hg (N := 7) ?hd (cs := #[.int .u64 0, .int .u64 0]) (t := 37) ?hr ?_; (case hd => rfl); (case hg => rfl); (case hr => first | (go_simp; done) | (go_simp; rfl)); intro gb287 hg w23 hbox hb; have BK287 := Aside0.mk hbox; have GW287 := ge hg HB; have GE287 := ge hg HB; have NB282_287 := Aside0.mk ((by rw [hg]; exact Nat.ne_of_lt (blk_lt (g := gb282) (o := .cells #[.int .u64 a1_0, .int .u64 a1_1] 24 (0, 0)) (by (with_reducible repeat refine bl ?_); refine blk_far ?_ NB282_286.out _; (with_reducible repeat refine bl ?_); refine blk_far ?_ NB282_286.out _; (with_reducible repeat refine bl ?_); exact BK282.out)) : gb282 ≠ gb287)); have NB287_282 := Aside0.mk ((by rw [hg]; exact Nat.ne_of_gt (blk_lt (g := gb282) (o := .cells #[.int .u64 a1_0, .int .u64 a1_1] 24 (0, 0)) (by (with_reducible repeat refine bl ?_); refine blk_far ?_ NB282_286.out _; (with_reducible repeat refine bl ?_); refine blk_far ?_ NB282_286.out _; (with_reducible repeat refine bl ?_); exact BK282.out)) : gb287 ≠ gb282)); have NB286_287 := Aside0.mk ((by rw [hg]; exact Nat.ne_of_lt (blk_lt (g := gb286) (o := .cells #[.int .u64 t283, .int .u64 t284] 24 (0, 0)) (by (with_reducible repeat refine bl ?_); refine blk_put (cs := #[.int .u64 t283, .int .u64 0]) ?_ 1 _ rfl; (with_reducible repeat refine bl ?_); refine blk_put (cs := #[.int .u64 0, .int .u64 0]) ?_ 0 _ rfl; (with_reducible repeat refine bl ?_); exact BK286.out)) : gb286 ≠ gb287)); have NB287_286 := Aside0.mk ((by rw [hg]; exact Nat.ne_of_gt (blk_lt (g := gb286) (o := .cells #[.int .u64 t283, .int .u64 t284] 24 (0, 0)) (by (with_reducible repeat refine bl ?_); refine blk_put (cs := #[.int .u64 t283, .int .u64 0]) ?_ 1 _ rfl; (with_reducible repeat refine bl ?_); refine blk_put (cs := #[.int .u64 0, .int .u64 0]) ?_ 0 _ rfl; (with_reducible repeat refine bl ?_); exact BK286.out)) : gb287 ≠ gb286)); replace BK282 := Aside0.mk (blk_below (g := gb282) (o := .cells #[.int .u64 a1_0, .int .u64 a1_1] 24 (0, 0)) (by (with_reducible repeat refine bl ?_); refine blk_far ?_ NB282_286.out _; (with_reducible repeat refine bl ?_); refine blk_far ?_ NB282_286.out _; (with_reducible repeat refine bl ?_); exact BK282.out) hb); replace BK286 := Aside0.mk (blk_below (g := gb286) (o := .cells #[.int .u64 t283, .int .u64 t284] 24 (0, 0)) (by (with_reducible repeat refine bl ?_); refine blk_put (cs := #[.int .u64 t283, .int .u64 0]) ?_ 1 _ rfl; (with_reducible repeat refine bl ?_); refine blk_put (cs := #[.int .u64 0, .int .u64 0]) ?_ 0 _ rfl; (with_reducible repeat refine bl ?_); exact BK286.out) hb); replace HB := bh HB hb; clear hb hbox hg; have hnb24 := NB287_282.out; have hnc24 := NB282_287.out; have hnb25 := NB287_286.out; have hnc25 := NB286_287.out; obtain ⟨hcz26_0, hcz26_1⟩ := zc2 BK287; obtain ⟨hfz26_0, hfz26_1⟩ := zf2 BK287) | ((with_reducible refine gate_callee (f := 17) rfl ?_); refine goesL_ (some 19) rfl rfl Try.func17 (by kernel_rfl) rfl #[.int .i64 a0, .agg #[.int .u64 a1_0, .int .u64 a1_1]] rfl (by (try simp only [List.map_toArray, List.map_cons, List.map_nil]); first | done | rfl | (simp only [List.length_drop, List.length_take]; rfl)) ?_; (with_reducible refine (steepleref01_Of.calls k a0 a1_0 a1_1 true _ A4.out).mono ?_); rintro e w27 ⟨rfl, hb⟩; refine ⟨_, rfl, ?_⟩; replace BK282 := Aside0.mk (blk_below (g := gb282) (o := .cells #[.int .u64 a1_0, .int .u64 a1_1] 24 (0, 0)) (by (with_reducible repeat refine bl ?_); refine blk_far ?_ NB282_287.out _; (with_reducible repeat refine bl ?_); refine blk_far ?_ NB282_287.out _; (with_reducible repeat refine bl ?_); exact BK282.out) hb); replace BK286 := Aside0.mk (blk_below (g := gb286) (o := .cells #[.int .u64 t283, .int .u64 t284] 24 (0, 0)) (by (with_reducible repeat refine bl ?_); refine blk_far ?_ NB286_287.out _; (with_reducible repeat refine bl ?_); refine blk_far ?_ NB286_287.out _; (with_reducible repeat refine bl ?_); exact BK286.out) hb); replace BK287 := Aside0.mk (blk_below (g := gb287) (o := .cells #[.int .u64 a1_0, .int .u64 a1_1] 37 (0, 0)) (by (with_reducible repeat refine bl ?_); refine blk_put (cs := #[.int .u64 a1_0, .int .u64 0]) ?_ 1 _ rfl; (with_reducible repeat refine bl ?_); refine blk_put (cs := #[.int .u64 0, .int .u64 0]) ?_ 0 _ rfl; (with_reducible repeat refine bl ?_); exact BK287.out) hb); replace HB := bh HB hb; (try clear hb); (try clear hb2); (try clear hk); (try clear hi)) | ((with_reducible refine gate_dst (N := 8) rfl ?_); refine box_event ?hg (N := 8) ?hd (cs := #[.int .u64 0, .int .u64 0]) (t := 37) ?hr ?_; (case hd => rfl); (case hg => rfl); (case hr => first | (go_simp; done) | (go_simp; rfl)); intro gb290 hg w28 hbox hb; have BK290 := Aside0.mk hbox; have GW290 := ge hg HB; have GE290 := ge hg HB; have NB282_290 := nl hg BK282; have NB290_282 := ng hg BK282; have NB286_290 := nl hg BK286; have NB290_286 := ng hg BK286; have NB287_290 := nl hg BK287; have NB290_287 := ng hg BK287; replace BK282 := bb BK282 hb; replace BK286 := bb BK286 hb; replace BK287 := bb BK287 hb; replace HB := bh HB hb; clear hb hbox hg))
       replace BK282 := Aside0.mk (blk_drew BK282.out)
       replace BK286 := Aside0.mk (blk_drew BK286.out)
       replace BK287 := Aside0.mk (blk_drew BK287.out)
       replace BK290 := Aside0.mk (blk_drew BK290.out)
       replace HB := Aside0.mk (below_drew1 HB.out)
       refine start_ (n := 7) (S := fun w' => w'.cell? ⟨gb287, 0, none⟩ = some (.int .u64 a1_0) ∧ w'.cell? ⟨gb287, 1, none⟩ = some (.int .u64 a1_1) ∧ w'.cell? ⟨gb290, 0, none⟩ = some (.int .u64 0) ∧ w'.cell? ⟨gb290, 1, none⟩ = some (.int .u64 0)) (ds := []) #[false, false, false, false, false, false, false] (by kernel_rfl) rfl rfl ⟨(blk_cell BK287.out 0).trans rfl, (blk_cell BK287.out 1).trans rfl, (blk_cell BK290.out 0).trans rfl, (blk_cell BK290.out 1).trans rfl⟩ (fun hHeld => ?_)
       generalize w28.drew = w29 at BK282 BK286 BK287 BK290 HB hHeld ⊢
       refine pure_ (i := 0) (N := some 31) (v := ?_) (a' := ?_) #[true, false, false, false, false, false, false] rfl rfl (by kernel_rfl) (fun _ _ _ h => h) (Or.inl ⟨by rfl, ?_⟩) ?_ ?_
       rotate_left
       ·intro w'
        go_simp
        with_reducible rfl
       rotate_left
       ·simp only [Act.put, List.setIfInBounds_toArray, List.set_cons_zero, List.set_cons_succ, i64_w, i32_w]
        rfl
       refine pure_ (i := 1) (N := some 32) (v := ?_) (a' := ?_) #[true, true, false, false, false, false, false] rfl rfl (by kernel_rfl) (fun _ _ _ h => h) (Or.inl ⟨by rfl, ?_⟩) ?_ ?_
       rotate_left
       ·intro w'
        go_simp
        with_reducible rfl
       rotate_left
       ·simp only [Act.put, List.setIfInBounds_toArray, List.set_cons_zero, List.set_cons_succ, i64_w, i32_w]
        rfl
       refine take_ (i := 2) (N := some 33) (v := ?_) (a' := ?_) #[true, true, true, false, false, false, false] rfl rfl (by kernel_rfl) (fun _ _ _ h => h) (Or.inl ⟨by rfl, ?_⟩) hHeld ?_ ?_
       rotate_left
       ·rintro w' ⟨s0, s1, s2, s3⟩
        go_simp
        with_reducible rfl
       rotate_left
       ·simp only [Act.put, List.setIfInBounds_toArray, List.set_cons_zero, List.set_cons_succ, i64_w, i32_w]
        rfl
       refine take_ (i := 4) (N := some 35) (v := ?_) (a' := ?_) #[true, true, true, false, true, false, false] rfl rfl (by kernel_rfl) (fun _ _ _ h => h) (Or.inl ⟨by rfl, ?_⟩) hHeld ?_ ?_
       rotate_left
       ·rintro w' ⟨s0, s1, s2, s3⟩
        go_simp
        with_reducible rfl
       rotate_left
       ·simp only [Act.put, List.setIfInBounds_toArray, List.set_cons_zero, List.set_cons_succ, i64_w, i32_w]
        rfl
       refine one_ (i := 3) (N := some 34) #[true, true, true, true, true, false, false] rfl rfl (by kernel_rfl) (by decide) (fun K hK => ?_)
       refine goes_ Try.func31 (by kernel_rfl) rfl #[.int .i64 a0, .int .i64 0, .agg #[.int .u64 a1_0, .int .u64 a1_1]] (by rfl) rfl rfl (by (try simp only [List.map_toArray, List.map_cons, List.map_nil]); first | done | rfl | (simp only [List.length_drop, List.length_take]; rfl)) ?_
       with_reducible refine (steepleref33_Trace.calls k a0 0 a1_0 a1_1 t291 t292 _ A6.out).mono ?_
       rintro e w30 ⟨rfl, hb⟩
       refine ⟨_, rfl, ?_⟩
       replace BK282 := bb BK282 hb
       replace BK286 := bb BK286 hb
       replace BK287 := bb BK287 hb
       replace BK290 := bb BK290 hb
       replace HB := bh HB hb
       (try clear hb)
       (try clear hb2)
       (try clear hk)
       (try clear hi)
       refine hK.out _ _ ⟨(blk_cell BK287.out 0).trans rfl, (blk_cell BK287.out 1).trans rfl, (blk_cell BK290.out 0).trans rfl, (blk_cell BK290.out 1).trans rfl⟩ (fun hHeld => ?_)
       clear hK K
       refine norm_ (a' := ?_) ?_ ?_
       rotate_left
       ·show Act.put _ (some 34) _ = _
        simp only [Act.put, List.setIfInBounds_toArray, List.set_cons_zero, List.set_cons_succ, i64_w, i32_w]
        rfl
       refine pure_ (i := 5) (N := some 36) (v := ?_) (a' := ?_) #[true, true, true, true, true, true, false] rfl rfl (by kernel_rfl) (fun _ _ _ h => h) (Or.inl ⟨by rfl, ?_⟩) ?_ ?_
       rotate_left
       ·intro w'
        go_simp
        with_reducible rfl
       rotate_left
       ·simp only [Act.put, List.setIfInBounds_toArray, List.set_cons_zero, List.set_cons_succ, i64_w, i32_w]
        rfl
       refine pure_ (i := 6) (N := some 37) (v := ?_) (a' := ?_) #[true, true, true, true, true, true, true] rfl rfl (by kernel_rfl) (fun _ _ _ h => h) (Or.inl ⟨by rfl, ?_⟩) ?_ ?_
       rotate_left
       ·intro w'
        go_simp
        with_reducible rfl
       rotate_left
       ·simp only [Act.put, List.setIfInBounds_toArray, List.set_cons_zero, List.set_cons_succ, i64_w, i32_w]
        rfl
       refine done_ (by kernel_rfl) ?_
       have hnb31 := NB286_290.out
       have hnc31 := NB290_286.out
       obtain ⟨hcz32_0, hcz32_1⟩ := zc2 BK286
       obtain ⟨hfz32_0, hfz32_1⟩ := zf2 BK286
       try go_wp2_with (first | ((with_reducible refine gate_dst (N := 9) rfl ?_); refine box_event ?hg (N := 9) ?hd (cs := #[.int .u64 0, .int .u64 0]) (t := 37) ?hr ?_; (case hd => rfl); (case hg => rfl); (case hr => first | (go_simp; done) | (go_simp; rfl)); intro gb294 hg w33 hbox hb; have BK294 := Aside0.mk hbox; have GW294 := ge hg HB; have GE294 := ge hg HB; have NB282_294 := nl hg BK282; have NB294_282 := ng hg BK282; have NB286_294 := nl hg BK286; have NB294_286 := ng hg BK286; have NB287_294 := nl hg BK287; have NB294_287 := ng hg BK287; have NB290_294 := nl hg BK290; have NB294_290 := ng hg BK290; replace BK282 := bb BK282 hb; replace BK286 := bb BK286 hb; replace BK287 := bb BK287 hb; replace BK290 := bb BK290 hb; replace HB := bh HB hb; clear hb hbox hg; have hnb34 := NB294_282.out; have hnc34 := NB282_294.out; have hnb35 := NB294_286.out; have hnc35 := NB286_294.out; have hnb36 := NB294_287.out; have hnc36 := NB287_294.out; have hnb37 := NB294_290.out; have hnc37 := NB290_294.out; obtain ⟨hcz38_0, hcz38_1⟩ := zc2 BK294; obtain ⟨hfz38_0, hfz38_1⟩ := zf2 BK294))
       have n0_ : Aside0 (((w33.setCell ⟨gb294, 0, none⟩ (.int .u64 t283)).setCell ⟨gb294, 1, none⟩ (.int .u64 t284)).heap[gb282]? = some (.cells #[.int .u64 a1_0, .int .u64 a1_1] 24 (0, 0))) := ⟨by (with_reducible repeat refine bl ?_); refine blk_far ?_ NB282_294.out _; (with_reducible repeat refine bl ?_); refine blk_far ?_ NB282_294.out _; (with_reducible repeat refine bl ?_); exact BK282.out⟩
       have n1_ : Aside0 (((w33.setCell ⟨gb294, 0, none⟩ (.int .u64 t283)).setCell ⟨gb294, 1, none⟩ (.int .u64 t284)).heap[gb286]? = some (.cells #[.int .u64 t283, .int .u64 t284] 24 (0, 0))) := ⟨by (with_reducible repeat refine bl ?_); refine blk_far ?_ NB286_294.out _; (with_reducible repeat refine bl ?_); refine blk_far ?_ NB286_294.out _; (with_reducible repeat refine bl ?_); exact BK286.out⟩
       have n2_ : Aside0 (((w33.setCell ⟨gb294, 0, none⟩ (.int .u64 t283)).setCell ⟨gb294, 1, none⟩ (.int .u64 t284)).heap[gb287]? = some (.cells #[.int .u64 a1_0, .int .u64 a1_1] 37 (0, 0))) := ⟨by (with_reducible repeat refine bl ?_); refine blk_far ?_ NB287_294.out _; (with_reducible repeat refine bl ?_); refine blk_far ?_ NB287_294.out _; (with_reducible repeat refine bl ?_); exact BK287.out⟩
       have n3_ : Aside0 (((w33.setCell ⟨gb294, 0, none⟩ (.int .u64 t283)).setCell ⟨gb294, 1, none⟩ (.int .u64 t284)).heap[gb290]? = some (.cells #[.int .u64 0, .int .u64 0] 37 (0, 0))) := ⟨by (with_reducible repeat refine bl ?_); refine blk_far ?_ NB290_294.out _; (with_reducible repeat refine bl ?_); refine blk_far ?_ NB290_294.out _; (with_reducible repeat refine bl ?_); exact BK290.out⟩
       have n4_ : Aside0 (((w33.setCell ⟨gb294, 0, none⟩ (.int .u64 t283)).setCell ⟨gb294, 1, none⟩ (.int .u64 t284)).heap[gb294]? = some (.cells #[.int .u64 t283, .int .u64 t284] 37 (0, 0))) := ⟨by (with_reducible repeat refine bl ?_); refine blk_put (cs := #[.int .u64 t283, .int .u64 0]) ?_ 1 _ rfl; (with_reducible repeat refine bl ?_); refine blk_put (cs := #[.int .u64 0, .int .u64 0]) ?_ 0 _ rfl; (with_reducible repeat refine bl ?_); exact BK294.out⟩
       have n5_ : Aside0 (Below w.heap.size w ((w33.setCell ⟨gb294, 0, none⟩ (.int .u64 t283)).setCell ⟨gb294, 1, none⟩ (.int .u64 t284))) := ⟨bq HB.out⟩
       (try clear BK282)
       (try clear BK286)
       (try clear BK287)
       (try clear BK290)
       (try clear BK294)
       (try clear HB)
       generalize ((w33.setCell ⟨gb294, 0, none⟩ (.int .u64 t283)).setCell ⟨gb294, 1, none⟩ (.int .u64 t284)) = w39 at n0_ n1_ n2_ n3_ n4_ n5_ ⊢
       have BK282 := n0_
       have BK286 := n1_
       have BK287 := n2_
       have BK290 := n3_
       have BK294 := n4_
       have HB := n5_
       clear n0_ n1_ n2_ n3_ n4_ n5_
       replace BK282 := Aside0.mk (blk_drew BK282.out)
       replace BK286 := Aside0.mk (blk_drew BK286.out)
       replace BK287 := Aside0.mk (blk_drew BK287.out)
       replace BK290 := Aside0.mk (blk_drew BK290.out)
       replace BK294 := Aside0.mk (blk_drew BK294.out)
       replace HB := Aside0.mk (below_drew1 HB.out)
       refine start_ (n := 22) (S := fun w' => w'.cell? ⟨gb286, 0, none⟩ = some (.int .u64 t283) ∧ w'.cell? ⟨gb286, 1, none⟩ = some (.int .u64 t284) ∧ w'.cell? ⟨gb294, 0, none⟩ = some (.int .u64 t283) ∧ w'.cell? ⟨gb294, 1, none⟩ = some (.int .u64 t284) ∧ w'.cell? ⟨gb287, 0, none⟩ = some (.int .u64 a1_0) ∧ w'.cell? ⟨gb287, 1, none⟩ = some (.int .u64 a1_1)) (ds := []) #[false, false, false, false, false, false, false, false, false, false, false, false, false, false, false, false, false, false, false, false, false, false] (by kernel_rfl) rfl rfl ⟨(blk_cell BK286.out 0).trans rfl, (blk_cell BK286.out 1).trans rfl, (blk_cell BK294.out 0).trans rfl, (blk_cell BK294.out 1).trans rfl, (blk_cell BK287.out 0).trans rfl, (blk_cell BK287.out 1).trans rfl⟩ (fun hHeld => ?_); refine with_tabW steeplelaw33_FrobHalves.tab11 steeplelaw33_FrobHalves.bits11 (fun HT_ HW_ => ?_)
       generalize w39.drew = w40 at BK282 BK286 BK287 BK290 BK294 HB hHeld ⊢
       refine one_ (i := 0) (N := some 47) #[true, false, false, false, false, false, false, false, false, false, false, false, false, false, false, false, false, false, false, false, false, false] rfl rfl (one_of HT_.out (by kernel_rfl)) (by decide) (fun K hK => ?_)
       refine goes_ Try.func14 (by kernel_rfl) rfl #[] (by rfl) rfl rfl (by (try simp only [List.map_toArray, List.map_cons, List.map_nil]); first | done | rfl | (simp only [List.length_drop, List.length_take]; rfl)) ?_
       with_reducible refine (steeplelaw33_awake.calls k  true _ A9.out).mono ?_
       rintro e w41 ⟨rfl, hb⟩
       refine ⟨_, rfl, ?_⟩
       replace BK282 := bb BK282 hb
       replace BK286 := bb BK286 hb
       replace BK287 := bb BK287 hb
       replace BK290 := bb BK290 hb
       replace BK294 := bb BK294 hb
       replace HB := bh HB hb
       (try clear hb)
       (try clear hb2)
       (try clear hk)
       (try clear hi)
       refine hK.out _ _ ⟨(blk_cell BK286.out 0).trans rfl, (blk_cell BK286.out 1).trans rfl, (blk_cell BK294.out 0).trans rfl, (blk_cell BK294.out 1).trans rfl, (blk_cell BK287.out 0).trans rfl, (blk_cell BK287.out 1).trans rfl⟩ (fun hHeld => ?_)
       clear hK K
       refine norm_ (a' := ?_) ?_ ?_
       rotate_left
       ·show Act.put _ (some 47) _ = _
        simp only [Act.put, List.setIfInBounds_toArray, List.set_cons_zero, List.set_cons_succ, i64_w, i32_w]
        rfl
       refine pure_ (i := 1) (N := some 48) (v := ?_) (a' := ?_) #[true, true, false, false, false, false, false, false, false, false, false, false, false, false, false, false, false, false, false, false, false, false] rfl rfl (any_of HT_.out (by kernel_rfl)) (fun _ _ _ h => h) (Or.inl ⟨by rfl, ?_⟩) ?_ ?_
       rotate_left
       ·intro w'
        go_simp
        with_reducible rfl
       rotate_left
       ·simp only [Act.put, List.setIfInBounds_toArray, List.set_cons_zero, List.set_cons_succ, i64_w, i32_w]
        rfl
       refine pure_ (i := 2) (N := some 49) (v := ?_) (a' := ?_) #[true, true, true, false, false, false, false, false, false, false, false, false, false, false, false, false, false, false, false, false, false, false] rfl rfl (any_of HT_.out (by kernel_rfl)) (fun _ _ _ h => h) (Or.inl ⟨by rfl, ?_⟩) ?_ ?_
       rotate_left
       ·intro w'
        go_simp
        with_reducible rfl
       rotate_left
       ·simp only [Act.put, List.setIfInBounds_toArray, List.set_cons_zero, List.set_cons_succ, i64_w, i32_w]
        rfl
       refine take_ (i := 3) (N := some 50) (v := ?_) (a' := ?_) #[true, true, true, true, false, false, false, false, false, false, false, false, false, false, false, false, false, false, false, false, false, false] rfl rfl (take_ofW HT_.out HW_.out (by kernel_rfl)) (fun _ _ _ h => h) (Or.inl ⟨by rfl, ?_⟩) hHeld ?_ ?_
       rotate_left
       ·rintro w' ⟨s0, s1, s2, s3, s4, s5⟩
        go_simp
        with_reducible rfl
       rotate_left
       ·simp only [Act.put, List.setIfInBounds_toArray, List.set_cons_zero, List.set_cons_succ, i64_w, i32_w]
        rfl
       refine one_ (i := 4) (N := some 51) #[true, true, true, true, true, false, false, false, false, false, false, false, false, false, false, false, false, false, false, false, false, false] rfl rfl (one_of HT_.out (by kernel_rfl)) (by decide) (fun K hK => ?_)
       refine goes_ Try.func26 (by kernel_rfl) rfl #[.int .i64 a0, .agg #[.int .u64 t283, .int .u64 t284]] (by rfl) rfl rfl (by (try simp only [List.map_toArray, List.map_cons, List.map_nil]); first | done | rfl | (simp only [List.length_drop, List.length_take]; rfl)) ?_
       with_reducible refine (octet_Of.calls k a0 t283 t284 true _ A11.out).mono ?_
       rintro e w42 ⟨rfl, hb⟩
       refine ⟨_, rfl, ?_⟩
       replace BK282 := bb BK282 hb
       replace BK286 := bb BK286 hb
       replace BK287 := bb BK287 hb
       replace BK290 := bb BK290 hb
       replace BK294 := bb BK294 hb
       replace HB := bh HB hb
       (try clear hb)
       (try clear hb2)
       (try clear hk)
       (try clear hi)
       refine hK.out _ _ ⟨(blk_cell BK286.out 0).trans rfl, (blk_cell BK286.out 1).trans rfl, (blk_cell BK294.out 0).trans rfl, (blk_cell BK294.out 1).trans rfl, (blk_cell BK287.out 0).trans rfl, (blk_cell BK287.out 1).trans rfl⟩ (fun hHeld => ?_)
       clear hK K
       refine norm_ (a' := ?_) ?_ ?_
       rotate_left
       ·show Act.put _ (some 51) _ = _
        simp only [Act.put, List.setIfInBounds_toArray, List.set_cons_zero, List.set_cons_succ, i64_w, i32_w]
        rfl
       refine pure_ (i := 5) (N := some 52) (v := ?_) (a' := ?_) #[true, true, true, true, true, true, false, false, false, false, false, false, false, false, false, false, false, false, false, false, false, false] rfl rfl (any_of HT_.out (by kernel_rfl)) (fun _ _ _ h => h) (Or.inl ⟨by rfl, ?_⟩) ?_ ?_
       rotate_left
       ·intro w'
        go_simp
        with_reducible rfl
       rotate_left
       ·simp only [Act.put, List.setIfInBounds_toArray, List.set_cons_zero, List.set_cons_succ, i64_w, i32_w]
        rfl
       refine pure_ (i := 6) (N := some 53) (v := ?_) (a' := ?_) #[true, true, true, true, true, true, true, false, false, false, false, false, false, false, false, false, false, false, false, false, false, false] rfl rfl (any_of HT_.out (by kernel_rfl)) (fun _ _ _ h => h) (Or.inl ⟨by rfl, ?_⟩) ?_ ?_
       rotate_left
       ·intro w'
        go_simp
        with_reducible rfl
       rotate_left
       ·simp only [Act.put, List.setIfInBounds_toArray, List.set_cons_zero, List.set_cons_succ, i64_w, i32_w]
        rfl
       refine pure_ (i := 7) (N := some 54) (v := ?_) (a' := ?_) #[true, true, true, true, true, true, true, true, false, false, false, false, false, false, false, false, false, false, false, false, false, false] rfl rfl (any_of HT_.out (by kernel_rfl)) (fun _ _ _ h => h) (Or.inl ⟨by rfl, ?_⟩) ?_ ?_
       rotate_left
       ·intro w'
        go_simp
        with_reducible rfl
       rotate_left
       ·simp only [Act.put, List.setIfInBounds_toArray, List.set_cons_zero, List.set_cons_succ, i64_w, i32_w]
        rfl
       refine take_ (i := 8) (N := some 55) (v := ?_) (a' := ?_) #[true, true, true, true, true, true, true, true, true, false, false, false, false, false, false, false, false, false, false, false, false, false] rfl rfl (take_ofW HT_.out HW_.out (by kernel_rfl)) (fun _ _ _ h => h) (Or.inl ⟨by rfl, ?_⟩) hHeld ?_ ?_
       rotate_left
       ·rintro w' ⟨s0, s1, s2, s3, s4, s5⟩
        go_simp
        with_reducible rfl
       rotate_left
       ·simp only [Act.put, List.setIfInBounds_toArray, List.set_cons_zero, List.set_cons_succ, i64_w, i32_w]
        rfl
       refine pure_ (i := 9) (N := some 56) (v := ?_) (a' := ?_) #[true, true, true, true, true, true, true, true, true, true, false, false, false, false, false, false, false, false, false, false, false, false] rfl rfl (any_of HT_.out (by kernel_rfl)) (fun _ _ _ h => h) (Or.inl ⟨by rfl, ?_⟩) ?_ ?_
       rotate_left
       ·intro w'
        go_simp
        with_reducible rfl
       rotate_left
       ·simp only [Act.put, List.setIfInBounds_toArray, List.set_cons_zero, List.set_cons_succ, i64_w, i32_w]
        rfl
       refine pure_ (i := 10) (N := some 57) (v := ?_) (a' := ?_) #[true, true, true, true, true, true, true, true, true, true, true, false, false, false, false, false, false, false, false, false, false, false] rfl rfl (any_of HT_.out (by kernel_rfl)) (fun _ _ _ h => h) (Or.inl ⟨by rfl, ?_⟩) ?_ ?_
       rotate_left
       ·intro w'
        go_simp
        with_reducible rfl
       rotate_left
       ·simp only [Act.put, List.setIfInBounds_toArray, List.set_cons_zero, List.set_cons_succ, i64_w, i32_w]
        rfl
       refine pure_ (i := 11) (N := some 58) (v := ?_) (a' := ?_) #[true, true, true, true, true, true, true, true, true, true, true, true, false, false, false, false, false, false, false, false, false, false] rfl rfl (any_of HT_.out (by kernel_rfl)) (fun _ _ _ h => h) (Or.inl ⟨by rfl, ?_⟩) ?_ ?_
       rotate_left
       ·intro w'
        go_simp
        with_reducible rfl
       rotate_left
       ·simp only [Act.put, List.setIfInBounds_toArray, List.set_cons_zero, List.set_cons_succ, i64_w, i32_w]
        rfl
       refine pure_ (i := 12) (N := some 59) (v := ?_) (a' := ?_) #[true, true, true, true, true, true, true, true, true, true, true, true, true, false, false, false, false, false, false, false, false, false] rfl rfl (any_of HT_.out (by kernel_rfl)) (fun _ _ _ h => h) (Or.inl ⟨by rfl, ?_⟩) ?_ ?_
       rotate_left
       ·intro w'
        go_simp
        with_reducible rfl
       rotate_left
       ·simp only [Act.put, List.setIfInBounds_toArray, List.set_cons_zero, List.set_cons_succ, i64_w, i32_w]
        rfl
       refine take_ (i := 13) (N := some 60) (v := ?_) (a' := ?_) #[true, true, true, true, true, true, true, true, true, true, true, true, true, true, false, false, false, false, false, false, false, false] rfl rfl (take_ofW HT_.out HW_.out (by kernel_rfl)) (fun _ _ _ h => h) (Or.inl ⟨by rfl, ?_⟩) hHeld ?_ ?_
       rotate_left
       ·rintro w' ⟨s0, s1, s2, s3, s4, s5⟩
        go_simp
        with_reducible rfl
       rotate_left
       ·simp only [Act.put, List.setIfInBounds_toArray, List.set_cons_zero, List.set_cons_succ, i64_w, i32_w]
        rfl
       refine take_ (i := 14) (N := some 61) (v := ?_) (a' := ?_) #[true, true, true, true, true, true, true, true, true, true, true, true, true, true, true, false, false, false, false, false, false, false] rfl rfl (take_ofW HT_.out HW_.out (by kernel_rfl)) (fun _ _ _ h => h) (Or.inl ⟨by rfl, ?_⟩) hHeld ?_ ?_
       rotate_left
       ·rintro w' ⟨s0, s1, s2, s3, s4, s5⟩
        go_simp
        with_reducible rfl
       rotate_left
       ·simp only [Act.put, List.setIfInBounds_toArray, List.set_cons_zero, List.set_cons_succ, i64_w, i32_w]
        rfl
       refine take_ (i := 16) (N := some 63) (v := ?_) (a' := ?_) #[true, true, true, true, true, true, true, true, true, true, true, true, true, true, true, false, true, false, false, false, false, false] rfl rfl (take_ofW HT_.out HW_.out (by kernel_rfl)) (fun _ _ _ h => h) (Or.inl ⟨by rfl, ?_⟩) hHeld ?_ ?_
       rotate_left
       ·rintro w' ⟨s0, s1, s2, s3, s4, s5⟩
        go_simp
        with_reducible rfl
       rotate_left
       ·simp only [Act.put, List.setIfInBounds_toArray, List.set_cons_zero, List.set_cons_succ, i64_w, i32_w]
        rfl
       refine take_ (i := 18) (N := some 65) (v := ?_) (a' := ?_) #[true, true, true, true, true, true, true, true, true, true, true, true, true, true, true, false, true, false, true, false, false, false] rfl rfl (take_ofW HT_.out HW_.out (by kernel_rfl)) (fun _ _ _ h => h) (Or.inl ⟨by rfl, ?_⟩) hHeld ?_ ?_
       rotate_left
       ·rintro w' ⟨s0, s1, s2, s3, s4, s5⟩
        go_simp
        with_reducible rfl
       rotate_left
       ·simp only [Act.put, List.setIfInBounds_toArray, List.set_cons_zero, List.set_cons_succ, i64_w, i32_w]
        rfl
       refine one_ (i := 15) (N := some 62) #[true, true, true, true, true, true, true, true, true, true, true, true, true, true, true, true, true, false, true, false, false, false] rfl rfl (one_of HT_.out (by kernel_rfl)) (by decide) (fun K hK => ?_)
       refine goes_ Try.func22 (by kernel_rfl) rfl #[.agg #[.int .u64 t283, .int .u64 t284], .agg #[.int .u64 t283, .int .u64 t284]] (by rfl) rfl rfl (by (try simp only [List.map_toArray, List.map_cons, List.map_nil]); first | done | rfl | (simp only [List.length_drop, List.length_take]; rfl)) ?_
       with_reducible refine (steepleref02_Product.calls k t283 t284 t283 t284 t297 t298 _ A14.out).mono ?_
       rintro e w43 ⟨rfl, hb⟩
       refine ⟨_, rfl, ?_⟩
       replace BK282 := bb BK282 hb
       replace BK286 := bb BK286 hb
       replace BK287 := bb BK287 hb
       replace BK290 := bb BK290 hb
       replace BK294 := bb BK294 hb
       replace HB := bh HB hb
       (try clear hb)
       (try clear hb2)
       (try clear hk)
       (try clear hi)
       refine hK.out _ _ ⟨(blk_cell BK286.out 0).trans rfl, (blk_cell BK286.out 1).trans rfl, (blk_cell BK294.out 0).trans rfl, (blk_cell BK294.out 1).trans rfl, (blk_cell BK287.out 0).trans rfl, (blk_cell BK287.out 1).trans rfl⟩ (fun hHeld => ?_)
       clear hK K
       refine norm_ (a' := ?_) ?_ ?_
       rotate_left
       ·show Act.put _ (some 62) _ = _
        simp only [Act.put, List.setIfInBounds_toArray, List.set_cons_zero, List.set_cons_succ, i64_w, i32_w]
        rfl
       refine one_ (i := 17) (N := some 64) #[true, true, true, true, true, true, true, true, true, true, true, true, true, true, true, true, true, true, true, false, false, false] rfl rfl (one_of HT_.out (by kernel_rfl)) (by decide) (fun K hK => ?_)
       refine goes_ Try.func21 (by kernel_rfl) rfl #[.agg #[.int .u64 t297, .int .u64 t298], .agg #[.int .u64 t283, .int .u64 t284]] (by rfl) rfl rfl (by (try simp only [List.map_toArray, List.map_cons, List.map_nil]); first | done | rfl | (simp only [List.length_drop, List.length_take]; rfl)) ?_
       with_reducible refine (steepleref02_Add.calls t297 t298 t283 t284 t299 t300 _ A15.out).mono ?_
       rintro e w44 ⟨rfl, hb⟩
       refine ⟨_, rfl, ?_⟩
       replace BK282 := bb BK282 hb
       replace BK286 := bb BK286 hb
       replace BK287 := bb BK287 hb
       replace BK290 := bb BK290 hb
       replace BK294 := bb BK294 hb
       replace HB := bh HB hb
       (try clear hb)
       (try clear hb2)
       (try clear hk)
       (try clear hi)
       refine hK.out _ _ ⟨(blk_cell BK286.out 0).trans rfl, (blk_cell BK286.out 1).trans rfl, (blk_cell BK294.out 0).trans rfl, (blk_cell BK294.out 1).trans rfl, (blk_cell BK287.out 0).trans rfl, (blk_cell BK287.out 1).trans rfl⟩ (fun hHeld => ?_)
       clear hK K
       refine norm_ (a' := ?_) ?_ ?_
       rotate_left
       ·show Act.put _ (some 64) _ = _
        simp only [Act.put, List.setIfInBounds_toArray, List.set_cons_zero, List.set_cons_succ, i64_w, i32_w]
        rfl
       refine pure_ (i := 19) (N := some 66) (v := ?_) (a' := ?_) #[true, true, true, true, true, true, true, true, true, true, true, true, true, true, true, true, true, true, true, true, false, false] rfl rfl (any_of HT_.out (by kernel_rfl)) (fun _ _ _ h => h) (Or.inl ⟨by rfl, ?_⟩) ?_ ?_
       rotate_left
       ·intro w'
        go_simp
        with_reducible rfl
       rotate_left
       ·simp only [Act.put, List.setIfInBounds_toArray, List.set_cons_zero, List.set_cons_succ, i64_w, i32_w]
        rfl
       refine pure_ (i := 20) (N := some 67) (v := ?_) (a' := ?_) #[true, true, true, true, true, true, true, true, true, true, true, true, true, true, true, true, true, true, true, true, true, false] rfl rfl (any_of HT_.out (by kernel_rfl)) (fun _ _ _ h => h) (Or.inl ⟨by rfl, ?_⟩) ?_ ?_
       rotate_left
       ·intro w'
        go_simp
        with_reducible rfl
       rotate_left
       ·simp only [Act.put, List.setIfInBounds_toArray, List.set_cons_zero, List.set_cons_succ, i64_w, i32_w]
        rfl
       refine pure_ (i := 21) (N := some 4) (v := ?_) (a' := ?_) #[true, true, true, true, true, true, true, true, true, true, true, true, true, true, true, true, true, true, true, true, true, true] rfl rfl (any_of HT_.out (by kernel_rfl)) (fun _ _ _ h => h) (Or.inl ⟨by rfl, ?_⟩) ?_ ?_
       rotate_left
       ·intro w'
        go_simp
        with_reducible rfl
       rotate_left
       ·simp only [Act.put, List.setIfInBounds_toArray, List.set_cons_zero, List.set_cons_succ, i64_w, i32_w]
        rfl
       refine done_ (done_of HT_.out (by kernel_rfl)) ?_
       try go_wp2
       go_ret
       exact ⟨by first | rfl | (simp [errW_none, errW_some] <;> rfl) | (simp [*, errW_none, errW_some] <;> rfl), bq HB.out⟩
      ·rw [if_neg c13] at H
       have c13b0 : ((Int.tmod t284 2) == 0) = false := beq_eq_false_iff_ne.mpr c13
       have c13b1 : ((Int.tmod t284 2) != 0) = true := bne_iff_ne.mpr c13
       exact absurd H (by simp)
     ·replace c12 := Bool.eq_false_iff.mpr c12
      subst c12
      have H1 : (none) = some r := by rw [if_neg (show ¬ (false = true) by decide)] at H; exact H
      clear H
      have H := H1
      clear H1
      exact absurd H (by simp)
    ·replace c10 := Bool.eq_false_iff.mpr c10
     subst c10
     have H1 : (none) = some r := by rw [if_neg (show ¬ (false = true) by decide)] at H; exact H
     clear H
     have H := H1
     clear H1
     exact absurd H (by simp)
   ·replace c8 := Bool.eq_false_iff.mpr c8
    subst c8
    have H1 : ((steeplelaw33_awake.f k).bind fun t293 => (if t293 = true then (some (t283 == 0 && (t284 == 0))) else (none))) = some r := by rw [if_neg (show ¬ (false = true) by decide)] at H; exact H
    clear H
    have H := H1
    clear H1
    replace H := Option.bind_eq_some_iff.mp H
    obtain ⟨t293, A450, H⟩ := H
    replace H : (if t293 = true then (some (t283 == 0 && (t284 == 0))) else (none)) = some r := H
    have A45 := Aside0.mk A450
    clear A450
    by_cases c46 : t293 = true
    ·subst c46
     have H1 : (some (t283 == 0 && (t284 == 0))) = some r := by rw [if_pos rfl] at H; exact H
     clear H
     have H := H1
     clear H1
     obtain rfl := Option.some.inj H
     go_enter Try.func8, Try.ntmps8
     try go_wp2_with (first | ((with_reducible refine gate_dst (N := 3) rfl ?_); refine box_event ?hg (N := 3) ?hd (cs := #[.int .u64 a1_0, .int .u64 a1_1]) (t := 24) ?hr ?_; (case hd => rfl); (case hg => rfl); (case hr => first | (go_simp; done) | (go_simp; rfl)); intro gb282 hg w47 hbox hb; have BK282 := Aside0.mk hbox; have GW282 := ge hg HB; have GE282 := ge hg HB; replace HB := bh HB hb; clear hb hbox hg; obtain ⟨hcz48_0, hcz48_1⟩ := zc2 BK282; obtain ⟨hfz48_0, hfz48_1⟩ := zf2 BK282) | ((with_reducible refine gate_callee (f := 33) rfl ?_); refine goesL_ (some 13) rfl rfl Try.func33 (by kernel_rfl) rfl #[.int .i64 a0, .agg #[.int .u64 a1_0, .int .u64 a1_1]] rfl (by (try simp only [List.map_toArray, List.map_cons, List.map_nil]); first | done | rfl | (simp only [List.length_drop, List.length_take]; rfl)) ?_; (with_reducible refine (frob_Half.calls k a0 a1_0 a1_1 t283 t284 false _ A3.out).mono ?_); rintro e w49 ⟨rfl, hb⟩; refine ⟨_, rfl, ?_⟩; replace BK282 := bb BK282 hb; replace HB := bh HB hb; (try clear hb); (try clear hb2); (try clear hk); (try clear hi)) | ((with_reducible refine gate_dst (N := 5) rfl ?_); refine box_event ?hg (N := 5) ?hd (cs := #[.int .u64 0, .int .u64 0]) (t := 24) ?hr ?_; (case hd => rfl); (case hg => rfl); (case hr => first | (go_simp; done) | (go_simp; rfl)); intro gb286 hg w50 hbox hb; have BK286 := Aside0.mk hbox; have GW286 := ge hg HB; have GE286 := ge hg HB; have NB282_286 := nl hg BK282; have NB286_282 := ng hg BK282; replace BK282 := bb BK282 hb; replace HB := bh HB hb; clear hb hbox hg; have hnb51 := NB286_282.out; have hnc51 := NB282_286.out; obtain ⟨hcz52_0, hcz52_1⟩ := zc2 BK286; obtain ⟨hfz52_0, hfz52_1⟩ := zf2 BK286; obtain ⟨hcz53_0, hcz53_1⟩ := zc2 BK282; obtain ⟨hfz53_0, hfz53_1⟩ := zf2 BK282) | ((with_reducible refine gate_dst (N := 7) rfl ?_); refine box_event ?hg (N := 7) ?hd (cs := #[.int .u64 0, .int .u64 0]) (t := 37) ?hr ?_; (case hd => rfl); (case hg => rfl); (case hr => first | (go_simp; done) | (go_simp; rfl)); intro gb287 hg w54 hbox hb; have BK287 := Aside0.mk hbox; have GW287 := ge hg HB; have GE287 := ge hg HB; have NB282_287 := Aside0.mk ((by rw [hg]; exact Nat.ne_of_lt (blk_lt (g := gb282) (o := .cells #[.int .u64 a1_0, .int .u64 a1_1] 24 (0, 0)) (by (with_reducible repeat refine bl ?_); refine blk_far ?_ NB282_286.out _; (with_reducible repeat refine bl ?_); refine blk_far ?_ NB282_286.out _; (with_reducible repeat refine bl ?_); exact BK282.out)) : gb282 ≠ gb287)); have NB287_282 := Aside0.mk ((by rw [hg]; exact Nat.ne_of_gt (blk_lt (g := gb282) (o := .cells #[.int .u64 a1_0, .int .u64 a1_1] 24 (0, 0)) (by (with_reducible repeat refine bl ?_); refine blk_far ?_ NB282_286.out _; (with_reducible repeat refine bl ?_); refine blk_far ?_ NB282_286.out _; (with_reducible repeat refine bl ?_); exact BK282.out)) : gb287 ≠ gb282)); have NB286_287 := Aside0.mk ((by rw [hg]; exact Nat.ne_of_lt (blk_lt (g := gb286) (o := .cells #[.int .u64 t283, .int .u64 t284] 24 (0, 0)) (by (with_reducible repeat refine bl ?_); refine blk_put (cs := #[.int .u64 t283, .int .u64 0]) ?_ 1 _ rfl; (with_reducible repeat refine bl ?_); refine blk_put (cs := #[.int .u64 0, .int .u64 0]) ?_ 0 _ rfl; (with_reducible repeat refine bl ?_); exact BK286.out)) : gb286 ≠ gb287)); have NB287_286 := Aside0.mk ((by rw [hg]; exact Nat.ne_of_gt (blk_lt (g := gb286) (o := .cells #[.int .u64 t283, .int .u64 t284] 24 (0, 0)) (by (with_reducible repeat refine bl ?_); refine blk_put (cs := #[.int .u64 t283, .int .u64 0]) ?_ 1 _ rfl; (with_reducible repeat refine bl ?_); refine blk_put (cs := #[.int .u64 0, .int .u64 0]) ?_ 0 _ rfl; (with_reducible repeat refine bl ?_); exact BK286.out)) : gb287 ≠ gb286)); replace BK282 := Aside0.mk (blk_below (g := gb282) (o := .cells #[.int .u64 a1_0, .int .u64 a1_1] 24 (0, 0)) (by (with_reducible repeat refine bl ?_); refine blk_far ?_ NB282_286.out _; (with_reducible repeat refine bl ?_); refine blk_far ?_ NB282_286.out _; (with_reducible repeat refine bl ?_); exact BK282.out) hb); replace BK286 := Aside0.mk (blk_below (g := gb286) (o := .cells #[.int .u64 t283, .int .u64 t284] 24 (0, 0)) (by (with_reducible repeat refine bl ?_); refine blk_put (cs := #[.int .u64 t283, .int .u64 0]) ?_ 1 _ rfl; (with_reducible repeat refine bl ?_); refine blk_put (cs := #[.int .u64 0, .int .u64 0]) ?_ 0 _ rfl; (with_reducible repeat refine bl ?_); exact BK286.out) hb); replace HB := bh HB hb; clear hb hbox hg; have hnb55 := NB287_282.out; have hnc55 := NB282_287.out; have hnb56 := NB287_286.out; have hnc56 := NB286_287.out; obtain ⟨hcz57_0, hcz57_1⟩ := zc2 BK287; obtain ⟨hfz57_0, hfz57_1⟩ := zf2 BK287) | ((with_reducible refine gate_callee (f := 17) rfl ?_); refine goesL_ (some 19) rfl rfl Try.func17 (by kernel_rfl) rfl #[.int .i64 a0, .agg #[.int .u64 a1_0, .int .u64 a1_1]] rfl (by (try simp only [List.map_toArray, List.map_cons, List.map_nil]); first | done | rfl | (simp only [List.length_drop, List.length_take]; rfl)) ?_; (with_reducible refine (steepleref01_Of.calls k a0 a1_0 a1_1 true _ A4.out).mono ?_); rintro e w58 ⟨rfl, hb⟩; refine ⟨_, rfl, ?_⟩; replace BK282 := Aside0.mk (blk_below (g := gb282) (o := .cells #[.int .u64 a1_0, .int .u64 a1_1] 24 (0, 0)) (by (with_reducible repeat refine bl ?_); refine blk_far ?_ NB282_287.out _; (with_reducible repeat refine bl ?_); refine blk_far ?_ NB282_287.out _; (with_reducible repeat refine bl ?_); exact BK282.out) hb); replace BK286 := Aside0.mk (blk_below (g := gb286) (o := .cells #[.int .u64 t283, .int .u64 t284] 24 (0, 0)) (by (with_reducible repeat refine bl ?_); refine blk_far ?_ NB286_287.out _; (with_reducible repeat refine bl ?_); refine blk_far ?_ NB286_287.out _; (with_reducible repeat refine bl ?_); exact BK286.out) hb); replace BK287 := Aside0.mk (blk_below (g := gb287) (o := .cells #[.int .u64 a1_0, .int .u64 a1_1] 37 (0, 0)) (by (with_reducible repeat refine bl ?_); refine blk_put (cs := #[.int .u64 a1_0, .int .u64 0]) ?_ 1 _ rfl; (with_reducible repeat refine bl ?_); refine blk_put (cs := #[.int .u64 0, .int .u64 0]) ?_ 0 _ rfl; (with_reducible repeat refine bl ?_); exact BK287.out) hb); replace HB := bh HB hb; (try clear hb); (try clear hb2); (try clear hk); (try clear hi)) | ((with_reducible refine gate_dst (N := 8) rfl ?_); refine box_event ?hg (N := 8) ?hd (cs := #[.int .u64 0, .int .u64 0]) (t := 37) ?hr ?_; (case hd => rfl); (case hg => rfl); (case hr => first | (go_simp; done) | (go_simp; rfl)); intro gb290 hg w59 hbox hb; have BK290 := Aside0.mk hbox; have GW290 := ge hg HB; have GE290 := ge hg HB; have NB282_290 := nl hg BK282; have NB290_282 := ng hg BK282; have NB286_290 := nl hg BK286; have NB290_286 := ng hg BK286; have NB287_290 := nl hg BK287; have NB290_287 := ng hg BK287; replace BK282 := bb BK282 hb; replace BK286 := bb BK286 hb; replace BK287 := bb BK287 hb; replace HB := bh HB hb; clear hb hbox hg))
     replace BK282 := Aside0.mk (blk_drew BK282.out)
     replace BK286 := Aside0.mk (blk_drew BK286.out)
     replace BK287 := Aside0.mk (blk_drew BK287.out)
     replace BK290 := Aside0.mk (blk_drew BK290.out)
     replace HB := Aside0.mk (below_drew1 HB.out)
     refine start_ (n := 7) (S := fun w' => w'.cell? ⟨gb287, 0, none⟩ = some (.int .u64 a1_0) ∧ w'.cell? ⟨gb287, 1, none⟩ = some (.int .u64 a1_1) ∧ w'.cell? ⟨gb290, 0, none⟩ = some (.int .u64 0) ∧ w'.cell? ⟨gb290, 1, none⟩ = some (.int .u64 0)) (ds := []) #[false, false, false, false, false, false, false] (by kernel_rfl) rfl rfl ⟨(blk_cell BK287.out 0).trans rfl, (blk_cell BK287.out 1).trans rfl, (blk_cell BK290.out 0).trans rfl, (blk_cell BK290.out 1).trans rfl⟩ (fun hHeld => ?_)
     generalize w59.drew = w60 at BK282 BK286 BK287 BK290 HB hHeld ⊢
     refine pure_ (i := 0) (N := some 31) (v := ?_) (a' := ?_) #[true, false, false, false, false, false, false] rfl rfl (by kernel_rfl) (fun _ _ _ h => h) (Or.inl ⟨by rfl, ?_⟩) ?_ ?_
     rotate_left
     ·intro w'
      go_simp
      with_reducible rfl
     rotate_left
     ·simp only [Act.put, List.setIfInBounds_toArray, List.set_cons_zero, List.set_cons_succ, i64_w, i32_w]
      rfl
     refine pure_ (i := 1) (N := some 32) (v := ?_) (a' := ?_) #[true, true, false, false, false, false, false] rfl rfl (by kernel_rfl) (fun _ _ _ h => h) (Or.inl ⟨by rfl, ?_⟩) ?_ ?_
     rotate_left
     ·intro w'
      go_simp
      with_reducible rfl
     rotate_left
     ·simp only [Act.put, List.setIfInBounds_toArray, List.set_cons_zero, List.set_cons_succ, i64_w, i32_w]
      rfl
     refine take_ (i := 2) (N := some 33) (v := ?_) (a' := ?_) #[true, true, true, false, false, false, false] rfl rfl (by kernel_rfl) (fun _ _ _ h => h) (Or.inl ⟨by rfl, ?_⟩) hHeld ?_ ?_
     rotate_left
     ·rintro w' ⟨s0, s1, s2, s3⟩
      go_simp
      with_reducible rfl
     rotate_left
     ·simp only [Act.put, List.setIfInBounds_toArray, List.set_cons_zero, List.set_cons_succ, i64_w, i32_w]
      rfl
     refine take_ (i := 4) (N := some 35) (v := ?_) (a' := ?_) #[true, true, true, false, true, false, false] rfl rfl (by kernel_rfl) (fun _ _ _ h => h) (Or.inl ⟨by rfl, ?_⟩) hHeld ?_ ?_
     rotate_left
     ·rintro w' ⟨s0, s1, s2, s3⟩
      go_simp
      with_reducible rfl
     rotate_left
     ·simp only [Act.put, List.setIfInBounds_toArray, List.set_cons_zero, List.set_cons_succ, i64_w, i32_w]
      rfl
     refine one_ (i := 3) (N := some 34) #[true, true, true, true, true, false, false] rfl rfl (by kernel_rfl) (by decide) (fun K hK => ?_)
     refine goes_ Try.func31 (by kernel_rfl) rfl #[.int .i64 a0, .int .i64 0, .agg #[.int .u64 a1_0, .int .u64 a1_1]] (by rfl) rfl rfl (by (try simp only [List.map_toArray, List.map_cons, List.map_nil]); first | done | rfl | (simp only [List.length_drop, List.length_take]; rfl)) ?_
     with_reducible refine (steepleref33_Trace.calls k a0 0 a1_0 a1_1 t291 t292 _ A6.out).mono ?_
     rintro e w61 ⟨rfl, hb⟩
     refine ⟨_, rfl, ?_⟩
     replace BK282 := bb BK282 hb
     replace BK286 := bb BK286 hb
     replace BK287 := bb BK287 hb
     replace BK290 := bb BK290 hb
     replace HB := bh HB hb
     (try clear hb)
     (try clear hb2)
     (try clear hk)
     (try clear hi)
     refine hK.out _ _ ⟨(blk_cell BK287.out 0).trans rfl, (blk_cell BK287.out 1).trans rfl, (blk_cell BK290.out 0).trans rfl, (blk_cell BK290.out 1).trans rfl⟩ (fun hHeld => ?_)
     clear hK K
     refine norm_ (a' := ?_) ?_ ?_
     rotate_left
     ·show Act.put _ (some 34) _ = _
      simp only [Act.put, List.setIfInBounds_toArray, List.set_cons_zero, List.set_cons_succ, i64_w, i32_w]
      rfl
     refine pure_ (i := 5) (N := some 36) (v := ?_) (a' := ?_) #[true, true, true, true, true, true, false] rfl rfl (by kernel_rfl) (fun _ _ _ h => h) (Or.inl ⟨by rfl, ?_⟩) ?_ ?_
     rotate_left
     ·intro w'
      go_simp
      with_reducible rfl
     rotate_left
     ·simp only [Act.put, List.setIfInBounds_toArray, List.set_cons_zero, List.set_cons_succ, i64_w, i32_w]
      rfl
     refine pure_ (i := 6) (N := some 37) (v := ?_) (a' := ?_) #[true, true, true, true, true, true, true] rfl rfl (by kernel_rfl) (fun _ _ _ h => h) (Or.inl ⟨by rfl, ?_⟩) ?_ ?_
     rotate_left
     ·intro w'
      go_simp
      with_reducible rfl
     rotate_left
     ·simp only [Act.put, List.setIfInBounds_toArray, List.set_cons_zero, List.set_cons_succ, i64_w, i32_w]
      rfl
     refine done_ (by kernel_rfl) ?_
     try go_wp2_with (first | ((with_reducible refine gate_callee (f := 14) rfl ?_); refine goesL_ (some 40) rfl rfl Try.func14 (by kernel_rfl) rfl #[] rfl (by (try simp only [List.map_toArray, List.map_cons, List.map_nil]); first | done | rfl | (simp only [List.length_drop, List.length_take]; rfl)) ?_; (with_reducible refine (steeplelaw33_awake.calls k  true _ A45.out).mono ?_); rintro e w62 ⟨rfl, hb⟩; refine ⟨_, rfl, ?_⟩; replace BK282 := bb BK282 hb; replace BK286 := bb BK286 hb; replace BK287 := bb BK287 hb; replace BK290 := bb BK290 hb; replace HB := bh HB hb; (try clear hb); (try clear hb2); (try clear hk); (try clear hi); have hnb63 := NB286_290.out; have hnc63 := NB290_286.out; obtain ⟨hcz64_0, hcz64_1⟩ := zc2 BK286; obtain ⟨hfz64_0, hfz64_1⟩ := zf2 BK286))
     go_ret
     exact ⟨by first | rfl | (simp [errW_none, errW_some] <;> rfl) | (simp [*, errW_none, errW_some] <;> rfl), bq HB.out⟩
    ·replace c46 := Bool.eq_false_iff.mpr c46
     subst c46
     have H1 : (none) = some r := by rw [if_neg (show ¬ (false = true) by decide)] at H; exact H
     clear H
     have H := H1
     clear H1
     exact absurd H (by simp)
 ·replace c5 := Bool.eq_false_iff.mpr c5
  subst c5
  have H1 : ((steeplelaw33_awake.f k).bind fun t289 => (if t289 = true then (if t285 = true then (none) else (some (t283 == 0 && (t284 == 0)))) else (none))) = some r := by rw [if_neg (show ¬ (false = true) by decide)] at H; exact H
  clear H
  have H := H1
  clear H1
  replace H := Option.bind_eq_some_iff.mp H
  obtain ⟨t289, A650, H⟩ := H
  replace H : (if t289 = true then (if t285 = true then (none) else (some (t283 == 0 && (t284 == 0)))) else (none)) = some r := H
  have A65 := Aside0.mk A650
  clear A650
  by_cases c66 : t289 = true
  ·subst c66
   have H1 : (if t285 = true then (none) else (some (t283 == 0 && (t284 == 0)))) = some r := by rw [if_pos rfl] at H; exact H
   clear H
   have H := H1
   clear H1
   by_cases c67 : t285 = true
   ·subst c67
    have H1 : (none) = some r := by rw [if_pos rfl] at H; exact H
    clear H
    have H := H1
    clear H1
    exact absurd H (by simp)
   ·replace c67 := Bool.eq_false_iff.mpr c67
    subst c67
    have H1 : (some (t283 == 0 && (t284 == 0))) = some r := by rw [if_neg (show ¬ (false = true) by decide)] at H; exact H
    clear H
    have H := H1
    clear H1
    obtain rfl := Option.some.inj H
    go_enter Try.func8, Try.ntmps8
    go_wp2_with (first | ((with_reducible refine gate_dst (N := 3) rfl ?_); refine box_event ?hg (N := 3) ?hd (cs := #[.int .u64 a1_0, .int .u64 a1_1]) (t := 24) ?hr ?_; (case hd => rfl); (case hg => rfl); (case hr => first | (go_simp; done) | (go_simp; rfl)); intro gb282 hg w68 hbox hb; have BK282 := Aside0.mk hbox; have GW282 := ge hg HB; have GE282 := ge hg HB; replace HB := bh HB hb; clear hb hbox hg; obtain ⟨hcz69_0, hcz69_1⟩ := zc2 BK282; obtain ⟨hfz69_0, hfz69_1⟩ := zf2 BK282) | ((with_reducible refine gate_callee (f := 33) rfl ?_); refine goesL_ (some 13) rfl rfl Try.func33 (by kernel_rfl) rfl #[.int .i64 a0, .agg #[.int .u64 a1_0, .int .u64 a1_1]] rfl (by (try simp only [List.map_toArray, List.map_cons, List.map_nil]); first | done | rfl | (simp only [List.length_drop, List.length_take]; rfl)) ?_; (with_reducible refine (frob_Half.calls k a0 a1_0 a1_1 t283 t284 false _ A3.out).mono ?_); rintro e w70 ⟨rfl, hb⟩; refine ⟨_, rfl, ?_⟩; replace BK282 := bb BK282 hb; replace HB := bh HB hb; (try clear hb); (try clear hb2); (try clear hk); (try clear hi)) | ((with_reducible refine gate_dst (N := 5) rfl ?_); refine box_event ?hg (N := 5) ?hd (cs := #[.int .u64 0, .int .u64 0]) (t := 24) ?hr ?_; (case hd => rfl); (case hg => rfl); (case hr => first | (go_simp; done) | (go_simp; rfl)); intro gb286 hg w71 hbox hb; have BK286 := Aside0.mk hbox; have GW286 := ge hg HB; have GE286 := ge hg HB; have NB282_286 := nl hg BK282; have NB286_282 := ng hg BK282; replace BK282 := bb BK282 hb; replace HB := bh HB hb; clear hb hbox hg; have hnb72 := NB286_282.out; have hnc72 := NB282_286.out; obtain ⟨hcz73_0, hcz73_1⟩ := zc2 BK286; obtain ⟨hfz73_0, hfz73_1⟩ := zf2 BK286; obtain ⟨hcz74_0, hcz74_1⟩ := zc2 BK282; obtain ⟨hfz74_0, hfz74_1⟩ := zf2 BK282) | ((with_reducible refine gate_dst (N := 7) rfl ?_); refine box_event ?hg (N := 7) ?hd (cs := #[.int .u64 0, .int .u64 0]) (t := 37) ?hr ?_; (case hd => rfl); (case hg => rfl); (case hr => first | (go_simp; done) | (go_simp; rfl)); intro gb287 hg w75 hbox hb; have BK287 := Aside0.mk hbox; have GW287 := ge hg HB; have GE287 := ge hg HB; have NB282_287 := Aside0.mk ((by rw [hg]; exact Nat.ne_of_lt (blk_lt (g := gb282) (o := .cells #[.int .u64 a1_0, .int .u64 a1_1] 24 (0, 0)) (by (with_reducible repeat refine bl ?_); refine blk_far ?_ NB282_286.out _; (with_reducible repeat refine bl ?_); refine blk_far ?_ NB282_286.out _; (with_reducible repeat refine bl ?_); exact BK282.out)) : gb282 ≠ gb287)); have NB287_282 := Aside0.mk ((by rw [hg]; exact Nat.ne_of_gt (blk_lt (g := gb282) (o := .cells #[.int .u64 a1_0, .int .u64 a1_1] 24 (0, 0)) (by (with_reducible repeat refine bl ?_); refine blk_far ?_ NB282_286.out _; (with_reducible repeat refine bl ?_); refine blk_far ?_ NB282_286.out _; (with_reducible repeat refine bl ?_); exact BK282.out)) : gb287 ≠ gb282)); have NB286_287 := Aside0.mk ((by rw [hg]; exact Nat.ne_of_lt (blk_lt (g := gb286) (o := .cells #[.int .u64 t283, .int .u64 t284] 24 (0, 0)) (by (with_reducible repeat refine bl ?_); refine blk_put (cs := #[.int .u64 t283, .int .u64 0]) ?_ 1 _ rfl; (with_reducible repeat refine bl ?_); refine blk_put (cs := #[.int .u64 0, .int .u64 0]) ?_ 0 _ rfl; (with_reducible repeat refine bl ?_); exact BK286.out)) : gb286 ≠ gb287)); have NB287_286 := Aside0.mk ((by rw [hg]; exact Nat.ne_of_gt (blk_lt (g := gb286) (o := .cells #[.int .u64 t283, .int .u64 t284] 24 (0, 0)) (by (with_reducible repeat refine bl ?_); refine blk_put (cs := #[.int .u64 t283, .int .u64 0]) ?_ 1 _ rfl; (with_reducible repeat refine bl ?_); refine blk_put (cs := #[.int .u64 0, .int .u64 0]) ?_ 0 _ rfl; (with_reducible repeat refine bl ?_); exact BK286.out)) : gb287 ≠ gb286)); replace BK282 := Aside0.mk (blk_below (g := gb282) (o := .cells #[.int .u64 a1_0, .int .u64 a1_1] 24 (0, 0)) (by (with_reducible repeat refine bl ?_); refine blk_far ?_ NB282_286.out _; (with_reducible repeat refine bl ?_); refine blk_far ?_ NB282_286.out _; (with_reducible repeat refine bl ?_); exact BK282.out) hb); replace BK286 := Aside0.mk (blk_below (g := gb286) (o := .cells #[.int .u64 t283, .int .u64 t284] 24 (0, 0)) (by (with_reducible repeat refine bl ?_); refine blk_put (cs := #[.int .u64 t283, .int .u64 0]) ?_ 1 _ rfl; (with_reducible repeat refine bl ?_); refine blk_put (cs := #[.int .u64 0, .int .u64 0]) ?_ 0 _ rfl; (with_reducible repeat refine bl ?_); exact BK286.out) hb); replace HB := bh HB hb; clear hb hbox hg; have hnb76 := NB287_282.out; have hnc76 := NB282_287.out; have hnb77 := NB287_286.out; have hnc77 := NB286_287.out; obtain ⟨hcz78_0, hcz78_1⟩ := zc2 BK287; obtain ⟨hfz78_0, hfz78_1⟩ := zf2 BK287) | ((with_reducible refine gate_callee (f := 17) rfl ?_); refine goesL_ (some 19) rfl rfl Try.func17 (by kernel_rfl) rfl #[.int .i64 a0, .agg #[.int .u64 a1_0, .int .u64 a1_1]] rfl (by (try simp only [List.map_toArray, List.map_cons, List.map_nil]); first | done | rfl | (simp only [List.length_drop, List.length_take]; rfl)) ?_; (with_reducible refine (steepleref01_Of.calls k a0 a1_0 a1_1 false _ A4.out).mono ?_); rintro e w79 ⟨rfl, hb⟩; refine ⟨_, rfl, ?_⟩; replace BK282 := Aside0.mk (blk_below (g := gb282) (o := .cells #[.int .u64 a1_0, .int .u64 a1_1] 24 (0, 0)) (by (with_reducible repeat refine bl ?_); refine blk_far ?_ NB282_287.out _; (with_reducible repeat refine bl ?_); refine blk_far ?_ NB282_287.out _; (with_reducible repeat refine bl ?_); exact BK282.out) hb); replace BK286 := Aside0.mk (blk_below (g := gb286) (o := .cells #[.int .u64 t283, .int .u64 t284] 24 (0, 0)) (by (with_reducible repeat refine bl ?_); refine blk_far ?_ NB286_287.out _; (with_reducible repeat refine bl ?_); refine blk_far ?_ NB286_287.out _; (with_reducible repeat refine bl ?_); exact BK286.out) hb); replace BK287 := Aside0.mk (blk_below (g := gb287) (o := .cells #[.int .u64 a1_0, .int .u64 a1_1] 37 (0, 0)) (by (with_reducible repeat refine bl ?_); refine blk_put (cs := #[.int .u64 a1_0, .int .u64 0]) ?_ 1 _ rfl; (with_reducible repeat refine bl ?_); refine blk_put (cs := #[.int .u64 0, .int .u64 0]) ?_ 0 _ rfl; (with_reducible repeat refine bl ?_); exact BK287.out) hb); replace HB := bh HB hb; (try clear hb); (try clear hb2); (try clear hk); (try clear hi)) | ((with_reducible refine gate_callee (f := 14) rfl ?_); refine goesL_ (some 21) rfl rfl Try.func14 (by kernel_rfl) rfl #[] rfl (by (try simp only [List.map_toArray, List.map_cons, List.map_nil]); first | done | rfl | (simp only [List.length_drop, List.length_take]; rfl)) ?_; (with_reducible refine (steeplelaw33_awake.calls k  true _ A65.out).mono ?_); rintro e w80 ⟨rfl, hb⟩; refine ⟨_, rfl, ?_⟩; replace BK282 := bb BK282 hb; replace BK286 := bb BK286 hb; replace BK287 := bb BK287 hb; replace HB := bh HB hb; (try clear hb); (try clear hb2); (try clear hk); (try clear hi); obtain ⟨hcz81_0, hcz81_1⟩ := zc2 BK286; obtain ⟨hfz81_0, hfz81_1⟩ := zf2 BK286))
    go_ret
    exact ⟨by first | rfl | (simp [errW_none, errW_some] <;> rfl) | (simp [*, errW_none, errW_some] <;> rfl), bq HB.out⟩
  ·replace c66 := Bool.eq_false_iff.mpr c66
   subst c66
   have H1 : (none) = some r := by rw [if_neg (show ¬ (false = true) by decide)] at H; exact H
   clear H
   have H := H1
   clear H1
   exact absurd H (by simp)

/-- THE ONE PURE STATEMENT of steeplelaw33_FrobHalves. -/
def steeplelaw33_FrobHalves.Pure : Prop := ∀ (x0 : Int) (x1 : S24), (Lit.int .i64 x0).wf = true → ((Lit.int .u64 x1.f0).wf = true ∧ (Lit.int .u64 x1.f1).wf = true) → ∃ k, steeplelaw33_FrobHalves.f k x0 x1.f0 x1.f1 = some true

/-! ### steeplelaw33_of: function 10 -/
def steeplelaw33_of.f (a0 : Int) (a1_0 : Int) (a1_1 : Int) : Option (Int × Int) := if a0 < 7 then (if a0 < 6 then (if 0 ≤ (IntKind.u64.wrap (a0)) then (some (0, Go.bits .and .u64 a1_1 (IntKind.u64.wrap ((shl .u64 1 (shl .u64 1 (IntKind.u64.wrap (a0)))) - 1)))) else (none)) else (some (0, a1_1))) else (if a0 < 6 then (if 0 ≤ (IntKind.u64.wrap (a0)) then (some (a1_0, Go.bits .and .u64 a1_1 (IntKind.u64.wrap ((shl .u64 1 (shl .u64 1 (IntKind.u64.wrap (a0)))) - 1)))) else (none)) else (some (a1_0, a1_1)))
set_option maxHeartbeats 8000000 in
set_option maxRecDepth 100000 in
theorem steeplelaw33_of.calls (a0 : Int) (a1_0 : Int) (a1_1 : Int) (r1 : Int) (r2 : Int) (w : World) (h : steeplelaw33_of.f a0 a1_0 a1_1 = some (r1, r2)) :
  Calls Try.prog 10 #[.int .i64 a0, .agg #[.int .u64 a1_0, .int .u64 a1_1]] w fun e w' => e = .returned (.agg #[.int .u64 r1, .int .u64 r2]) ∧ Below w.heap.size w w' := by
 have hu24 := Try.underlying24
 have HB := Aside0.mk (Below.refl w.heap.size w)
 have H : (if a0 < 7 then (if a0 < 6 then (if 0 ≤ (IntKind.u64.wrap (a0)) then (some (0, Go.bits .and .u64 a1_1 (IntKind.u64.wrap ((shl .u64 1 (shl .u64 1 (IntKind.u64.wrap (a0)))) - 1)))) else (none)) else (some (0, a1_1))) else (if a0 < 6 then (if 0 ≤ (IntKind.u64.wrap (a0)) then (some (a1_0, Go.bits .and .u64 a1_1 (IntKind.u64.wrap ((shl .u64 1 (shl .u64 1 (IntKind.u64.wrap (a0)))) - 1)))) else (none)) else (some (a1_0, a1_1)))) = some (r1, r2) := h
 clear h
 by_cases c3 : a0 < 7
 ·rw [if_pos c3] at H
  have c3b0 : decide (a0 < 7) = true := decide_eq_true c3
  clear c3
  by_cases c4 : a0 < 6
  ·rw [if_pos c4] at H
   have c4b0 : decide (a0 < 6) = true := decide_eq_true c4
   clear c4
   obtain ⟨ji5, hji5⟩ : ∃ j_ : Int, (IntKind.u64.wrap (a0)) = j_ := ⟨_, rfl⟩
   replace H : (if 0 ≤ (ji5) then (some (0, Go.bits .and .u64 a1_1 (IntKind.u64.wrap ((shl .u64 1 (shl .u64 1 (ji5))) - 1)))) else (none)) = some (r1, r2) := by first | (rw [hji5] at H; exact H) | (simp only [hji5] at H ⊢; exact H)
   by_cases c6 : 0 ≤ (ji5)
   ·rw [if_pos c6] at H
    have c6b0 := eq_true c6
    have c6b1 : decide (0 ≤ (ji5)) = true := decide_eq_true c6
    clear c6
    obtain ⟨ji7, hji7⟩ : ∃ j_ : Int, (shl .u64 1 (ji5)) = j_ := ⟨_, rfl⟩
    replace H : (some (0, Go.bits .and .u64 a1_1 (IntKind.u64.wrap ((shl .u64 1 (ji7)) - 1)))) = some (r1, r2) := by first | (rw [hji7] at H; exact H) | (simp only [hji7] at H ⊢; exact H)
    have hji7_ : (IntKind.u64.wrap (1 * 2 ^ min (ji5).toNat 64)) = ji7 := hji7
    have hji7z : (ji5) ≤ 64 → (IntKind.u64.wrap (1 * 2 ^ (ji5).toNat)) = ji7 := shl_small hji7
    have hji7p0 := eq_true (show (0 : Int) ≤ ji7 by rw [← hji7_]; exact wrap_u64_nonneg _)
    have hji7p1 : decide (0 ≤ (ji7 : Int)) = true := decide_eq_true (of_eq_true hji7p0)
    have hji7u : (IntKind.u64.wrap (2 ^ min (ji5).toNat 64)) = ji7 := by have h_ := hji7_; rw [Int.one_mul] at h_; exact h_
    have hji7v : (ji5) ≤ 64 → (IntKind.u64.wrap (2 ^ (ji5).toNat)) = ji7 := fun hle_ => by have h_ := hji7z hle_; rw [Int.one_mul] at h_; exact h_
    obtain ⟨ji8, hji8⟩ : ∃ j_ : Int, (shl .u64 1 (ji7)) = j_ := ⟨_, rfl⟩
    replace H : (some (0, Go.bits .and .u64 a1_1 (IntKind.u64.wrap ((ji8) - 1)))) = some (r1, r2) := by first | (rw [hji8] at H; exact H) | (simp only [hji8] at H ⊢; exact H)
    have hji8_ : (IntKind.u64.wrap (1 * 2 ^ min (ji7).toNat 64)) = ji8 := hji8
    have hji8z : (ji7) ≤ 64 → (IntKind.u64.wrap (1 * 2 ^ (ji7).toNat)) = ji8 := shl_small hji8
    have hji8p0 := eq_true (show (0 : Int) ≤ ji8 by rw [← hji8_]; exact wrap_u64_nonneg _)
    have hji8p1 : decide (0 ≤ (ji8 : Int)) = true := decide_eq_true (of_eq_true hji8p0)
    have hji8u : (IntKind.u64.wrap (2 ^ min (ji7).toNat 64)) = ji8 := by have h_ := hji8_; rw [Int.one_mul] at h_; exact h_
    have hji8v : (ji7) ≤ 64 → (IntKind.u64.wrap (2 ^ (ji7).toNat)) = ji8 := fun hle_ => by have h_ := hji8z hle_; rw [Int.one_mul] at h_; exact h_
    simp only [Option.some.injEq, Prod.mk.injEq] at H
    obtain ⟨rfl, rfl⟩ := H
    go_enter Try.func10, Try.ntmps10
    go_wp2_with (first | ((with_reducible refine gate_dst (N := 3) rfl ?_); refine box_event ?hg (N := 3) ?hd (cs := #[.int .u64 a1_0, .int .u64 a1_1]) (t := 24) ?hr ?_; (case hd => rfl); (case hg => rfl); (case hr => first | (go_simp; done) | (go_simp; rfl)); intro gb301 hg w9 hbox hb; have BK301 := Aside0.mk hbox; have GW301 := ge hg HB; have GE301 := ge hg HB; replace HB := bh HB hb; clear hb hbox hg; have hczz301 : ∀ a_ b_ c_ : Value, (((w9.setCell ⟨gb301, 0, none⟩ a_).setCell ⟨gb301, 1, none⟩ b_).setCell ⟨gb301, 0, none⟩ c_).cell? ⟨gb301, 1, none⟩ = some b_ := fun a_ b_ c_ => (blk_cell (blk_put (blk_put (blk_put BK301.out 0 a_ rfl) 1 b_ rfl) 0 c_ rfl) 1).trans rfl; have hczy301_0 : ∀ a_ b_ : Value, ((w9.setCell ⟨gb301, 0, none⟩ a_).setCell ⟨gb301, 1, none⟩ b_).cell? ⟨gb301, 0, none⟩ = some a_ := fun a_ b_ => (blk_cell (blk_put (blk_put BK301.out 0 a_ rfl) 1 b_ rfl) 0).trans rfl; have hczy301_1 : ∀ a_ b_ : Value, ((w9.setCell ⟨gb301, 0, none⟩ a_).setCell ⟨gb301, 1, none⟩ b_).cell? ⟨gb301, 1, none⟩ = some b_ := fun a_ b_ => (blk_cell (blk_put (blk_put BK301.out 0 a_ rfl) 1 b_ rfl) 1).trans rfl) | ((with_reducible refine gate_dst (N := 4) rfl ?_); refine box_event ?hg (N := 4) ?hd (cs := #[.int .u64 0, .int .u64 0]) (t := 24) ?hr ?_; (case hd => rfl); (case hg => rfl); (case hr => first | (go_simp; done) | (go_simp; rfl)); intro gb302 hg w10 hbox hb; have BK302 := Aside0.mk hbox; have GW302 := ge hg HB; have GE302 := ge hg HB; have NB301_302 := nl hg BK301; have NB302_301 := ng hg BK301; replace BK301 := bb BK301 hb; replace HB := bh HB hb; clear hb hbox hg; have hczz302 : ∀ a_ b_ c_ : Value, (((w10.setCell ⟨gb302, 0, none⟩ a_).setCell ⟨gb302, 1, none⟩ b_).setCell ⟨gb302, 0, none⟩ c_).cell? ⟨gb302, 1, none⟩ = some b_ := fun a_ b_ c_ => (blk_cell (blk_put (blk_put (blk_put BK302.out 0 a_ rfl) 1 b_ rfl) 0 c_ rfl) 1).trans rfl; have hczy302_0 : ∀ a_ b_ : Value, ((w10.setCell ⟨gb302, 0, none⟩ a_).setCell ⟨gb302, 1, none⟩ b_).cell? ⟨gb302, 0, none⟩ = some a_ := fun a_ b_ => (blk_cell (blk_put (blk_put BK302.out 0 a_ rfl) 1 b_ rfl) 0).trans rfl; have hczy302_1 : ∀ a_ b_ : Value, ((w10.setCell ⟨gb302, 0, none⟩ a_).setCell ⟨gb302, 1, none⟩ b_).cell? ⟨gb302, 1, none⟩ = some b_ := fun a_ b_ => (blk_cell (blk_put (blk_put BK302.out 0 a_ rfl) 1 b_ rfl) 1).trans rfl; have hnb11 := NB301_302.out; have hnc11 := NB302_301.out; obtain ⟨hcz12_0, hcz12_1⟩ := zc2 BK301; obtain ⟨hfz12_0, hfz12_1⟩ := zf2 BK301; obtain ⟨hcz13_0, hcz13_1⟩ := zc2 BK302; obtain ⟨hfz13_0, hfz13_1⟩ := zf2 BK302))
    refine bodyPost_ret (results_cell_row rfl _ _ gb302 24 #[.int .u64 0, .int .u64 (Go.bits .and .u64 a1_1 (IntKind.u64.wrap ((ji8) - 1)))] (0, 0) _ rfl (by (with_reducible repeat refine bl ?_); refine blk_put (cs := #[.int .u64 0, .int .u64 0]) ?_ 1 _ rfl; (with_reducible repeat refine bl ?_); refine blk_put (cs := #[.int .u64 0, .int .u64 0]) ?_ 0 _ rfl; (with_reducible repeat refine bl ?_); refine blk_far ?_ NB302_301.out _; (with_reducible repeat refine bl ?_); refine blk_far ?_ NB302_301.out _; (with_reducible repeat refine bl ?_); exact BK302.out) Try.underlying24 rfl (by kernel_rfl)) rfl ?_
    exact ⟨by first | rfl | (simp [errW_none, errW_some] <;> rfl) | (simp only [← hji5, ← hji7, ← hji8]; first | rfl | (simp [errW_none, errW_some] <;> rfl)) | (simp [*, errW_none, errW_some] <;> rfl), bq HB.out⟩
   ·rw [if_neg c6] at H
    exact absurd H (by simp)
  ·rw [if_neg c4] at H
   have c4b0 : decide (a0 < 6) = false := decide_eq_false c4
   clear c4
   simp only [Option.some.injEq, Prod.mk.injEq] at H
   obtain ⟨rfl, rfl⟩ := H
   go_enter Try.func10, Try.ntmps10
   go_wp2_with (first | ((with_reducible refine gate_dst (N := 3) rfl ?_); refine box_event ?hg (N := 3) ?hd (cs := #[.int .u64 a1_0, .int .u64 a1_1]) (t := 24) ?hr ?_; (case hd => rfl); (case hg => rfl); (case hr => first | (go_simp; done) | (go_simp; rfl)); intro gb301 hg w14 hbox hb; have BK301 := Aside0.mk hbox; have GW301 := ge hg HB; have GE301 := ge hg HB; replace HB := bh HB hb; clear hb hbox hg; have hczz301 : ∀ a_ b_ c_ : Value, (((w14.setCell ⟨gb301, 0, none⟩ a_).setCell ⟨gb301, 1, none⟩ b_).setCell ⟨gb301, 0, none⟩ c_).cell? ⟨gb301, 1, none⟩ = some b_ := fun a_ b_ c_ => (blk_cell (blk_put (blk_put (blk_put BK301.out 0 a_ rfl) 1 b_ rfl) 0 c_ rfl) 1).trans rfl; have hczy301_0 : ∀ a_ b_ : Value, ((w14.setCell ⟨gb301, 0, none⟩ a_).setCell ⟨gb301, 1, none⟩ b_).cell? ⟨gb301, 0, none⟩ = some a_ := fun a_ b_ => (blk_cell (blk_put (blk_put BK301.out 0 a_ rfl) 1 b_ rfl) 0).trans rfl; have hczy301_1 : ∀ a_ b_ : Value, ((w14.setCell ⟨gb301, 0, none⟩ a_).setCell ⟨gb301, 1, none⟩ b_).cell? ⟨gb301, 1, none⟩ = some b_ := fun a_ b_ => (blk_cell (blk_put (blk_put BK301.out 0 a_ rfl) 1 b_ rfl) 1).trans rfl) | ((with_reducible refine gate_dst (N := 4) rfl ?_); refine box_event ?hg (N := 4) ?hd (cs := #[.int .u64 0, .int .u64 0]) (t := 24) ?hr ?_; (case hd => rfl); (case hg => rfl); (case hr => first | (go_simp; done) | (go_simp; rfl)); intro gb302 hg w15 hbox hb; have BK302 := Aside0.mk hbox; have GW302 := ge hg HB; have GE302 := ge hg HB; have NB301_302 := nl hg BK301; have NB302_301 := ng hg BK301; replace BK301 := bb BK301 hb; replace HB := bh HB hb; clear hb hbox hg; have hczz302 : ∀ a_ b_ c_ : Value, (((w15.setCell ⟨gb302, 0, none⟩ a_).setCell ⟨gb302, 1, none⟩ b_).setCell ⟨gb302, 0, none⟩ c_).cell? ⟨gb302, 1, none⟩ = some b_ := fun a_ b_ c_ => (blk_cell (blk_put (blk_put (blk_put BK302.out 0 a_ rfl) 1 b_ rfl) 0 c_ rfl) 1).trans rfl; have hczy302_0 : ∀ a_ b_ : Value, ((w15.setCell ⟨gb302, 0, none⟩ a_).setCell ⟨gb302, 1, none⟩ b_).cell? ⟨gb302, 0, none⟩ = some a_ := fun a_ b_ => (blk_cell (blk_put (blk_put BK302.out 0 a_ rfl) 1 b_ rfl) 0).trans rfl; have hczy302_1 : ∀ a_ b_ : Value, ((w15.setCell ⟨gb302, 0, none⟩ a_).setCell ⟨gb302, 1, none⟩ b_).cell? ⟨gb302, 1, none⟩ = some b_ := fun a_ b_ => (blk_cell (blk_put (blk_put BK302.out 0 a_ rfl) 1 b_ rfl) 1).trans rfl; have hnb16 := NB301_302.out; have hnc16 := NB302_301.out; obtain ⟨hcz17_0, hcz17_1⟩ := zc2 BK301; obtain ⟨hfz17_0, hfz17_1⟩ := zf2 BK301; obtain ⟨hcz18_0, hcz18_1⟩ := zc2 BK302; obtain ⟨hfz18_0, hfz18_1⟩ := zf2 BK302))
   refine bodyPost_ret (results_cell_row rfl _ _ gb302 24 #[.int .u64 0, .int .u64 a1_1] (0, 0) _ rfl (by (with_reducible repeat refine bl ?_); refine blk_put (cs := #[.int .u64 0, .int .u64 0]) ?_ 1 _ rfl; (with_reducible repeat refine bl ?_); refine blk_put (cs := #[.int .u64 0, .int .u64 0]) ?_ 0 _ rfl; (with_reducible repeat refine bl ?_); refine blk_far ?_ NB302_301.out _; (with_reducible repeat refine bl ?_); exact BK302.out) Try.underlying24 rfl (by kernel_rfl)) rfl ?_
   exact ⟨by first | rfl | (simp [errW_none, errW_some] <;> rfl) | (simp [*, errW_none, errW_some] <;> rfl), bq HB.out⟩
 ·rw [if_neg c3] at H
  have c3b0 : decide (a0 < 7) = false := decide_eq_false c3
  clear c3
  by_cases c19 : a0 < 6
  ·rw [if_pos c19] at H
   have c19b0 : decide (a0 < 6) = true := decide_eq_true c19
   clear c19
   obtain ⟨ji20, hji20⟩ : ∃ j_ : Int, (IntKind.u64.wrap (a0)) = j_ := ⟨_, rfl⟩
   replace H : (if 0 ≤ (ji20) then (some (a1_0, Go.bits .and .u64 a1_1 (IntKind.u64.wrap ((shl .u64 1 (shl .u64 1 (ji20))) - 1)))) else (none)) = some (r1, r2) := by first | (rw [hji20] at H; exact H) | (simp only [hji20] at H ⊢; exact H)
   by_cases c21 : 0 ≤ (ji20)
   ·rw [if_pos c21] at H
    have c21b0 := eq_true c21
    have c21b1 : decide (0 ≤ (ji20)) = true := decide_eq_true c21
    clear c21
    obtain ⟨ji22, hji22⟩ : ∃ j_ : Int, (shl .u64 1 (ji20)) = j_ := ⟨_, rfl⟩
    replace H : (some (a1_0, Go.bits .and .u64 a1_1 (IntKind.u64.wrap ((shl .u64 1 (ji22)) - 1)))) = some (r1, r2) := by first | (rw [hji22] at H; exact H) | (simp only [hji22] at H ⊢; exact H)
    have hji22_ : (IntKind.u64.wrap (1 * 2 ^ min (ji20).toNat 64)) = ji22 := hji22
    have hji22z : (ji20) ≤ 64 → (IntKind.u64.wrap (1 * 2 ^ (ji20).toNat)) = ji22 := shl_small hji22
    have hji22p0 := eq_true (show (0 : Int) ≤ ji22 by rw [← hji22_]; exact wrap_u64_nonneg _)
    have hji22p1 : decide (0 ≤ (ji22 : Int)) = true := decide_eq_true (of_eq_true hji22p0)
    have hji22u : (IntKind.u64.wrap (2 ^ min (ji20).toNat 64)) = ji22 := by have h_ := hji22_; rw [Int.one_mul] at h_; exact h_
    have hji22v : (ji20) ≤ 64 → (IntKind.u64.wrap (2 ^ (ji20).toNat)) = ji22 := fun hle_ => by have h_ := hji22z hle_; rw [Int.one_mul] at h_; exact h_
    obtain ⟨ji23, hji23⟩ : ∃ j_ : Int, (shl .u64 1 (ji22)) = j_ := ⟨_, rfl⟩
    replace H : (some (a1_0, Go.bits .and .u64 a1_1 (IntKind.u64.wrap ((ji23) - 1)))) = some (r1, r2) := by first | (rw [hji23] at H; exact H) | (simp only [hji23] at H ⊢; exact H)
    have hji23_ : (IntKind.u64.wrap (1 * 2 ^ min (ji22).toNat 64)) = ji23 := hji23
    have hji23z : (ji22) ≤ 64 → (IntKind.u64.wrap (1 * 2 ^ (ji22).toNat)) = ji23 := shl_small hji23
    have hji23p0 := eq_true (show (0 : Int) ≤ ji23 by rw [← hji23_]; exact wrap_u64_nonneg _)
    have hji23p1 : decide (0 ≤ (ji23 : Int)) = true := decide_eq_true (of_eq_true hji23p0)
    have hji23u : (IntKind.u64.wrap (2 ^ min (ji22).toNat 64)) = ji23 := by have h_ := hji23_; rw [Int.one_mul] at h_; exact h_
    have hji23v : (ji22) ≤ 64 → (IntKind.u64.wrap (2 ^ (ji22).toNat)) = ji23 := fun hle_ => by have h_ := hji23z hle_; rw [Int.one_mul] at h_; exact h_
    simp only [Option.some.injEq, Prod.mk.injEq] at H
    obtain ⟨rfl, rfl⟩ := H
    go_enter Try.func10, Try.ntmps10
    go_wp2_with (first | ((with_reducible refine gate_dst (N := 3) rfl ?_); refine box_event ?hg (N := 3) ?hd (cs := #[.int .u64 a1_0, .int .u64 a1_1]) (t := 24) ?hr ?_; (case hd => rfl); (case hg => rfl); (case hr => first | (go_simp; done) | (go_simp; rfl)); intro gb301 hg w24 hbox hb; have BK301 := Aside0.mk hbox; have GW301 := ge hg HB; have GE301 := ge hg HB; replace HB := bh HB hb; clear hb hbox hg; have hczz301 : ∀ a_ b_ c_ : Value, (((w24.setCell ⟨gb301, 0, none⟩ a_).setCell ⟨gb301, 1, none⟩ b_).setCell ⟨gb301, 0, none⟩ c_).cell? ⟨gb301, 1, none⟩ = some b_ := fun a_ b_ c_ => (blk_cell (blk_put (blk_put (blk_put BK301.out 0 a_ rfl) 1 b_ rfl) 0 c_ rfl) 1).trans rfl; have hczy301_0 : ∀ a_ b_ : Value, ((w24.setCell ⟨gb301, 0, none⟩ a_).setCell ⟨gb301, 1, none⟩ b_).cell? ⟨gb301, 0, none⟩ = some a_ := fun a_ b_ => (blk_cell (blk_put (blk_put BK301.out 0 a_ rfl) 1 b_ rfl) 0).trans rfl; have hczy301_1 : ∀ a_ b_ : Value, ((w24.setCell ⟨gb301, 0, none⟩ a_).setCell ⟨gb301, 1, none⟩ b_).cell? ⟨gb301, 1, none⟩ = some b_ := fun a_ b_ => (blk_cell (blk_put (blk_put BK301.out 0 a_ rfl) 1 b_ rfl) 1).trans rfl) | ((with_reducible refine gate_dst (N := 4) rfl ?_); refine box_event ?hg (N := 4) ?hd (cs := #[.int .u64 0, .int .u64 0]) (t := 24) ?hr ?_; (case hd => rfl); (case hg => rfl); (case hr => first | (go_simp; done) | (go_simp; rfl)); intro gb302 hg w25 hbox hb; have BK302 := Aside0.mk hbox; have GW302 := ge hg HB; have GE302 := ge hg HB; have NB301_302 := nl hg BK301; have NB302_301 := ng hg BK301; replace BK301 := bb BK301 hb; replace HB := bh HB hb; clear hb hbox hg; have hczz302 : ∀ a_ b_ c_ : Value, (((w25.setCell ⟨gb302, 0, none⟩ a_).setCell ⟨gb302, 1, none⟩ b_).setCell ⟨gb302, 0, none⟩ c_).cell? ⟨gb302, 1, none⟩ = some b_ := fun a_ b_ c_ => (blk_cell (blk_put (blk_put (blk_put BK302.out 0 a_ rfl) 1 b_ rfl) 0 c_ rfl) 1).trans rfl; have hczy302_0 : ∀ a_ b_ : Value, ((w25.setCell ⟨gb302, 0, none⟩ a_).setCell ⟨gb302, 1, none⟩ b_).cell? ⟨gb302, 0, none⟩ = some a_ := fun a_ b_ => (blk_cell (blk_put (blk_put BK302.out 0 a_ rfl) 1 b_ rfl) 0).trans rfl; have hczy302_1 : ∀ a_ b_ : Value, ((w25.setCell ⟨gb302, 0, none⟩ a_).setCell ⟨gb302, 1, none⟩ b_).cell? ⟨gb302, 1, none⟩ = some b_ := fun a_ b_ => (blk_cell (blk_put (blk_put BK302.out 0 a_ rfl) 1 b_ rfl) 1).trans rfl; have hnb26 := NB301_302.out; have hnc26 := NB302_301.out; obtain ⟨hcz27_0, hcz27_1⟩ := zc2 BK301; obtain ⟨hfz27_0, hfz27_1⟩ := zf2 BK301; obtain ⟨hcz28_0, hcz28_1⟩ := zc2 BK302; obtain ⟨hfz28_0, hfz28_1⟩ := zf2 BK302))
    refine bodyPost_ret (results_cell_row rfl _ _ gb302 24 #[.int .u64 a1_0, .int .u64 (Go.bits .and .u64 a1_1 (IntKind.u64.wrap ((ji23) - 1)))] (0, 0) _ rfl (by (with_reducible repeat refine bl ?_); refine blk_put (cs := #[.int .u64 a1_0, .int .u64 0]) ?_ 1 _ rfl; (with_reducible repeat refine bl ?_); refine blk_put (cs := #[.int .u64 0, .int .u64 0]) ?_ 0 _ rfl; (with_reducible repeat refine bl ?_); refine blk_far ?_ NB302_301.out _; (with_reducible repeat refine bl ?_); exact BK302.out) Try.underlying24 rfl (by kernel_rfl)) rfl ?_
    exact ⟨by first | rfl | (simp [errW_none, errW_some] <;> rfl) | (simp only [← hji20, ← hji22, ← hji23]; first | rfl | (simp [errW_none, errW_some] <;> rfl)) | (simp [*, errW_none, errW_some] <;> rfl), bq HB.out⟩
   ·rw [if_neg c21] at H
    exact absurd H (by simp)
  ·rw [if_neg c19] at H
   have c19b0 : decide (a0 < 6) = false := decide_eq_false c19
   clear c19
   simp only [Option.some.injEq, Prod.mk.injEq] at H
   obtain ⟨rfl, rfl⟩ := H
   go_enter Try.func10, Try.ntmps10
   go_wp2_with (first | ((with_reducible refine gate_dst (N := 3) rfl ?_); refine box_event ?hg (N := 3) ?hd (cs := #[.int .u64 a1_0, .int .u64 a1_1]) (t := 24) ?hr ?_; (case hd => rfl); (case hg => rfl); (case hr => first | (go_simp; done) | (go_simp; rfl)); intro gb301 hg w29 hbox hb; have BK301 := Aside0.mk hbox; have GW301 := ge hg HB; have GE301 := ge hg HB; replace HB := bh HB hb; clear hb hbox hg; have hczz301 : ∀ a_ b_ c_ : Value, (((w29.setCell ⟨gb301, 0, none⟩ a_).setCell ⟨gb301, 1, none⟩ b_).setCell ⟨gb301, 0, none⟩ c_).cell? ⟨gb301, 1, none⟩ = some b_ := fun a_ b_ c_ => (blk_cell (blk_put (blk_put (blk_put BK301.out 0 a_ rfl) 1 b_ rfl) 0 c_ rfl) 1).trans rfl; have hczy301_0 : ∀ a_ b_ : Value, ((w29.setCell ⟨gb301, 0, none⟩ a_).setCell ⟨gb301, 1, none⟩ b_).cell? ⟨gb301, 0, none⟩ = some a_ := fun a_ b_ => (blk_cell (blk_put (blk_put BK301.out 0 a_ rfl) 1 b_ rfl) 0).trans rfl; have hczy301_1 : ∀ a_ b_ : Value, ((w29.setCell ⟨gb301, 0, none⟩ a_).setCell ⟨gb301, 1, none⟩ b_).cell? ⟨gb301, 1, none⟩ = some b_ := fun a_ b_ => (blk_cell (blk_put (blk_put BK301.out 0 a_ rfl) 1 b_ rfl) 1).trans rfl) | ((with_reducible refine gate_dst (N := 4) rfl ?_); refine box_event ?hg (N := 4) ?hd (cs := #[.int .u64 0, .int .u64 0]) (t := 24) ?hr ?_; (case hd => rfl); (case hg => rfl); (case hr => first | (go_simp; done) | (go_simp; rfl)); intro gb302 hg w30 hbox hb; have BK302 := Aside0.mk hbox; have GW302 := ge hg HB; have GE302 := ge hg HB; have NB301_302 := nl hg BK301; have NB302_301 := ng hg BK301; replace BK301 := bb BK301 hb; replace HB := bh HB hb; clear hb hbox hg; have hczz302 : ∀ a_ b_ c_ : Value, (((w30.setCell ⟨gb302, 0, none⟩ a_).setCell ⟨gb302, 1, none⟩ b_).setCell ⟨gb302, 0, none⟩ c_).cell? ⟨gb302, 1, none⟩ = some b_ := fun a_ b_ c_ => (blk_cell (blk_put (blk_put (blk_put BK302.out 0 a_ rfl) 1 b_ rfl) 0 c_ rfl) 1).trans rfl; have hczy302_0 : ∀ a_ b_ : Value, ((w30.setCell ⟨gb302, 0, none⟩ a_).setCell ⟨gb302, 1, none⟩ b_).cell? ⟨gb302, 0, none⟩ = some a_ := fun a_ b_ => (blk_cell (blk_put (blk_put BK302.out 0 a_ rfl) 1 b_ rfl) 0).trans rfl; have hczy302_1 : ∀ a_ b_ : Value, ((w30.setCell ⟨gb302, 0, none⟩ a_).setCell ⟨gb302, 1, none⟩ b_).cell? ⟨gb302, 1, none⟩ = some b_ := fun a_ b_ => (blk_cell (blk_put (blk_put BK302.out 0 a_ rfl) 1 b_ rfl) 1).trans rfl; have hnb31 := NB301_302.out; have hnc31 := NB302_301.out; obtain ⟨hcz32_0, hcz32_1⟩ := zc2 BK301; obtain ⟨hfz32_0, hfz32_1⟩ := zf2 BK301; obtain ⟨hcz33_0, hcz33_1⟩ := zc2 BK302; obtain ⟨hfz33_0, hfz33_1⟩ := zf2 BK302))
   refine bodyPost_ret (results_cell_row rfl _ _ gb302 24 #[.int .u64 a1_0, .int .u64 a1_1] (0, 0) _ rfl (by (with_reducible repeat refine bl ?_); refine blk_put (cs := #[.int .u64 a1_0, .int .u64 0]) ?_ 1 _ rfl; (with_reducible repeat refine bl ?_); refine blk_put (cs := #[.int .u64 0, .int .u64 0]) ?_ 0 _ rfl; (with_reducible repeat refine bl ?_); exact BK302.out) Try.underlying24 rfl (by kernel_rfl)) rfl ?_
   exact ⟨by first | rfl | (simp [errW_none, errW_some] <;> rfl) | (simp [*, errW_none, errW_some] <;> rfl), bq HB.out⟩

/-! ### octet_Wide: function 49 -/
def octet_Wide.j0 : Nat → Int → Bool → Option (Int)
 | 0, _, _ => none
 | k + 1, x0, x3 => if x3 = true then (some 0) else (if x0 ≤ 3 then (some 1) else (if 0 ≤ (wrap64 (x0 - 3)) then (some (shl .i64 1 (wrap64 (x0 - 3)))) else (none)))
def octet_Wide.f (k : Nat) (a0 : Int) : Option (Int) := if a0 < 0 then (octet_Wide.j0 k a0 true) else (octet_Wide.j0 k a0 (decide (a0 > 7)))
theorem octet_Wide.mono_l : ∀ k, (∀ y0 y1, LeO (octet_Wide.j0 k y0 y1) (octet_Wide.j0 (k + 1) y0 y1))
 | 0 => fun _ _ r h => by simp [octet_Wide.j0] at h
 | k + 1 => by
  have ih0 := octet_Wide.mono_l k
  ·intro y0 y1
   unfold octet_Wide.j0
   repeat' first
   | (with_reducible exact ih0 _ _)
   | (with_reducible exact LeO.refl _)
   | (with_reducible exact LeO.none _)
   | (with_reducible refine LeO.ite ?_ ?_)
   | (with_reducible refine LeO.bind ?_ (fun _ => ?_))
   | exact ih0 _ _
   | exact LeO.none _
   | refine LeO.ite ?_ ?_
   | refine LeO.bind ?_ (fun _ => ?_)
theorem octet_Wide.mono : ∀ a0 k, LeO (octet_Wide.f k a0) (octet_Wide.f (k + 1) a0) := by
 intro a0 k
 have ih0 := octet_Wide.mono_l k
 unfold octet_Wide.f
 repeat' first
   | (with_reducible exact ih0 _ _)
   | (with_reducible exact LeO.refl _)
   | (with_reducible exact LeO.none _)
   | (with_reducible refine LeO.ite ?_ ?_)
   | (with_reducible refine LeO.bind ?_ (fun _ => ?_))
   | exact ih0 _ _
   | exact LeO.none _
   | refine LeO.ite ?_ ?_
   | refine LeO.bind ?_ (fun _ => ?_)
set_option maxHeartbeats 8000000 in
set_option maxRecDepth 100000 in
theorem octet_Wide.calls (k : Nat) (a0 : Int) (r : Int) (w : World) (h : octet_Wide.f k a0 = some r) :
  Calls Try.prog 49 #[.int .i64 a0] w fun e w' => e = .returned (.int .i64 r) ∧ Drawn0 w w' := by
 have H : (if a0 < 0 then (octet_Wide.j0 k a0 true) else (octet_Wide.j0 k a0 (decide (a0 > 7)))) = some r := h
 clear h
 have HC2 := Aside0.mk H
 clear H
 go_enter Try.func49, Try.ntmps49
 go_upto_region 1 with (fail)
 go_cut [3] (fun v3 wc => ∃ (kq : Nat) (x3_1 : Bool), v3 = .bool x3_1 ∧ Aside0 (octet_Wide.j0 kq a0 x3_1 = some r) ∧ Aside0 (kq ≤ k) ∧ Drawn0 w wc)
 case first =>
  have H := HC2.out
  clear HC2
  by_cases c3 : a0 < 0
  ·rw [if_pos c3] at H
   have c3b0 : decide (a0 < 0) = true := decide_eq_true c3
   clear c3
   (first | rw [c3b0] | (simp only [i64_w, i32_w]; rw [c3b0]) | skip)
   have H' := Aside0.mk H
   clear H
   go_wp2
   go_meet
   case rel => exact ⟨_, (true), (by first | rfl | (simp; done) | (simp [*]; done)), H', ⟨by first | omega | exact Nat.le_refl _⟩, by repeat (first | exact Drawn0.refl _ | apply Drawn0.step)⟩
  ·rw [if_neg c3] at H
   have c3b0 : decide (a0 < 0) = false := decide_eq_false c3
   clear c3
   (first | rw [c3b0] | (simp only [i64_w, i32_w]; rw [c3b0]) | skip)
   have H' := Aside0.mk H
   clear H
   go_wp2
   go_meet
   case rel => exact ⟨_, (decide (a0 > 7)), (by first | rfl | (simp; done) | (simp [*]; done)), H', ⟨by first | omega | exact Nat.le_refl _⟩, by repeat (first | exact Drawn0.refl _ | apply Drawn0.step)⟩
 case rest =>
  clear HC2
  try clear p2
  try clear c3
  try clear c3b0
  obtain ⟨kq, x3_1, rfl, HA, HJ1, ⟨mc1, rfl⟩⟩ := hcut
  cases kq with
  | zero => exact absurd HA.out (by simp [octet_Wide.j0])
  | succ kj1 =>
   have H := HA.out
   clear HA
   simp only [octet_Wide.j0] at H
   by_cases c4 : x3_1 = true
   ·subst c4
    have H1 : (some 0) = some r := by rw [if_pos rfl] at H; exact H
    clear H
    have H := H1
    clear H1
    obtain rfl := Option.some.inj H
    go_wp2
    go_ret
    exact ⟨by first | rfl | (simp; done) | (simp [*]; done), by repeat (first | exact Drawn0.refl _ | apply Drawn0.step)⟩
   ·replace c4 := Bool.eq_false_iff.mpr c4
    subst c4
    have H1 : (if a0 ≤ 3 then (some 1) else (if 0 ≤ (wrap64 (a0 - 3)) then (some (shl .i64 1 (wrap64 (a0 - 3)))) else (none))) = some r := by rw [if_neg (show ¬ (false = true) by decide)] at H; exact H
    clear H
    have H := H1
    clear H1
    by_cases c5 : a0 ≤ 3
    ·rw [if_pos c5] at H
     have c5b0 : decide (a0 ≤ 3) = true := decide_eq_true c5
     clear c5
     obtain rfl := Option.some.inj H
     go_wp2
     go_ret
     exact ⟨by first | rfl | (simp; done) | (simp [*]; done), by repeat (first | exact Drawn0.refl _ | apply Drawn0.step)⟩
    ·rw [if_neg c5] at H
     have c5b0 : decide (a0 ≤ 3) = false := decide_eq_false c5
     clear c5
     obtain ⟨ji6, hji6⟩ : ∃ j_ : Int, (wrap64 (a0 - 3)) = j_ := ⟨_, rfl⟩
     replace H : (if 0 ≤ (ji6) then (some (shl .i64 1 (ji6))) else (none)) = some r := by first | (rw [hji6] at H; exact H) | (simp only [hji6] at H ⊢; exact H)
     have hji6w : (IntKind.i64.wrap (a0 - 3)) = ji6 := (i64_w _).trans hji6
     by_cases c7 : 0 ≤ (ji6)
     ·rw [if_pos c7] at H
      have c7b0 := eq_true c7
      have c7b1 : decide (0 ≤ (ji6)) = true := decide_eq_true c7
      clear c7
      obtain ⟨ji8, hji8⟩ : ∃ j_ : Int, (shl .i64 1 (ji6)) = j_ := ⟨_, rfl⟩
      replace H : (some ji8) = some r := by first | (rw [hji8] at H; exact H) | (simp only [hji8] at H ⊢; exact H)
      have hji8_ : (IntKind.i64.wrap (1 * 2 ^ min (ji6).toNat 64)) = ji8 := hji8
      have hji8z : (ji6) ≤ 64 → (IntKind.i64.wrap (1 * 2 ^ (ji6).toNat)) = ji8 := shl_small hji8
      have hji8u : (IntKind.i64.wrap (2 ^ min (ji6).toNat 64)) = ji8 := by have h_ := hji8_; rw [Int.one_mul] at h_; exact h_
      have hji8v : (ji6) ≤ 64 → (IntKind.i64.wrap (2 ^ (ji6).toNat)) = ji8 := fun hle_ => by have h_ := hji8z hle_; rw [Int.one_mul] at h_; exact h_
      have hji8y : (wrap64 (1 * 2 ^ min (ji6).toNat 64)) = ji8 := (i64_w _).symm.trans hji8_
      have hji8x : (ji6) ≤ 64 → (wrap64 (1 * 2 ^ (ji6).toNat)) = ji8 := fun h_ => (i64_w _).symm.trans (hji8z h_)
      obtain rfl := Option.some.inj H
      go_wp2
      go_ret
      exact ⟨by first | rfl | (simp; done) | (simp only [← hji6, ← hji8] <;> (first | rfl | simp)) | (simp [*]; done), by repeat (first | exact Drawn0.refl _ | apply Drawn0.step)⟩
     ·rw [if_neg c7] at H
      exact absurd H (by simp)

-- NOT PRINTED: function 66 (api_Elem_66)

-- NOT PRINTED: function 64 (api_Elem_64)

-- NOT PRINTED: function 65 (span_within_1)

end Go.Proofs.Ytlegcabfgkccmaa.P
