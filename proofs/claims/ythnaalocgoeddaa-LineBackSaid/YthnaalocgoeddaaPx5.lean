/- Written by a program of this session: functions that the law reaches, as Lean functions, and that the code comes to their answers. Conditions: those that each theorem names. -/
import Derived.Test.YthnaalocgoeddaaPx0
import Derived.Test.YthnaalocgoeddaaPx4
import Derived.Test.YthnaalocgoeddaaHLof
namespace Go.Proofs.Ythnaalocgoeddaa.P
open Go.RowKit Go.Proofs.YthnaalocgoeddaaX Go.Proofs.YthnaalocgoeddaaW.PrintWords Go.Proofs.YthnaalocgoeddaaW.PrintLast Go.Proofs.YthnaalocgoeddaaW.PrintMore
attribute [local go_sem] max2_int min2_int max_two min_two max_three min_three max_four min_four   -- for this text's walks alone
set_option linter.unusedVariables false
set_option linter.unusedSimpArgs false

/-! ### line_ask: function 25 -/
def line_ask.j0 : Nat → Int → List (S28) → Bool → Option (Int)
 | 0, _, _, _ => none
 | k + 1, x0, x2, x11 => if x11 = true then (some 6) else ((line_of.f k x0 x2).bind fun t131 => (if t131 = true then (some 0) else (some 5)))
def line_ask.f (k : Nat) (a0 : Int) (a1 : Int) (l2 : List (S28)) : Option (Int) := (octet_Wide.f k a0).bind fun t129 => (if t129 = 0 then (some 1) else (if (l2.length : Int) = 0 then (line_ask.j0 k a0 l2 true) else (if (l2.length : Int) > (wrap64 (a1 + 1)) then (line_ask.j0 k a0 l2 true) else ((line_Fits.f k a0 a1).bind fun t130 => (line_ask.j0 k a0 l2 (!t130))))))
theorem line_ask.mono_l : ∀ k, (∀ y0 y1 y2, LeO (line_ask.j0 k y0 y1 y2) (line_ask.j0 (k + 1) y0 y1 y2))
 | 0 => fun _ _ _ r h => by simp [line_ask.j0] at h
 | k + 1 => by
  have ih0 := line_ask.mono_l k
  ·intro y0 y1 y2
   unfold line_ask.j0
   repeat' first
   | (with_reducible exact ih0 _ _ _)
   | (with_reducible exact line_Fits.mono _ _ _)
   | (with_reducible exact line_of.mono _ _ _)
   | (with_reducible exact octet_Wide.mono _ _)
   | (with_reducible exact LeO.refl _)
   | (with_reducible exact LeO.none _)
   | (with_reducible refine LeO.ite ?_ ?_)
   | (with_reducible refine LeO.bind ?_ (fun _ => ?_))
   | exact ih0 _ _ _
   | exact line_Fits.mono _ _ _
   | exact line_of.mono _ _ _
   | exact octet_Wide.mono _ _
   | exact LeO.none _
   | refine LeO.ite ?_ ?_
   | refine LeO.bind ?_ (fun _ => ?_)
theorem line_ask.mono : ∀ a0 a1 a2 k, LeO (line_ask.f k a0 a1 a2) (line_ask.f (k + 1) a0 a1 a2) := by
 intro a0 a1 a2 k
 have ih0 := line_ask.mono_l k
 unfold line_ask.f
 repeat' first
   | (with_reducible exact ih0 _ _ _)
   | (with_reducible exact line_Fits.mono _ _ _)
   | (with_reducible exact line_of.mono _ _ _)
   | (with_reducible exact octet_Wide.mono _ _)
   | (with_reducible exact LeO.refl _)
   | (with_reducible exact LeO.none _)
   | (with_reducible refine LeO.ite ?_ ?_)
   | (with_reducible refine LeO.bind ?_ (fun _ => ?_))
   | exact ih0 _ _ _
   | exact line_Fits.mono _ _ _
   | exact line_of.mono _ _ _
   | exact octet_Wide.mono _ _
   | exact LeO.none _
   | refine LeO.ite ?_ ?_
   | refine LeO.bind ?_ (fun _ => ?_)
set_option maxHeartbeats 8000000 in
set_option maxRecDepth 100000 in
theorem line_ask.calls (k : Nat) (a0 : Int) (a1 : Int) (A2 : Option Addr) (c2 : Nat) (l2 : List (S28)) (r : Int) (w : World) (hr2 : Kd.C k28 w A2 l2.length l2) (hc2 : l2.length ≤ c2) (h : line_ask.f k a0 a1 l2 = some r) :
  Calls Try.prog 25 #[.int .i64 a0, .int .i64 a1, .slice A2 l2.length c2] w fun e w' => e = .returned (.int .i64 r) ∧ Below w.heap.size w w' := by
 have HR2 := Aside0.mk hr2
 have HC2 := Aside0.mk hc2
 clear hr2 hc2
 have HB := Aside0.mk (Below.refl w.heap.size w)
 have H : ((octet_Wide.f k a0).bind fun t129 => (if t129 = 0 then (some 1) else (if (l2.length : Int) = 0 then (line_ask.j0 k a0 l2 true) else (if (l2.length : Int) > (wrap64 (a1 + 1)) then (line_ask.j0 k a0 l2 true) else ((line_Fits.f k a0 a1).bind fun t130 => (line_ask.j0 k a0 l2 (!t130))))))) = some r := h
 clear h
 replace H := Option.bind_eq_some_iff.mp H
 obtain ⟨t129, A40, H⟩ := H
 replace H : (if t129 = 0 then (some 1) else (if (l2.length : Int) = 0 then (line_ask.j0 k a0 l2 true) else (if (l2.length : Int) > (wrap64 (a1 + 1)) then (line_ask.j0 k a0 l2 true) else ((line_Fits.f k a0 a1).bind fun t130 => (line_ask.j0 k a0 l2 (!t130)))))) = some r := H
 have A4 := Aside0.mk A40
 clear A40
 by_cases c5 : t129 = 0
 ·rw [if_pos c5] at H
  have c5b0 : (t129 == 0) = true := beq_iff_eq.mpr c5
  have c5b1 : (t129 != 0) = false := bne_eq_false_iff_eq.mpr c5
  clear c5
  obtain rfl := Option.some.inj H
  go_enter Try.func25, Try.ntmps25
  go_wp2_with (first | ((with_reducible refine gate_callee (f := 33) rfl ?_); refine goesL_ (some 9) rfl rfl Try.func33 (by kernel_rfl) rfl #[.int .i64 a0] rfl (by (try simp only [List.map_toArray, List.map_cons, List.map_nil]); first | done | rfl | (simp only [List.length_drop, List.length_take]; rfl)) ?_; (with_reducible refine (octet_Wide.calls k a0 t129 _ A4.out).mono ?_); rintro e w' ⟨rfl, ⟨nd, rfl⟩⟩; refine ⟨_, rfl, ?_⟩))
  go_ret
  exact ⟨by first | rfl | (simp [errW_none, errW_some] <;> rfl) | (simp [*, errW_none, errW_some] <;> rfl), bq HB.out⟩
 ·rw [if_neg c5] at H
  have c5b0 : (t129 == 0) = false := beq_eq_false_iff_ne.mpr c5
  have c5b1 : (t129 != 0) = true := bne_iff_ne.mpr c5
  have HC6 := Aside0.mk H
  clear H
  go_enter Try.func25, Try.ntmps25
  go_upto_region 3 with (first | ((with_reducible refine gate_callee (f := 33) rfl ?_); refine goesL_ (some 9) rfl rfl Try.func33 (by kernel_rfl) rfl #[.int .i64 a0] rfl (by (try simp only [List.map_toArray, List.map_cons, List.map_nil]); first | done | rfl | (simp only [List.length_drop, List.length_take]; rfl)) ?_; (with_reducible refine (octet_Wide.calls k a0 t129 _ A4.out).mono ?_); rintro e w' ⟨rfl, ⟨nd, rfl⟩⟩; refine ⟨_, rfl, ?_⟩))
  (try simp only [Act.put, List.setIfInBounds_toArray, List.set_cons_zero, List.set_cons_succ])
  go_cut [11] (fun v11 wc => ∃ (kq : Nat) (x11_5 : Bool), v11 = .bool x11_5 ∧ Aside0 (line_ask.j0 kq a0 l2 x11_5 = some r) ∧ Aside0 (kq ≤ k) ∧ Aside0 (Below w.heap.size w wc))
  case first =>
   have H := HC6.out
   clear HC6
   by_cases c7 : (l2.length : Int) = 0
   ·rw [if_pos c7] at H
    have c7b0 : ((l2.length : Int) == 0) = true := beq_iff_eq.mpr c7
    have c7b1 : ((l2.length : Int) != 0) = false := bne_eq_false_iff_eq.mpr c7
    clear c7
    (first | rw [c7b0] | (simp only [i64_w, i32_w]; rw [c7b0]) | skip)
    have H' := Aside0.mk H
    clear H
    go_wp2
    go_meet
    case rel => exact ⟨_, (true), (by first | rfl | (simp; done) | (simp [*]; done)), H', ⟨by first | omega | exact Nat.le_refl _⟩, ⟨bq HB.out⟩⟩
   ·rw [if_neg c7] at H
    have c7b0 : ((l2.length : Int) == 0) = false := beq_eq_false_iff_ne.mpr c7
    have c7b1 : ((l2.length : Int) != 0) = true := bne_iff_ne.mpr c7
    have c7b2 : ¬ (l2 = []) := fun h_ => c7 (by rw [h_]; rfl)
    (first | rw [c7b0] | (simp only [i64_w, i32_w]; rw [c7b0]) | skip)
    by_cases c8 : (l2.length : Int) > (wrap64 (a1 + 1))
    ·rw [if_pos c8] at H
     have c8b0 : decide ((wrap64 (a1 + 1)) < (l2.length : Int)) = true := decide_eq_true c8
     clear c8
     have H' := Aside0.mk H
     clear H
     go_wp2
     go_meet
     case rel => exact ⟨_, (true), (by first | rfl | (simp; done) | (simp [*]; done)), H', ⟨by first | omega | exact Nat.le_refl _⟩, ⟨bq HB.out⟩⟩
    ·rw [if_neg c8] at H
     have c8b0 : decide ((wrap64 (a1 + 1)) < (l2.length : Int)) = false := decide_eq_false c8
     clear c8
     replace H := Option.bind_eq_some_iff.mp H
     obtain ⟨t130, A90, H⟩ := H
     replace H : (line_ask.j0 k a0 l2 (!t130)) = some r := H
     have A9 := Aside0.mk A90
     clear A90
     have H' := Aside0.mk H
     clear H
     go_wp2_with (first | (go_at_call 16; (with_reducible refine (line_Fits.calls k a0 a1 t130 _ A9.out).mono ?_); rintro e w10 ⟨rfl, hb⟩; replace HB := bh HB hb; (try clear hb); (try clear hb2); (try clear hk); (try clear hi)))
     go_meet
     case rel => exact ⟨_, (!t130), (by first | rfl | (simp; done) | (simp [*]; done)), H', ⟨by first | omega | exact Nat.le_refl _⟩, ⟨bq HB.out⟩⟩
  case rest =>
   clear HC6
   try clear c2
   try clear p2
   try clear c3
   try clear c5
   try clear c5b0
   try clear c5b1
   try clear p6
   try clear c7
   try clear c7b0
   try clear c7b1
   try clear c7b2
   try clear c8
   try clear c8b0
   obtain ⟨kq, x11_5, rfl, HA, HJ5, HB⟩ := hcut
   cases kq with
   | zero => exact absurd HA.out (by simp [line_ask.j0])
   | succ kj5 =>
    have H := HA.out
    clear HA
    simp only [line_ask.j0] at H
    by_cases c11 : x11_5 = true
    ·subst c11
     have H1 : (some 6) = some r := by rw [if_pos rfl] at H; exact H
     clear H
     have H := H1
     clear H1
     obtain rfl := Option.some.inj H
     go_wp2
     go_ret
     exact ⟨by first | rfl | (simp [errW_none, errW_some] <;> rfl) | (simp [*, errW_none, errW_some] <;> rfl), bq HB.out⟩
    ·replace c11 := Bool.eq_false_iff.mpr c11
     subst c11
     have H1 : ((line_of.f kj5 a0 l2).bind fun t131 => (if t131 = true then (some 0) else (some 5))) = some r := by rw [if_neg (show ¬ (false = true) by decide)] at H; exact H
     clear H
     have H := H1
     clear H1
     replace H := Option.bind_eq_some_iff.mp H
     obtain ⟨t131, A120, H⟩ := H
     replace H : (if t131 = true then (some 0) else (some 5)) = some r := H
     have A12 := Aside0.mk A120
     clear A120
     by_cases c13 : t131 = true
     ·subst c13
      have H1 : (some 0) = some r := by rw [if_pos rfl] at H; exact H
      clear H
      have H := H1
      clear H1
      obtain rfl := Option.some.inj H
      go_wp2_with (first | ((with_reducible refine gate_callee (f := 40) rfl ?_); refine goesL_ (some 31) rfl rfl Try.func40 (by kernel_rfl) rfl #[.int .i64 a0, .slice A2 l2.length c2] rfl (by (try simp only [List.map_toArray, List.map_cons, List.map_nil]); first | done | rfl | (simp only [List.length_drop, List.length_take]; rfl)) ?_; (with_reducible refine (line_of.calls kj5 a0 _ _ l2 true _ ?side1 ?side2 A12.out).mono ?_); (case side1 => repeat (first | exact (Kd.C_below HR2.out HB.out) | (with_reducible refine Kd.C_alloc ?_ _) | (with_reducible refine Kd.C_drewN ?_ _) | (with_reducible refine Kd.C_drew ?_))); (case side2 => exact HC2.out); rintro e w14 ⟨rfl, hb⟩; refine ⟨_, rfl, ?_⟩; replace HB := bh HB hb; (try clear hb); (try clear hb2); (try clear hk); (try clear hi)))
      go_ret
      exact ⟨by first | rfl | (simp [errW_none, errW_some] <;> rfl) | (simp [*, errW_none, errW_some] <;> rfl), bq HB.out⟩
     ·replace c13 := Bool.eq_false_iff.mpr c13
      subst c13
      have H1 : (some 5) = some r := by rw [if_neg (show ¬ (false = true) by decide)] at H; exact H
      clear H
      have H := H1
      clear H1
      obtain rfl := Option.some.inj H
      go_wp2_with (first | ((with_reducible refine gate_callee (f := 40) rfl ?_); refine goesL_ (some 31) rfl rfl Try.func40 (by kernel_rfl) rfl #[.int .i64 a0, .slice A2 l2.length c2] rfl (by (try simp only [List.map_toArray, List.map_cons, List.map_nil]); first | done | rfl | (simp only [List.length_drop, List.length_take]; rfl)) ?_; (with_reducible refine (line_of.calls kj5 a0 _ _ l2 false _ ?side1 ?side2 A12.out).mono ?_); (case side1 => repeat (first | exact (Kd.C_below HR2.out HB.out) | (with_reducible refine Kd.C_alloc ?_ _) | (with_reducible refine Kd.C_drewN ?_ _) | (with_reducible refine Kd.C_drew ?_))); (case side2 => exact HC2.out); rintro e w15 ⟨rfl, hb⟩; refine ⟨_, rfl, ?_⟩; replace HB := bh HB hb; (try clear hb); (try clear hb2); (try clear hk); (try clear hi)))
      go_ret
      exact ⟨by first | rfl | (simp [errW_none, errW_some] <;> rfl) | (simp [*, errW_none, errW_some] <;> rfl), bq HB.out⟩

/-! ### tower_Add: function 12 -/
def tower_Add.f (a0_0 : Int) (a0_1 : Int) (a1_0 : Int) (a1_1 : Int) : Option (Int × Int) := some (Go.bits .xor .u64 a0_0 a1_0, Go.bits .xor .u64 a0_1 a1_1)
set_option maxHeartbeats 8000000 in
set_option maxRecDepth 100000 in
theorem tower_Add.calls (a0_0 : Int) (a0_1 : Int) (a1_0 : Int) (a1_1 : Int) (r1 : Int) (r2 : Int) (w : World) (h : tower_Add.f a0_0 a0_1 a1_0 a1_1 = some (r1, r2)) :
  Calls Try.prog 12 #[.agg #[.int .u64 a0_0, .int .u64 a0_1], .agg #[.int .u64 a1_0, .int .u64 a1_1]] w fun e w' => e = .returned (.agg #[.int .u64 r1, .int .u64 r2]) ∧ Below w.heap.size w w' := by
 have hu28 := Try.underlying28
 have HB := Aside0.mk (Below.refl w.heap.size w)
 have H : (some (Go.bits .xor .u64 a0_0 a1_0, Go.bits .xor .u64 a0_1 a1_1)) = some (r1, r2) := h
 clear h
 simp only [Option.some.injEq, Prod.mk.injEq] at H
 obtain ⟨rfl, rfl⟩ := H
 go_enter Try.func12, Try.ntmps12
 go_wp2_with (first | ((with_reducible refine gate_dst (N := 2) rfl ?_); refine box_event ?hg (N := 2) ?hd (cs := #[.int .u64 a0_0, .int .u64 a0_1]) (t := 28) ?hr ?_; (case hd => rfl); (case hg => rfl); (case hr => first | (go_simp; done) | (go_simp; rfl)); intro gb132 hg w3 hbox hb; have BK132 := Aside0.mk hbox; have GW132 := ge hg HB; have GE132 := ge hg HB; replace HB := bh HB hb; clear hb hbox hg) | ((with_reducible refine gate_dst (N := 3) rfl ?_); refine box_event ?hg (N := 3) ?hd (cs := #[.int .u64 a1_0, .int .u64 a1_1]) (t := 28) ?hr ?_; (case hd => rfl); (case hg => rfl); (case hr => first | (go_simp; done) | (go_simp; rfl)); intro gb133 hg w4 hbox hb; have BK133 := Aside0.mk hbox; have GW133 := ge hg HB; have GE133 := ge hg HB; have NB132_133 := nl hg BK132; have NB133_132 := ng hg BK132; replace BK132 := bb BK132 hb; replace HB := bh HB hb; clear hb hbox hg) | ((with_reducible refine gate_dst (N := 4) rfl ?_); refine box_event ?hg (N := 4) ?hd (cs := #[.int .u64 0, .int .u64 0]) (t := 28) ?hr ?_; (case hd => rfl); (case hg => rfl); (case hr => first | (go_simp; done) | (go_simp; rfl)); intro gb134 hg w5 hbox hb; have BK134 := Aside0.mk hbox; have GW134 := ge hg HB; have GE134 := ge hg HB; have NB132_134 := nl hg BK132; have NB134_132 := ng hg BK132; have NB133_134 := nl hg BK133; have NB134_133 := ng hg BK133; replace BK132 := bb BK132 hb; replace BK133 := bb BK133 hb; replace HB := bh HB hb; clear hb hbox hg; have hnb6 := NB132_133.out; have hnc6 := NB133_132.out; have hnb7 := NB132_134.out; have hnc7 := NB134_132.out; obtain ⟨hcz8_0, hcz8_1⟩ := zc2 BK132; obtain ⟨hfz8_0, hfz8_1⟩ := zf2 BK132; have hnb9 := NB133_134.out; have hnc9 := NB134_133.out; obtain ⟨hcz10_0, hcz10_1⟩ := zc2 BK133; obtain ⟨hfz10_0, hfz10_1⟩ := zf2 BK133; obtain ⟨hcz11_0, hcz11_1⟩ := zc2 BK134; obtain ⟨hfz11_0, hfz11_1⟩ := zf2 BK134))
 refine bodyPost_ret (results_cell_row rfl _ _ gb134 28 #[.int .u64 (Go.bits .xor .u64 a0_0 a1_0), .int .u64 (Go.bits .xor .u64 a0_1 a1_1)] (0, 0) _ rfl (by (with_reducible repeat refine bl ?_); refine blk_put (cs := #[.int .u64 (Go.bits .xor .u64 a0_0 a1_0), .int .u64 0]) ?_ 1 _ rfl; (with_reducible repeat refine bl ?_); refine blk_put (cs := #[.int .u64 0, .int .u64 0]) ?_ 0 _ rfl; (with_reducible repeat refine bl ?_); exact BK134.out) Try.underlying28 rfl (by kernel_rfl)) rfl ?_
 exact ⟨by first | rfl | (simp [errW_none, errW_some] <;> rfl) | (simp [*, errW_none, errW_some] <;> rfl), bq HB.out⟩

/-! ### tower_halves: function 41 -/
def tower_halves.f (a0 : Int) (a1 : Int) : Option (Int × Int) := if 0 ≤ (wrap64 (a0 - 1)) then (if 0 ≤ (shl .i64 1 (wrap64 (a0 - 1))) then (some (shr .u64 a1 (shl .i64 1 (wrap64 (a0 - 1))), Go.bits .and .u64 a1 (IntKind.u64.wrap ((shl .u64 1 (shl .i64 1 (wrap64 (a0 - 1)))) - 1)))) else (none)) else (none)
set_option maxHeartbeats 8000000 in
set_option maxRecDepth 100000 in
theorem tower_halves.calls (a0 : Int) (a1 : Int) (r1 : Int) (r2 : Int) (w : World) (h : tower_halves.f a0 a1 = some (r1, r2)) :
  Calls Try.prog 41 #[.int .i64 a0, .int .u64 a1] w fun e w' => e = .returned (.tuple #[.int .u64 r1, .int .u64 r2]) ∧ Drawn0 w w' := by
 have H : (if 0 ≤ (wrap64 (a0 - 1)) then (if 0 ≤ (shl .i64 1 (wrap64 (a0 - 1))) then (some (shr .u64 a1 (shl .i64 1 (wrap64 (a0 - 1))), Go.bits .and .u64 a1 (IntKind.u64.wrap ((shl .u64 1 (shl .i64 1 (wrap64 (a0 - 1)))) - 1)))) else (none)) else (none)) = some (r1, r2) := h
 clear h
 obtain ⟨ji3, hji3⟩ : ∃ j_ : Int, (wrap64 (a0 - 1)) = j_ := ⟨_, rfl⟩
 replace H : (if 0 ≤ (ji3) then (if 0 ≤ (shl .i64 1 (ji3)) then (some (shr .u64 a1 (shl .i64 1 (ji3)), Go.bits .and .u64 a1 (IntKind.u64.wrap ((shl .u64 1 (shl .i64 1 (ji3))) - 1)))) else (none)) else (none)) = some (r1, r2) := by first | (rw [hji3] at H; exact H) | (simp only [hji3] at H ⊢; exact H)
 have hji3w : (IntKind.i64.wrap (a0 - 1)) = ji3 := (i64_w _).trans hji3
 by_cases c4 : 0 ≤ (ji3)
 ·rw [if_pos c4] at H
  have c4b0 := eq_true c4
  have c4b1 : decide (0 ≤ (ji3)) = true := decide_eq_true c4
  clear c4
  obtain ⟨ji5, hji5⟩ : ∃ j_ : Int, (shl .i64 1 (ji3)) = j_ := ⟨_, rfl⟩
  replace H : (if 0 ≤ (ji5) then (some (shr .u64 a1 (ji5), Go.bits .and .u64 a1 (IntKind.u64.wrap ((shl .u64 1 (ji5)) - 1)))) else (none)) = some (r1, r2) := by first | (rw [hji5] at H; exact H) | (simp only [hji5] at H ⊢; exact H)
  have hji5_ : (IntKind.i64.wrap (1 * 2 ^ min (ji3).toNat 64)) = ji5 := hji5
  have hji5z : (ji3) ≤ 64 → (IntKind.i64.wrap (1 * 2 ^ (ji3).toNat)) = ji5 := shl_small hji5
  have hji5u : (IntKind.i64.wrap (2 ^ min (ji3).toNat 64)) = ji5 := by have h_ := hji5_; rw [Int.one_mul] at h_; exact h_
  have hji5v : (ji3) ≤ 64 → (IntKind.i64.wrap (2 ^ (ji3).toNat)) = ji5 := fun hle_ => by have h_ := hji5z hle_; rw [Int.one_mul] at h_; exact h_
  have hji5y : (wrap64 (1 * 2 ^ min (ji3).toNat 64)) = ji5 := (i64_w _).symm.trans hji5_
  have hji5x : (ji3) ≤ 64 → (wrap64 (1 * 2 ^ (ji3).toNat)) = ji5 := fun h_ => (i64_w _).symm.trans (hji5z h_)
  by_cases c6 : 0 ≤ (ji5)
  ·rw [if_pos c6] at H
   have c6b0 := eq_true c6
   have c6b1 : decide (0 ≤ (ji5)) = true := decide_eq_true c6
   clear c6
   obtain ⟨ji7, hji7⟩ : ∃ j_ : Int, (shr .u64 a1 (ji5)) = j_ := ⟨_, rfl⟩
   replace H : (some (ji7, Go.bits .and .u64 a1 (IntKind.u64.wrap ((shl .u64 1 (ji5)) - 1)))) = some (r1, r2) := by first | (rw [hji7] at H; exact H) | (simp only [hji7] at H ⊢; exact H)
   have hji7_ : (a1 / 2 ^ min (ji5).toNat 64) = ji7 := hji7
   have hji7z : (ji5) ≤ 64 → (a1 / 2 ^ (ji5).toNat) = ji7 := shr_small hji7
   have c8b0 := eq_true (of_decide_eq_true (by first | (with_reducible assumption) | assumption) : 0 ≤ (ji5))
   obtain ⟨ji9, hji9⟩ : ∃ j_ : Int, (shl .u64 1 (ji5)) = j_ := ⟨_, rfl⟩
   replace H : (some (ji7, Go.bits .and .u64 a1 (IntKind.u64.wrap ((ji9) - 1)))) = some (r1, r2) := by first | (rw [hji9] at H; exact H) | (simp only [hji9] at H ⊢; exact H)
   have hji9_ : (IntKind.u64.wrap (1 * 2 ^ min (ji5).toNat 64)) = ji9 := hji9
   have hji9z : (ji5) ≤ 64 → (IntKind.u64.wrap (1 * 2 ^ (ji5).toNat)) = ji9 := shl_small hji9
   have hji9p0 := eq_true (show (0 : Int) ≤ ji9 by rw [← hji9_]; exact wrap_u64_nonneg _)
   have hji9p1 : decide (0 ≤ (ji9 : Int)) = true := decide_eq_true (of_eq_true hji9p0)
   have hji9u : (IntKind.u64.wrap (2 ^ min (ji5).toNat 64)) = ji9 := by have h_ := hji9_; rw [Int.one_mul] at h_; exact h_
   have hji9v : (ji5) ≤ 64 → (IntKind.u64.wrap (2 ^ (ji5).toNat)) = ji9 := fun hle_ => by have h_ := hji9z hle_; rw [Int.one_mul] at h_; exact h_
   simp only [Option.some.injEq, Prod.mk.injEq] at H
   obtain ⟨rfl, rfl⟩ := H
   go_enter Try.func41, Try.ntmps41
   go_wp2
   repeat (go_quiet (fail); try go_wp2)
   go_ret2
   exact ⟨by first | rfl | (simp; done) | (simp only [← hji3, ← hji5, ← hji7, ← hji9] <;> (first | rfl | simp)) | (simp [*]; done), by repeat (first | exact Drawn0.refl _ | apply Drawn0.step)⟩
  ·rw [if_neg c6] at H
   exact absurd H (by simp)
 ·rw [if_neg c4] at H
  exact absurd H (by simp)

/-! ### tower_join: function 42 -/
def tower_join.f (a0 : Int) (a1 : Int) (a2 : Int) : Option (Int) := if 0 ≤ (wrap64 (a0 - 1)) then (some (Go.bits .or .u64 (shl .u64 a1 (shl .u64 1 (wrap64 (a0 - 1)))) a2)) else (none)
set_option maxHeartbeats 8000000 in
set_option maxRecDepth 100000 in
theorem tower_join.calls (a0 : Int) (a1 : Int) (a2 : Int) (r : Int) (w : World) (h : tower_join.f a0 a1 a2 = some r) :
  Calls Try.prog 42 #[.int .i64 a0, .int .u64 a1, .int .u64 a2] w fun e w' => e = .returned (.int .u64 r) ∧ Drawn0 w w' := by
 have H : (if 0 ≤ (wrap64 (a0 - 1)) then (some (Go.bits .or .u64 (shl .u64 a1 (shl .u64 1 (wrap64 (a0 - 1)))) a2)) else (none)) = some r := h
 clear h
 obtain ⟨ji4, hji4⟩ : ∃ j_ : Int, (wrap64 (a0 - 1)) = j_ := ⟨_, rfl⟩
 replace H : (if 0 ≤ (ji4) then (some (Go.bits .or .u64 (shl .u64 a1 (shl .u64 1 (ji4))) a2)) else (none)) = some r := by first | (rw [hji4] at H; exact H) | (simp only [hji4] at H ⊢; exact H)
 have hji4w : (IntKind.i64.wrap (a0 - 1)) = ji4 := (i64_w _).trans hji4
 by_cases c5 : 0 ≤ (ji4)
 ·rw [if_pos c5] at H
  have c5b0 := eq_true c5
  have c5b1 : decide (0 ≤ (ji4)) = true := decide_eq_true c5
  clear c5
  obtain ⟨ji6, hji6⟩ : ∃ j_ : Int, (shl .u64 1 (ji4)) = j_ := ⟨_, rfl⟩
  replace H : (some (Go.bits .or .u64 (shl .u64 a1 (ji6)) a2)) = some r := by first | (rw [hji6] at H; exact H) | (simp only [hji6] at H ⊢; exact H)
  have hji6_ : (IntKind.u64.wrap (1 * 2 ^ min (ji4).toNat 64)) = ji6 := hji6
  have hji6z : (ji4) ≤ 64 → (IntKind.u64.wrap (1 * 2 ^ (ji4).toNat)) = ji6 := shl_small hji6
  have hji6p0 := eq_true (show (0 : Int) ≤ ji6 by rw [← hji6_]; exact wrap_u64_nonneg _)
  have hji6p1 : decide (0 ≤ (ji6 : Int)) = true := decide_eq_true (of_eq_true hji6p0)
  have hji6u : (IntKind.u64.wrap (2 ^ min (ji4).toNat 64)) = ji6 := by have h_ := hji6_; rw [Int.one_mul] at h_; exact h_
  have hji6v : (ji4) ≤ 64 → (IntKind.u64.wrap (2 ^ (ji4).toNat)) = ji6 := fun hle_ => by have h_ := hji6z hle_; rw [Int.one_mul] at h_; exact h_
  obtain ⟨ji7, hji7⟩ : ∃ j_ : Int, (shl .u64 a1 (ji6)) = j_ := ⟨_, rfl⟩
  replace H : (some (Go.bits .or .u64 (ji7) a2)) = some r := by first | (rw [hji7] at H; exact H) | (simp only [hji7] at H ⊢; exact H)
  have hji7_ : (IntKind.u64.wrap (a1 * 2 ^ min (ji6).toNat 64)) = ji7 := hji7
  have hji7z : (ji6) ≤ 64 → (IntKind.u64.wrap (a1 * 2 ^ (ji6).toNat)) = ji7 := shl_small hji7
  have hji7p0 := eq_true (show (0 : Int) ≤ ji7 by rw [← hji7_]; exact wrap_u64_nonneg _)
  have hji7p1 : decide (0 ≤ (ji7 : Int)) = true := decide_eq_true (of_eq_true hji7p0)
  obtain rfl := Option.some.inj H
  go_enter Try.func42, Try.ntmps42
  go_wp2
  go_ret
  exact ⟨by first | rfl | (simp; done) | (simp only [← hji4, ← hji6, ← hji7] <;> (first | rfl | simp)) | (simp [*]; done), by repeat (first | exact Drawn0.refl _ | apply Drawn0.step)⟩
 ·rw [if_neg c5] at H
  exact absurd H (by simp)

/-! ### tower_mulX: function 31 -/
def tower_mulX.f : Nat → Int → Int → Option (Int)
 | 0, _, _ => none
 | k + 1, a0, a1 => if a0 = 0 then (some a1) else ((tower_halves.f a0 a1).bind fun bt135 => ((tower_mulX.f k (wrap64 (a0 - 1)) bt135.1).bind fun t137 => ((tower_join.f a0 (Go.bits .xor .u64 bt135.2 t137) bt135.1).bind fun t138 => (some t138))))
theorem tower_mulX.mono_l : ∀ k, (∀ y0 y1, LeO (tower_mulX.f k y0 y1) (tower_mulX.f (k + 1) y0 y1))
 | 0 => fun _ _ r h => by simp [tower_mulX.f] at h
 | k + 1 => by
  have ih0 := tower_mulX.mono_l k
  ·intro y0 y1
   unfold tower_mulX.f
   repeat' first
   | (with_reducible exact ih0 _ _)
   | (with_reducible exact LeO.refl _)
   | (with_reducible exact LeO.none _)
   | (with_reducible refine LeO.ite ?_ ?_)
   | (with_reducible refine LeO.bind ?_ (fun _ => ?_))
   | exact ih0 _ _
   | exact LeO.none _
   | refine LeO.ite ?_ ?_
   | refine LeO.bind ?_ (fun _ => ?_)
theorem tower_mulX.mono : ∀ a0 a1 k, LeO (tower_mulX.f k a0 a1) (tower_mulX.f (k + 1) a0 a1) := by
 intro a0 a1 k
 have ih0 := tower_mulX.mono_l k
 exact ih0 a0 a1
set_option maxHeartbeats 8000000 in
set_option maxRecDepth 100000 in
theorem tower_mulX.calls (k : Nat) : ∀ (a0 : Int) (a1 : Int) (r : Int) (w : World) (h : tower_mulX.f k a0 a1 = some r),
  Calls Try.prog 31 #[.int .i64 a0, .int .u64 a1] w fun e w' => e = .returned (.int .u64 r) ∧ Drawn0 w w' := by
 induction k using Nat.strongRecOn with
 | _ k ih =>
 intro a0 a1 r w h
 cases k with
 | zero => exact absurd h (by simp [tower_mulX.f])
 | succ k =>
 simp only [tower_mulX.f] at h
 have H : (if a0 = 0 then (some a1) else ((tower_halves.f a0 a1).bind fun bt135 => ((tower_mulX.f k (wrap64 (a0 - 1)) bt135.1).bind fun t137 => ((tower_join.f a0 (Go.bits .xor .u64 bt135.2 t137) bt135.1).bind fun t138 => (some t138))))) = some r := h
 clear h
 by_cases c3 : a0 = 0
 ·rw [if_pos c3] at H
  have c3b0 : (a0 == 0) = true := beq_iff_eq.mpr c3
  have c3b1 : (a0 != 0) = false := bne_eq_false_iff_eq.mpr c3
  clear c3
  obtain rfl := Option.some.inj H
  go_enter Try.func31, Try.ntmps31
  go_wp2
  go_ret
  exact ⟨by first | rfl | (simp; done) | (simp [*]; done), by repeat (first | exact Drawn0.refl _ | apply Drawn0.step)⟩
 ·rw [if_neg c3] at H
  have c3b0 : (a0 == 0) = false := beq_eq_false_iff_ne.mpr c3
  have c3b1 : (a0 != 0) = true := bne_iff_ne.mpr c3
  replace H := Option.bind_eq_some_iff.mp H
  obtain ⟨⟨t135, t136⟩, A40, H⟩ := H
  replace H : ((tower_mulX.f k (wrap64 (a0 - 1)) t135).bind fun t137 => ((tower_join.f a0 (Go.bits .xor .u64 t136 t137) t135).bind fun t138 => (some t138))) = some r := H
  have A4 := Aside0.mk A40
  clear A40
  replace H := Option.bind_eq_some_iff.mp H
  obtain ⟨t137, A50, H⟩ := H
  replace H : ((tower_join.f a0 (Go.bits .xor .u64 t136 t137) t135).bind fun t138 => (some t138)) = some r := H
  have A5 := Aside0.mk A50
  clear A50
  replace H := Option.bind_eq_some_iff.mp H
  obtain ⟨t138, A60, H⟩ := H
  replace H : (some t138) = some r := H
  have A6 := Aside0.mk A60
  clear A60
  obtain rfl := Option.some.inj H
  go_enter Try.func31, Try.ntmps31
  go_wp2_with (first | ((with_reducible refine gate_callee (f := 41) rfl ?_); refine goesL_ (some 13) rfl rfl Try.func41 (by kernel_rfl) rfl #[.int .i64 a0, .int .u64 a1] rfl (by (try simp only [List.map_toArray, List.map_cons, List.map_nil]); first | done | rfl | (simp only [List.length_drop, List.length_take]; rfl)) ?_; (with_reducible refine (tower_halves.calls a0 a1 t135 t136 _ A4.out).mono ?_); rintro e w' ⟨rfl, ⟨nd, rfl⟩⟩; refine ⟨_, rfl, ?_⟩) | ((with_reducible refine gate_callee (f := 31) rfl ?_); refine goesL_ (some 21) rfl rfl Try.func31 (by kernel_rfl) rfl #[.int .i64 (wrap64 (a0 - 1)), .int .u64 t135] rfl (by (try simp only [List.map_toArray, List.map_cons, List.map_nil]); first | done | rfl | (simp only [List.length_drop, List.length_take]; rfl)) ?_; (with_reducible refine (ih k (by omega) (wrap64 (a0 - 1)) t135 t137 _ A5.out).mono ?_); rintro e w' ⟨rfl, ⟨nd, rfl⟩⟩; refine ⟨_, rfl, ?_⟩) | ((with_reducible refine gate_callee (f := 42) rfl ?_); refine goesL_ (some 24) rfl rfl Try.func42 (by kernel_rfl) rfl #[.int .i64 a0, .int .u64 (Go.bits .xor .u64 t136 t137), .int .u64 t135] rfl (by (try simp only [List.map_toArray, List.map_cons, List.map_nil]); first | done | rfl | (simp only [List.length_drop, List.length_take]; rfl)) ?_; (with_reducible refine (tower_join.calls a0 (Go.bits .xor .u64 t136 t137) t135 t138 _ A6.out).mono ?_); rintro e w' ⟨rfl, ⟨nd, rfl⟩⟩; refine ⟨_, rfl, ?_⟩))
  go_ret
  exact ⟨by first | rfl | (simp; done) | (simp [*]; done), by repeat (first | exact Drawn0.refl _ | apply Drawn0.step)⟩

/-! ### tower_mul: function 30 -/
mutual
def tower_mul.j0 : Nat → Int → Int → Int → Bool → Option (Int)
 | 0, _, _, _, _ => none
 | k + 1, x0, x1, x2, x23 => if x23 = true then (some (Go.bits .and .u64 (Go.bits .and .u64 x1 x2) 1)) else ((tower_halves.f x0 x1).bind fun bt139 => ((tower_halves.f x0 x2).bind fun bt141 => ((tower_mul.f k (wrap64 (x0 - 1)) bt139.1 bt141.1).bind fun t143 => ((tower_mul.f k (wrap64 (x0 - 1)) bt139.2 bt141.2).bind fun t144 => ((tower_mul.f k (wrap64 (x0 - 1)) (Go.bits .xor .u64 bt139.1 bt139.2) (Go.bits .xor .u64 bt141.1 bt141.2)).bind fun t145 => ((tower_mulX.f k (wrap64 (x0 - 1)) t143).bind fun t146 => ((tower_join.f x0 (Go.bits .xor .u64 (Go.bits .xor .u64 (Go.bits .xor .u64 t145 t143) t144) t146) (Go.bits .xor .u64 t144 t143)).bind fun t147 => (some t147))))))))
def tower_mul.f : Nat → Int → Int → Int → Option (Int)
 | 0, _, _, _ => none
 | k + 1, a0, a1, a2 => if a0 = 0 then (tower_mul.j0 k a0 a1 a2 true) else (if a1 = 0 then (tower_mul.j0 k a0 a1 a2 true) else (tower_mul.j0 k a0 a1 a2 (a2 == 0)))
end
theorem tower_mul.mono_l : ∀ k, (∀ y0 y1 y2, LeO (tower_mul.f k y0 y1 y2) (tower_mul.f (k + 1) y0 y1 y2)) ∧ (∀ y0 y1 y2 y3, LeO (tower_mul.j0 k y0 y1 y2 y3) (tower_mul.j0 (k + 1) y0 y1 y2 y3))
 | 0 => ⟨fun _ _ _ r h => by simp [tower_mul.f] at h, fun _ _ _ _ r h => by simp [tower_mul.j0] at h⟩
 | k + 1 => by
  obtain ⟨ih0, ih1⟩ := tower_mul.mono_l k
  refine ⟨?_, ?_⟩
  ·intro y0 y1 y2
   unfold tower_mul.f
   repeat' first
   | (with_reducible exact ih0 _ _ _)
   | (with_reducible exact ih1 _ _ _ _)
   | (with_reducible exact tower_mulX.mono _ _ _)
   | (with_reducible exact LeO.refl _)
   | (with_reducible exact LeO.none _)
   | (with_reducible refine LeO.ite ?_ ?_)
   | (with_reducible refine LeO.bind ?_ (fun _ => ?_))
   | exact ih0 _ _ _
   | exact ih1 _ _ _ _
   | exact tower_mulX.mono _ _ _
   | exact LeO.none _
   | refine LeO.ite ?_ ?_
   | refine LeO.bind ?_ (fun _ => ?_)
  ·intro y0 y1 y2 y3
   unfold tower_mul.j0
   repeat' first
   | (with_reducible exact ih0 _ _ _)
   | (with_reducible exact ih1 _ _ _ _)
   | (with_reducible exact tower_mulX.mono _ _ _)
   | (with_reducible exact LeO.refl _)
   | (with_reducible exact LeO.none _)
   | (with_reducible refine LeO.ite ?_ ?_)
   | (with_reducible refine LeO.bind ?_ (fun _ => ?_))
   | exact ih0 _ _ _
   | exact ih1 _ _ _ _
   | exact tower_mulX.mono _ _ _
   | exact LeO.none _
   | refine LeO.ite ?_ ?_
   | refine LeO.bind ?_ (fun _ => ?_)
theorem tower_mul.mono : ∀ a0 a1 a2 k, LeO (tower_mul.f k a0 a1 a2) (tower_mul.f (k + 1) a0 a1 a2) := by
 intro a0 a1 a2 k
 obtain ⟨ih0, ih1⟩ := tower_mul.mono_l k
 exact ih0 a0 a1 a2
set_option maxHeartbeats 8000000 in
set_option maxRecDepth 100000 in
theorem tower_mul.calls (k : Nat) : ∀ (a0 : Int) (a1 : Int) (a2 : Int) (r : Int) (w : World) (h : tower_mul.f k a0 a1 a2 = some r),
  Calls Try.prog 30 #[.int .i64 a0, .int .u64 a1, .int .u64 a2] w fun e w' => e = .returned (.int .u64 r) ∧ Drawn0 w w' := by
 induction k using Nat.strongRecOn with
 | _ k ih =>
 intro a0 a1 a2 r w h
 cases k with
 | zero => exact absurd h (by simp [tower_mul.f])
 | succ k =>
 simp only [tower_mul.f] at h
 have H : (if a0 = 0 then (tower_mul.j0 k a0 a1 a2 true) else (if a1 = 0 then (tower_mul.j0 k a0 a1 a2 true) else (tower_mul.j0 k a0 a1 a2 (a2 == 0)))) = some r := h
 clear h
 have HC4 := Aside0.mk H
 clear H
 go_enter Try.func30, Try.ntmps30
 go_upto_region 1 with (fail)
 go_cut [23] (fun v23 wc => ∃ (kq : Nat) (x23_3 : Bool), v23 = .bool x23_3 ∧ Aside0 (tower_mul.j0 kq a0 a1 a2 x23_3 = some r) ∧ Aside0 (kq ≤ k) ∧ Drawn0 w wc)
 case first =>
  have H := HC4.out
  clear HC4
  by_cases c5 : a0 = 0
  ·rw [if_pos c5] at H
   have c5b0 : (a0 == 0) = true := beq_iff_eq.mpr c5
   have c5b1 : (a0 != 0) = false := bne_eq_false_iff_eq.mpr c5
   clear c5
   (first | rw [c5b0] | (simp only [i64_w, i32_w]; rw [c5b0]) | skip)
   have H' := Aside0.mk H
   clear H
   go_wp2
   go_meet
   case rel => exact ⟨_, (true), (by first | rfl | (simp; done) | (simp [*]; done)), H', ⟨by first | omega | exact Nat.le_refl _⟩, by repeat (first | exact Drawn0.refl _ | apply Drawn0.step)⟩
  ·rw [if_neg c5] at H
   have c5b0 : (a0 == 0) = false := beq_eq_false_iff_ne.mpr c5
   have c5b1 : (a0 != 0) = true := bne_iff_ne.mpr c5
   (first | rw [c5b0] | (simp only [i64_w, i32_w]; rw [c5b0]) | skip)
   by_cases c6 : a1 = 0
   ·rw [if_pos c6] at H
    have c6b0 : (a1 == 0) = true := beq_iff_eq.mpr c6
    have c6b1 : (a1 != 0) = false := bne_eq_false_iff_eq.mpr c6
    clear c6
    have H' := Aside0.mk H
    clear H
    go_wp2
    go_meet
    case rel => exact ⟨_, (true), (by first | rfl | (simp; done) | (simp [*]; done)), H', ⟨by first | omega | exact Nat.le_refl _⟩, by repeat (first | exact Drawn0.refl _ | apply Drawn0.step)⟩
   ·rw [if_neg c6] at H
    have c6b0 : (a1 == 0) = false := beq_eq_false_iff_ne.mpr c6
    have c6b1 : (a1 != 0) = true := bne_iff_ne.mpr c6
    have H' := Aside0.mk H
    clear H
    go_wp2
    go_meet
    case rel => exact ⟨_, ((a2 == 0)), (by first | rfl | (simp; done) | (simp [*]; done)), H', ⟨by first | omega | exact Nat.le_refl _⟩, by repeat (first | exact Drawn0.refl _ | apply Drawn0.step)⟩
 case rest =>
  clear HC4
  try clear p2
  try clear c3
  try clear c5
  try clear c5b0
  try clear c5b1
  try clear c6
  try clear c6b0
  try clear c6b1
  obtain ⟨kq, x23_3, rfl, HA, HJ3, ⟨mc3, rfl⟩⟩ := hcut
  cases kq with
  | zero => exact absurd HA.out (by simp [tower_mul.j0])
  | succ kj3 =>
   have H := HA.out
   clear HA
   simp only [tower_mul.j0] at H
   by_cases c7 : x23_3 = true
   ·subst c7
    have H1 : (some (Go.bits .and .u64 (Go.bits .and .u64 a1 a2) 1)) = some r := by rw [if_pos rfl] at H; exact H
    clear H
    have H := H1
    clear H1
    obtain rfl := Option.some.inj H
    go_wp2
    go_ret
    exact ⟨by first | rfl | (simp; done) | (simp [*]; done), by repeat (first | exact Drawn0.refl _ | apply Drawn0.step)⟩
   ·replace c7 := Bool.eq_false_iff.mpr c7
    subst c7
    have H1 : ((tower_halves.f a0 a1).bind fun bt139 => ((tower_halves.f a0 a2).bind fun bt141 => ((tower_mul.f kj3 (wrap64 (a0 - 1)) bt139.1 bt141.1).bind fun t143 => ((tower_mul.f kj3 (wrap64 (a0 - 1)) bt139.2 bt141.2).bind fun t144 => ((tower_mul.f kj3 (wrap64 (a0 - 1)) (Go.bits .xor .u64 bt139.1 bt139.2) (Go.bits .xor .u64 bt141.1 bt141.2)).bind fun t145 => ((tower_mulX.f kj3 (wrap64 (a0 - 1)) t143).bind fun t146 => ((tower_join.f a0 (Go.bits .xor .u64 (Go.bits .xor .u64 (Go.bits .xor .u64 t145 t143) t144) t146) (Go.bits .xor .u64 t144 t143)).bind fun t147 => (some t147)))))))) = some r := by rw [if_neg (show ¬ (false = true) by decide)] at H; exact H
    clear H
    have H := H1
    clear H1
    replace H := Option.bind_eq_some_iff.mp H
    obtain ⟨⟨t139, t140⟩, A80, H⟩ := H
    replace H : ((tower_halves.f a0 a2).bind fun bt141 => ((tower_mul.f kj3 (wrap64 (a0 - 1)) t139 bt141.1).bind fun t143 => ((tower_mul.f kj3 (wrap64 (a0 - 1)) t140 bt141.2).bind fun t144 => ((tower_mul.f kj3 (wrap64 (a0 - 1)) (Go.bits .xor .u64 t139 t140) (Go.bits .xor .u64 bt141.1 bt141.2)).bind fun t145 => ((tower_mulX.f kj3 (wrap64 (a0 - 1)) t143).bind fun t146 => ((tower_join.f a0 (Go.bits .xor .u64 (Go.bits .xor .u64 (Go.bits .xor .u64 t145 t143) t144) t146) (Go.bits .xor .u64 t144 t143)).bind fun t147 => (some t147))))))) = some r := H
    have A8 := Aside0.mk A80
    clear A80
    replace H := Option.bind_eq_some_iff.mp H
    obtain ⟨⟨t141, t142⟩, A90, H⟩ := H
    replace H : ((tower_mul.f kj3 (wrap64 (a0 - 1)) t139 t141).bind fun t143 => ((tower_mul.f kj3 (wrap64 (a0 - 1)) t140 t142).bind fun t144 => ((tower_mul.f kj3 (wrap64 (a0 - 1)) (Go.bits .xor .u64 t139 t140) (Go.bits .xor .u64 t141 t142)).bind fun t145 => ((tower_mulX.f kj3 (wrap64 (a0 - 1)) t143).bind fun t146 => ((tower_join.f a0 (Go.bits .xor .u64 (Go.bits .xor .u64 (Go.bits .xor .u64 t145 t143) t144) t146) (Go.bits .xor .u64 t144 t143)).bind fun t147 => (some t147)))))) = some r := H
    have A9 := Aside0.mk A90
    clear A90
    replace H := Option.bind_eq_some_iff.mp H
    obtain ⟨t143, A100, H⟩ := H
    replace H : ((tower_mul.f kj3 (wrap64 (a0 - 1)) t140 t142).bind fun t144 => ((tower_mul.f kj3 (wrap64 (a0 - 1)) (Go.bits .xor .u64 t139 t140) (Go.bits .xor .u64 t141 t142)).bind fun t145 => ((tower_mulX.f kj3 (wrap64 (a0 - 1)) t143).bind fun t146 => ((tower_join.f a0 (Go.bits .xor .u64 (Go.bits .xor .u64 (Go.bits .xor .u64 t145 t143) t144) t146) (Go.bits .xor .u64 t144 t143)).bind fun t147 => (some t147))))) = some r := H
    have A10 := Aside0.mk A100
    clear A100
    replace H := Option.bind_eq_some_iff.mp H
    obtain ⟨t144, A110, H⟩ := H
    replace H : ((tower_mul.f kj3 (wrap64 (a0 - 1)) (Go.bits .xor .u64 t139 t140) (Go.bits .xor .u64 t141 t142)).bind fun t145 => ((tower_mulX.f kj3 (wrap64 (a0 - 1)) t143).bind fun t146 => ((tower_join.f a0 (Go.bits .xor .u64 (Go.bits .xor .u64 (Go.bits .xor .u64 t145 t143) t144) t146) (Go.bits .xor .u64 t144 t143)).bind fun t147 => (some t147)))) = some r := H
    have A11 := Aside0.mk A110
    clear A110
    replace H := Option.bind_eq_some_iff.mp H
    obtain ⟨t145, A120, H⟩ := H
    replace H : ((tower_mulX.f kj3 (wrap64 (a0 - 1)) t143).bind fun t146 => ((tower_join.f a0 (Go.bits .xor .u64 (Go.bits .xor .u64 (Go.bits .xor .u64 t145 t143) t144) t146) (Go.bits .xor .u64 t144 t143)).bind fun t147 => (some t147))) = some r := H
    have A12 := Aside0.mk A120
    clear A120
    replace H := Option.bind_eq_some_iff.mp H
    obtain ⟨t146, A130, H⟩ := H
    replace H : ((tower_join.f a0 (Go.bits .xor .u64 (Go.bits .xor .u64 (Go.bits .xor .u64 t145 t143) t144) t146) (Go.bits .xor .u64 t144 t143)).bind fun t147 => (some t147)) = some r := H
    have A13 := Aside0.mk A130
    clear A130
    replace H := Option.bind_eq_some_iff.mp H
    obtain ⟨t147, A140, H⟩ := H
    replace H : (some t147) = some r := H
    have A14 := Aside0.mk A140
    clear A140
    obtain rfl := Option.some.inj H
    go_wp2_with (first | ((with_reducible refine gate_callee (f := 41) rfl ?_); refine goesL_ (some 31) rfl rfl Try.func41 (by kernel_rfl) rfl #[.int .i64 a0, .int .u64 a1] rfl (by (try simp only [List.map_toArray, List.map_cons, List.map_nil]); first | done | rfl | (simp only [List.length_drop, List.length_take]; rfl)) ?_; (with_reducible refine (tower_halves.calls a0 a1 t139 t140 _ A8.out).mono ?_); rintro e w' ⟨rfl, ⟨nd, rfl⟩⟩; refine ⟨_, rfl, ?_⟩) | ((with_reducible refine gate_callee (f := 41) rfl ?_); refine goesL_ (some 37) rfl rfl Try.func41 (by kernel_rfl) rfl #[.int .i64 a0, .int .u64 a2] rfl (by (try simp only [List.map_toArray, List.map_cons, List.map_nil]); first | done | rfl | (simp only [List.length_drop, List.length_take]; rfl)) ?_; (with_reducible refine (tower_halves.calls a0 a2 t141 t142 _ A9.out).mono ?_); rintro e w' ⟨rfl, ⟨nd, rfl⟩⟩; refine ⟨_, rfl, ?_⟩) | ((with_reducible refine gate_callee (f := 30) rfl ?_); refine goesL_ (some 44) rfl rfl Try.func30 (by kernel_rfl) rfl #[.int .i64 (wrap64 (a0 - 1)), .int .u64 t139, .int .u64 t141] rfl (by (try simp only [List.map_toArray, List.map_cons, List.map_nil]); first | done | rfl | (simp only [List.length_drop, List.length_take]; rfl)) ?_; (with_reducible refine (ih kj3 (by have := HJ3.out; omega) (wrap64 (a0 - 1)) t139 t141 t143 _ A10.out).mono ?_); rintro e w' ⟨rfl, ⟨nd, rfl⟩⟩; refine ⟨_, rfl, ?_⟩) | ((with_reducible refine gate_callee (f := 30) rfl ?_); refine goesL_ (some 49) rfl rfl Try.func30 (by kernel_rfl) rfl #[.int .i64 (wrap64 (a0 - 1)), .int .u64 t140, .int .u64 t142] rfl (by (try simp only [List.map_toArray, List.map_cons, List.map_nil]); first | done | rfl | (simp only [List.length_drop, List.length_take]; rfl)) ?_; (with_reducible refine (ih kj3 (by have := HJ3.out; omega) (wrap64 (a0 - 1)) t140 t142 t144 _ A11.out).mono ?_); rintro e w' ⟨rfl, ⟨nd, rfl⟩⟩; refine ⟨_, rfl, ?_⟩) | ((with_reducible refine gate_callee (f := 30) rfl ?_); refine goesL_ (some 58) rfl rfl Try.func30 (by kernel_rfl) rfl #[.int .i64 (wrap64 (a0 - 1)), .int .u64 (Go.bits .xor .u64 t139 t140), .int .u64 (Go.bits .xor .u64 t141 t142)] rfl (by (try simp only [List.map_toArray, List.map_cons, List.map_nil]); first | done | rfl | (simp only [List.length_drop, List.length_take]; rfl)) ?_; (with_reducible refine (ih kj3 (by have := HJ3.out; omega) (wrap64 (a0 - 1)) (Go.bits .xor .u64 t139 t140) (Go.bits .xor .u64 t141 t142) t145 _ A12.out).mono ?_); rintro e w' ⟨rfl, ⟨nd, rfl⟩⟩; refine ⟨_, rfl, ?_⟩) | ((with_reducible refine gate_callee (f := 31) rfl ?_); refine goesL_ (some 68) rfl rfl Try.func31 (by kernel_rfl) rfl #[.int .i64 (wrap64 (a0 - 1)), .int .u64 t143] rfl (by (try simp only [List.map_toArray, List.map_cons, List.map_nil]); first | done | rfl | (simp only [List.length_drop, List.length_take]; rfl)) ?_; (with_reducible refine (tower_mulX.calls kj3 (wrap64 (a0 - 1)) t143 t146 _ A13.out).mono ?_); rintro e w' ⟨rfl, ⟨nd, rfl⟩⟩; refine ⟨_, rfl, ?_⟩) | ((with_reducible refine gate_callee (f := 42) rfl ?_); refine goesL_ (some 73) rfl rfl Try.func42 (by kernel_rfl) rfl #[.int .i64 a0, .int .u64 (Go.bits .xor .u64 (Go.bits .xor .u64 (Go.bits .xor .u64 t145 t143) t144) t146), .int .u64 (Go.bits .xor .u64 t144 t143)] rfl (by (try simp only [List.map_toArray, List.map_cons, List.map_nil]); first | done | rfl | (simp only [List.length_drop, List.length_take]; rfl)) ?_; (with_reducible refine (tower_join.calls a0 (Go.bits .xor .u64 (Go.bits .xor .u64 (Go.bits .xor .u64 t145 t143) t144) t146) (Go.bits .xor .u64 t144 t143) t147 _ A14.out).mono ?_); rintro e w' ⟨rfl, ⟨nd, rfl⟩⟩; refine ⟨_, rfl, ?_⟩))
    go_ret
    exact ⟨by first | rfl | (simp; done) | (simp [*]; done), by repeat (first | exact Drawn0.refl _ | apply Drawn0.step)⟩

/-! ### tower_Mul: function 13 -/
def tower_Mul.j0 : Nat → Int → Bool → Int → Int → Int → Int → Option (Int × Int)
 | 0, _, _, _, _, _, _ => none
 | k + 1, x0, x10, x149000, x149001, x150000, x150001 => if x10 = true then (some (0, 0)) else (if x0 ≤ 6 then ((tower_mul.f k x0 x149001 x150001).bind fun t153 => (some (0, t153))) else ((tower_mul.f k 6 x149000 x150000).bind fun t154 => ((tower_mul.f k 6 x149001 x150001).bind fun t155 => ((tower_mul.f k 6 (Go.bits .xor .u64 x149000 x149001) (Go.bits .xor .u64 x150000 x150001)).bind fun t156 => ((tower_mulX.f k 6 t154).bind fun t157 => (some (Go.bits .xor .u64 (Go.bits .xor .u64 (Go.bits .xor .u64 t156 t154) t155) t157, Go.bits .xor .u64 t155 t154)))))))
def tower_Mul.f (k : Nat) (a0 : Int) (a1_0 : Int) (a1_1 : Int) (a2_0 : Int) (a2_1 : Int) : Option (Int × Int) := (octet_Of.f k a0 a1_0 a1_1).bind fun t151 => (if t151 = true then ((octet_Of.f k a0 a2_0 a2_1).bind fun t152 => (tower_Mul.j0 k a0 (!t152) a1_0 a1_1 a2_0 a2_1)) else (tower_Mul.j0 k a0 true a1_0 a1_1 a2_0 a2_1))
theorem tower_Mul.mono_l : ∀ k, (∀ y0 y1 y2 y3 y4 y5, LeO (tower_Mul.j0 k y0 y1 y2 y3 y4 y5) (tower_Mul.j0 (k + 1) y0 y1 y2 y3 y4 y5))
 | 0 => fun _ _ _ _ _ _ r h => by simp [tower_Mul.j0] at h
 | k + 1 => by
  have ih0 := tower_Mul.mono_l k
  ·intro y0 y1 y2 y3 y4 y5
   unfold tower_Mul.j0
   repeat' first
   | (with_reducible exact ih0 _ _ _ _ _ _)
   | (with_reducible exact octet_Of.mono _ _ _ _)
   | (with_reducible exact tower_mul.mono _ _ _ _)
   | (with_reducible exact tower_mulX.mono _ _ _)
   | (with_reducible exact LeO.refl _)
   | (with_reducible exact LeO.none _)
   | (with_reducible refine LeO.ite ?_ ?_)
   | (with_reducible refine LeO.bind ?_ (fun _ => ?_))
   | exact ih0 _ _ _ _ _ _
   | exact octet_Of.mono _ _ _ _
   | exact tower_mul.mono _ _ _ _
   | exact tower_mulX.mono _ _ _
   | exact LeO.none _
   | refine LeO.ite ?_ ?_
   | refine LeO.bind ?_ (fun _ => ?_)
theorem tower_Mul.mono : ∀ a0 a1 a2 a3 a4 k, LeO (tower_Mul.f k a0 a1 a2 a3 a4) (tower_Mul.f (k + 1) a0 a1 a2 a3 a4) := by
 intro a0 a1 a2 a3 a4 k
 have ih0 := tower_Mul.mono_l k
 unfold tower_Mul.f
 repeat' first
   | (with_reducible exact ih0 _ _ _ _ _ _)
   | (with_reducible exact octet_Of.mono _ _ _ _)
   | (with_reducible exact tower_mul.mono _ _ _ _)
   | (with_reducible exact tower_mulX.mono _ _ _)
   | (with_reducible exact LeO.refl _)
   | (with_reducible exact LeO.none _)
   | (with_reducible refine LeO.ite ?_ ?_)
   | (with_reducible refine LeO.bind ?_ (fun _ => ?_))
   | exact ih0 _ _ _ _ _ _
   | exact octet_Of.mono _ _ _ _
   | exact tower_mul.mono _ _ _ _
   | exact tower_mulX.mono _ _ _
   | exact LeO.none _
   | refine LeO.ite ?_ ?_
   | refine LeO.bind ?_ (fun _ => ?_)
set_option maxHeartbeats 8000000 in
set_option maxRecDepth 100000 in
theorem tower_Mul.calls (k : Nat) (a0 : Int) (a1_0 : Int) (a1_1 : Int) (a2_0 : Int) (a2_1 : Int) (r1 : Int) (r2 : Int) (w : World) (h : tower_Mul.f k a0 a1_0 a1_1 a2_0 a2_1 = some (r1, r2)) :
  Calls Try.prog 13 #[.int .i64 a0, .agg #[.int .u64 a1_0, .int .u64 a1_1], .agg #[.int .u64 a2_0, .int .u64 a2_1]] w fun e w' => e = .returned (.agg #[.int .u64 r1, .int .u64 r2]) ∧ Below w.heap.size w w' := by
 have hu28 := Try.underlying28
 have HB := Aside0.mk (Below.refl w.heap.size w)
 have H : ((octet_Of.f k a0 a1_0 a1_1).bind fun t151 => (if t151 = true then ((octet_Of.f k a0 a2_0 a2_1).bind fun t152 => (tower_Mul.j0 k a0 (!t152) a1_0 a1_1 a2_0 a2_1)) else (tower_Mul.j0 k a0 true a1_0 a1_1 a2_0 a2_1))) = some (r1, r2) := h
 clear h
 have HC4 := Aside0.mk H
 clear H
 go_enter Try.func13, Try.ntmps13
 go_upto_region 1 with (first | ((with_reducible refine gate_dst (N := 4) rfl ?_); refine box_event ?hg (N := 4) ?hd (cs := #[.int .u64 a1_0, .int .u64 a1_1]) (t := 28) ?hr ?_; (case hd => rfl); (case hg => rfl); (case hr => first | (go_simp; done) | (go_simp; rfl)); intro gb148 hg w5 hbox hb; have BK148 := Aside0.mk hbox; have GW148 := ge hg HB; have GE148 := ge hg HB; replace HB := bh HB hb; clear hb hbox hg) | ((with_reducible refine gate_dst (N := 5) rfl ?_); refine box_event ?hg (N := 5) ?hd (cs := #[.int .u64 a2_0, .int .u64 a2_1]) (t := 28) ?hr ?_; (case hd => rfl); (case hg => rfl); (case hr => first | (go_simp; done) | (go_simp; rfl)); intro gb149 hg w6 hbox hb; have BK149 := Aside0.mk hbox; have GW149 := ge hg HB; have GE149 := ge hg HB; have NB148_149 := nl hg BK148; have NB149_148 := ng hg BK148; replace BK148 := bb BK148 hb; replace HB := bh HB hb; clear hb hbox hg) | ((with_reducible refine gate_dst (N := 6) rfl ?_); refine box_event ?hg (N := 6) ?hd (cs := #[.int .u64 0, .int .u64 0]) (t := 28) ?hr ?_; (case hd => rfl); (case hg => rfl); (case hr => first | (go_simp; done) | (go_simp; rfl)); intro gb150 hg w7 hbox hb; have BK150 := Aside0.mk hbox; have GW150 := ge hg HB; have GE150 := ge hg HB; have NB148_150 := nl hg BK148; have NB150_148 := ng hg BK148; have NB149_150 := nl hg BK149; have NB150_149 := ng hg BK149; replace BK148 := bb BK148 hb; replace BK149 := bb BK149 hb; replace HB := bh HB hb; clear hb hbox hg))
 repeat (go_quiet (first | ((with_reducible refine gate_dst (N := 4) rfl ?_); refine box_event ?hg (N := 4) ?hd (cs := #[.int .u64 a1_0, .int .u64 a1_1]) (t := 28) ?hr ?_; (case hd => rfl); (case hg => rfl); (case hr => first | (go_simp; done) | (go_simp; rfl)); intro gb148 hg w5 hbox hb; have BK148 := Aside0.mk hbox; have GW148 := ge hg HB; have GE148 := ge hg HB; replace HB := bh HB hb; clear hb hbox hg) | ((with_reducible refine gate_dst (N := 5) rfl ?_); refine box_event ?hg (N := 5) ?hd (cs := #[.int .u64 a2_0, .int .u64 a2_1]) (t := 28) ?hr ?_; (case hd => rfl); (case hg => rfl); (case hr => first | (go_simp; done) | (go_simp; rfl)); intro gb149 hg w6 hbox hb; have BK149 := Aside0.mk hbox; have GW149 := ge hg HB; have GE149 := ge hg HB; have NB148_149 := nl hg BK148; have NB149_148 := ng hg BK148; replace BK148 := bb BK148 hb; replace HB := bh HB hb; clear hb hbox hg) | ((with_reducible refine gate_dst (N := 6) rfl ?_); refine box_event ?hg (N := 6) ?hd (cs := #[.int .u64 0, .int .u64 0]) (t := 28) ?hr ?_; (case hd => rfl); (case hg => rfl); (case hr => first | (go_simp; done) | (go_simp; rfl)); intro gb150 hg w7 hbox hb; have BK150 := Aside0.mk hbox; have GW150 := ge hg HB; have GE150 := ge hg HB; have NB148_150 := nl hg BK148; have NB150_148 := ng hg BK148; have NB149_150 := nl hg BK149; have NB150_149 := ng hg BK149; replace BK148 := bb BK148 hb; replace BK149 := bb BK149 hb; replace HB := bh HB hb; clear hb hbox hg)); go_upto_region 1 with (first | ((with_reducible refine gate_dst (N := 4) rfl ?_); refine box_event ?hg (N := 4) ?hd (cs := #[.int .u64 a1_0, .int .u64 a1_1]) (t := 28) ?hr ?_; (case hd => rfl); (case hg => rfl); (case hr => first | (go_simp; done) | (go_simp; rfl)); intro gb148 hg w5 hbox hb; have BK148 := Aside0.mk hbox; have GW148 := ge hg HB; have GE148 := ge hg HB; replace HB := bh HB hb; clear hb hbox hg) | ((with_reducible refine gate_dst (N := 5) rfl ?_); refine box_event ?hg (N := 5) ?hd (cs := #[.int .u64 a2_0, .int .u64 a2_1]) (t := 28) ?hr ?_; (case hd => rfl); (case hg => rfl); (case hr => first | (go_simp; done) | (go_simp; rfl)); intro gb149 hg w6 hbox hb; have BK149 := Aside0.mk hbox; have GW149 := ge hg HB; have GE149 := ge hg HB; have NB148_149 := nl hg BK148; have NB149_148 := ng hg BK148; replace BK148 := bb BK148 hb; replace HB := bh HB hb; clear hb hbox hg) | ((with_reducible refine gate_dst (N := 6) rfl ?_); refine box_event ?hg (N := 6) ?hd (cs := #[.int .u64 0, .int .u64 0]) (t := 28) ?hr ?_; (case hd => rfl); (case hg => rfl); (case hr => first | (go_simp; done) | (go_simp; rfl)); intro gb150 hg w7 hbox hb; have BK150 := Aside0.mk hbox; have GW150 := ge hg HB; have GE150 := ge hg HB; have NB148_150 := nl hg BK148; have NB150_148 := ng hg BK148; have NB149_150 := nl hg BK149; have NB150_149 := ng hg BK149; replace BK148 := bb BK148 hb; replace BK149 := bb BK149 hb; replace HB := bh HB hb; clear hb hbox hg)))
 (try simp only [Act.put, List.setIfInBounds_toArray, List.set_cons_zero, List.set_cons_succ])
 go_cut [10] (fun v10 wc => ∃ (kq : Nat) (x10_3 : Bool), v10 = .bool x10_3 ∧ Aside0 (tower_Mul.j0 kq a0 x10_3 a1_0 a1_1 a2_0 a2_1 = some (r1, r2)) ∧ Aside0 (kq ≤ k) ∧ Aside0 (wc.heap[gb148]? = some (.cells #[.int .u64 a1_0, .int .u64 a1_1] 28 (0, 0))) ∧ Aside0 (wc.heap[gb149]? = some (.cells #[.int .u64 a2_0, .int .u64 a2_1] 28 (0, 0))) ∧ Aside0 (wc.heap[gb150]? = some (.cells #[.int .u64 0, .int .u64 0] 28 (0, 0))) ∧ Aside0 (Below w.heap.size w wc))
 case first =>
  have H := HC4.out
  clear HC4
  replace H := Option.bind_eq_some_iff.mp H
  obtain ⟨t151, A80, H⟩ := H
  replace H : (if t151 = true then ((octet_Of.f k a0 a2_0 a2_1).bind fun t152 => (tower_Mul.j0 k a0 (!t152) a1_0 a1_1 a2_0 a2_1)) else (tower_Mul.j0 k a0 true a1_0 a1_1 a2_0 a2_1)) = some (r1, r2) := H
  have A8 := Aside0.mk A80
  clear A80
  by_cases c9 : t151 = true
  ·subst c9
   have H1 : ((octet_Of.f k a0 a2_0 a2_1).bind fun t152 => (tower_Mul.j0 k a0 (!t152) a1_0 a1_1 a2_0 a2_1)) = some (r1, r2) := by rw [if_pos rfl] at H; exact H
   clear H
   have H := H1
   clear H1
   replace H := Option.bind_eq_some_iff.mp H
   obtain ⟨t152, A100, H⟩ := H
   replace H : (tower_Mul.j0 k a0 (!t152) a1_0 a1_1 a2_0 a2_1) = some (r1, r2) := H
   have A10 := Aside0.mk A100
   clear A100
   have H' := Aside0.mk H
   clear H
   have hnb11 := NB148_149.out
   have hnc11 := NB149_148.out
   have hnb12 := NB148_150.out
   have hnc12 := NB150_148.out
   obtain ⟨hcz13_0, hcz13_1⟩ := zc2 BK148
   obtain ⟨hfz13_0, hfz13_1⟩ := zf2 BK148
   go_wp2_with (first | (go_at_call 26; (with_reducible refine (octet_Of.calls k a0 a1_0 a1_1 true _ A8.out).mono ?_); rintro e w14 ⟨rfl, hb⟩; replace BK148 := bb BK148 hb; replace BK149 := bb BK149 hb; replace BK150 := bb BK150 hb; replace HB := bh HB hb; (try clear hb); (try clear hb2); (try clear hk); (try clear hi); have hnb15 := NB149_150.out; have hnc15 := NB150_149.out; obtain ⟨hcz16_0, hcz16_1⟩ := zc2 BK149; obtain ⟨hfz16_0, hfz16_1⟩ := zf2 BK149) | (go_at_call 26; (with_reducible refine (octet_Of.calls k a0 a2_0 a2_1 t152 _ A10.out).mono ?_); rintro e w17 ⟨rfl, hb⟩; replace BK148 := bb BK148 hb; replace BK149 := bb BK149 hb; replace BK150 := bb BK150 hb; replace HB := bh HB hb; (try clear hb); (try clear hb2); (try clear hk); (try clear hi)))
   repeat (go_quiet (first | (go_at_call 26; (with_reducible refine (octet_Of.calls k a0 a1_0 a1_1 true _ A8.out).mono ?_); rintro e w14 ⟨rfl, hb⟩; replace BK148 := bb BK148 hb; replace BK149 := bb BK149 hb; replace BK150 := bb BK150 hb; replace HB := bh HB hb; (try clear hb); (try clear hb2); (try clear hk); (try clear hi); have hnb15 := NB149_150.out; have hnc15 := NB150_149.out; obtain ⟨hcz16_0, hcz16_1⟩ := zc2 BK149; obtain ⟨hfz16_0, hfz16_1⟩ := zf2 BK149) | (go_at_call 26; (with_reducible refine (octet_Of.calls k a0 a2_0 a2_1 t152 _ A10.out).mono ?_); rintro e w17 ⟨rfl, hb⟩; replace BK148 := bb BK148 hb; replace BK149 := bb BK149 hb; replace BK150 := bb BK150 hb; replace HB := bh HB hb; (try clear hb); (try clear hb2); (try clear hk); (try clear hi))); try go_wp2_with (first | (go_at_call 26; (with_reducible refine (octet_Of.calls k a0 a1_0 a1_1 true _ A8.out).mono ?_); rintro e w14 ⟨rfl, hb⟩; replace BK148 := bb BK148 hb; replace BK149 := bb BK149 hb; replace BK150 := bb BK150 hb; replace HB := bh HB hb; (try clear hb); (try clear hb2); (try clear hk); (try clear hi); have hnb15 := NB149_150.out; have hnc15 := NB150_149.out; obtain ⟨hcz16_0, hcz16_1⟩ := zc2 BK149; obtain ⟨hfz16_0, hfz16_1⟩ := zf2 BK149) | (go_at_call 26; (with_reducible refine (octet_Of.calls k a0 a2_0 a2_1 t152 _ A10.out).mono ?_); rintro e w17 ⟨rfl, hb⟩; replace BK148 := bb BK148 hb; replace BK149 := bb BK149 hb; replace BK150 := bb BK150 hb; replace HB := bh HB hb; (try clear hb); (try clear hb2); (try clear hk); (try clear hi))))
   go_meet
   case rel => exact ⟨_, (!t152), (by first | rfl | (simp; done) | (simp [*]; done)), H', ⟨by first | omega | exact Nat.le_refl _⟩, ⟨bk BK148.out⟩, ⟨bk BK149.out⟩, ⟨bk BK150.out⟩, ⟨bq HB.out⟩⟩
  ·replace c9 := Bool.eq_false_iff.mpr c9
   subst c9
   have H1 : (tower_Mul.j0 k a0 true a1_0 a1_1 a2_0 a2_1) = some (r1, r2) := by rw [if_neg (show ¬ (false = true) by decide)] at H; exact H
   clear H
   have H := H1
   clear H1
   have H' := Aside0.mk H
   clear H
   have hnb18 := NB148_149.out
   have hnc18 := NB149_148.out
   have hnb19 := NB148_150.out
   have hnc19 := NB150_148.out
   obtain ⟨hcz20_0, hcz20_1⟩ := zc2 BK148
   obtain ⟨hfz20_0, hfz20_1⟩ := zf2 BK148
   go_wp2_with (first | (go_at_call 26; (with_reducible refine (octet_Of.calls k a0 a1_0 a1_1 false _ A8.out).mono ?_); rintro e w21 ⟨rfl, hb⟩; replace BK148 := bb BK148 hb; replace BK149 := bb BK149 hb; replace BK150 := bb BK150 hb; replace HB := bh HB hb; (try clear hb); (try clear hb2); (try clear hk); (try clear hi)))
   repeat (go_quiet (first | (go_at_call 26; (with_reducible refine (octet_Of.calls k a0 a1_0 a1_1 false _ A8.out).mono ?_); rintro e w21 ⟨rfl, hb⟩; replace BK148 := bb BK148 hb; replace BK149 := bb BK149 hb; replace BK150 := bb BK150 hb; replace HB := bh HB hb; (try clear hb); (try clear hb2); (try clear hk); (try clear hi))); try go_wp2_with (first | (go_at_call 26; (with_reducible refine (octet_Of.calls k a0 a1_0 a1_1 false _ A8.out).mono ?_); rintro e w21 ⟨rfl, hb⟩; replace BK148 := bb BK148 hb; replace BK149 := bb BK149 hb; replace BK150 := bb BK150 hb; replace HB := bh HB hb; (try clear hb); (try clear hb2); (try clear hk); (try clear hi))))
   go_meet
   case rel => exact ⟨_, (true), (by first | rfl | (simp; done) | (simp [*]; done)), H', ⟨by first | omega | exact Nat.le_refl _⟩, ⟨bk BK148.out⟩, ⟨bk BK149.out⟩, ⟨bk BK150.out⟩, ⟨bq HB.out⟩⟩
 case rest =>
  clear HC4
  try clear c1
  try clear p2
  try clear c9
  try clear c11
  try clear c12
  try clear c13
  try clear c15
  try clear c18
  try clear c19
  try clear hcz13_0
  try clear hcz13_1
  try clear hcz16_0
  try clear hcz16_1
  try clear hcz20_0
  try clear hcz20_1
  try clear hfz13_0
  try clear hfz13_1
  try clear hfz16_0
  try clear hfz16_1
  try clear hfz20_0
  try clear hfz20_1
  obtain ⟨kq, x10_3, rfl, HA, HJ3, BK148, BK149, BK150, HB⟩ := hcut
  cases kq with
  | zero => exact absurd HA.out (by simp [tower_Mul.j0])
  | succ kj3 =>
   have H := HA.out
   clear HA
   simp only [tower_Mul.j0] at H
   by_cases c22 : x10_3 = true
   ·subst c22
    have H1 : (some (0, 0)) = some (r1, r2) := by rw [if_pos rfl] at H; exact H
    clear H
    have H := H1
    clear H1
    simp only [Option.some.injEq, Prod.mk.injEq] at H
    obtain ⟨rfl, rfl⟩ := H
    have hnb23 := NB150_148.out
    have hnc23 := NB148_150.out
    have hnb24 := NB150_149.out
    have hnc24 := NB149_150.out
    obtain ⟨hcz25_0, hcz25_1⟩ := zc2 BK150
    obtain ⟨hfz25_0, hfz25_1⟩ := zf2 BK150
    go_wp2
    repeat (go_quiet (fail); try go_wp2)
    refine bodyPost_ret (results_cell_row rfl _ _ gb150 28 #[.int .u64 0, .int .u64 0] (0, 0) _ rfl (by (with_reducible repeat refine bl ?_); refine blk_put (cs := #[.int .u64 0, .int .u64 0]) ?_ 1 _ rfl; (with_reducible repeat refine bl ?_); refine blk_put (cs := #[.int .u64 0, .int .u64 0]) ?_ 0 _ rfl; (with_reducible repeat refine bl ?_); exact BK150.out) Try.underlying28 rfl (by kernel_rfl)) rfl ?_
    exact ⟨by first | rfl | (simp [errW_none, errW_some] <;> rfl) | (simp [*, errW_none, errW_some] <;> rfl), bq HB.out⟩
   ·replace c22 := Bool.eq_false_iff.mpr c22
    subst c22
    have H1 : (if a0 ≤ 6 then ((tower_mul.f kj3 a0 a1_1 a2_1).bind fun t153 => (some (0, t153))) else ((tower_mul.f kj3 6 a1_0 a2_0).bind fun t154 => ((tower_mul.f kj3 6 a1_1 a2_1).bind fun t155 => ((tower_mul.f kj3 6 (Go.bits .xor .u64 a1_0 a1_1) (Go.bits .xor .u64 a2_0 a2_1)).bind fun t156 => ((tower_mulX.f kj3 6 t154).bind fun t157 => (some (Go.bits .xor .u64 (Go.bits .xor .u64 (Go.bits .xor .u64 t156 t154) t155) t157, Go.bits .xor .u64 t155 t154))))))) = some (r1, r2) := by rw [if_neg (show ¬ (false = true) by decide)] at H; exact H
    clear H
    have H := H1
    clear H1
    by_cases c26 : a0 ≤ 6
    ·rw [if_pos c26] at H
     have c26b0 : decide (a0 ≤ 6) = true := decide_eq_true c26
     clear c26
     replace H := Option.bind_eq_some_iff.mp H
     obtain ⟨t153, A270, H⟩ := H
     replace H : (some (0, t153)) = some (r1, r2) := H
     have A27 := Aside0.mk A270
     clear A270
     simp only [Option.some.injEq, Prod.mk.injEq] at H
     obtain ⟨rfl, rfl⟩ := H
     have hnb28 := NB148_149.out
     have hnc28 := NB149_148.out
     have hnb29 := NB148_150.out
     have hnc29 := NB150_148.out
     obtain ⟨hcz30_0, hcz30_1⟩ := zc2 BK148
     obtain ⟨hfz30_0, hfz30_1⟩ := zf2 BK148
     have hnb31 := NB149_150.out
     have hnc31 := NB150_149.out
     obtain ⟨hcz32_0, hcz32_1⟩ := zc2 BK149
     obtain ⟨hfz32_0, hfz32_1⟩ := zf2 BK149
     go_wp2_with (first | (go_at_call 30; (with_reducible refine (tower_mul.calls kj3 a0 a1_1 a2_1 t153 _ A27.out).mono ?_); rintro e w' ⟨rfl, ⟨nd, rfl⟩⟩; (try first | exact ⟨rfl, _, World.drewN_drewN _ _ _⟩ | exact ⟨rfl, _, Eq.trans (World.drewN_drewN _ _ _) (congrArg (World.drewN _) (Nat.add_assoc _ _ _))⟩); obtain ⟨hcz33_0, hcz33_1⟩ := zc2 BK150; obtain ⟨hfz33_0, hfz33_1⟩ := zf2 BK150))
     repeat (go_quiet (first | (go_at_call 30; (with_reducible refine (tower_mul.calls kj3 a0 a1_1 a2_1 t153 _ A27.out).mono ?_); rintro e w' ⟨rfl, ⟨nd, rfl⟩⟩; (try first | exact ⟨rfl, _, World.drewN_drewN _ _ _⟩ | exact ⟨rfl, _, Eq.trans (World.drewN_drewN _ _ _) (congrArg (World.drewN _) (Nat.add_assoc _ _ _))⟩); obtain ⟨hcz33_0, hcz33_1⟩ := zc2 BK150; obtain ⟨hfz33_0, hfz33_1⟩ := zf2 BK150)); try go_wp2_with (first | (go_at_call 30; (with_reducible refine (tower_mul.calls kj3 a0 a1_1 a2_1 t153 _ A27.out).mono ?_); rintro e w' ⟨rfl, ⟨nd, rfl⟩⟩; (try first | exact ⟨rfl, _, World.drewN_drewN _ _ _⟩ | exact ⟨rfl, _, Eq.trans (World.drewN_drewN _ _ _) (congrArg (World.drewN _) (Nat.add_assoc _ _ _))⟩); obtain ⟨hcz33_0, hcz33_1⟩ := zc2 BK150; obtain ⟨hfz33_0, hfz33_1⟩ := zf2 BK150)))
     refine bodyPost_ret (results_cell_row rfl _ _ gb150 28 #[.int .u64 0, .int .u64 t153] (0, 0) _ rfl (by (with_reducible repeat refine bl ?_); refine blk_put (cs := #[.int .u64 0, .int .u64 0]) ?_ 1 _ rfl; (with_reducible repeat refine bl ?_); refine blk_put (cs := #[.int .u64 0, .int .u64 0]) ?_ 0 _ rfl; (with_reducible repeat refine bl ?_); exact BK150.out) Try.underlying28 rfl (by kernel_rfl)) rfl ?_
     exact ⟨by first | rfl | (simp [errW_none, errW_some] <;> rfl) | (simp [*, errW_none, errW_some] <;> rfl), bq HB.out⟩
    ·rw [if_neg c26] at H
     have c26b0 : decide (a0 ≤ 6) = false := decide_eq_false c26
     clear c26
     replace H := Option.bind_eq_some_iff.mp H
     obtain ⟨t154, A340, H⟩ := H
     replace H : ((tower_mul.f kj3 6 a1_1 a2_1).bind fun t155 => ((tower_mul.f kj3 6 (Go.bits .xor .u64 a1_0 a1_1) (Go.bits .xor .u64 a2_0 a2_1)).bind fun t156 => ((tower_mulX.f kj3 6 t154).bind fun t157 => (some (Go.bits .xor .u64 (Go.bits .xor .u64 (Go.bits .xor .u64 t156 t154) t155) t157, Go.bits .xor .u64 t155 t154))))) = some (r1, r2) := H
     have A34 := Aside0.mk A340
     clear A340
     replace H := Option.bind_eq_some_iff.mp H
     obtain ⟨t155, A350, H⟩ := H
     replace H : ((tower_mul.f kj3 6 (Go.bits .xor .u64 a1_0 a1_1) (Go.bits .xor .u64 a2_0 a2_1)).bind fun t156 => ((tower_mulX.f kj3 6 t154).bind fun t157 => (some (Go.bits .xor .u64 (Go.bits .xor .u64 (Go.bits .xor .u64 t156 t154) t155) t157, Go.bits .xor .u64 t155 t154)))) = some (r1, r2) := H
     have A35 := Aside0.mk A350
     clear A350
     replace H := Option.bind_eq_some_iff.mp H
     obtain ⟨t156, A360, H⟩ := H
     replace H : ((tower_mulX.f kj3 6 t154).bind fun t157 => (some (Go.bits .xor .u64 (Go.bits .xor .u64 (Go.bits .xor .u64 t156 t154) t155) t157, Go.bits .xor .u64 t155 t154))) = some (r1, r2) := H
     have A36 := Aside0.mk A360
     clear A360
     replace H := Option.bind_eq_some_iff.mp H
     obtain ⟨t157, A370, H⟩ := H
     replace H : (some (Go.bits .xor .u64 (Go.bits .xor .u64 (Go.bits .xor .u64 t156 t154) t155) t157, Go.bits .xor .u64 t155 t154)) = some (r1, r2) := H
     have A37 := Aside0.mk A370
     clear A370
     simp only [Option.some.injEq, Prod.mk.injEq] at H
     obtain ⟨rfl, rfl⟩ := H
     have hnb38 := NB148_149.out
     have hnc38 := NB149_148.out
     have hnb39 := NB148_150.out
     have hnc39 := NB150_148.out
     obtain ⟨hcz40_0, hcz40_1⟩ := zc2 BK148
     obtain ⟨hfz40_0, hfz40_1⟩ := zf2 BK148
     have hnb41 := NB149_150.out
     have hnc41 := NB150_149.out
     obtain ⟨hcz42_0, hcz42_1⟩ := zc2 BK149
     obtain ⟨hfz42_0, hfz42_1⟩ := zf2 BK149
     go_wp2_with (first | (go_at_call 30; (with_reducible refine (tower_mul.calls kj3 6 a1_0 a2_0 t154 _ A34.out).mono ?_); rintro e w' ⟨rfl, ⟨nd, rfl⟩⟩; (try first | exact ⟨rfl, _, World.drewN_drewN _ _ _⟩ | exact ⟨rfl, _, Eq.trans (World.drewN_drewN _ _ _) (congrArg (World.drewN _) (Nat.add_assoc _ _ _))⟩)) | (go_at_call 30; (with_reducible refine (tower_mul.calls kj3 6 a1_1 a2_1 t155 _ A35.out).mono ?_); rintro e w' ⟨rfl, ⟨nd, rfl⟩⟩; (try first | exact ⟨rfl, _, World.drewN_drewN _ _ _⟩ | exact ⟨rfl, _, Eq.trans (World.drewN_drewN _ _ _) (congrArg (World.drewN _) (Nat.add_assoc _ _ _))⟩)) | (go_at_call 30; (with_reducible refine (tower_mul.calls kj3 6 (Go.bits .xor .u64 a1_0 a1_1) (Go.bits .xor .u64 a2_0 a2_1) t156 _ A36.out).mono ?_); rintro e w' ⟨rfl, ⟨nd, rfl⟩⟩; (try first | exact ⟨rfl, _, World.drewN_drewN _ _ _⟩ | exact ⟨rfl, _, Eq.trans (World.drewN_drewN _ _ _) (congrArg (World.drewN _) (Nat.add_assoc _ _ _))⟩)) | (go_at_call 31; (with_reducible refine (tower_mulX.calls kj3 6 t154 t157 _ A37.out).mono ?_); rintro e w' ⟨rfl, ⟨nd, rfl⟩⟩; (try first | exact ⟨rfl, _, World.drewN_drewN _ _ _⟩ | exact ⟨rfl, _, Eq.trans (World.drewN_drewN _ _ _) (congrArg (World.drewN _) (Nat.add_assoc _ _ _))⟩); obtain ⟨hcz43_0, hcz43_1⟩ := zc2 BK150; obtain ⟨hfz43_0, hfz43_1⟩ := zf2 BK150))
     repeat (go_quiet (first | (go_at_call 30; (with_reducible refine (tower_mul.calls kj3 6 a1_0 a2_0 t154 _ A34.out).mono ?_); rintro e w' ⟨rfl, ⟨nd, rfl⟩⟩; (try first | exact ⟨rfl, _, World.drewN_drewN _ _ _⟩ | exact ⟨rfl, _, Eq.trans (World.drewN_drewN _ _ _) (congrArg (World.drewN _) (Nat.add_assoc _ _ _))⟩)) | (go_at_call 30; (with_reducible refine (tower_mul.calls kj3 6 a1_1 a2_1 t155 _ A35.out).mono ?_); rintro e w' ⟨rfl, ⟨nd, rfl⟩⟩; (try first | exact ⟨rfl, _, World.drewN_drewN _ _ _⟩ | exact ⟨rfl, _, Eq.trans (World.drewN_drewN _ _ _) (congrArg (World.drewN _) (Nat.add_assoc _ _ _))⟩)) | (go_at_call 30; (with_reducible refine (tower_mul.calls kj3 6 (Go.bits .xor .u64 a1_0 a1_1) (Go.bits .xor .u64 a2_0 a2_1) t156 _ A36.out).mono ?_); rintro e w' ⟨rfl, ⟨nd, rfl⟩⟩; (try first | exact ⟨rfl, _, World.drewN_drewN _ _ _⟩ | exact ⟨rfl, _, Eq.trans (World.drewN_drewN _ _ _) (congrArg (World.drewN _) (Nat.add_assoc _ _ _))⟩)) | (go_at_call 31; (with_reducible refine (tower_mulX.calls kj3 6 t154 t157 _ A37.out).mono ?_); rintro e w' ⟨rfl, ⟨nd, rfl⟩⟩; (try first | exact ⟨rfl, _, World.drewN_drewN _ _ _⟩ | exact ⟨rfl, _, Eq.trans (World.drewN_drewN _ _ _) (congrArg (World.drewN _) (Nat.add_assoc _ _ _))⟩); obtain ⟨hcz43_0, hcz43_1⟩ := zc2 BK150; obtain ⟨hfz43_0, hfz43_1⟩ := zf2 BK150)); try go_wp2_with (first | (go_at_call 30; (with_reducible refine (tower_mul.calls kj3 6 a1_0 a2_0 t154 _ A34.out).mono ?_); rintro e w' ⟨rfl, ⟨nd, rfl⟩⟩; (try first | exact ⟨rfl, _, World.drewN_drewN _ _ _⟩ | exact ⟨rfl, _, Eq.trans (World.drewN_drewN _ _ _) (congrArg (World.drewN _) (Nat.add_assoc _ _ _))⟩)) | (go_at_call 30; (with_reducible refine (tower_mul.calls kj3 6 a1_1 a2_1 t155 _ A35.out).mono ?_); rintro e w' ⟨rfl, ⟨nd, rfl⟩⟩; (try first | exact ⟨rfl, _, World.drewN_drewN _ _ _⟩ | exact ⟨rfl, _, Eq.trans (World.drewN_drewN _ _ _) (congrArg (World.drewN _) (Nat.add_assoc _ _ _))⟩)) | (go_at_call 30; (with_reducible refine (tower_mul.calls kj3 6 (Go.bits .xor .u64 a1_0 a1_1) (Go.bits .xor .u64 a2_0 a2_1) t156 _ A36.out).mono ?_); rintro e w' ⟨rfl, ⟨nd, rfl⟩⟩; (try first | exact ⟨rfl, _, World.drewN_drewN _ _ _⟩ | exact ⟨rfl, _, Eq.trans (World.drewN_drewN _ _ _) (congrArg (World.drewN _) (Nat.add_assoc _ _ _))⟩)) | (go_at_call 31; (with_reducible refine (tower_mulX.calls kj3 6 t154 t157 _ A37.out).mono ?_); rintro e w' ⟨rfl, ⟨nd, rfl⟩⟩; (try first | exact ⟨rfl, _, World.drewN_drewN _ _ _⟩ | exact ⟨rfl, _, Eq.trans (World.drewN_drewN _ _ _) (congrArg (World.drewN _) (Nat.add_assoc _ _ _))⟩); obtain ⟨hcz43_0, hcz43_1⟩ := zc2 BK150; obtain ⟨hfz43_0, hfz43_1⟩ := zf2 BK150)))
     refine bodyPost_ret (results_cell_row rfl _ _ gb150 28 #[.int .u64 (Go.bits .xor .u64 (Go.bits .xor .u64 (Go.bits .xor .u64 t156 t154) t155) t157), .int .u64 (Go.bits .xor .u64 t155 t154)] (0, 0) _ rfl (by (with_reducible repeat refine bl ?_); refine blk_put (cs := #[.int .u64 (Go.bits .xor .u64 (Go.bits .xor .u64 (Go.bits .xor .u64 t156 t154) t155) t157), .int .u64 0]) ?_ 1 _ rfl; (with_reducible repeat refine bl ?_); refine blk_put (cs := #[.int .u64 0, .int .u64 0]) ?_ 0 _ rfl; (with_reducible repeat refine bl ?_); exact BK150.out) Try.underlying28 rfl (by kernel_rfl)) rfl ?_
     exact ⟨by first | rfl | (simp [errW_none, errW_some] <;> rfl) | (simp [*, errW_none, errW_some] <;> rfl), bq HB.out⟩

/-! ### tower_One: function 37 -/
def tower_One.f  : Option (Int × Int) := some (0, 1)
set_option maxHeartbeats 8000000 in
set_option maxRecDepth 100000 in
theorem tower_One.calls  (r1 : Int) (r2 : Int) (w : World) (h : tower_One.f  = some (r1, r2)) :
  Calls Try.prog 37 #[] w fun e w' => e = .returned (.agg #[.int .u64 r1, .int .u64 r2]) ∧ Below w.heap.size w w' := by
 have hu28 := Try.underlying28
 have HB := Aside0.mk (Below.refl w.heap.size w)
 have H : (some (0, 1)) = some (r1, r2) := h
 clear h
 simp only [Option.some.injEq, Prod.mk.injEq] at H
 obtain ⟨rfl, rfl⟩ := H
 go_enter Try.func37, Try.ntmps37
 go_wp2_with (first | ((with_reducible refine gate_dst (N := 0) rfl ?_); refine box_event ?hg (N := 0) ?hd (cs := #[.int .u64 0, .int .u64 0]) (t := 28) ?hr ?_; (case hd => rfl); (case hg => rfl); (case hr => first | (go_simp; done) | (go_simp; rfl)); intro gb158 hg w1 hbox hb; have BK158 := Aside0.mk hbox; have GW158 := ge hg HB; have GE158 := ge hg HB; replace HB := bh HB hb; clear hb hbox hg; obtain ⟨hcz2_0, hcz2_1⟩ := zc2 BK158; obtain ⟨hfz2_0, hfz2_1⟩ := zf2 BK158))
 refine bodyPost_ret (results_cell_row rfl _ _ gb158 28 #[.int .u64 0, .int .u64 1] (0, 0) _ rfl (by (with_reducible repeat refine bl ?_); refine blk_put (cs := #[.int .u64 0, .int .u64 0]) ?_ 1 _ rfl; (with_reducible repeat refine bl ?_); refine blk_put (cs := #[.int .u64 0, .int .u64 0]) ?_ 0 _ rfl; (with_reducible repeat refine bl ?_); exact BK158.out) Try.underlying28 rfl (by kernel_rfl)) rfl ?_
 exact ⟨by first | rfl | (simp [errW_none, errW_some] <;> rfl) | (simp [*, errW_none, errW_some] <;> rfl), bq HB.out⟩

/-! ### tower_square: function 51 -/
def tower_square.f : Nat → Int → Int → Option (Int)
 | 0, _, _ => none
 | k + 1, a0, a1 => if a0 = 0 then (some a1) else ((tower_halves.f a0 a1).bind fun bt159 => ((tower_square.f k (wrap64 (a0 - 1)) bt159.1).bind fun t161 => ((tower_mulX.f k (wrap64 (a0 - 1)) t161).bind fun t162 => ((tower_square.f k (wrap64 (a0 - 1)) bt159.2).bind fun t163 => ((tower_join.f a0 t162 (Go.bits .xor .u64 t163 t161)).bind fun t164 => (some t164))))))
theorem tower_square.mono_l : ∀ k, (∀ y0 y1, LeO (tower_square.f k y0 y1) (tower_square.f (k + 1) y0 y1))
 | 0 => fun _ _ r h => by simp [tower_square.f] at h
 | k + 1 => by
  have ih0 := tower_square.mono_l k
  ·intro y0 y1
   unfold tower_square.f
   repeat' first
   | (with_reducible exact ih0 _ _)
   | (with_reducible exact tower_mulX.mono _ _ _)
   | (with_reducible exact LeO.refl _)
   | (with_reducible exact LeO.none _)
   | (with_reducible refine LeO.ite ?_ ?_)
   | (with_reducible refine LeO.bind ?_ (fun _ => ?_))
   | exact ih0 _ _
   | exact tower_mulX.mono _ _ _
   | exact LeO.none _
   | refine LeO.ite ?_ ?_
   | refine LeO.bind ?_ (fun _ => ?_)
theorem tower_square.mono : ∀ a0 a1 k, LeO (tower_square.f k a0 a1) (tower_square.f (k + 1) a0 a1) := by
 intro a0 a1 k
 have ih0 := tower_square.mono_l k
 exact ih0 a0 a1
set_option maxHeartbeats 8000000 in
set_option maxRecDepth 100000 in
theorem tower_square.calls (k : Nat) : ∀ (a0 : Int) (a1 : Int) (r : Int) (w : World) (h : tower_square.f k a0 a1 = some r),
  Calls Try.prog 51 #[.int .i64 a0, .int .u64 a1] w fun e w' => e = .returned (.int .u64 r) ∧ Drawn0 w w' := by
 induction k using Nat.strongRecOn with
 | _ k ih =>
 intro a0 a1 r w h
 cases k with
 | zero => exact absurd h (by simp [tower_square.f])
 | succ k =>
 simp only [tower_square.f] at h
 have H : (if a0 = 0 then (some a1) else ((tower_halves.f a0 a1).bind fun bt159 => ((tower_square.f k (wrap64 (a0 - 1)) bt159.1).bind fun t161 => ((tower_mulX.f k (wrap64 (a0 - 1)) t161).bind fun t162 => ((tower_square.f k (wrap64 (a0 - 1)) bt159.2).bind fun t163 => ((tower_join.f a0 t162 (Go.bits .xor .u64 t163 t161)).bind fun t164 => (some t164))))))) = some r := h
 clear h
 by_cases c3 : a0 = 0
 ·rw [if_pos c3] at H
  have c3b0 : (a0 == 0) = true := beq_iff_eq.mpr c3
  have c3b1 : (a0 != 0) = false := bne_eq_false_iff_eq.mpr c3
  clear c3
  obtain rfl := Option.some.inj H
  go_enter Try.func51, Try.ntmps51
  go_wp2
  go_ret
  exact ⟨by first | rfl | (simp; done) | (simp [*]; done), by repeat (first | exact Drawn0.refl _ | apply Drawn0.step)⟩
 ·rw [if_neg c3] at H
  have c3b0 : (a0 == 0) = false := beq_eq_false_iff_ne.mpr c3
  have c3b1 : (a0 != 0) = true := bne_iff_ne.mpr c3
  replace H := Option.bind_eq_some_iff.mp H
  obtain ⟨⟨t159, t160⟩, A40, H⟩ := H
  replace H : ((tower_square.f k (wrap64 (a0 - 1)) t159).bind fun t161 => ((tower_mulX.f k (wrap64 (a0 - 1)) t161).bind fun t162 => ((tower_square.f k (wrap64 (a0 - 1)) t160).bind fun t163 => ((tower_join.f a0 t162 (Go.bits .xor .u64 t163 t161)).bind fun t164 => (some t164))))) = some r := H
  have A4 := Aside0.mk A40
  clear A40
  replace H := Option.bind_eq_some_iff.mp H
  obtain ⟨t161, A50, H⟩ := H
  replace H : ((tower_mulX.f k (wrap64 (a0 - 1)) t161).bind fun t162 => ((tower_square.f k (wrap64 (a0 - 1)) t160).bind fun t163 => ((tower_join.f a0 t162 (Go.bits .xor .u64 t163 t161)).bind fun t164 => (some t164)))) = some r := H
  have A5 := Aside0.mk A50
  clear A50
  replace H := Option.bind_eq_some_iff.mp H
  obtain ⟨t162, A60, H⟩ := H
  replace H : ((tower_square.f k (wrap64 (a0 - 1)) t160).bind fun t163 => ((tower_join.f a0 t162 (Go.bits .xor .u64 t163 t161)).bind fun t164 => (some t164))) = some r := H
  have A6 := Aside0.mk A60
  clear A60
  replace H := Option.bind_eq_some_iff.mp H
  obtain ⟨t163, A70, H⟩ := H
  replace H : ((tower_join.f a0 t162 (Go.bits .xor .u64 t163 t161)).bind fun t164 => (some t164)) = some r := H
  have A7 := Aside0.mk A70
  clear A70
  replace H := Option.bind_eq_some_iff.mp H
  obtain ⟨t164, A80, H⟩ := H
  replace H : (some t164) = some r := H
  have A8 := Aside0.mk A80
  clear A80
  obtain rfl := Option.some.inj H
  go_enter Try.func51, Try.ntmps51
  go_wp2_with (first | ((with_reducible refine gate_callee (f := 41) rfl ?_); refine goesL_ (some 14) rfl rfl Try.func41 (by kernel_rfl) rfl #[.int .i64 a0, .int .u64 a1] rfl (by (try simp only [List.map_toArray, List.map_cons, List.map_nil]); first | done | rfl | (simp only [List.length_drop, List.length_take]; rfl)) ?_; (with_reducible refine (tower_halves.calls a0 a1 t159 t160 _ A4.out).mono ?_); rintro e w' ⟨rfl, ⟨nd, rfl⟩⟩; refine ⟨_, rfl, ?_⟩) | ((with_reducible refine gate_callee (f := 51) rfl ?_); refine goesL_ (some 20) rfl rfl Try.func51 (by kernel_rfl) rfl #[.int .i64 (wrap64 (a0 - 1)), .int .u64 t159] rfl (by (try simp only [List.map_toArray, List.map_cons, List.map_nil]); first | done | rfl | (simp only [List.length_drop, List.length_take]; rfl)) ?_; (with_reducible refine (ih k (by omega) (wrap64 (a0 - 1)) t159 t161 _ A5.out).mono ?_); rintro e w' ⟨rfl, ⟨nd, rfl⟩⟩; refine ⟨_, rfl, ?_⟩) | ((with_reducible refine gate_callee (f := 31) rfl ?_); refine goesL_ (some 25) rfl rfl Try.func31 (by kernel_rfl) rfl #[.int .i64 (wrap64 (a0 - 1)), .int .u64 t161] rfl (by (try simp only [List.map_toArray, List.map_cons, List.map_nil]); first | done | rfl | (simp only [List.length_drop, List.length_take]; rfl)) ?_; (with_reducible refine (tower_mulX.calls k (wrap64 (a0 - 1)) t161 t162 _ A6.out).mono ?_); rintro e w' ⟨rfl, ⟨nd, rfl⟩⟩; refine ⟨_, rfl, ?_⟩) | ((with_reducible refine gate_callee (f := 51) rfl ?_); refine goesL_ (some 29) rfl rfl Try.func51 (by kernel_rfl) rfl #[.int .i64 (wrap64 (a0 - 1)), .int .u64 t160] rfl (by (try simp only [List.map_toArray, List.map_cons, List.map_nil]); first | done | rfl | (simp only [List.length_drop, List.length_take]; rfl)) ?_; (with_reducible refine (ih k (by omega) (wrap64 (a0 - 1)) t160 t163 _ A7.out).mono ?_); rintro e w' ⟨rfl, ⟨nd, rfl⟩⟩; refine ⟨_, rfl, ?_⟩) | ((with_reducible refine gate_callee (f := 42) rfl ?_); refine goesL_ (some 32) rfl rfl Try.func42 (by kernel_rfl) rfl #[.int .i64 a0, .int .u64 t162, .int .u64 (Go.bits .xor .u64 t163 t161)] rfl (by (try simp only [List.map_toArray, List.map_cons, List.map_nil]); first | done | rfl | (simp only [List.length_drop, List.length_take]; rfl)) ?_; (with_reducible refine (tower_join.calls a0 t162 (Go.bits .xor .u64 t163 t161) t164 _ A8.out).mono ?_); rintro e w' ⟨rfl, ⟨nd, rfl⟩⟩; refine ⟨_, rfl, ?_⟩))
  go_ret
  exact ⟨by first | rfl | (simp; done) | (simp [*]; done), by repeat (first | exact Drawn0.refl _ | apply Drawn0.step)⟩

end Go.Proofs.Ythnaalocgoeddaa.P
