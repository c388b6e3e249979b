/- Written by a program of this session: functions that the law reaches, as Lean functions, and that the code comes to their answers. Conditions: those that each theorem names. -/
import Derived.Test.YtlegcabfgkccmaaPx0
import Derived.Test.YtlegcabfgkccmaaPx1
import Derived.Test.YtlegcabfgkccmaaPx2
import Derived.Test.YtlegcabfgkccmaaPx6
import Derived.Test.YtlegcabfgkccmaaPx7
import Derived.Test.YtlegcabfgkccmaaPx8
namespace Go.Proofs.Ytlegcabfgkccmaa.P
open Go.RowKit Go.Proofs.YtlegcabfgkccmaaX Go.Proofs.YtlegcabfgkccmaaW.PrintWords Go.Proofs.YtlegcabfgkccmaaW.PrintLast Go.Proofs.YtlegcabfgkccmaaW.PrintMore
attribute [local go_sem] max2_int min2_int max_two min_two max_three min_three max_four min_four   -- for this text's walks alone
set_option linter.unusedVariables false
set_option linter.unusedSimpArgs false

attribute [local go_sem high] eqA24 eqA37
/-! ### steepleref33_Fits: function 28 -/
def steepleref33_Fits.f (k : Nat) (a0 : Int) (a1 : Int) (a2_0 : Int) (a2_1 : Int) : Option (Bool) := (steepleref01_Of.f k a0 a2_0 a2_1).bind fun t369 => (if t369 = true then (if a1 ≥ 0 then (some (decide (a1 ≤ a0))) else (some false)) else (some false))
theorem steepleref33_Fits.mono : ∀ a0 a1 a2 a3 k, LeO (steepleref33_Fits.f k a0 a1 a2 a3) (steepleref33_Fits.f (k + 1) a0 a1 a2 a3) := by
 intro a0 a1 a2 a3 k
 unfold steepleref33_Fits.f
 repeat' first
   | (with_reducible exact steepleref01_Of.mono _ _ _ _)
   | (with_reducible exact LeO.refl _)
   | (with_reducible exact LeO.none _)
   | (with_reducible refine LeO.ite ?_ ?_)
   | (with_reducible refine LeO.bind ?_ (fun _ => ?_))
   | exact steepleref01_Of.mono _ _ _ _
   | exact LeO.none _
   | refine LeO.ite ?_ ?_
   | refine LeO.bind ?_ (fun _ => ?_)
set_option maxHeartbeats 8000000 in
set_option maxRecDepth 100000 in
theorem steepleref33_Fits.calls (k : Nat) (a0 : Int) (a1 : Int) (a2_0 : Int) (a2_1 : Int) (r : Bool) (w : World) (h : steepleref33_Fits.f k a0 a1 a2_0 a2_1 = some r) :
  Calls Try.prog 28 #[.int .i64 a0, .int .i64 a1, .agg #[.int .u64 a2_0, .int .u64 a2_1]] w fun e w' => e = .returned (.bool r) ∧ Below w.heap.size w w' := by
 have hu37 := Try.underlying37
 have HB := Aside0.mk (Below.refl w.heap.size w)
 have H : ((steepleref01_Of.f k a0 a2_0 a2_1).bind fun t369 => (if t369 = true then (if a1 ≥ 0 then (some (decide (a1 ≤ a0))) else (some false)) else (some false))) = some r := h
 clear h
 replace H := Option.bind_eq_some_iff.mp H
 obtain ⟨t369, A40, H⟩ := H
 replace H : (if t369 = true then (if a1 ≥ 0 then (some (decide (a1 ≤ a0))) else (some false)) else (some false)) = some r := H
 have A4 := Aside0.mk A40
 clear A40
 by_cases c5 : t369 = true
 ·subst c5
  have H1 : (if a1 ≥ 0 then (some (decide (a1 ≤ a0))) else (some false)) = some r := by rw [if_pos rfl] at H; exact H
  clear H
  have H := H1
  clear H1
  by_cases c6 : a1 ≥ 0
  ·rw [if_pos c6] at H
   have c6b0 : decide (0 ≤ a1) = true := decide_eq_true c6
   clear c6
   obtain rfl := Option.some.inj H
   go_enter Try.func28, Try.ntmps28
   go_wp2_with (first | ((with_reducible refine gate_dst (N := 5) rfl ?_); refine box_event ?hg (N := 5) ?hd (cs := #[.int .u64 a2_0, .int .u64 a2_1]) (t := 37) ?hr ?_; (case hd => rfl); (case hg => rfl); (case hr => first | (go_simp; done) | (go_simp; rfl)); intro gb368 hg w7 hbox hb; have BK368 := Aside0.mk hbox; have GW368 := ge hg HB; have GE368 := ge hg HB; replace HB := bh HB hb; clear hb hbox hg; obtain ⟨hcz8_0, hcz8_1⟩ := zc2 BK368; obtain ⟨hfz8_0, hfz8_1⟩ := zf2 BK368) | ((with_reducible refine gate_callee (f := 17) rfl ?_); refine goesL_ (some 9) rfl rfl Try.func17 (by kernel_rfl) rfl #[.int .i64 a0, .agg #[.int .u64 a2_0, .int .u64 a2_1]] rfl (by (try simp only [List.map_toArray, List.map_cons, List.map_nil]); first | done | rfl | (simp only [List.length_drop, List.length_take]; rfl)) ?_; (with_reducible refine (steepleref01_Of.calls k a0 a2_0 a2_1 true _ A4.out).mono ?_); rintro e w9 ⟨rfl, hb⟩; refine ⟨_, rfl, ?_⟩; replace BK368 := bb BK368 hb; replace HB := bh HB hb; (try clear hb); (try clear hb2); (try clear hk); (try clear hi)))
   go_ret
   exact ⟨by first | rfl | (simp [errW_none, errW_some] <;> rfl) | (simp [*, errW_none, errW_some] <;> rfl), bq HB.out⟩
  ·rw [if_neg c6] at H
   have c6b0 : decide (0 ≤ a1) = false := decide_eq_false c6
   clear c6
   obtain rfl := Option.some.inj H
   go_enter Try.func28, Try.ntmps28
   go_wp2_with (first | ((with_reducible refine gate_dst (N := 5) rfl ?_); refine box_event ?hg (N := 5) ?hd (cs := #[.int .u64 a2_0, .int .u64 a2_1]) (t := 37) ?hr ?_; (case hd => rfl); (case hg => rfl); (case hr => first | (go_simp; done) | (go_simp; rfl)); intro gb368 hg w10 hbox hb; have BK368 := Aside0.mk hbox; have GW368 := ge hg HB; have GE368 := ge hg HB; replace HB := bh HB hb; clear hb hbox hg; obtain ⟨hcz11_0, hcz11_1⟩ := zc2 BK368; obtain ⟨hfz11_0, hfz11_1⟩ := zf2 BK368) | ((with_reducible refine gate_callee (f := 17) rfl ?_); refine goesL_ (some 9) rfl rfl Try.func17 (by kernel_rfl) rfl #[.int .i64 a0, .agg #[.int .u64 a2_0, .int .u64 a2_1]] rfl (by (try simp only [List.map_toArray, List.map_cons, List.map_nil]); first | done | rfl | (simp only [List.length_drop, List.length_take]; rfl)) ?_; (with_reducible refine (steepleref01_Of.calls k a0 a2_0 a2_1 true _ A4.out).mono ?_); rintro e w12 ⟨rfl, hb⟩; refine ⟨_, rfl, ?_⟩; replace BK368 := bb BK368 hb; replace HB := bh HB hb; (try clear hb); (try clear hb2); (try clear hk); (try clear hi)))
   go_ret
   exact ⟨by first | rfl | (simp [errW_none, errW_some] <;> rfl) | (simp [*, errW_none, errW_some] <;> rfl), bq HB.out⟩
 ·replace c5 := Bool.eq_false_iff.mpr c5
  subst c5
  have H1 : (some false) = some r := by rw [if_neg (show ¬ (false = true) by decide)] at H; exact H
  clear H
  have H := H1
  clear H1
  obtain rfl := Option.some.inj H
  go_enter Try.func28, Try.ntmps28
  go_wp2_with (first | ((with_reducible refine gate_dst (N := 5) rfl ?_); refine box_event ?hg (N := 5) ?hd (cs := #[.int .u64 a2_0, .int .u64 a2_1]) (t := 37) ?hr ?_; (case hd => rfl); (case hg => rfl); (case hr => first | (go_simp; done) | (go_simp; rfl)); intro gb368 hg w13 hbox hb; have BK368 := Aside0.mk hbox; have GW368 := ge hg HB; have GE368 := ge hg HB; replace HB := bh HB hb; clear hb hbox hg; obtain ⟨hcz14_0, hcz14_1⟩ := zc2 BK368; obtain ⟨hfz14_0, hfz14_1⟩ := zf2 BK368) | ((with_reducible refine gate_callee (f := 17) rfl ?_); refine goesL_ (some 9) rfl rfl Try.func17 (by kernel_rfl) rfl #[.int .i64 a0, .agg #[.int .u64 a2_0, .int .u64 a2_1]] rfl (by (try simp only [List.map_toArray, List.map_cons, List.map_nil]); first | done | rfl | (simp only [List.length_drop, List.length_take]; rfl)) ?_; (with_reducible refine (steepleref01_Of.calls k a0 a2_0 a2_1 false _ A4.out).mono ?_); rintro e w15 ⟨rfl, hb⟩; refine ⟨_, rfl, ?_⟩; replace BK368 := bb BK368 hb; replace HB := bh HB hb; (try clear hb); (try clear hb2); (try clear hk); (try clear hi)))
  go_ret
  exact ⟨by first | rfl | (simp [errW_none, errW_some] <;> rfl) | (simp [*, errW_none, errW_some] <;> rfl), bq HB.out⟩

/-! ### steeplelaw01_Same: function 29 -/
def steeplelaw01_Same.l0 : Nat → List (S24) → List (S37) → Int → Option (Bool)
 | 0, _, _, _ => none
 | k + 1, x0, x1, x5 => if x5 < (x0.length : Int) then (if 0 ≤ x5 then (if x5 < (x1.length : Int) then (if (!(((rd_T24 x0 x5).f0) == ((rd_T37 x1 x5).f0)) || (!(((rd_T24 x0 x5).f1) == ((rd_T37 x1 x5).f1)))) = true then (none) else (steeplelaw01_Same.l0 k x0 x1 (wrap64 (x5 + 1)))) else (none)) else (none)) else (some true)
def steeplelaw01_Same.f (k : Nat) (l0 : List (S24)) (l1 : List (S37)) : Option (Bool) := if (l0.length : Int) = (l1.length : Int) then (steeplelaw01_Same.l0 k l0 l1 0) else (none)
theorem steeplelaw01_Same.mono_l : ∀ k, (∀ y0 y1 y2, LeO (steeplelaw01_Same.l0 k y0 y1 y2) (steeplelaw01_Same.l0 (k + 1) y0 y1 y2))
 | 0 => fun _ _ _ r h => by simp [steeplelaw01_Same.l0] at h
 | k + 1 => by
  have ih0 := steeplelaw01_Same.mono_l k
  ·intro y0 y1 y2
   unfold steeplelaw01_Same.l0
   repeat' first
   | (with_reducible exact ih0 _ _ _)
   | (with_reducible exact LeO.refl _)
   | (with_reducible exact LeO.none _)
   | (with_reducible refine LeO.ite ?_ ?_)
   | (with_reducible refine LeO.bind ?_ (fun _ => ?_))
   | exact ih0 _ _ _
   | exact LeO.none _
   | refine LeO.ite ?_ ?_
   | refine LeO.bind ?_ (fun _ => ?_)
theorem steeplelaw01_Same.mono : ∀ a0 a1 k, LeO (steeplelaw01_Same.f k a0 a1) (steeplelaw01_Same.f (k + 1) a0 a1) := by
 intro a0 a1 k
 have ih0 := steeplelaw01_Same.mono_l k
 unfold steeplelaw01_Same.f
 repeat' first
   | (with_reducible exact ih0 _ _ _)
   | (with_reducible exact LeO.refl _)
   | (with_reducible exact LeO.none _)
   | (with_reducible refine LeO.ite ?_ ?_)
   | (with_reducible refine LeO.bind ?_ (fun _ => ?_))
   | exact ih0 _ _ _
   | exact LeO.none _
   | refine LeO.ite ?_ ?_
   | refine LeO.bind ?_ (fun _ => ?_)
set_option maxHeartbeats 8000000 in
set_option maxRecDepth 100000 in
theorem steeplelaw01_Same.calls (k : Nat) (A0 : Option Addr) (c0 : Nat) (l0 : List (S24)) (A1 : Option Addr) (c1 : Nat) (l1 : List (S37)) (r : Bool) (w : World) (hr0 : Kd.C k24 w A0 l0.length l0) (hc0 : l0.length ≤ c0) (hr1 : Kd.C k37 w A1 l1.length l1) (hc1 : l1.length ≤ c1) (h : steeplelaw01_Same.f k l0 l1 = some r) :
  Calls Try.prog 29 #[.slice A0 l0.length c0, .slice A1 l1.length c1] w fun e w' => e = .returned (.bool r) ∧ Drawn0 w w' := by
 have hu24 := Try.underlying24
 have hu37 := Try.underlying37
 have HR0 := Aside0.mk hr0
 have HC0 := Aside0.mk hc0
 clear hr0 hc0
 have HR1 := Aside0.mk hr1
 have HC1 := Aside0.mk hc1
 clear hr1 hc1
 have H : (if (l0.length : Int) = (l1.length : Int) then (steeplelaw01_Same.l0 k l0 l1 0) else (none)) = some r := h
 clear h
 by_cases c3 : (l0.length : Int) = (l1.length : Int)
 ·rw [if_pos c3] at H
  have c3b0 : ((l0.length : Int) == (l1.length : Int)) = true := beq_iff_eq.mpr c3
  have c3b1 : ((l0.length : Int) != (l1.length : Int)) = false := bne_eq_false_iff_eq.mpr c3
  have c3b2 : (l0.length == l1.length) = true := by first | simpa using c3 | (simp at c3 ⊢; omega)
  clear c3
  have H' := Aside0.mk H
  clear H
  go_enter Try.func29, Try.ntmps29
  go_wp2
  repeat (go_quiet (fail); try go_wp2)
  go_loopg [5] k (fun kq v5 w' => ∃ (x5_1 : Int), v5 = .int .i64 x5_1 ∧ Aside0 (steeplelaw01_Same.l0 kq l0 l1 x5_1 = some r) ∧ Aside0 (kq ≤ k) ∧ Drawn0 w w')
  case atStart => exact ⟨(0), (by first | rfl | (simp; done) | (simp [*]; done)), H', ⟨Nat.le_refl _⟩, by repeat (first | exact Drawn0.refl _ | apply Drawn0.step)⟩
  case round =>
   clear H'
   try clear c1
   try clear c2
   try clear p2
   try clear c3
   try clear c3b0
   try clear c3b1
   try clear c3b2
   obtain ⟨x5_1, rfl, HA, HK1, ⟨m1, rfl⟩⟩ := hrel
   cases gk with
   | zero => exact absurd HA.out (by simp [steeplelaw01_Same.l0])
   | succ k1 =>
    have H := HA.out
    clear HA
    simp only [steeplelaw01_Same.l0] at H
    by_cases c4 : x5_1 < (l0.length : Int)
    ·rw [if_pos c4] at H
     have c4b0 : decide (x5_1 < (l0.length : Int)) = true := decide_eq_true c4
     clear c4
     by_cases c5 : 0 ≤ x5_1
     ·rw [if_pos c5] at H
      have c5b0 : decide (0 ≤ x5_1) = true := decide_eq_true c5
      clear c5
      by_cases c6 : x5_1 < (l1.length : Int)
      ·rw [if_pos c6] at H
       have c6b0 : decide (x5_1 < (l1.length : Int)) = true := decide_eq_true c6
       clear c6
       by_cases c7 : (!(((rd_T24 l0 x5_1).f0) == ((rd_T37 l1 x5_1).f0)) || (!(((rd_T24 l0 x5_1).f1) == ((rd_T37 l1 x5_1).f1)))) = true
       ·rw [if_pos c7] at H
        exact absurd H (by simp)
       ·rw [if_neg c7] at H
        have c7b0 : (!(((rd_T24 l0 x5_1).f0) == ((rd_T37 l1 x5_1).f0)) || (!(((rd_T24 l0 x5_1).f1) == ((rd_T37 l1 x5_1).f1)))) = false := by simpa using c7
        clear c7
        have H' := Aside0.mk H
        clear H
        have p370 : 0 ≤ (x5_1 : Int) := of_decide_eq_true (by first | (with_reducible assumption) | assumption)
        have q370 : x5_1 < (l0.length : Int) := of_decide_eq_true (by first | (with_reducible assumption) | assumption)
        obtain ⟨ad370, e370, hx370_0, hx370_1⟩ := at_T24 HR0.out x5_1 p370 q370
        cases e370
        replace p370 := eq_true p370
        replace q370 := eq_true q370
        have p371 : 0 ≤ (x5_1 : Int) := of_decide_eq_true (by first | (with_reducible assumption) | assumption)
        have q371 : x5_1 < (l1.length : Int) := of_decide_eq_true (by first | (with_reducible assumption) | assumption)
        obtain ⟨ad371, e371, hx371_0, hx371_1⟩ := at_T37 HR1.out x5_1 p371 q371
        cases e371
        replace p371 := eq_true p371
        replace q371 := eq_true q371
        go_wp2
        repeat (go_quiet (fail); try go_wp2)
        go_roundg k1
        case measure => have := HK1.out; omega
        case rel => exact ⟨(wrap64 (x5_1 + 1)), (by first | rfl | (simp; done) | (simp [*]; done)), H', ⟨by have := HK1.out; omega⟩, by repeat (first | exact Drawn0.refl _ | apply Drawn0.step)⟩
      ·rw [if_neg c6] at H
       exact absurd H (by simp)
     ·rw [if_neg c5] at H
      exact absurd H (by simp)
    ·rw [if_neg c4] at H
     have c4b0 : decide (x5_1 < (l0.length : Int)) = false := decide_eq_false c4
     clear c4
     obtain rfl := Option.some.inj H
     go_wp2
     repeat (go_quiet (fail); try go_wp2)
     go_ret
     exact ⟨by first | rfl | (simp; done) | (simp [*]; done), by repeat (first | exact Drawn0.refl _ | apply Drawn0.step)⟩
 ·rw [if_neg c3] at H
  exact absurd H (by simp)

/-! ### steepleref33_Trace: function 31 -/
def steepleref33_Trace.l0 : Nat → List (S37) → Int → Int → Int → Option (Int × Int)
 | 0, _, _, _, _ => none
 | k + 1, x8, x9, x375000, x375001 => if x9 < (x8.length : Int) then (if 0 ≤ x9 then ((steepleref02_Add.f x375000 x375001 ((rd_T37 x8 x9).f0) ((rd_T37 x8 x9).f1)).bind fun bt379 => (steepleref33_Trace.l0 k x8 (wrap64 (x9 + 1)) bt379.1 bt379.2)) else (none)) else (some (x375000, x375001))
def steepleref33_Trace.f (k : Nat) (a0 : Int) (a1 : Int) (a2_0 : Int) (a2_1 : Int) : Option (Int × Int) := (steepleref33_Conjugates.f k a0 a1 a2_0 a2_1).bind fun t375 => (steepleref33_Trace.l0 k t375 0 0 0)
theorem steepleref33_Trace.mono_l : ∀ k, (∀ y0 y1 y2 y3, LeO (steepleref33_Trace.l0 k y0 y1 y2 y3) (steepleref33_Trace.l0 (k + 1) y0 y1 y2 y3))
 | 0 => fun _ _ _ _ r h => by simp [steepleref33_Trace.l0] at h
 | k + 1 => by
  have ih0 := steepleref33_Trace.mono_l k
  ·intro y0 y1 y2 y3
   unfold steepleref33_Trace.l0
   repeat' first
   | (with_reducible exact ih0 _ _ _ _)
   | (with_reducible exact steepleref33_Conjugates.mono _ _ _ _ _)
   | (with_reducible exact LeO.refl _)
   | (with_reducible exact LeO.none _)
   | (with_reducible refine LeO.ite ?_ ?_)
   | (with_reducible refine LeO.bind ?_ (fun _ => ?_))
   | exact ih0 _ _ _ _
   | exact steepleref33_Conjugates.mono _ _ _ _ _
   | exact LeO.none _
   | refine LeO.ite ?_ ?_
   | refine LeO.bind ?_ (fun _ => ?_)
theorem steepleref33_Trace.mono : ∀ a0 a1 a2 a3 k, LeO (steepleref33_Trace.f k a0 a1 a2 a3) (steepleref33_Trace.f (k + 1) a0 a1 a2 a3) := by
 intro a0 a1 a2 a3 k
 have ih0 := steepleref33_Trace.mono_l k
 unfold steepleref33_Trace.f
 repeat' first
   | (with_reducible exact ih0 _ _ _ _)
   | (with_reducible exact steepleref33_Conjugates.mono _ _ _ _ _)
   | (with_reducible exact LeO.refl _)
   | (with_reducible exact LeO.none _)
   | (with_reducible refine LeO.ite ?_ ?_)
   | (with_reducible refine LeO.bind ?_ (fun _ => ?_))
   | exact ih0 _ _ _ _
   | exact steepleref33_Conjugates.mono _ _ _ _ _
   | exact LeO.none _
   | refine LeO.ite ?_ ?_
   | refine LeO.bind ?_ (fun _ => ?_)
set_option maxHeartbeats 8000000 in
set_option maxRecDepth 100000 in
theorem steepleref33_Trace.calls (k : Nat) (a0 : Int) (a1 : Int) (a2_0 : Int) (a2_1 : Int) (r1 : Int) (r2 : Int) (w : World) (h : steepleref33_Trace.f k a0 a1 a2_0 a2_1 = some (r1, r2)) :
  Calls Try.prog 31 #[.int .i64 a0, .int .i64 a1, .agg #[.int .u64 a2_0, .int .u64 a2_1]] w fun e w' => e = .returned (.agg #[.int .u64 r1, .int .u64 r2]) ∧ Below w.heap.size w w' := by
 have hu37 := Try.underlying37
 have HB := Aside0.mk (Below.refl w.heap.size w)
 have H : ((steepleref33_Conjugates.f k a0 a1 a2_0 a2_1).bind fun t375 => (steepleref33_Trace.l0 k t375 0 0 0)) = some (r1, r2) := h
 clear h
 replace H := Option.bind_eq_some_iff.mp H
 obtain ⟨t375, A40, H⟩ := H
 replace H : (steepleref33_Trace.l0 k t375 0 0 0) = some (r1, r2) := H
 have A4 := Aside0.mk A40
 clear A40
 have H' := Aside0.mk H
 clear H
 go_enter Try.func31, Try.ntmps31
 go_wp2_with (first | ((with_reducible refine gate_dst (N := 5) rfl ?_); refine box_event ?hg (N := 5) ?hd (cs := #[.int .u64 a2_0, .int .u64 a2_1]) (t := 37) ?hr ?_; (case hd => rfl); (case hg => rfl); (case hr => first | (go_simp; done) | (go_simp; rfl)); intro gb372 hg w5 hbox hb; have BK372 := Aside0.mk hbox; have GW372 := ge hg HB; have GE372 := ge hg HB; replace HB := bh HB hb; clear hb hbox hg) | ((with_reducible refine gate_dst (N := 6) rfl ?_); refine box_event ?hg (N := 6) ?hd (cs := #[.int .u64 0, .int .u64 0]) (t := 37) ?hr ?_; (case hd => rfl); (case hg => rfl); (case hr => first | (go_simp; done) | (go_simp; rfl)); intro gb373 hg w6 hbox hb; have BK373 := Aside0.mk hbox; have GW373 := ge hg HB; have GE373 := ge hg HB; have NB372_373 := nl hg BK372; have NB373_372 := ng hg BK372; replace BK372 := bb BK372 hb; replace HB := bh HB hb; clear hb hbox hg) | ((with_reducible refine gate_dst (N := 7) rfl ?_); refine box_event ?hg (N := 7) ?hd (cs := #[.int .u64 0, .int .u64 0]) (t := 37) ?hr ?_; (case hd => rfl); (case hg => rfl); (case hr => first | (go_simp; done) | (go_simp; rfl)); intro gb374 hg w7 hbox hb; have BK374 := Aside0.mk hbox; have GW374 := ge hg HB; have GE374 := ge hg HB; have NB372_374 := nl hg BK372; have NB374_372 := ng hg BK372; have NB373_374 := nl hg BK373; have NB374_373 := ng hg BK373; replace BK372 := bb BK372 hb; replace BK373 := bb BK373 hb; replace HB := bh HB hb; clear hb hbox hg; have hnb8 := NB372_373.out; have hnc8 := NB373_372.out; have hnb9 := NB372_374.out; have hnc9 := NB374_372.out; obtain ⟨hcz10_0, hcz10_1⟩ := zc2 BK372; obtain ⟨hfz10_0, hfz10_1⟩ := zf2 BK372) | ((with_reducible refine gate_callee (f := 30) rfl ?_); refine goesL_ (some 13) rfl rfl Try.func30 (by kernel_rfl) rfl #[.int .i64 a0, .int .i64 a1, .agg #[.int .u64 a2_0, .int .u64 a2_1]] rfl (by (try simp only [List.map_toArray, List.map_cons, List.map_nil]); first | done | rfl | (simp only [List.length_drop, List.length_take]; rfl)) ?_; (with_reducible refine (steepleref33_Conjugates.calls k a0 a1 a2_0 a2_1 t375 _ A4.out).mono ?_); rintro e w11 ⟨v376, rfl, ho0, hb⟩; refine ⟨_, rfl, ?_⟩; have HO377 := Aside0.mk (Kd.R_lower (Kd.R_newB (Kd.R_newB (Kd.R_newB ho0 (g := gb372) (o := .cells #[.int .u64 a2_0, .int .u64 a2_1] 37 (0, 0)) (bk BK372.out)) (g := gb373) (o := .cells #[.int .u64 0, .int .u64 0] 37 (0, 0)) (bk BK373.out)) (g := gb374) (o := .cells #[.int .u64 0, .int .u64 0] 37 (0, 0)) (bk BK374.out)) (below_size (bq HB.out))); replace BK372 := bb BK372 hb; replace BK373 := bb BK373 hb; replace BK374 := bb BK374 hb; replace HB := bh HB hb; (try clear hb); (try clear hb2); (try clear hk); (try clear hi); (try clear ho0)))
 go_loopg [9] k (fun kq v9 w' => ∃ (x9_1 : Int) (x375000_1 : Int) (x375001_1 : Int), v9 = .int .i64 x9_1 ∧ Aside0 (steepleref33_Trace.l0 kq t375 x9_1 x375000_1 x375001_1 = some (r1, r2)) ∧ Aside0 (kq ≤ k) ∧ Aside0 (Kd.R k37 37 w' w.heap.size (fun k_ => k_ ≠ gb372 ∧ k_ ≠ gb373 ∧ k_ ≠ gb374) v376 t375) ∧ Aside0 (w'.heap[gb372]? = some (.cells #[.int .u64 a2_0, .int .u64 a2_1] 37 (0, 0))) ∧ Aside0 (w'.heap[gb373]? = some (.cells #[.int .u64 0, .int .u64 0] 37 (0, 0))) ∧ Aside0 (w'.heap[gb374]? = some (.cells #[.int .u64 x375000_1, .int .u64 x375001_1] 37 (0, 0))) ∧ Aside0 (Below w.heap.size w w'))
 case atStart => exact ⟨(0), (0), (0), (by first | rfl | (simp; done) | (simp [*]; done)), H', ⟨Nat.le_refl _⟩, ⟨by (with_reducible repeat refine kl ?_); exact Kd.R_mono HO377.out (fun _ hk => ⟨hk.1.1.2, ⟨hk.1.2, hk.2⟩⟩)⟩, ⟨bk BK372.out⟩, ⟨bk BK373.out⟩, ⟨bk BK374.out⟩, ⟨bq HB.out⟩⟩
 case round =>
  clear H'
  try clear p2
  try clear c3
  try clear c8
  try clear c9
  try clear hcz10_0
  try clear hcz10_1
  try clear hfz10_0
  try clear hfz10_1
  obtain ⟨x9_1, x375000_1, x375001_1, rfl, HA, HK1, HO_8, BK372, BK373, BK374, HB⟩ := hrel
  cases gk with
  | zero => exact absurd HA.out (by simp [steepleref33_Trace.l0])
  | succ k1 =>
   have H := HA.out
   clear HA
   simp only [steepleref33_Trace.l0] at H
   by_cases c12 : x9_1 < (t375.length : Int)
   ·rw [if_pos c12] at H
    have c12b0 : decide (x9_1 < (t375.length : Int)) = true := decide_eq_true c12
    clear c12
    by_cases c13 : 0 ≤ x9_1
    ·rw [if_pos c13] at H
     have c13b0 : decide (0 ≤ x9_1) = true := decide_eq_true c13
     clear c13
     replace H := Option.bind_eq_some_iff.mp H
     obtain ⟨⟨t379, t380⟩, A140, H⟩ := H
     replace H : (steepleref33_Trace.l0 k1 t375 (wrap64 (x9_1 + 1)) t379 t380) = some (r1, r2) := H
     have A14 := Aside0.mk A140
     clear A140
     have H' := Aside0.mk H
     clear H
     obtain ⟨Ao15, co15, eo15⟩ := Kd.R_slice HO_8.out
     subst eo15
     try go_wp2
     replace HO_8 := Aside0.mk (Kd.R_drew HO_8.out)
     replace BK372 := Aside0.mk (blk_drew BK372.out)
     replace BK373 := Aside0.mk (blk_drew BK373.out)
     replace BK374 := Aside0.mk (blk_drew BK374.out)
     replace HB := Aside0.mk (below_drew1 HB.out)
     have p378 : 0 ≤ (x9_1 : Int) := of_decide_eq_true (by first | (with_reducible assumption) | assumption)
     have q378 : x9_1 < (t375.length : Int) := of_decide_eq_true (by first | (with_reducible assumption) | assumption)
     (try (obtain ⟨Ap_, cp_, ep_⟩ := Kd.R_slice HO_8.out; subst ep_))
     obtain ⟨ad378, e378, hx378_0, hx378_1⟩ := at_T37 (Kd.R_reads' HO_8.out).2.2 x9_1 p378 q378
     cases e378
     replace p378 := eq_true p378
     replace q378 := eq_true q378
     refine start_ (n := 7) (S := fun w' => w'.cell? ⟨gb374, 0, none⟩ = some (.int .u64 x375000_1) ∧ w'.cell? ⟨gb374, 1, none⟩ = some (.int .u64 x375001_1) ∧ w'.cell? (ad378.add ((x9_1).toNat * 2)) = some (.int .u64 ((rd_T37 t375 x9_1).f0)) ∧ w'.cell? ⟨(ad378.add ((x9_1).toNat * 2)).block, (ad378.add ((x9_1).toNat * 2)).off + 1, none⟩ = some (.int .u64 ((rd_T37 t375 x9_1).f1))) (ds := [6]) #[false, false, false, false, false, false, false] (by kernel_rfl) rfl rfl ⟨(blk_cell BK374.out 0).trans rfl, (blk_cell BK374.out 1).trans rfl, hx378_0, hx378_1⟩ (fun hHeld => ?_)
     generalize wr.drew = w16 at HO_8 BK372 BK373 BK374 HB hx378_0 hx378_1 hHeld ⊢
     refine pure_ (i := 1) (N := some 21) (v := ?_) (a' := ?_) #[false, true, false, false, false, false, false] rfl rfl (by kernel_rfl) (fun _ _ _ h => h) (Or.inl ⟨by rfl, ?_⟩) ?_ ?_
     rotate_left
     ·intro w'
      go_simp
      with_reducible rfl
     rotate_left
     ·simp only [Act.put, List.setIfInBounds_toArray, List.set_cons_zero, List.set_cons_succ, i64_w, i32_w]
      rfl
     refine pure_ (i := 2) (N := some 22) (v := ?_) (a' := ?_) #[false, true, true, false, false, false, false] rfl rfl (by kernel_rfl) (fun _ _ _ h => h) (Or.inl ⟨by rfl, ?_⟩) ?_ ?_
     rotate_left
     ·intro w'
      go_simp
      with_reducible rfl
     rotate_left
     ·simp only [Act.put, List.setIfInBounds_toArray, List.set_cons_zero, List.set_cons_succ, i64_w, i32_w]
      rfl
     refine pure_ (i := 3) (N := some 23) (v := ?_) (a' := ?_) #[false, true, true, true, false, false, false] rfl rfl (by kernel_rfl) (fun _ _ _ h => h) (Or.inl ⟨by rfl, ?_⟩) ?_ ?_
     rotate_left
     ·intro w'
      go_simp
      with_reducible rfl
     rotate_left
     ·simp only [Act.put, List.setIfInBounds_toArray, List.set_cons_zero, List.set_cons_succ, i64_w, i32_w]
      rfl
     refine take_ (i := 0) (N := some 20) (v := ?_) (a' := ?_) #[true, true, true, true, false, false, false] rfl rfl (by kernel_rfl) (fun _ _ _ h => h) (Or.inl ⟨by rfl, ?_⟩) hHeld ?_ ?_
     rotate_left
     ·rintro w' ⟨s0, s1, s2, s3⟩
      go_simp
      with_reducible rfl
     rotate_left
     ·simp only [Act.put, List.setIfInBounds_toArray, List.set_cons_zero, List.set_cons_succ, i64_w, i32_w]
      rfl
     refine take_ (i := 4) (N := some 24) (v := ?_) (a' := ?_) #[true, true, true, true, true, false, false] rfl rfl (by kernel_rfl) (fun _ _ _ h => h) (Or.inl ⟨by rfl, ?_⟩) hHeld ?_ ?_
     rotate_left
     ·rintro w' ⟨s0, s1, s2, s3⟩
      go_simp
      with_reducible rfl
     rotate_left
     ·simp only [Act.put, List.setIfInBounds_toArray, List.set_cons_zero, List.set_cons_succ, i64_w, i32_w]
      rfl
     refine one_ (i := 5) (N := some 25) #[true, true, true, true, true, true, false] rfl rfl (by kernel_rfl) (by decide) (fun K hK => ?_)
     refine goes_ Try.func21 (by kernel_rfl) rfl #[.agg #[.int .u64 x375000_1, .int .u64 x375001_1], .agg #[.int .u64 ((rd_T37 t375 x9_1).f0), .int .u64 ((rd_T37 t375 x9_1).f1)]] (by rfl) rfl rfl (by (try simp only [List.map_toArray, List.map_cons, List.map_nil]); first | done | rfl | (simp only [List.length_drop, List.length_take]; rfl)) ?_
     with_reducible refine (steepleref02_Add.calls x375000_1 x375001_1 ((rd_T37 t375 x9_1).f0) ((rd_T37 t375 x9_1).f1) t379 t380 _ A14.out).mono ?_
     rintro e w17 ⟨rfl, hb⟩
     have HS2_ := (hb.cell (World.block_lt_of_cell? _ _ (hHeld.2.2.1))).trans (hHeld.2.2.1)
     have HS3_ := (hb.cell (World.block_lt_of_cell? _ _ (hHeld.2.2.2))).trans (hHeld.2.2.2)
     refine ⟨_, rfl, ?_⟩
     replace HO_8 := kb HO_8 hb
     replace BK372 := bb BK372 hb
     replace BK373 := bb BK373 hb
     replace BK374 := bb BK374 hb
     replace HB := bh HB hb
     (try clear hb)
     (try clear hb2)
     (try clear hk)
     (try clear hi)
     refine hK.out _ _ ⟨(blk_cell BK374.out 0).trans rfl, (blk_cell BK374.out 1).trans rfl, HS2_, HS3_⟩ (fun hHeld => ?_)
     clear hK K
     refine norm_ (a' := ?_) ?_ ?_
     rotate_left
     ·show Act.put _ (some 25) _ = _
      simp only [Act.put, List.setIfInBounds_toArray, List.set_cons_zero, List.set_cons_succ, i64_w, i32_w]
      rfl
     refine last_ (i := 6) (N := none) #[true, true, true, true, true, true, true] rfl rfl (by kernel_rfl) (by decide) (fun K hK => ?_)
     have hs18 : w17.cell? ⟨gb374, 0, none⟩ = some (.int .u64 x375000_1) := (blk_cell BK374.out 0).trans rfl
     have hfs18 := blk_frozen BK374.out 0
     have hns18_0 := NB372_374.out
     have hns18_1 := NB373_374.out
     have hms18_0 := NB374_372.out
     have hms18_1 := NB374_373.out
     have hs19 : w17.cell? ⟨gb374, 1, none⟩ = some (.int .u64 x375001_1) := (blk_cell BK374.out 1).trans rfl
     have hfs19 := blk_frozen BK374.out 1
     have hns19_0 := NB372_374.out
     have hns19_1 := NB373_374.out
     have hms19_0 := NB374_372.out
     have hms19_1 := NB374_373.out
     refine skip_ (w1 := ?_) (by rfl) rfl ?_ ?_
     rotate_left
     ·go_simp
      rfl
     refine hK.out _ _ ?_
     clear hK K
     refine done_ (by kernel_rfl) ?_
     try go_wp2
     go_roundg k1
     case measure => have := HK1.out; omega
     case rel => exact ⟨(wrap64 (x9_1 + 1)), (t379), (t380), (by first | rfl | (simp; done) | (simp [*]; done)), H', ⟨by have := HK1.out; omega⟩, ⟨by (with_reducible repeat refine kl ?_); exact Kd.R_mono (Kd.R_far (p := ⟨gb374, 1, none⟩) (Kd.R_far (p := ⟨gb374, 0, none⟩) (Kd.R_mono HO_8.out (fun k_ hk => (⟨hk, hk.2.2⟩ : _ ∧ k_ ≠ gb374))) (fun _ hk => hk.2) (.int .u64 t379)) (fun _ hk => hk.2) (.int .u64 t380)) (fun _ hk => ⟨hk.1.1, ⟨hk.1.2.1, hk.1.2.2⟩⟩)⟩, ⟨by (with_reducible repeat refine bl ?_); refine blk_far ?_ NB372_374.out _; (with_reducible repeat refine bl ?_); refine blk_far ?_ NB372_374.out _; (with_reducible repeat refine bl ?_); exact BK372.out⟩, ⟨by (with_reducible repeat refine bl ?_); refine blk_far ?_ NB373_374.out _; (with_reducible repeat refine bl ?_); refine blk_far ?_ NB373_374.out _; (with_reducible repeat refine bl ?_); exact BK373.out⟩, ⟨by (with_reducible repeat refine bl ?_); refine blk_put (cs := #[.int .u64 t379, .int .u64 x375001_1]) ?_ 1 _ rfl; (with_reducible repeat refine bl ?_); refine blk_put (cs := #[.int .u64 x375000_1, .int .u64 x375001_1]) ?_ 0 _ rfl; (with_reducible repeat refine bl ?_); exact BK374.out⟩, ⟨bq HB.out⟩⟩
    ·rw [if_neg c13] at H
     exact absurd H (by simp)
   ·rw [if_neg c12] at H
    have c12b0 : decide (x9_1 < (t375.length : Int)) = false := decide_eq_false c12
    clear c12
    simp only [Option.some.injEq, Prod.mk.injEq] at H
    obtain ⟨rfl, rfl⟩ := H
    obtain ⟨Ao20, co20, eo20⟩ := Kd.R_slice HO_8.out
    subst eo20
    have hnb21 := NB374_372.out
    have hnc21 := NB372_374.out
    have hnb22 := NB374_373.out
    have hnc22 := NB373_374.out
    obtain ⟨hcz23_0, hcz23_1⟩ := zc2 BK374
    obtain ⟨hfz23_0, hfz23_1⟩ := zf2 BK374
    have hnb24 := NB373_372.out
    have hnc24 := NB372_373.out
    obtain ⟨hcz25_0, hcz25_1⟩ := zc2 BK373
    obtain ⟨hfz25_0, hfz25_1⟩ := zf2 BK373
    go_wp2
    refine bodyPost_ret (results_cell_row rfl _ _ gb373 37 #[.int .u64 x375000_1, .int .u64 x375001_1] (0, 0) _ rfl (by (with_reducible repeat refine bl ?_); refine blk_put (cs := #[.int .u64 x375000_1, .int .u64 0]) ?_ 1 _ rfl; (with_reducible repeat refine bl ?_); refine blk_put (cs := #[.int .u64 0, .int .u64 0]) ?_ 0 _ rfl; (with_reducible repeat refine bl ?_); exact BK373.out) Try.underlying37 rfl (by kernel_rfl)) rfl ?_
    exact ⟨by first | rfl | (simp [errW_none, errW_some] <;> rfl) | (simp [*, errW_none, errW_some] <;> rfl), bq HB.out⟩

/-! ### steepleref33_Norm: function 32 -/
def steepleref33_Norm.l0 : Nat → List (S37) → Int → Int → Int → Option (Int × Int)
 | 0, _, _, _, _ => none
 | k + 1, x8, x9, x384000, x384001 => if x9 < (x8.length : Int) then (if 0 ≤ x9 then ((steepleref02_Product.f k x384000 x384001 ((rd_T37 x8 x9).f0) ((rd_T37 x8 x9).f1)).bind fun bt388 => (steepleref33_Norm.l0 k x8 (wrap64 (x9 + 1)) bt388.1 bt388.2)) else (none)) else (some (x384000, x384001))
def steepleref33_Norm.f (k : Nat) (a0 : Int) (a1 : Int) (a2_0 : Int) (a2_1 : Int) : Option (Int × Int) := (steepleref33_Conjugates.f k a0 a1 a2_0 a2_1).bind fun t384 => (steepleref33_Norm.l0 k t384 0 0 1)
theorem steepleref33_Norm.mono_l : ∀ k, (∀ y0 y1 y2 y3, LeO (steepleref33_Norm.l0 k y0 y1 y2 y3) (steepleref33_Norm.l0 (k + 1) y0 y1 y2 y3))
 | 0 => fun _ _ _ _ r h => by simp [steepleref33_Norm.l0] at h
 | k + 1 => by
  have ih0 := steepleref33_Norm.mono_l k
  ·intro y0 y1 y2 y3
   unfold steepleref33_Norm.l0
   repeat' first
   | (with_reducible exact ih0 _ _ _ _)
   | (with_reducible exact steepleref02_Product.mono _ _ _ _ _)
   | (with_reducible exact steepleref33_Conjugates.mono _ _ _ _ _)
   | (with_reducible exact LeO.refl _)
   | (with_reducible exact LeO.none _)
   | (with_reducible refine LeO.ite ?_ ?_)
   | (with_reducible refine LeO.bind ?_ (fun _ => ?_))
   | exact ih0 _ _ _ _
   | exact steepleref02_Product.mono _ _ _ _ _
   | exact steepleref33_Conjugates.mono _ _ _ _ _
   | exact LeO.none _
   | refine LeO.ite ?_ ?_
   | refine LeO.bind ?_ (fun _ => ?_)
theorem steepleref33_Norm.mono : ∀ a0 a1 a2 a3 k, LeO (steepleref33_Norm.f k a0 a1 a2 a3) (steepleref33_Norm.f (k + 1) a0 a1 a2 a3) := by
 intro a0 a1 a2 a3 k
 have ih0 := steepleref33_Norm.mono_l k
 unfold steepleref33_Norm.f
 repeat' first
   | (with_reducible exact ih0 _ _ _ _)
   | (with_reducible exact steepleref02_Product.mono _ _ _ _ _)
   | (with_reducible exact steepleref33_Conjugates.mono _ _ _ _ _)
   | (with_reducible exact LeO.refl _)
   | (with_reducible exact LeO.none _)
   | (with_reducible refine LeO.ite ?_ ?_)
   | (with_reducible refine LeO.bind ?_ (fun _ => ?_))
   | exact ih0 _ _ _ _
   | exact steepleref02_Product.mono _ _ _ _ _
   | exact steepleref33_Conjugates.mono _ _ _ _ _
   | exact LeO.none _
   | refine LeO.ite ?_ ?_
   | refine LeO.bind ?_ (fun _ => ?_)
set_option maxHeartbeats 8000000 in
set_option maxRecDepth 100000 in
theorem steepleref33_Norm.calls (k : Nat) (a0 : Int) (a1 : Int) (a2_0 : Int) (a2_1 : Int) (r1 : Int) (r2 : Int) (w : World) (h : steepleref33_Norm.f k a0 a1 a2_0 a2_1 = some (r1, r2)) :
  Calls Try.prog 32 #[.int .i64 a0, .int .i64 a1, .agg #[.int .u64 a2_0, .int .u64 a2_1]] w fun e w' => e = .returned (.agg #[.int .u64 r1, .int .u64 r2]) ∧ Below w.heap.size w w' := by
 have hu37 := Try.underlying37
 have HB := Aside0.mk (Below.refl w.heap.size w)
 have H : ((steepleref33_Conjugates.f k a0 a1 a2_0 a2_1).bind fun t384 => (steepleref33_Norm.l0 k t384 0 0 1)) = some (r1, r2) := h
 clear h
 replace H := Option.bind_eq_some_iff.mp H
 obtain ⟨t384, A40, H⟩ := H
 replace H : (steepleref33_Norm.l0 k t384 0 0 1) = some (r1, r2) := H
 have A4 := Aside0.mk A40
 clear A40
 have H' := Aside0.mk H
 clear H
 go_enter Try.func32, Try.ntmps32
 go_wp2_with (first | ((with_reducible refine gate_dst (N := 5) rfl ?_); refine box_event ?hg (N := 5) ?hd (cs := #[.int .u64 a2_0, .int .u64 a2_1]) (t := 37) ?hr ?_; (case hd => rfl); (case hg => rfl); (case hr => first | (go_simp; done) | (go_simp; rfl)); intro gb381 hg w5 hbox hb; have BK381 := Aside0.mk hbox; have GW381 := ge hg HB; have GE381 := ge hg HB; replace HB := bh HB hb; clear hb hbox hg) | ((with_reducible refine gate_dst (N := 6) rfl ?_); refine box_event ?hg (N := 6) ?hd (cs := #[.int .u64 0, .int .u64 0]) (t := 37) ?hr ?_; (case hd => rfl); (case hg => rfl); (case hr => first | (go_simp; done) | (go_simp; rfl)); intro gb382 hg w6 hbox hb; have BK382 := Aside0.mk hbox; have GW382 := ge hg HB; have GE382 := ge hg HB; have NB381_382 := nl hg BK381; have NB382_381 := ng hg BK381; replace BK381 := bb BK381 hb; replace HB := bh HB hb; clear hb hbox hg) | ((with_reducible refine gate_dst (N := 7) rfl ?_); refine box_event ?hg (N := 7) ?hd (cs := #[.int .u64 0, .int .u64 0]) (t := 37) ?hr ?_; (case hd => rfl); (case hg => rfl); (case hr => first | (go_simp; done) | (go_simp; rfl)); intro gb383 hg w7 hbox hb; have BK383 := Aside0.mk hbox; have GW383 := ge hg HB; have GE383 := ge hg HB; have NB381_383 := nl hg BK381; have NB383_381 := ng hg BK381; have NB382_383 := nl hg BK382; have NB383_382 := ng hg BK382; replace BK381 := bb BK381 hb; replace BK382 := bb BK382 hb; replace HB := bh HB hb; clear hb hbox hg; have hnb8 := NB383_381.out; have hnc8 := NB381_383.out; have hnb9 := NB383_382.out; have hnc9 := NB382_383.out; obtain ⟨hcz10_0, hcz10_1⟩ := zc2 BK383; obtain ⟨hfz10_0, hfz10_1⟩ := zf2 BK383; have hnb11 := NB381_382.out; have hnc11 := NB382_381.out; obtain ⟨hcz12_0, hcz12_1⟩ := zc2 BK381; obtain ⟨hfz12_0, hfz12_1⟩ := zf2 BK381) | ((with_reducible refine gate_callee (f := 30) rfl ?_); refine goesL_ (some 14) rfl rfl Try.func30 (by kernel_rfl) rfl #[.int .i64 a0, .int .i64 a1, .agg #[.int .u64 a2_0, .int .u64 a2_1]] rfl (by (try simp only [List.map_toArray, List.map_cons, List.map_nil]); first | done | rfl | (simp only [List.length_drop, List.length_take]; rfl)) ?_; (with_reducible refine (steepleref33_Conjugates.calls k a0 a1 a2_0 a2_1 t384 _ A4.out).mono ?_); rintro e w13 ⟨v385, rfl, ho0, hb⟩; refine ⟨_, rfl, ?_⟩; have HO386 := Aside0.mk (Kd.R_lower (Kd.R_newB (Kd.R_newB (Kd.R_newB ho0 (g := gb381) (o := .cells #[.int .u64 a2_0, .int .u64 a2_1] 37 (0, 0)) (by (with_reducible repeat refine bl ?_); refine blk_far ?_ NB381_383.out _; (with_reducible repeat refine bl ?_); refine blk_far ?_ NB381_383.out _; (with_reducible repeat refine bl ?_); exact BK381.out)) (g := gb382) (o := .cells #[.int .u64 0, .int .u64 0] 37 (0, 0)) (by (with_reducible repeat refine bl ?_); refine blk_far ?_ NB382_383.out _; (with_reducible repeat refine bl ?_); refine blk_far ?_ NB382_383.out _; (with_reducible repeat refine bl ?_); exact BK382.out)) (g := gb383) (o := .cells #[.int .u64 0, .int .u64 1] 37 (0, 0)) (by (with_reducible repeat refine bl ?_); refine blk_put (cs := #[.int .u64 0, .int .u64 0]) ?_ 1 _ rfl; (with_reducible repeat refine bl ?_); refine blk_put (cs := #[.int .u64 0, .int .u64 0]) ?_ 0 _ rfl; (with_reducible repeat refine bl ?_); exact BK383.out)) (below_size (bq HB.out))); replace BK381 := Aside0.mk (blk_below (g := gb381) (o := .cells #[.int .u64 a2_0, .int .u64 a2_1] 37 (0, 0)) (by (with_reducible repeat refine bl ?_); refine blk_far ?_ NB381_383.out _; (with_reducible repeat refine bl ?_); refine blk_far ?_ NB381_383.out _; (with_reducible repeat refine bl ?_); exact BK381.out) hb); replace BK382 := Aside0.mk (blk_below (g := gb382) (o := .cells #[.int .u64 0, .int .u64 0] 37 (0, 0)) (by (with_reducible repeat refine bl ?_); refine blk_far ?_ NB382_383.out _; (with_reducible repeat refine bl ?_); refine blk_far ?_ NB382_383.out _; (with_reducible repeat refine bl ?_); exact BK382.out) hb); replace BK383 := Aside0.mk (blk_below (g := gb383) (o := .cells #[.int .u64 0, .int .u64 1] 37 (0, 0)) (by (with_reducible repeat refine bl ?_); refine blk_put (cs := #[.int .u64 0, .int .u64 0]) ?_ 1 _ rfl; (with_reducible repeat refine bl ?_); refine blk_put (cs := #[.int .u64 0, .int .u64 0]) ?_ 0 _ rfl; (with_reducible repeat refine bl ?_); exact BK383.out) hb); replace HB := bh HB hb; (try clear hb); (try clear hb2); (try clear hk); (try clear hi); (try clear ho0)))
 go_loopg [9] k (fun kq v9 w' => ∃ (x9_1 : Int) (x384000_1 : Int) (x384001_1 : Int), v9 = .int .i64 x9_1 ∧ Aside0 (steepleref33_Norm.l0 kq t384 x9_1 x384000_1 x384001_1 = some (r1, r2)) ∧ Aside0 (kq ≤ k) ∧ Aside0 (Kd.R k37 37 w' w.heap.size (fun k_ => k_ ≠ gb381 ∧ k_ ≠ gb382 ∧ k_ ≠ gb383) v385 t384) ∧ Aside0 (w'.heap[gb381]? = some (.cells #[.int .u64 a2_0, .int .u64 a2_1] 37 (0, 0))) ∧ Aside0 (w'.heap[gb382]? = some (.cells #[.int .u64 0, .int .u64 0] 37 (0, 0))) ∧ Aside0 (w'.heap[gb383]? = some (.cells #[.int .u64 x384000_1, .int .u64 x384001_1] 37 (0, 0))) ∧ Aside0 (Below w.heap.size w w'))
 case atStart => exact ⟨(0), (0), (1), (by first | rfl | (simp; done) | (simp [*]; done)), H', ⟨Nat.le_refl _⟩, ⟨by (with_reducible repeat refine kl ?_); exact Kd.R_mono HO386.out (fun _ hk => ⟨hk.1.1.2, ⟨hk.1.2, hk.2⟩⟩)⟩, ⟨bk BK381.out⟩, ⟨bk BK382.out⟩, ⟨bk BK383.out⟩, ⟨bq HB.out⟩⟩
 case round =>
  clear H'
  try clear c1
  try clear p2
  try clear c3
  try clear c8
  try clear c9
  try clear c11
  try clear hcz10_0
  try clear hcz10_1
  try clear hcz12_0
  try clear hcz12_1
  try clear hfz10_0
  try clear hfz10_1
  try clear hfz12_0
  try clear hfz12_1
  obtain ⟨x9_1, x384000_1, x384001_1, rfl, HA, HK1, HO_8, BK381, BK382, BK383, HB⟩ := hrel
  cases gk with
  | zero => exact absurd HA.out (by simp [steepleref33_Norm.l0])
  | succ k1 =>
   have H := HA.out
   clear HA
   simp only [steepleref33_Norm.l0] at H
   by_cases c14 : x9_1 < (t384.length : Int)
   ·rw [if_pos c14] at H
    have c14b0 : decide (x9_1 < (t384.length : Int)) = true := decide_eq_true c14
    clear c14
    by_cases c15 : 0 ≤ x9_1
    ·rw [if_pos c15] at H
     have c15b0 : decide (0 ≤ x9_1) = true := decide_eq_true c15
     clear c15
     replace H := Option.bind_eq_some_iff.mp H
     obtain ⟨⟨t388, t389⟩, A160, H⟩ := H
     replace H : (steepleref33_Norm.l0 k1 t384 (wrap64 (x9_1 + 1)) t388 t389) = some (r1, r2) := H
     have A16 := Aside0.mk A160
     clear A160
     have H' := Aside0.mk H
     clear H
     obtain ⟨Ao17, co17, eo17⟩ := Kd.R_slice HO_8.out
     subst eo17
     try go_wp2
     replace HO_8 := Aside0.mk (Kd.R_drew HO_8.out)
     replace BK381 := Aside0.mk (blk_drew BK381.out)
     replace BK382 := Aside0.mk (blk_drew BK382.out)
     replace BK383 := Aside0.mk (blk_drew BK383.out)
     replace HB := Aside0.mk (below_drew1 HB.out)
     have p387 : 0 ≤ (x9_1 : Int) := of_decide_eq_true (by first | (with_reducible assumption) | assumption)
     have q387 : x9_1 < (t384.length : Int) := of_decide_eq_true (by first | (with_reducible assumption) | assumption)
     (try (obtain ⟨Ap_, cp_, ep_⟩ := Kd.R_slice HO_8.out; subst ep_))
     obtain ⟨ad387, e387, hx387_0, hx387_1⟩ := at_T37 (Kd.R_reads' HO_8.out).2.2 x9_1 p387 q387
     cases e387
     replace p387 := eq_true p387
     replace q387 := eq_true q387
     refine start_ (n := 7) (S := fun w' => w'.cell? ⟨gb383, 0, none⟩ = some (.int .u64 x384000_1) ∧ w'.cell? ⟨gb383, 1, none⟩ = some (.int .u64 x384001_1) ∧ w'.cell? (ad387.add ((x9_1).toNat * 2)) = some (.int .u64 ((rd_T37 t384 x9_1).f0)) ∧ w'.cell? ⟨(ad387.add ((x9_1).toNat * 2)).block, (ad387.add ((x9_1).toNat * 2)).off + 1, none⟩ = some (.int .u64 ((rd_T37 t384 x9_1).f1))) (ds := [6]) #[false, false, false, false, false, false, false] (by kernel_rfl) rfl rfl ⟨(blk_cell BK383.out 0).trans rfl, (blk_cell BK383.out 1).trans rfl, hx387_0, hx387_1⟩ (fun hHeld => ?_)
     generalize wr.drew = w18 at HO_8 BK381 BK382 BK383 HB hx387_0 hx387_1 hHeld ⊢
     refine pure_ (i := 1) (N := some 22) (v := ?_) (a' := ?_) #[false, true, false, false, false, false, false] rfl rfl (by kernel_rfl) (fun _ _ _ h => h) (Or.inl ⟨by rfl, ?_⟩) ?_ ?_
     rotate_left
     ·intro w'
      go_simp
      with_reducible rfl
     rotate_left
     ·simp only [Act.put, List.setIfInBounds_toArray, List.set_cons_zero, List.set_cons_succ, i64_w, i32_w]
      rfl
     refine pure_ (i := 2) (N := some 23) (v := ?_) (a' := ?_) #[false, true, true, false, false, false, false] rfl rfl (by kernel_rfl) (fun _ _ _ h => h) (Or.inl ⟨by rfl, ?_⟩) ?_ ?_
     rotate_left
     ·intro w'
      go_simp
      with_reducible rfl
     rotate_left
     ·simp only [Act.put, List.setIfInBounds_toArray, List.set_cons_zero, List.set_cons_succ, i64_w, i32_w]
      rfl
     refine pure_ (i := 3) (N := some 24) (v := ?_) (a' := ?_) #[false, true, true, true, false, false, false] rfl rfl (by kernel_rfl) (fun _ _ _ h => h) (Or.inl ⟨by rfl, ?_⟩) ?_ ?_
     rotate_left
     ·intro w'
      go_simp
      with_reducible rfl
     rotate_left
     ·simp only [Act.put, List.setIfInBounds_toArray, List.set_cons_zero, List.set_cons_succ, i64_w, i32_w]
      rfl
     refine take_ (i := 0) (N := some 21) (v := ?_) (a' := ?_) #[true, true, true, true, false, false, false] rfl rfl (by kernel_rfl) (fun _ _ _ h => h) (Or.inl ⟨by rfl, ?_⟩) hHeld ?_ ?_
     rotate_left
     ·rintro w' ⟨s0, s1, s2, s3⟩
      go_simp
      with_reducible rfl
     rotate_left
     ·simp only [Act.put, List.setIfInBounds_toArray, List.set_cons_zero, List.set_cons_succ, i64_w, i32_w]
      rfl
     refine take_ (i := 4) (N := some 25) (v := ?_) (a' := ?_) #[true, true, true, true, true, false, false] rfl rfl (by kernel_rfl) (fun _ _ _ h => h) (Or.inl ⟨by rfl, ?_⟩) hHeld ?_ ?_
     rotate_left
     ·rintro w' ⟨s0, s1, s2, s3⟩
      go_simp
      with_reducible rfl
     rotate_left
     ·simp only [Act.put, List.setIfInBounds_toArray, List.set_cons_zero, List.set_cons_succ, i64_w, i32_w]
      rfl
     refine one_ (i := 5) (N := some 26) #[true, true, true, true, true, true, false] rfl rfl (by kernel_rfl) (by decide) (fun K hK => ?_)
     refine goes_ Try.func22 (by kernel_rfl) rfl #[.agg #[.int .u64 x384000_1, .int .u64 x384001_1], .agg #[.int .u64 ((rd_T37 t384 x9_1).f0), .int .u64 ((rd_T37 t384 x9_1).f1)]] (by rfl) rfl rfl (by (try simp only [List.map_toArray, List.map_cons, List.map_nil]); first | done | rfl | (simp only [List.length_drop, List.length_take]; rfl)) ?_
     with_reducible refine (steepleref02_Product.calls k1 x384000_1 x384001_1 ((rd_T37 t384 x9_1).f0) ((rd_T37 t384 x9_1).f1) t388 t389 _ A16.out).mono ?_
     rintro e w19 ⟨rfl, hb⟩
     have HS2_ := (hb.cell (World.block_lt_of_cell? _ _ (hHeld.2.2.1))).trans (hHeld.2.2.1)
     have HS3_ := (hb.cell (World.block_lt_of_cell? _ _ (hHeld.2.2.2))).trans (hHeld.2.2.2)
     refine ⟨_, rfl, ?_⟩
     replace HO_8 := kb HO_8 hb
     replace BK381 := bb BK381 hb
     replace BK382 := bb BK382 hb
     replace BK383 := bb BK383 hb
     replace HB := bh HB hb
     (try clear hb)
     (try clear hb2)
     (try clear hk)
     (try clear hi)
     refine hK.out _ _ ⟨(blk_cell BK383.out 0).trans rfl, (blk_cell BK383.out 1).trans rfl, HS2_, HS3_⟩ (fun hHeld => ?_)
     clear hK K
     refine norm_ (a' := ?_) ?_ ?_
     rotate_left
     ·show Act.put _ (some 26) _ = _
      simp only [Act.put, List.setIfInBounds_toArray, List.set_cons_zero, List.set_cons_succ, i64_w, i32_w]
      rfl
     refine last_ (i := 6) (N := none) #[true, true, true, true, true, true, true] rfl rfl (by kernel_rfl) (by decide) (fun K hK => ?_)
     have hs20 : w19.cell? ⟨gb383, 0, none⟩ = some (.int .u64 x384000_1) := (blk_cell BK383.out 0).trans rfl
     have hfs20 := blk_frozen BK383.out 0
     have hns20_0 := NB381_383.out
     have hns20_1 := NB382_383.out
     have hms20_0 := NB383_381.out
     have hms20_1 := NB383_382.out
     have hs21 : w19.cell? ⟨gb383, 1, none⟩ = some (.int .u64 x384001_1) := (blk_cell BK383.out 1).trans rfl
     have hfs21 := blk_frozen BK383.out 1
     have hns21_0 := NB381_383.out
     have hns21_1 := NB382_383.out
     have hms21_0 := NB383_381.out
     have hms21_1 := NB383_382.out
     refine skip_ (w1 := ?_) (by rfl) rfl ?_ ?_
     rotate_left
     ·go_simp
      rfl
     refine hK.out _ _ ?_
     clear hK K
     refine done_ (by kernel_rfl) ?_
     try go_wp2
     go_roundg k1
     case measure => have := HK1.out; omega
     case rel => exact ⟨(wrap64 (x9_1 + 1)), (t388), (t389), (by first | rfl | (simp; done) | (simp [*]; done)), H', ⟨by have := HK1.out; omega⟩, ⟨by (with_reducible repeat refine kl ?_); exact Kd.R_mono (Kd.R_far (p := ⟨gb383, 1, none⟩) (Kd.R_far (p := ⟨gb383, 0, none⟩) (Kd.R_mono HO_8.out (fun k_ hk => (⟨hk, hk.2.2⟩ : _ ∧ k_ ≠ gb383))) (fun _ hk => hk.2) (.int .u64 t388)) (fun _ hk => hk.2) (.int .u64 t389)) (fun _ hk => ⟨hk.1.1, ⟨hk.1.2.1, hk.1.2.2⟩⟩)⟩, ⟨by (with_reducible repeat refine bl ?_); refine blk_far ?_ NB381_383.out _; (with_reducible repeat refine bl ?_); refine blk_far ?_ NB381_383.out _; (with_reducible repeat refine bl ?_); exact BK381.out⟩, ⟨by (with_reducible repeat refine bl ?_); refine blk_far ?_ NB382_383.out _; (with_reducible repeat refine bl ?_); refine blk_far ?_ NB382_383.out _; (with_reducible repeat refine bl ?_); exact BK382.out⟩, ⟨by (with_reducible repeat refine bl ?_); refine blk_put (cs := #[.int .u64 t388, .int .u64 x384001_1]) ?_ 1 _ rfl; (with_reducible repeat refine bl ?_); refine blk_put (cs := #[.int .u64 x384000_1, .int .u64 x384001_1]) ?_ 0 _ rfl; (with_reducible repeat refine bl ?_); exact BK383.out⟩, ⟨bq HB.out⟩⟩
    ·rw [if_neg c15] at H
     exact absurd H (by simp)
   ·rw [if_neg c14] at H
    have c14b0 : decide (x9_1 < (t384.length : Int)) = false := decide_eq_false c14
    clear c14
    simp only [Option.some.injEq, Prod.mk.injEq] at H
    obtain ⟨rfl, rfl⟩ := H
    obtain ⟨Ao22, co22, eo22⟩ := Kd.R_slice HO_8.out
    subst eo22
    have hnb23 := NB383_381.out
    have hnc23 := NB381_383.out
    have hnb24 := NB383_382.out
    have hnc24 := NB382_383.out
    obtain ⟨hcz25_0, hcz25_1⟩ := zc2 BK383
    obtain ⟨hfz25_0, hfz25_1⟩ := zf2 BK383
    have hnb26 := NB382_381.out
    have hnc26 := NB381_382.out
    obtain ⟨hcz27_0, hcz27_1⟩ := zc2 BK382
    obtain ⟨hfz27_0, hfz27_1⟩ := zf2 BK382
    go_wp2
    refine bodyPost_ret (results_cell_row rfl _ _ gb382 37 #[.int .u64 x384000_1, .int .u64 x384001_1] (0, 0) _ rfl (by (with_reducible repeat refine bl ?_); refine blk_put (cs := #[.int .u64 x384000_1, .int .u64 0]) ?_ 1 _ rfl; (with_reducible repeat refine bl ?_); refine blk_put (cs := #[.int .u64 0, .int .u64 0]) ?_ 0 _ rfl; (with_reducible repeat refine bl ?_); exact BK382.out) Try.underlying37 rfl (by kernel_rfl)) rfl ?_
    exact ⟨by first | rfl | (simp [errW_none, errW_some] <;> rfl) | (simp [*, errW_none, errW_some] <;> rfl), bq HB.out⟩

end Go.Proofs.Ytlegcabfgkccmaa.P
