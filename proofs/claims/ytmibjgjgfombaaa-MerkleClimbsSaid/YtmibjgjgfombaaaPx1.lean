/- Written by a program of this session: functions that the law reaches, as Lean functions, and that the code comes to their answers. Conditions: those that each theorem names. -/
import Derived.Test.YtmibjgjgfombaaaPx0
namespace Go.Proofs.Ytmibjgjgfombaaa.P
open Go.RowKit Go.Proofs.YtmibjgjgfombaaaX Go.Proofs.YtmibjgjgfombaaaW.PrintWords Go.Proofs.YtmibjgjgfombaaaW.PrintLast Go.Proofs.YtmibjgjgfombaaaW.PrintMore
attribute [local go_sem] max2_int min2_int max_two min_two max_three min_three max_four min_four   -- for this text's walks alone
set_option linter.unusedVariables false
set_option linter.unusedSimpArgs false
set_option maxRecDepth 100000 in
theorem fld_lo1b (w : World) (a b : Int) : Sem.run Try.prog (Instr.field 91 (Value.agg #[Value.int IntKind.u64 a, Value.int IntKind.u64 b]) 1) w = Result.ok (Value.int IntKind.u64 b) w := by
  have hu := Try.underlying91
  go_simp
  rfl
attribute [local go_sem] fld_lo1b
set_option maxRecDepth 100000 in
theorem fld_lo1a (w : World) (a b : Int) : Sem.run Try.prog (Instr.field 87 (Value.agg #[Value.int IntKind.u64 a, Value.int IntKind.u64 b]) 1) w = Result.ok (Value.int IntKind.u64 b) w := by
  have hu := Try.underlying87
  go_simp
  rfl
attribute [local go_sem] fld_lo1a

/-! ### steeplelaw01_Few: function 9 -/
def steeplelaw01_Few.l0 : Nat → List ByteArray → Int → Int → Option (Bool)
 | 0, _, _, _ => none
 | k + 1, x0, x2, x7 => if x7 < (x0.length : Int) then (if 0 ≤ x7 then (if ((rdOf ByteArray.empty x0 x7).size : Int) > x2 then (some false) else (steeplelaw01_Few.l0 k x0 x2 (wrap64 (x7 + 1)))) else (none)) else (some true)
def steeplelaw01_Few.f (k : Nat) (l0 : List ByteArray) (a1 : Int) (a2 : Int) : Option (Bool) := if (l0.length : Int) > a1 then (some false) else (steeplelaw01_Few.l0 k l0 a2 0)
set_option maxHeartbeats 8000000 in
set_option maxRecDepth 100000 in
theorem steeplelaw01_Few.calls (k : Nat) (A0 : Option Addr) (c0 : Nat) (l0 : List ByteArray) (a1 : Int) (a2 : Int) (r : Bool) (w : World) (hr0 : Kd.C Kd.string w A0 l0.length l0) (hc0 : l0.length ≤ c0) (h : steeplelaw01_Few.f k l0 a1 a2 = some r) :
  Calls Try.prog 9 #[.slice A0 l0.length c0, .int .i64 a1, .int .i64 a2] w fun e w' => e = .returned (.bool r) ∧ Drawn0 w w' := by
 have HR0 := Aside0.mk hr0
 have HC0 := Aside0.mk hc0
 clear hr0 hc0
 have H : (if (l0.length : Int) > a1 then (some false) else (steeplelaw01_Few.l0 k l0 a2 0)) = some r := h
 clear h
 by_cases c4 : (l0.length : Int) > a1
 ·rw [if_pos c4] at H
  have c4b0 : decide (a1 < (l0.length : Int)) = true := decide_eq_true c4
  clear c4
  obtain rfl := Option.some.inj H
  go_enter Try.func9, Try.ntmps9
  go_wp2
  go_ret
  exact ⟨by first | rfl | (simp; done) | (simp [*]; done), by repeat (first | exact Drawn0.refl _ | apply Drawn0.step)⟩
 ·rw [if_neg c4] at H
  have c4b0 : decide (a1 < (l0.length : Int)) = false := decide_eq_false c4
  clear c4
  have H' := Aside0.mk H
  clear H
  go_enter Try.func9, Try.ntmps9
  go_wp2
  go_loopg [7] k (fun kq v7 w' => ∃ (x7_1 : Int), v7 = .int .i64 x7_1 ∧ Aside0 (steeplelaw01_Few.l0 kq l0 a2 x7_1 = some r) ∧ Aside0 (kq ≤ k) ∧ Drawn0 w w')
  case atStart => exact ⟨(0), (by first | rfl | (simp; done) | (simp [*]; done)), H', ⟨Nat.le_refl _⟩, by repeat (first | exact Drawn0.refl _ | apply Drawn0.step)⟩
  case round =>
   clear H'
   try clear p2
   try clear c4
   try clear c4b0
   obtain ⟨x7_1, rfl, HA, HK1, ⟨m1, rfl⟩⟩ := hrel
   cases gk with
   | zero => exact absurd HA.out (by simp [steeplelaw01_Few.l0])
   | succ k1 =>
    have H := HA.out
    clear HA
    simp only [steeplelaw01_Few.l0] at H
    by_cases c5 : x7_1 < (l0.length : Int)
    ·rw [if_pos c5] at H
     have c5b0 : decide (x7_1 < (l0.length : Int)) = true := decide_eq_true c5
     clear c5
     by_cases c6 : 0 ≤ x7_1
     ·rw [if_pos c6] at H
      have c6b0 : decide (0 ≤ x7_1) = true := decide_eq_true c6
      clear c6
      by_cases c7 : ((rdOf ByteArray.empty l0 x7_1).size : Int) > a2
      ·rw [if_pos c7] at H
       have c7b0 : decide (a2 < ((rdOf ByteArray.empty l0 x7_1).size : Int)) = true := decide_eq_true c7
       clear c7
       obtain rfl := Option.some.inj H
       have p101 : 0 ≤ (x7_1 : Int) := of_decide_eq_true (by first | (with_reducible assumption) | assumption)
       have q101 : x7_1 < (l0.length : Int) := of_decide_eq_true (by first | (with_reducible assumption) | assumption)
       obtain ⟨ad101, e101, hx101_0⟩ := Kd.at_string HR0.out x7_1 p101 q101
       cases e101
       replace p101 := eq_true p101
       replace q101 := eq_true q101
       go_wp2
       go_ret
       exact ⟨by first | rfl | (simp; done) | (simp [*]; done), by repeat (first | exact Drawn0.refl _ | apply Drawn0.step)⟩
      ·rw [if_neg c7] at H
       have c7b0 : decide (a2 < ((rdOf ByteArray.empty l0 x7_1).size : Int)) = false := decide_eq_false c7
       clear c7
       have H' := Aside0.mk H
       clear H
       have p101 : 0 ≤ (x7_1 : Int) := of_decide_eq_true (by first | (with_reducible assumption) | assumption)
       have q101 : x7_1 < (l0.length : Int) := of_decide_eq_true (by first | (with_reducible assumption) | assumption)
       obtain ⟨ad101, e101, hx101_0⟩ := Kd.at_string HR0.out x7_1 p101 q101
       cases e101
       replace p101 := eq_true p101
       replace q101 := eq_true q101
       go_wp2
       go_roundg k1
       case measure => have := HK1.out; omega
       case rel => exact ⟨(wrap64 (x7_1 + 1)), (by first | rfl | (simp; done) | (simp [*]; done)), H', ⟨by have := HK1.out; omega⟩, by repeat (first | exact Drawn0.refl _ | apply Drawn0.step)⟩
     ·rw [if_neg c6] at H
      exact absurd H (by simp)
    ·rw [if_neg c5] at H
     have c5b0 : decide (x7_1 < (l0.length : Int)) = false := decide_eq_false c5
     clear c5
     obtain rfl := Option.some.inj H
     go_wp2
     go_ret
     exact ⟨by first | rfl | (simp; done) | (simp [*]; done), by repeat (first | exact Drawn0.refl _ | apply Drawn0.step)⟩

/-! ### octet_Of: function 71 -/
def octet_Of.j0 : Nat → Int → Bool → Int → Int → Option (Bool)
 | 0, _, _, _, _ => none
 | k + 1, x0, x5, x103000, x103001 => if x5 = true then (some false) else (if x0 = 7 then (some true) else (if x0 = 6 then (some (x103000 == 0)) else (if x103000 = 0 then (if 0 ≤ x0 then (some ((shr .u64 x103001 (shl .u64 1 x0)) == 0)) else (none)) else (some false))))
def octet_Of.f (k : Nat) (a0 : Int) (a1_0 : Int) (a1_1 : Int) : Option (Bool) := if a0 < 0 then (octet_Of.j0 k a0 true a1_0 a1_1) else (octet_Of.j0 k a0 (decide (a0 > 7)) a1_0 a1_1)
theorem octet_Of.mono_l : ∀ k, (∀ y0 y1 y2 y3, LeO (octet_Of.j0 k y0 y1 y2 y3) (octet_Of.j0 (k + 1) y0 y1 y2 y3))
 | 0 => fun _ _ _ _ r h => by simp [octet_Of.j0] at h
 | k + 1 => by
  have ih0 := octet_Of.mono_l k
  ·intro y0 y1 y2 y3
   unfold octet_Of.j0
   repeat' first
   | (with_reducible exact ih0 _ _ _ _)
   | (with_reducible exact LeO.refl _)
   | (with_reducible exact LeO.none _)
   | (with_reducible refine LeO.ite ?_ ?_)
   | (with_reducible refine LeO.bind ?_ (fun _ => ?_))
   | exact ih0 _ _ _ _
   | exact LeO.none _
   | refine LeO.ite ?_ ?_
   | refine LeO.bind ?_ (fun _ => ?_)
theorem octet_Of.mono : ∀ a0 a1 a2 k, LeO (octet_Of.f k a0 a1 a2) (octet_Of.f (k + 1) a0 a1 a2) := by
 intro a0 a1 a2 k
 have ih0 := octet_Of.mono_l k
 unfold octet_Of.f
 repeat' first
   | (with_reducible exact ih0 _ _ _ _)
   | (with_reducible exact LeO.refl _)
   | (with_reducible exact LeO.none _)
   | (with_reducible refine LeO.ite ?_ ?_)
   | (with_reducible refine LeO.bind ?_ (fun _ => ?_))
   | exact ih0 _ _ _ _
   | exact LeO.none _
   | refine LeO.ite ?_ ?_
   | refine LeO.bind ?_ (fun _ => ?_)
set_option maxHeartbeats 8000000 in
set_option maxRecDepth 100000 in
theorem octet_Of.calls (k : Nat) (a0 : Int) (a1_0 : Int) (a1_1 : Int) (r : Bool) (w : World) (h : octet_Of.f k a0 a1_0 a1_1 = some r) :
  Calls Try.prog 71 #[.int .i64 a0, .agg #[.int .u64 a1_0, .int .u64 a1_1]] w fun e w' => e = .returned (.bool r) ∧ Below w.heap.size w w' := by
 have hu87 := Try.underlying87
 have HB := Aside0.mk (Below.refl w.heap.size w)
 have H : (if a0 < 0 then (octet_Of.j0 k a0 true a1_0 a1_1) else (octet_Of.j0 k a0 (decide (a0 > 7)) a1_0 a1_1)) = some r := h
 clear h
 have HC3 := Aside0.mk H
 clear H
 go_enter Try.func71, Try.ntmps71
 go_upto_region 1 with (first | ((with_reducible refine gate_dst (N := 3) rfl ?_); refine box_event ?hg (N := 3) ?hd (cs := #[.int .u64 a1_0, .int .u64 a1_1]) (t := 87) ?hr ?_; (case hd => rfl); (case hg => rfl); (case hr => first | (go_simp; done) | (go_simp; rfl)); intro gb102 hg w4 hbox hb; have BK102 := Aside0.mk hbox; have GW102 := ge hg HB; have GE102 := ge hg HB; replace HB := bh HB hb; clear hb hbox hg))
 repeat (go_quiet (first | ((with_reducible refine gate_dst (N := 3) rfl ?_); refine box_event ?hg (N := 3) ?hd (cs := #[.int .u64 a1_0, .int .u64 a1_1]) (t := 87) ?hr ?_; (case hd => rfl); (case hg => rfl); (case hr => first | (go_simp; done) | (go_simp; rfl)); intro gb102 hg w4 hbox hb; have BK102 := Aside0.mk hbox; have GW102 := ge hg HB; have GE102 := ge hg HB; replace HB := bh HB hb; clear hb hbox hg)); go_upto_region 1 with (first | ((with_reducible refine gate_dst (N := 3) rfl ?_); refine box_event ?hg (N := 3) ?hd (cs := #[.int .u64 a1_0, .int .u64 a1_1]) (t := 87) ?hr ?_; (case hd => rfl); (case hg => rfl); (case hr => first | (go_simp; done) | (go_simp; rfl)); intro gb102 hg w4 hbox hb; have BK102 := Aside0.mk hbox; have GW102 := ge hg HB; have GE102 := ge hg HB; replace HB := bh HB hb; clear hb hbox hg)))
 (try simp only [Act.put, List.setIfInBounds_toArray, List.set_cons_zero, List.set_cons_succ])
 go_cut [5] (fun v5 wc => ∃ (kq : Nat) (x5_2 : Bool), v5 = .bool x5_2 ∧ Aside0 (octet_Of.j0 kq a0 x5_2 a1_0 a1_1 = some r) ∧ Aside0 (kq ≤ k) ∧ Aside0 (wc.heap[gb102]? = some (.cells #[.int .u64 a1_0, .int .u64 a1_1] 87 (0, 0))) ∧ Aside0 (Below w.heap.size w wc))
 case first =>
  have H := HC3.out
  clear HC3
  by_cases c5 : a0 < 0
  ·rw [if_pos c5] at H
   have c5b0 : decide (a0 < 0) = true := decide_eq_true c5
   clear c5
   (first | rw [c5b0] | (simp only [i64_w, i32_w]; rw [c5b0]) | skip)
   have H' := Aside0.mk H
   clear H
   go_wp2
   repeat (go_quiet (fail); try go_wp2)
   go_meet
   case rel => exact ⟨_, (true), (by first | rfl | (simp; done) | (simp [*]; done)), H', ⟨by first | omega | exact Nat.le_refl _⟩, ⟨bk BK102.out⟩, ⟨bq HB.out⟩⟩
  ·rw [if_neg c5] at H
   have c5b0 : decide (a0 < 0) = false := decide_eq_false c5
   clear c5
   (first | rw [c5b0] | (simp only [i64_w, i32_w]; rw [c5b0]) | skip)
   have H' := Aside0.mk H
   clear H
   go_wp2
   repeat (go_quiet (fail); try go_wp2)
   go_meet
   case rel => exact ⟨_, (decide (a0 > 7)), (by first | rfl | (simp; done) | (simp [*]; done)), H', ⟨by first | omega | exact Nat.le_refl _⟩, ⟨bk BK102.out⟩, ⟨bq HB.out⟩⟩
 case rest =>
  clear HC3
  try clear p2
  try clear c5
  try clear c5b0
  obtain ⟨kq, x5_2, rfl, HA, HJ2, BK102, HB⟩ := hcut
  cases kq with
  | zero => exact absurd HA.out (by simp [octet_Of.j0])
  | succ kj2 =>
   have H := HA.out
   clear HA
   simp only [octet_Of.j0] at H
   by_cases c6 : x5_2 = true
   ·subst c6
    have H1 : (some false) = some r := by rw [if_pos rfl] at H; exact H
    clear H
    have H := H1
    clear H1
    obtain rfl := Option.some.inj H
    go_wp2
    repeat (go_quiet (fail); try go_wp2)
    go_ret
    exact ⟨by first | rfl | (simp [errW_none, errW_some] <;> rfl) | (simp [*, errW_none, errW_some] <;> rfl), bq HB.out⟩
   ·replace c6 := Bool.eq_false_iff.mpr c6
    subst c6
    have H1 : (if a0 = 7 then (some true) else (if a0 = 6 then (some (a1_0 == 0)) else (if a1_0 = 0 then (if 0 ≤ a0 then (some ((shr .u64 a1_1 (shl .u64 1 a0)) == 0)) else (none)) else (some false)))) = some r := by rw [if_neg (show ¬ (false = true) by decide)] at H; exact H
    clear H
    have H := H1
    clear H1
    by_cases c7 : a0 = 7
    ·rw [if_pos c7] at H
     have c7b0 : (a0 == 7) = true := beq_iff_eq.mpr c7
     have c7b1 : (a0 != 7) = false := bne_eq_false_iff_eq.mpr c7
     clear c7
     obtain rfl := Option.some.inj H
     go_wp2
     repeat (go_quiet (fail); try go_wp2)
     go_ret
     exact ⟨by first | rfl | (simp [errW_none, errW_some] <;> rfl) | (simp [*, errW_none, errW_some] <;> rfl), bq HB.out⟩
    ·rw [if_neg c7] at H
     have c7b0 : (a0 == 7) = false := beq_eq_false_iff_ne.mpr c7
     have c7b1 : (a0 != 7) = true := bne_iff_ne.mpr c7
     by_cases c8 : a0 = 6
     ·rw [if_pos c8] at H
      have c8b0 : (a0 == 6) = true := beq_iff_eq.mpr c8
      have c8b1 : (a0 != 6) = false := bne_eq_false_iff_eq.mpr c8
      clear c8
      obtain rfl := Option.some.inj H
      obtain ⟨hcz9_0, hcz9_1⟩ := zc2 BK102
      obtain ⟨hfz9_0, hfz9_1⟩ := zf2 BK102
      go_wp2
      repeat (go_quiet (fail); try go_wp2)
      go_ret
      exact ⟨by first | rfl | (simp [errW_none, errW_some] <;> rfl) | (simp [*, errW_none, errW_some] <;> rfl), bq HB.out⟩
     ·rw [if_neg c8] at H
      have c8b0 : (a0 == 6) = false := beq_eq_false_iff_ne.mpr c8
      have c8b1 : (a0 != 6) = true := bne_iff_ne.mpr c8
      by_cases c10 : a1_0 = 0
      ·rw [if_pos c10] at H
       have c10b0 : (a1_0 == 0) = true := beq_iff_eq.mpr c10
       have c10b1 : (a1_0 != 0) = false := bne_eq_false_iff_eq.mpr c10
       clear c10
       by_cases c11 : 0 ≤ a0
       ·rw [if_pos c11] at H
        have c11b0 := eq_true c11
        have c11b1 : decide (0 ≤ a0) = true := decide_eq_true c11
        clear c11
        obtain ⟨ji12, hji12⟩ : ∃ j_ : Int, (shl .u64 1 a0) = j_ := ⟨_, rfl⟩
        replace H : (some ((shr .u64 a1_1 (ji12)) == 0)) = some r := by first | (rw [hji12] at H; exact H) | (simp only [hji12] at H ⊢; exact H)
        have hji12_ : (IntKind.u64.wrap (1 * 2 ^ min a0.toNat 64)) = ji12 := hji12
        have hji12z : a0 ≤ 64 → (IntKind.u64.wrap (1 * 2 ^ a0.toNat)) = ji12 := shl_small hji12
        have hji12p0 := eq_true (show (0 : Int) ≤ ji12 by rw [← hji12_]; exact wrap_u64_nonneg _)
        have hji12p1 : decide (0 ≤ (ji12 : Int)) = true := decide_eq_true (of_eq_true hji12p0)
        have hji12u : (IntKind.u64.wrap (2 ^ min a0.toNat 64)) = ji12 := by have h_ := hji12_; rw [Int.one_mul] at h_; exact h_
        have hji12v : a0 ≤ 64 → (IntKind.u64.wrap (2 ^ a0.toNat)) = ji12 := fun hle_ => by have h_ := hji12z hle_; rw [Int.one_mul] at h_; exact h_
        obtain ⟨ji13, hji13⟩ : ∃ j_ : Int, (shr .u64 a1_1 (ji12)) = j_ := ⟨_, rfl⟩
        replace H : (some ((ji13) == 0)) = some r := by first | (rw [hji13] at H; exact H) | (simp only [hji13] at H ⊢; exact H)
        have hji13_ : (a1_1 / 2 ^ min (ji12).toNat 64) = ji13 := hji13
        have hji13z : (ji12) ≤ 64 → (a1_1 / 2 ^ (ji12).toNat) = ji13 := shr_small hji13
        obtain rfl := Option.some.inj H
        obtain ⟨hcz14_0, hcz14_1⟩ := zc2 BK102
        obtain ⟨hfz14_0, hfz14_1⟩ := zf2 BK102
        go_wp2
        repeat (go_quiet (fail); try go_wp2)
        go_ret
        exact ⟨by first | rfl | (simp [errW_none, errW_some] <;> rfl) | (simp only [← hji12, ← hji13]; first | rfl | (simp [errW_none, errW_some] <;> rfl)) | (simp [*, errW_none, errW_some] <;> rfl), bq HB.out⟩
       ·rw [if_neg c11] at H
        exact absurd H (by simp)
      ·rw [if_neg c10] at H
       have c10b0 : (a1_0 == 0) = false := beq_eq_false_iff_ne.mpr c10
       have c10b1 : (a1_0 != 0) = true := bne_iff_ne.mpr c10
       obtain rfl := Option.some.inj H
       obtain ⟨hcz15_0, hcz15_1⟩ := zc2 BK102
       obtain ⟨hfz15_0, hfz15_1⟩ := zf2 BK102
       go_wp2
       repeat (go_quiet (fail); try go_wp2)
       go_ret
       exact ⟨by first | rfl | (simp [errW_none, errW_some] <;> rfl) | (simp [*, errW_none, errW_some] <;> rfl), bq HB.out⟩

/-! ### tower_halves: function 90 -/
def tower_halves.f (a0 : Int) (a1 : Int) : Option (Int × Int) := if 0 ≤ (wrap64 (a0 - 1)) then (if 0 ≤ (shl .i64 1 (wrap64 (a0 - 1))) then (some (shr .u64 a1 (shl .i64 1 (wrap64 (a0 - 1))), Go.bits .and .u64 a1 (IntKind.u64.wrap ((shl .u64 1 (shl .i64 1 (wrap64 (a0 - 1)))) - 1)))) else (none)) else (none)
set_option maxHeartbeats 8000000 in
set_option maxRecDepth 100000 in
theorem tower_halves.calls (a0 : Int) (a1 : Int) (r1 : Int) (r2 : Int) (w : World) (h : tower_halves.f a0 a1 = some (r1, r2)) :
  Calls Try.prog 90 #[.int .i64 a0, .int .u64 a1] w fun e w' => e = .returned (.tuple #[.int .u64 r1, .int .u64 r2]) ∧ Drawn0 w w' := by
 have H : (if 0 ≤ (wrap64 (a0 - 1)) then (if 0 ≤ (shl .i64 1 (wrap64 (a0 - 1))) then (some (shr .u64 a1 (shl .i64 1 (wrap64 (a0 - 1))), Go.bits .and .u64 a1 (IntKind.u64.wrap ((shl .u64 1 (shl .i64 1 (wrap64 (a0 - 1)))) - 1)))) else (none)) else (none)) = some (r1, r2) := h
 clear h
 obtain ⟨ji3, hji3⟩ : ∃ j_ : Int, (wrap64 (a0 - 1)) = j_ := ⟨_, rfl⟩
 replace H : (if 0 ≤ (ji3) then (if 0 ≤ (shl .i64 1 (ji3)) then (some (shr .u64 a1 (shl .i64 1 (ji3)), Go.bits .and .u64 a1 (IntKind.u64.wrap ((shl .u64 1 (shl .i64 1 (ji3))) - 1)))) else (none)) else (none)) = some (r1, r2) := by first | (rw [hji3] at H; exact H) | (simp only [hji3] at H ⊢; exact H)
 have hji3w : (IntKind.i64.wrap (a0 - 1)) = ji3 := (i64_w _).trans hji3
 by_cases c4 : 0 ≤ (ji3)
 ·rw [if_pos c4] at H
  have c4b0 := eq_true c4
  have c4b1 : decide (0 ≤ (ji3)) = true := decide_eq_true c4
  clear c4
  obtain ⟨ji5, hji5⟩ : ∃ j_ : Int, (shl .i64 1 (ji3)) = j_ := ⟨_, rfl⟩
  replace H : (if 0 ≤ (ji5) then (some (shr .u64 a1 (ji5), Go.bits .and .u64 a1 (IntKind.u64.wrap ((shl .u64 1 (ji5)) - 1)))) else (none)) = some (r1, r2) := by first | (rw [hji5] at H; exact H) | (simp only [hji5] at H ⊢; exact H)
  have hji5_ : (IntKind.i64.wrap (1 * 2 ^ min (ji3).toNat 64)) = ji5 := hji5
  have hji5z : (ji3) ≤ 64 → (IntKind.i64.wrap (1 * 2 ^ (ji3).toNat)) = ji5 := shl_small hji5
  have hji5u : (IntKind.i64.wrap (2 ^ min (ji3).toNat 64)) = ji5 := by have h_ := hji5_; rw [Int.one_mul] at h_; exact h_
  have hji5v : (ji3) ≤ 64 → (IntKind.i64.wrap (2 ^ (ji3).toNat)) = ji5 := fun hle_ => by have h_ := hji5z hle_; rw [Int.one_mul] at h_; exact h_
  have hji5y : (wrap64 (1 * 2 ^ min (ji3).toNat 64)) = ji5 := (i64_w _).symm.trans hji5_
  have hji5x : (ji3) ≤ 64 → (wrap64 (1 * 2 ^ (ji3).toNat)) = ji5 := fun h_ => (i64_w _).symm.trans (hji5z h_)
  by_cases c6 : 0 ≤ (ji5)
  ·rw [if_pos c6] at H
   have c6b0 := eq_true c6
   have c6b1 : decide (0 ≤ (ji5)) = true := decide_eq_true c6
   clear c6
   obtain ⟨ji7, hji7⟩ : ∃ j_ : Int, (shr .u64 a1 (ji5)) = j_ := ⟨_, rfl⟩
   replace H : (some (ji7, Go.bits .and .u64 a1 (IntKind.u64.wrap ((shl .u64 1 (ji5)) - 1)))) = some (r1, r2) := by first | (rw [hji7] at H; exact H) | (simp only [hji7] at H ⊢; exact H)
   have hji7_ : (a1 / 2 ^ min (ji5).toNat 64) = ji7 := hji7
   have hji7z : (ji5) ≤ 64 → (a1 / 2 ^ (ji5).toNat) = ji7 := shr_small hji7
   have c8b0 := eq_true (of_decide_eq_true (by first | (with_reducible assumption) | assumption) : 0 ≤ (ji5))
   obtain ⟨ji9, hji9⟩ : ∃ j_ : Int, (shl .u64 1 (ji5)) = j_ := ⟨_, rfl⟩
   replace H : (some (ji7, Go.bits .and .u64 a1 (IntKind.u64.wrap ((ji9) - 1)))) = some (r1, r2) := by first | (rw [hji9] at H; exact H) | (simp only [hji9] at H ⊢; exact H)
   have hji9_ : (IntKind.u64.wrap (1 * 2 ^ min (ji5).toNat 64)) = ji9 := hji9
   have hji9z : (ji5) ≤ 64 → (IntKind.u64.wrap (1 * 2 ^ (ji5).toNat)) = ji9 := shl_small hji9
   have hji9p0 := eq_true (show (0 : Int) ≤ ji9 by rw [← hji9_]; exact wrap_u64_nonneg _)
   have hji9p1 : decide (0 ≤ (ji9 : Int)) = true := decide_eq_true (of_eq_true hji9p0)
   have hji9u : (IntKind.u64.wrap (2 ^ min (ji5).toNat 64)) = ji9 := by have h_ := hji9_; rw [Int.one_mul] at h_; exact h_
   have hji9v : (ji5) ≤ 64 → (IntKind.u64.wrap (2 ^ (ji5).toNat)) = ji9 := fun hle_ => by have h_ := hji9z hle_; rw [Int.one_mul] at h_; exact h_
   simp only [Option.some.injEq, Prod.mk.injEq] at H
   obtain ⟨rfl, rfl⟩ := H
   go_enter Try.func90, Try.ntmps90
   go_wp2
   repeat (go_quiet (fail); try go_wp2)
   go_ret2
   exact ⟨by first | rfl | (simp; done) | (simp only [← hji3, ← hji5, ← hji7, ← hji9] <;> (first | rfl | simp)) | (simp [*]; done), by repeat (first | exact Drawn0.refl _ | apply Drawn0.step)⟩
  ·rw [if_neg c6] at H
   exact absurd H (by simp)
 ·rw [if_neg c4] at H
  exact absurd H (by simp)

/-! ### tower_join: function 91 -/
def tower_join.f (a0 : Int) (a1 : Int) (a2 : Int) : Option (Int) := if 0 ≤ (wrap64 (a0 - 1)) then (some (Go.bits .or .u64 (shl .u64 a1 (shl .u64 1 (wrap64 (a0 - 1)))) a2)) else (none)
set_option maxHeartbeats 8000000 in
set_option maxRecDepth 100000 in
theorem tower_join.calls (a0 : Int) (a1 : Int) (a2 : Int) (r : Int) (w : World) (h : tower_join.f a0 a1 a2 = some r) :
  Calls Try.prog 91 #[.int .i64 a0, .int .u64 a1, .int .u64 a2] w fun e w' => e = .returned (.int .u64 r) ∧ Drawn0 w w' := by
 have H : (if 0 ≤ (wrap64 (a0 - 1)) then (some (Go.bits .or .u64 (shl .u64 a1 (shl .u64 1 (wrap64 (a0 - 1)))) a2)) else (none)) = some r := h
 clear h
 obtain ⟨ji4, hji4⟩ : ∃ j_ : Int, (wrap64 (a0 - 1)) = j_ := ⟨_, rfl⟩
 replace H : (if 0 ≤ (ji4) then (some (Go.bits .or .u64 (shl .u64 a1 (shl .u64 1 (ji4))) a2)) else (none)) = some r := by first | (rw [hji4] at H; exact H) | (simp only [hji4] at H ⊢; exact H)
 have hji4w : (IntKind.i64.wrap (a0 - 1)) = ji4 := (i64_w _).trans hji4
 by_cases c5 : 0 ≤ (ji4)
 ·rw [if_pos c5] at H
  have c5b0 := eq_true c5
  have c5b1 : decide (0 ≤ (ji4)) = true := decide_eq_true c5
  clear c5
  obtain ⟨ji6, hji6⟩ : ∃ j_ : Int, (shl .u64 1 (ji4)) = j_ := ⟨_, rfl⟩
  replace H : (some (Go.bits .or .u64 (shl .u64 a1 (ji6)) a2)) = some r := by first | (rw [hji6] at H; exact H) | (simp only [hji6] at H ⊢; exact H)
  have hji6_ : (IntKind.u64.wrap (1 * 2 ^ min (ji4).toNat 64)) = ji6 := hji6
  have hji6z : (ji4) ≤ 64 → (IntKind.u64.wrap (1 * 2 ^ (ji4).toNat)) = ji6 := shl_small hji6
  have hji6p0 := eq_true (show (0 : Int) ≤ ji6 by rw [← hji6_]; exact wrap_u64_nonneg _)
  have hji6p1 : decide (0 ≤ (ji6 : Int)) = true := decide_eq_true (of_eq_true hji6p0)
  have hji6u : (IntKind.u64.wrap (2 ^ min (ji4).toNat 64)) = ji6 := by have h_ := hji6_; rw [Int.one_mul] at h_; exact h_
  have hji6v : (ji4) ≤ 64 → (IntKind.u64.wrap (2 ^ (ji4).toNat)) = ji6 := fun hle_ => by have h_ := hji6z hle_; rw [Int.one_mul] at h_; exact h_
  obtain ⟨ji7, hji7⟩ : ∃ j_ : Int, (shl .u64 a1 (ji6)) = j_ := ⟨_, rfl⟩
  replace H : (some (Go.bits .or .u64 (ji7) a2)) = some r := by first | (rw [hji7] at H; exact H) | (simp only [hji7] at H ⊢; exact H)
  have hji7_ : (IntKind.u64.wrap (a1 * 2 ^ min (ji6).toNat 64)) = ji7 := hji7
  have hji7z : (ji6) ≤ 64 → (IntKind.u64.wrap (a1 * 2 ^ (ji6).toNat)) = ji7 := shl_small hji7
  have hji7p0 := eq_true (show (0 : Int) ≤ ji7 by rw [← hji7_]; exact wrap_u64_nonneg _)
  have hji7p1 : decide (0 ≤ (ji7 : Int)) = true := decide_eq_true (of_eq_true hji7p0)
  obtain rfl := Option.some.inj H
  go_enter Try.func91, Try.ntmps91
  go_wp2
  go_ret
  exact ⟨by first | rfl | (simp; done) | (simp only [← hji4, ← hji6, ← hji7] <;> (first | rfl | simp)) | (simp [*]; done), by repeat (first | exact Drawn0.refl _ | apply Drawn0.step)⟩
 ·rw [if_neg c5] at H
  exact absurd H (by simp)

/-! ### tower_mulX: function 73 -/
def tower_mulX.f : Nat → Int → Int → Option (Int)
 | 0, _, _ => none
 | k + 1, a0, a1 => if a0 = 0 then (some a1) else ((tower_halves.f a0 a1).bind fun bt103 => ((tower_mulX.f k (wrap64 (a0 - 1)) bt103.1).bind fun t105 => ((tower_join.f a0 (Go.bits .xor .u64 bt103.2 t105) bt103.1).bind fun t106 => (some t106))))
theorem tower_mulX.mono_l : ∀ k, (∀ y0 y1, LeO (tower_mulX.f k y0 y1) (tower_mulX.f (k + 1) y0 y1))
 | 0 => fun _ _ r h => by simp [tower_mulX.f] at h
 | k + 1 => by
  have ih0 := tower_mulX.mono_l k
  ·intro y0 y1
   unfold tower_mulX.f
   repeat' first
   | (with_reducible exact ih0 _ _)
   | (with_reducible exact LeO.refl _)
   | (with_reducible exact LeO.none _)
   | (with_reducible refine LeO.ite ?_ ?_)
   | (with_reducible refine LeO.bind ?_ (fun _ => ?_))
   | exact ih0 _ _
   | exact LeO.none _
   | refine LeO.ite ?_ ?_
   | refine LeO.bind ?_ (fun _ => ?_)
theorem tower_mulX.mono : ∀ a0 a1 k, LeO (tower_mulX.f k a0 a1) (tower_mulX.f (k + 1) a0 a1) := by
 intro a0 a1 k
 have ih0 := tower_mulX.mono_l k
 exact ih0 a0 a1
set_option maxHeartbeats 8000000 in
set_option maxRecDepth 100000 in
theorem tower_mulX.calls (k : Nat) : ∀ (a0 : Int) (a1 : Int) (r : Int) (w : World) (h : tower_mulX.f k a0 a1 = some r),
  Calls Try.prog 73 #[.int .i64 a0, .int .u64 a1] w fun e w' => e = .returned (.int .u64 r) ∧ Drawn0 w w' := by
 induction k using Nat.strongRecOn with
 | _ k ih =>
 intro a0 a1 r w h
 cases k with
 | zero => exact absurd h (by simp [tower_mulX.f])
 | succ k =>
 simp only [tower_mulX.f] at h
 have H : (if a0 = 0 then (some a1) else ((tower_halves.f a0 a1).bind fun bt103 => ((tower_mulX.f k (wrap64 (a0 - 1)) bt103.1).bind fun t105 => ((tower_join.f a0 (Go.bits .xor .u64 bt103.2 t105) bt103.1).bind fun t106 => (some t106))))) = some r := h
 clear h
 by_cases c3 : a0 = 0
 ·rw [if_pos c3] at H
  have c3b0 : (a0 == 0) = true := beq_iff_eq.mpr c3
  have c3b1 : (a0 != 0) = false := bne_eq_false_iff_eq.mpr c3
  clear c3
  obtain rfl := Option.some.inj H
  go_enter Try.func73, Try.ntmps73
  go_wp2
  go_ret
  exact ⟨by first | rfl | (simp; done) | (simp [*]; done), by repeat (first | exact Drawn0.refl _ | apply Drawn0.step)⟩
 ·rw [if_neg c3] at H
  have c3b0 : (a0 == 0) = false := beq_eq_false_iff_ne.mpr c3
  have c3b1 : (a0 != 0) = true := bne_iff_ne.mpr c3
  replace H := Option.bind_eq_some_iff.mp H
  obtain ⟨⟨t103, t104⟩, A40, H⟩ := H
  replace H : ((tower_mulX.f k (wrap64 (a0 - 1)) t103).bind fun t105 => ((tower_join.f a0 (Go.bits .xor .u64 t104 t105) t103).bind fun t106 => (some t106))) = some r := H
  have A4 := Aside0.mk A40
  clear A40
  replace H := Option.bind_eq_some_iff.mp H
  obtain ⟨t105, A50, H⟩ := H
  replace H : ((tower_join.f a0 (Go.bits .xor .u64 t104 t105) t103).bind fun t106 => (some t106)) = some r := H
  have A5 := Aside0.mk A50
  clear A50
  replace H := Option.bind_eq_some_iff.mp H
  obtain ⟨t106, A60, H⟩ := H
  replace H : (some t106) = some r := H
  have A6 := Aside0.mk A60
  clear A60
  obtain rfl := Option.some.inj H
  go_enter Try.func73, Try.ntmps73
  go_wp2_with (first | ((with_reducible refine gate_callee (f := 90) rfl ?_); refine goesL_ (some 13) rfl rfl Try.func90 (by kernel_rfl) rfl #[.int .i64 a0, .int .u64 a1] rfl (by (try simp only [List.map_toArray, List.map_cons, List.map_nil]); first | done | rfl | (simp only [List.length_drop, List.length_take]; rfl)) ?_; (with_reducible refine (tower_halves.calls a0 a1 t103 t104 _ A4.out).mono ?_); rintro e w' ⟨rfl, ⟨nd, rfl⟩⟩; refine ⟨_, rfl, ?_⟩) | ((with_reducible refine gate_callee (f := 73) rfl ?_); refine goesL_ (some 21) rfl rfl Try.func73 (by kernel_rfl) rfl #[.int .i64 (wrap64 (a0 - 1)), .int .u64 t103] rfl (by (try simp only [List.map_toArray, List.map_cons, List.map_nil]); first | done | rfl | (simp only [List.length_drop, List.length_take]; rfl)) ?_; (with_reducible refine (ih k (by omega) (wrap64 (a0 - 1)) t103 t105 _ A5.out).mono ?_); rintro e w' ⟨rfl, ⟨nd, rfl⟩⟩; refine ⟨_, rfl, ?_⟩) | ((with_reducible refine gate_callee (f := 91) rfl ?_); refine goesL_ (some 24) rfl rfl Try.func91 (by kernel_rfl) rfl #[.int .i64 a0, .int .u64 (Go.bits .xor .u64 t104 t105), .int .u64 t103] rfl (by (try simp only [List.map_toArray, List.map_cons, List.map_nil]); first | done | rfl | (simp only [List.length_drop, List.length_take]; rfl)) ?_; (with_reducible refine (tower_join.calls a0 (Go.bits .xor .u64 t104 t105) t103 t106 _ A6.out).mono ?_); rintro e w' ⟨rfl, ⟨nd, rfl⟩⟩; refine ⟨_, rfl, ?_⟩))
  go_ret
  exact ⟨by first | rfl | (simp; done) | (simp [*]; done), by repeat (first | exact Drawn0.refl _ | apply Drawn0.step)⟩

/-! ### tower_mul: function 74 -/
mutual
def tower_mul.j0 : Nat → Int → Int → Int → Bool → Option (Int)
 | 0, _, _, _, _ => none
 | k + 1, x0, x1, x2, x23 => if x23 = true then (some (Go.bits .and .u64 (Go.bits .and .u64 x1 x2) 1)) else ((tower_halves.f x0 x1).bind fun bt107 => ((tower_halves.f x0 x2).bind fun bt109 => ((tower_mul.f k (wrap64 (x0 - 1)) bt107.1 bt109.1).bind fun t111 => ((tower_mul.f k (wrap64 (x0 - 1)) bt107.2 bt109.2).bind fun t112 => ((tower_mul.f k (wrap64 (x0 - 1)) (Go.bits .xor .u64 bt107.1 bt107.2) (Go.bits .xor .u64 bt109.1 bt109.2)).bind fun t113 => ((tower_mulX.f k (wrap64 (x0 - 1)) t111).bind fun t114 => ((tower_join.f x0 (Go.bits .xor .u64 (Go.bits .xor .u64 (Go.bits .xor .u64 t113 t111) t112) t114) (Go.bits .xor .u64 t112 t111)).bind fun t115 => (some t115))))))))
def tower_mul.f : Nat → Int → Int → Int → Option (Int)
 | 0, _, _, _ => none
 | k + 1, a0, a1, a2 => if a0 = 0 then (tower_mul.j0 k a0 a1 a2 true) else (if a1 = 0 then (tower_mul.j0 k a0 a1 a2 true) else (tower_mul.j0 k a0 a1 a2 (a2 == 0)))
end
theorem tower_mul.mono_l : ∀ k, (∀ y0 y1 y2, LeO (tower_mul.f k y0 y1 y2) (tower_mul.f (k + 1) y0 y1 y2)) ∧ (∀ y0 y1 y2 y3, LeO (tower_mul.j0 k y0 y1 y2 y3) (tower_mul.j0 (k + 1) y0 y1 y2 y3))
 | 0 => ⟨fun _ _ _ r h => by simp [tower_mul.f] at h, fun _ _ _ _ r h => by simp [tower_mul.j0] at h⟩
 | k + 1 => by
  obtain ⟨ih0, ih1⟩ := tower_mul.mono_l k
  refine ⟨?_, ?_⟩
  ·intro y0 y1 y2
   unfold tower_mul.f
   repeat' first
   | (with_reducible exact ih0 _ _ _)
   | (with_reducible exact ih1 _ _ _ _)
   | (with_reducible exact tower_mulX.mono _ _ _)
   | (with_reducible exact LeO.refl _)
   | (with_reducible exact LeO.none _)
   | (with_reducible refine LeO.ite ?_ ?_)
   | (with_reducible refine LeO.bind ?_ (fun _ => ?_))
   | exact ih0 _ _ _
   | exact ih1 _ _ _ _
   | exact tower_mulX.mono _ _ _
   | exact LeO.none _
   | refine LeO.ite ?_ ?_
   | refine LeO.bind ?_ (fun _ => ?_)
  ·intro y0 y1 y2 y3
   unfold tower_mul.j0
   repeat' first
   | (with_reducible exact ih0 _ _ _)
   | (with_reducible exact ih1 _ _ _ _)
   | (with_reducible exact tower_mulX.mono _ _ _)
   | (with_reducible exact LeO.refl _)
   | (with_reducible exact LeO.none _)
   | (with_reducible refine LeO.ite ?_ ?_)
   | (with_reducible refine LeO.bind ?_ (fun _ => ?_))
   | exact ih0 _ _ _
   | exact ih1 _ _ _ _
   | exact tower_mulX.mono _ _ _
   | exact LeO.none _
   | refine LeO.ite ?_ ?_
   | refine LeO.bind ?_ (fun _ => ?_)
theorem tower_mul.mono : ∀ a0 a1 a2 k, LeO (tower_mul.f k a0 a1 a2) (tower_mul.f (k + 1) a0 a1 a2) := by
 intro a0 a1 a2 k
 obtain ⟨ih0, ih1⟩ := tower_mul.mono_l k
 exact ih0 a0 a1 a2
set_option maxHeartbeats 8000000 in
set_option maxRecDepth 100000 in
theorem tower_mul.calls (k : Nat) : ∀ (a0 : Int) (a1 : Int) (a2 : Int) (r : Int) (w : World) (h : tower_mul.f k a0 a1 a2 = some r),
  Calls Try.prog 74 #[.int .i64 a0, .int .u64 a1, .int .u64 a2] w fun e w' => e = .returned (.int .u64 r) ∧ Drawn0 w w' := by
 induction k using Nat.strongRecOn with
 | _ k ih =>
 intro a0 a1 a2 r w h
 cases k with
 | zero => exact absurd h (by simp [tower_mul.f])
 | succ k =>
 simp only [tower_mul.f] at h
 have H : (if a0 = 0 then (tower_mul.j0 k a0 a1 a2 true) else (if a1 = 0 then (tower_mul.j0 k a0 a1 a2 true) else (tower_mul.j0 k a0 a1 a2 (a2 == 0)))) = some r := h
 clear h
 have HC4 := Aside0.mk H
 clear H
 go_enter Try.func74, Try.ntmps74
 go_upto_region 1 with (fail)
 go_cut [23] (fun v23 wc => ∃ (kq : Nat) (x23_3 : Bool), v23 = .bool x23_3 ∧ Aside0 (tower_mul.j0 kq a0 a1 a2 x23_3 = some r) ∧ Aside0 (kq ≤ k) ∧ Drawn0 w wc)
 case first =>
  have H := HC4.out
  clear HC4
  by_cases c5 : a0 = 0
  ·rw [if_pos c5] at H
   have c5b0 : (a0 == 0) = true := beq_iff_eq.mpr c5
   have c5b1 : (a0 != 0) = false := bne_eq_false_iff_eq.mpr c5
   clear c5
   (first | rw [c5b0] | (simp only [i64_w, i32_w]; rw [c5b0]) | skip)
   have H' := Aside0.mk H
   clear H
   go_wp2
   go_meet
   case rel => exact ⟨_, (true), (by first | rfl | (simp; done) | (simp [*]; done)), H', ⟨by first | omega | exact Nat.le_refl _⟩, by repeat (first | exact Drawn0.refl _ | apply Drawn0.step)⟩
  ·rw [if_neg c5] at H
   have c5b0 : (a0 == 0) = false := beq_eq_false_iff_ne.mpr c5
   have c5b1 : (a0 != 0) = true := bne_iff_ne.mpr c5
   (first | rw [c5b0] | (simp only [i64_w, i32_w]; rw [c5b0]) | skip)
   by_cases c6 : a1 = 0
   ·rw [if_pos c6] at H
    have c6b0 : (a1 == 0) = true := beq_iff_eq.mpr c6
    have c6b1 : (a1 != 0) = false := bne_eq_false_iff_eq.mpr c6
    clear c6
    have H' := Aside0.mk H
    clear H
    go_wp2
    go_meet
    case rel => exact ⟨_, (true), (by first | rfl | (simp; done) | (simp [*]; done)), H', ⟨by first | omega | exact Nat.le_refl _⟩, by repeat (first | exact Drawn0.refl _ | apply Drawn0.step)⟩
   ·rw [if_neg c6] at H
    have c6b0 : (a1 == 0) = false := beq_eq_false_iff_ne.mpr c6
    have c6b1 : (a1 != 0) = true := bne_iff_ne.mpr c6
    have H' := Aside0.mk H
    clear H
    go_wp2
    go_meet
    case rel => exact ⟨_, ((a2 == 0)), (by first | rfl | (simp; done) | (simp [*]; done)), H', ⟨by first | omega | exact Nat.le_refl _⟩, by repeat (first | exact Drawn0.refl _ | apply Drawn0.step)⟩
 case rest =>
  clear HC4
  try clear p2
  try clear c5
  try clear c5b0
  try clear c5b1
  try clear c6
  try clear c6b0
  try clear c6b1
  obtain ⟨kq, x23_3, rfl, HA, HJ3, ⟨mc3, rfl⟩⟩ := hcut
  cases kq with
  | zero => exact absurd HA.out (by simp [tower_mul.j0])
  | succ kj3 =>
   have H := HA.out
   clear HA
   simp only [tower_mul.j0] at H
   by_cases c7 : x23_3 = true
   ·subst c7
    have H1 : (some (Go.bits .and .u64 (Go.bits .and .u64 a1 a2) 1)) = some r := by rw [if_pos rfl] at H; exact H
    clear H
    have H := H1
    clear H1
    obtain rfl := Option.some.inj H
    go_wp2
    go_ret
    exact ⟨by first | rfl | (simp; done) | (simp [*]; done), by repeat (first | exact Drawn0.refl _ | apply Drawn0.step)⟩
   ·replace c7 := Bool.eq_false_iff.mpr c7
    subst c7
    have H1 : ((tower_halves.f a0 a1).bind fun bt107 => ((tower_halves.f a0 a2).bind fun bt109 => ((tower_mul.f kj3 (wrap64 (a0 - 1)) bt107.1 bt109.1).bind fun t111 => ((tower_mul.f kj3 (wrap64 (a0 - 1)) bt107.2 bt109.2).bind fun t112 => ((tower_mul.f kj3 (wrap64 (a0 - 1)) (Go.bits .xor .u64 bt107.1 bt107.2) (Go.bits .xor .u64 bt109.1 bt109.2)).bind fun t113 => ((tower_mulX.f kj3 (wrap64 (a0 - 1)) t111).bind fun t114 => ((tower_join.f a0 (Go.bits .xor .u64 (Go.bits .xor .u64 (Go.bits .xor .u64 t113 t111) t112) t114) (Go.bits .xor .u64 t112 t111)).bind fun t115 => (some t115)))))))) = some r := by rw [if_neg (show ¬ (false = true) by decide)] at H; exact H
    clear H
    have H := H1
    clear H1
    replace H := Option.bind_eq_some_iff.mp H
    obtain ⟨⟨t107, t108⟩, A80, H⟩ := H
    replace H : ((tower_halves.f a0 a2).bind fun bt109 => ((tower_mul.f kj3 (wrap64 (a0 - 1)) t107 bt109.1).bind fun t111 => ((tower_mul.f kj3 (wrap64 (a0 - 1)) t108 bt109.2).bind fun t112 => ((tower_mul.f kj3 (wrap64 (a0 - 1)) (Go.bits .xor .u64 t107 t108) (Go.bits .xor .u64 bt109.1 bt109.2)).bind fun t113 => ((tower_mulX.f kj3 (wrap64 (a0 - 1)) t111).bind fun t114 => ((tower_join.f a0 (Go.bits .xor .u64 (Go.bits .xor .u64 (Go.bits .xor .u64 t113 t111) t112) t114) (Go.bits .xor .u64 t112 t111)).bind fun t115 => (some t115))))))) = some r := H
    have A8 := Aside0.mk A80
    clear A80
    replace H := Option.bind_eq_some_iff.mp H
    obtain ⟨⟨t109, t110⟩, A90, H⟩ := H
    replace H : ((tower_mul.f kj3 (wrap64 (a0 - 1)) t107 t109).bind fun t111 => ((tower_mul.f kj3 (wrap64 (a0 - 1)) t108 t110).bind fun t112 => ((tower_mul.f kj3 (wrap64 (a0 - 1)) (Go.bits .xor .u64 t107 t108) (Go.bits .xor .u64 t109 t110)).bind fun t113 => ((tower_mulX.f kj3 (wrap64 (a0 - 1)) t111).bind fun t114 => ((tower_join.f a0 (Go.bits .xor .u64 (Go.bits .xor .u64 (Go.bits .xor .u64 t113 t111) t112) t114) (Go.bits .xor .u64 t112 t111)).bind fun t115 => (some t115)))))) = some r := H
    have A9 := Aside0.mk A90
    clear A90
    replace H := Option.bind_eq_some_iff.mp H
    obtain ⟨t111, A100, H⟩ := H
    replace H : ((tower_mul.f kj3 (wrap64 (a0 - 1)) t108 t110).bind fun t112 => ((tower_mul.f kj3 (wrap64 (a0 - 1)) (Go.bits .xor .u64 t107 t108) (Go.bits .xor .u64 t109 t110)).bind fun t113 => ((tower_mulX.f kj3 (wrap64 (a0 - 1)) t111).bind fun t114 => ((tower_join.f a0 (Go.bits .xor .u64 (Go.bits .xor .u64 (Go.bits .xor .u64 t113 t111) t112) t114) (Go.bits .xor .u64 t112 t111)).bind fun t115 => (some t115))))) = some r := H
    have A10 := Aside0.mk A100
    clear A100
    replace H := Option.bind_eq_some_iff.mp H
    obtain ⟨t112, A110, H⟩ := H
    replace H : ((tower_mul.f kj3 (wrap64 (a0 - 1)) (Go.bits .xor .u64 t107 t108) (Go.bits .xor .u64 t109 t110)).bind fun t113 => ((tower_mulX.f kj3 (wrap64 (a0 - 1)) t111).bind fun t114 => ((tower_join.f a0 (Go.bits .xor .u64 (Go.bits .xor .u64 (Go.bits .xor .u64 t113 t111) t112) t114) (Go.bits .xor .u64 t112 t111)).bind fun t115 => (some t115)))) = some r := H
    have A11 := Aside0.mk A110
    clear A110
    replace H := Option.bind_eq_some_iff.mp H
    obtain ⟨t113, A120, H⟩ := H
    replace H : ((tower_mulX.f kj3 (wrap64 (a0 - 1)) t111).bind fun t114 => ((tower_join.f a0 (Go.bits .xor .u64 (Go.bits .xor .u64 (Go.bits .xor .u64 t113 t111) t112) t114) (Go.bits .xor .u64 t112 t111)).bind fun t115 => (some t115))) = some r := H
    have A12 := Aside0.mk A120
    clear A120
    replace H := Option.bind_eq_some_iff.mp H
    obtain ⟨t114, A130, H⟩ := H
    replace H : ((tower_join.f a0 (Go.bits .xor .u64 (Go.bits .xor .u64 (Go.bits .xor .u64 t113 t111) t112) t114) (Go.bits .xor .u64 t112 t111)).bind fun t115 => (some t115)) = some r := H
    have A13 := Aside0.mk A130
    clear A130
    replace H := Option.bind_eq_some_iff.mp H
    obtain ⟨t115, A140, H⟩ := H
    replace H : (some t115) = some r := H
    have A14 := Aside0.mk A140
    clear A140
    obtain rfl := Option.some.inj H
    go_wp2_with (first | ((with_reducible refine gate_callee (f := 90) rfl ?_); refine goesL_ (some 31) rfl rfl Try.func90 (by kernel_rfl) rfl #[.int .i64 a0, .int .u64 a1] rfl (by (try simp only [List.map_toArray, List.map_cons, List.map_nil]); first | done | rfl | (simp only [List.length_drop, List.length_take]; rfl)) ?_; (with_reducible refine (tower_halves.calls a0 a1 t107 t108 _ A8.out).mono ?_); rintro e w' ⟨rfl, ⟨nd, rfl⟩⟩; refine ⟨_, rfl, ?_⟩) | ((with_reducible refine gate_callee (f := 90) rfl ?_); refine goesL_ (some 37) rfl rfl Try.func90 (by kernel_rfl) rfl #[.int .i64 a0, .int .u64 a2] rfl (by (try simp only [List.map_toArray, List.map_cons, List.map_nil]); first | done | rfl | (simp only [List.length_drop, List.length_take]; rfl)) ?_; (with_reducible refine (tower_halves.calls a0 a2 t109 t110 _ A9.out).mono ?_); rintro e w' ⟨rfl, ⟨nd, rfl⟩⟩; refine ⟨_, rfl, ?_⟩) | ((with_reducible refine gate_callee (f := 74) rfl ?_); refine goesL_ (some 44) rfl rfl Try.func74 (by kernel_rfl) rfl #[.int .i64 (wrap64 (a0 - 1)), .int .u64 t107, .int .u64 t109] rfl (by (try simp only [List.map_toArray, List.map_cons, List.map_nil]); first | done | rfl | (simp only [List.length_drop, List.length_take]; rfl)) ?_; (with_reducible refine (ih kj3 (by have := HJ3.out; omega) (wrap64 (a0 - 1)) t107 t109 t111 _ A10.out).mono ?_); rintro e w' ⟨rfl, ⟨nd, rfl⟩⟩; refine ⟨_, rfl, ?_⟩) | ((with_reducible refine gate_callee (f := 74) rfl ?_); refine goesL_ (some 49) rfl rfl Try.func74 (by kernel_rfl) rfl #[.int .i64 (wrap64 (a0 - 1)), .int .u64 t108, .int .u64 t110] rfl (by (try simp only [List.map_toArray, List.map_cons, List.map_nil]); first | done | rfl | (simp only [List.length_drop, List.length_take]; rfl)) ?_; (with_reducible refine (ih kj3 (by have := HJ3.out; omega) (wrap64 (a0 - 1)) t108 t110 t112 _ A11.out).mono ?_); rintro e w' ⟨rfl, ⟨nd, rfl⟩⟩; refine ⟨_, rfl, ?_⟩) | ((with_reducible refine gate_callee (f := 74) rfl ?_); refine goesL_ (some 58) rfl rfl Try.func74 (by kernel_rfl) rfl #[.int .i64 (wrap64 (a0 - 1)), .int .u64 (Go.bits .xor .u64 t107 t108), .int .u64 (Go.bits .xor .u64 t109 t110)] rfl (by (try simp only [List.map_toArray, List.map_cons, List.map_nil]); first | done | rfl | (simp only [List.length_drop, List.length_take]; rfl)) ?_; (with_reducible refine (ih kj3 (by have := HJ3.out; omega) (wrap64 (a0 - 1)) (Go.bits .xor .u64 t107 t108) (Go.bits .xor .u64 t109 t110) t113 _ A12.out).mono ?_); rintro e w' ⟨rfl, ⟨nd, rfl⟩⟩; refine ⟨_, rfl, ?_⟩) | ((with_reducible refine gate_callee (f := 73) rfl ?_); refine goesL_ (some 68) rfl rfl Try.func73 (by kernel_rfl) rfl #[.int .i64 (wrap64 (a0 - 1)), .int .u64 t111] rfl (by (try simp only [List.map_toArray, List.map_cons, List.map_nil]); first | done | rfl | (simp only [List.length_drop, List.length_take]; rfl)) ?_; (with_reducible refine (tower_mulX.calls kj3 (wrap64 (a0 - 1)) t111 t114 _ A13.out).mono ?_); rintro e w' ⟨rfl, ⟨nd, rfl⟩⟩; refine ⟨_, rfl, ?_⟩) | ((with_reducible refine gate_callee (f := 91) rfl ?_); refine goesL_ (some 73) rfl rfl Try.func91 (by kernel_rfl) rfl #[.int .i64 a0, .int .u64 (Go.bits .xor .u64 (Go.bits .xor .u64 (Go.bits .xor .u64 t113 t111) t112) t114), .int .u64 (Go.bits .xor .u64 t112 t111)] rfl (by (try simp only [List.map_toArray, List.map_cons, List.map_nil]); first | done | rfl | (simp only [List.length_drop, List.length_take]; rfl)) ?_; (with_reducible refine (tower_join.calls a0 (Go.bits .xor .u64 (Go.bits .xor .u64 (Go.bits .xor .u64 t113 t111) t112) t114) (Go.bits .xor .u64 t112 t111) t115 _ A14.out).mono ?_); rintro e w' ⟨rfl, ⟨nd, rfl⟩⟩; refine ⟨_, rfl, ?_⟩))
    go_ret
    exact ⟨by first | rfl | (simp; done) | (simp [*]; done), by repeat (first | exact Drawn0.refl _ | apply Drawn0.step)⟩

/-! ### tower_square: function 75 -/
def tower_square.f : Nat → Int → Int → Option (Int)
 | 0, _, _ => none
 | k + 1, a0, a1 => if a0 = 0 then (some a1) else ((tower_halves.f a0 a1).bind fun bt116 => ((tower_square.f k (wrap64 (a0 - 1)) bt116.1).bind fun t118 => ((tower_mulX.f k (wrap64 (a0 - 1)) t118).bind fun t119 => ((tower_square.f k (wrap64 (a0 - 1)) bt116.2).bind fun t120 => ((tower_join.f a0 t119 (Go.bits .xor .u64 t120 t118)).bind fun t121 => (some t121))))))
theorem tower_square.mono_l : ∀ k, (∀ y0 y1, LeO (tower_square.f k y0 y1) (tower_square.f (k + 1) y0 y1))
 | 0 => fun _ _ r h => by simp [tower_square.f] at h
 | k + 1 => by
  have ih0 := tower_square.mono_l k
  ·intro y0 y1
   unfold tower_square.f
   repeat' first
   | (with_reducible exact ih0 _ _)
   | (with_reducible exact tower_mulX.mono _ _ _)
   | (with_reducible exact LeO.refl _)
   | (with_reducible exact LeO.none _)
   | (with_reducible refine LeO.ite ?_ ?_)
   | (with_reducible refine LeO.bind ?_ (fun _ => ?_))
   | exact ih0 _ _
   | exact tower_mulX.mono _ _ _
   | exact LeO.none _
   | refine LeO.ite ?_ ?_
   | refine LeO.bind ?_ (fun _ => ?_)
theorem tower_square.mono : ∀ a0 a1 k, LeO (tower_square.f k a0 a1) (tower_square.f (k + 1) a0 a1) := by
 intro a0 a1 k
 have ih0 := tower_square.mono_l k
 exact ih0 a0 a1
set_option maxHeartbeats 8000000 in
set_option maxRecDepth 100000 in
theorem tower_square.calls (k : Nat) : ∀ (a0 : Int) (a1 : Int) (r : Int) (w : World) (h : tower_square.f k a0 a1 = some r),
  Calls Try.prog 75 #[.int .i64 a0, .int .u64 a1] w fun e w' => e = .returned (.int .u64 r) ∧ Drawn0 w w' := by
 induction k using Nat.strongRecOn with
 | _ k ih =>
 intro a0 a1 r w h
 cases k with
 | zero => exact absurd h (by simp [tower_square.f])
 | succ k =>
 simp only [tower_square.f] at h
 have H : (if a0 = 0 then (some a1) else ((tower_halves.f a0 a1).bind fun bt116 => ((tower_square.f k (wrap64 (a0 - 1)) bt116.1).bind fun t118 => ((tower_mulX.f k (wrap64 (a0 - 1)) t118).bind fun t119 => ((tower_square.f k (wrap64 (a0 - 1)) bt116.2).bind fun t120 => ((tower_join.f a0 t119 (Go.bits .xor .u64 t120 t118)).bind fun t121 => (some t121))))))) = some r := h
 clear h
 by_cases c3 : a0 = 0
 ·rw [if_pos c3] at H
  have c3b0 : (a0 == 0) = true := beq_iff_eq.mpr c3
  have c3b1 : (a0 != 0) = false := bne_eq_false_iff_eq.mpr c3
  clear c3
  obtain rfl := Option.some.inj H
  go_enter Try.func75, Try.ntmps75
  go_wp2
  go_ret
  exact ⟨by first | rfl | (simp; done) | (simp [*]; done), by repeat (first | exact Drawn0.refl _ | apply Drawn0.step)⟩
 ·rw [if_neg c3] at H
  have c3b0 : (a0 == 0) = false := beq_eq_false_iff_ne.mpr c3
  have c3b1 : (a0 != 0) = true := bne_iff_ne.mpr c3
  replace H := Option.bind_eq_some_iff.mp H
  obtain ⟨⟨t116, t117⟩, A40, H⟩ := H
  replace H : ((tower_square.f k (wrap64 (a0 - 1)) t116).bind fun t118 => ((tower_mulX.f k (wrap64 (a0 - 1)) t118).bind fun t119 => ((tower_square.f k (wrap64 (a0 - 1)) t117).bind fun t120 => ((tower_join.f a0 t119 (Go.bits .xor .u64 t120 t118)).bind fun t121 => (some t121))))) = some r := H
  have A4 := Aside0.mk A40
  clear A40
  replace H := Option.bind_eq_some_iff.mp H
  obtain ⟨t118, A50, H⟩ := H
  replace H : ((tower_mulX.f k (wrap64 (a0 - 1)) t118).bind fun t119 => ((tower_square.f k (wrap64 (a0 - 1)) t117).bind fun t120 => ((tower_join.f a0 t119 (Go.bits .xor .u64 t120 t118)).bind fun t121 => (some t121)))) = some r := H
  have A5 := Aside0.mk A50
  clear A50
  replace H := Option.bind_eq_some_iff.mp H
  obtain ⟨t119, A60, H⟩ := H
  replace H : ((tower_square.f k (wrap64 (a0 - 1)) t117).bind fun t120 => ((tower_join.f a0 t119 (Go.bits .xor .u64 t120 t118)).bind fun t121 => (some t121))) = some r := H
  have A6 := Aside0.mk A60
  clear A60
  replace H := Option.bind_eq_some_iff.mp H
  obtain ⟨t120, A70, H⟩ := H
  replace H : ((tower_join.f a0 t119 (Go.bits .xor .u64 t120 t118)).bind fun t121 => (some t121)) = some r := H
  have A7 := Aside0.mk A70
  clear A70
  replace H := Option.bind_eq_some_iff.mp H
  obtain ⟨t121, A80, H⟩ := H
  replace H : (some t121) = some r := H
  have A8 := Aside0.mk A80
  clear A80
  obtain rfl := Option.some.inj H
  go_enter Try.func75, Try.ntmps75
  go_wp2_with (first | ((with_reducible refine gate_callee (f := 90) rfl ?_); refine goesL_ (some 14) rfl rfl Try.func90 (by kernel_rfl) rfl #[.int .i64 a0, .int .u64 a1] rfl (by (try simp only [List.map_toArray, List.map_cons, List.map_nil]); first | done | rfl | (simp only [List.length_drop, List.length_take]; rfl)) ?_; (with_reducible refine (tower_halves.calls a0 a1 t116 t117 _ A4.out).mono ?_); rintro e w' ⟨rfl, ⟨nd, rfl⟩⟩; refine ⟨_, rfl, ?_⟩) | ((with_reducible refine gate_callee (f := 75) rfl ?_); refine goesL_ (some 20) rfl rfl Try.func75 (by kernel_rfl) rfl #[.int .i64 (wrap64 (a0 - 1)), .int .u64 t116] rfl (by (try simp only [List.map_toArray, List.map_cons, List.map_nil]); first | done | rfl | (simp only [List.length_drop, List.length_take]; rfl)) ?_; (with_reducible refine (ih k (by omega) (wrap64 (a0 - 1)) t116 t118 _ A5.out).mono ?_); rintro e w' ⟨rfl, ⟨nd, rfl⟩⟩; refine ⟨_, rfl, ?_⟩) | ((with_reducible refine gate_callee (f := 73) rfl ?_); refine goesL_ (some 25) rfl rfl Try.func73 (by kernel_rfl) rfl #[.int .i64 (wrap64 (a0 - 1)), .int .u64 t118] rfl (by (try simp only [List.map_toArray, List.map_cons, List.map_nil]); first | done | rfl | (simp only [List.length_drop, List.length_take]; rfl)) ?_; (with_reducible refine (tower_mulX.calls k (wrap64 (a0 - 1)) t118 t119 _ A6.out).mono ?_); rintro e w' ⟨rfl, ⟨nd, rfl⟩⟩; refine ⟨_, rfl, ?_⟩) | ((with_reducible refine gate_callee (f := 75) rfl ?_); refine goesL_ (some 29) rfl rfl Try.func75 (by kernel_rfl) rfl #[.int .i64 (wrap64 (a0 - 1)), .int .u64 t117] rfl (by (try simp only [List.map_toArray, List.map_cons, List.map_nil]); first | done | rfl | (simp only [List.length_drop, List.length_take]; rfl)) ?_; (with_reducible refine (ih k (by omega) (wrap64 (a0 - 1)) t117 t120 _ A7.out).mono ?_); rintro e w' ⟨rfl, ⟨nd, rfl⟩⟩; refine ⟨_, rfl, ?_⟩) | ((with_reducible refine gate_callee (f := 91) rfl ?_); refine goesL_ (some 32) rfl rfl Try.func91 (by kernel_rfl) rfl #[.int .i64 a0, .int .u64 t119, .int .u64 (Go.bits .xor .u64 t120 t118)] rfl (by (try simp only [List.map_toArray, List.map_cons, List.map_nil]); first | done | rfl | (simp only [List.length_drop, List.length_take]; rfl)) ?_; (with_reducible refine (tower_join.calls a0 t119 (Go.bits .xor .u64 t120 t118) t121 _ A8.out).mono ?_); rintro e w' ⟨rfl, ⟨nd, rfl⟩⟩; refine ⟨_, rfl, ?_⟩))
  go_ret
  exact ⟨by first | rfl | (simp; done) | (simp [*]; done), by repeat (first | exact Drawn0.refl _ | apply Drawn0.step)⟩

/-! ### tower_inv: function 72 -/
def tower_inv.f : Nat → Int → Int → Option (Int)
 | 0, _, _ => none
 | k + 1, a0, a1 => if a0 = 0 then (some a1) else ((tower_halves.f a0 a1).bind fun bt122 => ((tower_mulX.f k (wrap64 (a0 - 1)) bt122.1).bind fun t124 => ((tower_mul.f k (wrap64 (a0 - 1)) bt122.2 (Go.bits .xor .u64 bt122.2 t124)).bind fun t125 => ((tower_square.f k (wrap64 (a0 - 1)) bt122.1).bind fun t126 => ((tower_inv.f k (wrap64 (a0 - 1)) (Go.bits .xor .u64 t125 t126)).bind fun t127 => ((tower_mul.f k (wrap64 (a0 - 1)) bt122.1 t127).bind fun t128 => ((tower_mul.f k (wrap64 (a0 - 1)) (Go.bits .xor .u64 bt122.2 t124) t127).bind fun t129 => ((tower_join.f a0 t128 t129).bind fun t130 => (some t130)))))))))
theorem tower_inv.mono_l : ∀ k, (∀ y0 y1, LeO (tower_inv.f k y0 y1) (tower_inv.f (k + 1) y0 y1))
 | 0 => fun _ _ r h => by simp [tower_inv.f] at h
 | k + 1 => by
  have ih0 := tower_inv.mono_l k
  ·intro y0 y1
   unfold tower_inv.f
   repeat' first
   | (with_reducible exact ih0 _ _)
   | (with_reducible exact tower_mul.mono _ _ _ _)
   | (with_reducible exact tower_mulX.mono _ _ _)
   | (with_reducible exact tower_square.mono _ _ _)
   | (with_reducible exact LeO.refl _)
   | (with_reducible exact LeO.none _)
   | (with_reducible refine LeO.ite ?_ ?_)
   | (with_reducible refine LeO.bind ?_ (fun _ => ?_))
   | exact ih0 _ _
   | exact tower_mul.mono _ _ _ _
   | exact tower_mulX.mono _ _ _
   | exact tower_square.mono _ _ _
   | exact LeO.none _
   | refine LeO.ite ?_ ?_
   | refine LeO.bind ?_ (fun _ => ?_)
theorem tower_inv.mono : ∀ a0 a1 k, LeO (tower_inv.f k a0 a1) (tower_inv.f (k + 1) a0 a1) := by
 intro a0 a1 k
 have ih0 := tower_inv.mono_l k
 exact ih0 a0 a1
set_option maxHeartbeats 8000000 in
set_option maxRecDepth 100000 in
theorem tower_inv.calls (k : Nat) : ∀ (a0 : Int) (a1 : Int) (r : Int) (w : World) (h : tower_inv.f k a0 a1 = some r),
  Calls Try.prog 72 #[.int .i64 a0, .int .u64 a1] w fun e w' => e = .returned (.int .u64 r) ∧ Drawn0 w w' := by
 induction k using Nat.strongRecOn with
 | _ k ih =>
 intro a0 a1 r w h
 cases k with
 | zero => exact absurd h (by simp [tower_inv.f])
 | succ k =>
 simp only [tower_inv.f] at h
 have H : (if a0 = 0 then (some a1) else ((tower_halves.f a0 a1).bind fun bt122 => ((tower_mulX.f k (wrap64 (a0 - 1)) bt122.1).bind fun t124 => ((tower_mul.f k (wrap64 (a0 - 1)) bt122.2 (Go.bits .xor .u64 bt122.2 t124)).bind fun t125 => ((tower_square.f k (wrap64 (a0 - 1)) bt122.1).bind fun t126 => ((tower_inv.f k (wrap64 (a0 - 1)) (Go.bits .xor .u64 t125 t126)).bind fun t127 => ((tower_mul.f k (wrap64 (a0 - 1)) bt122.1 t127).bind fun t128 => ((tower_mul.f k (wrap64 (a0 - 1)) (Go.bits .xor .u64 bt122.2 t124) t127).bind fun t129 => ((tower_join.f a0 t128 t129).bind fun t130 => (some t130)))))))))) = some r := h
 clear h
 by_cases c3 : a0 = 0
 ·rw [if_pos c3] at H
  have c3b0 : (a0 == 0) = true := beq_iff_eq.mpr c3
  have c3b1 : (a0 != 0) = false := bne_eq_false_iff_eq.mpr c3
  clear c3
  obtain rfl := Option.some.inj H
  go_enter Try.func72, Try.ntmps72
  go_wp2
  go_ret
  exact ⟨by first | rfl | (simp; done) | (simp [*]; done), by repeat (first | exact Drawn0.refl _ | apply Drawn0.step)⟩
 ·rw [if_neg c3] at H
  have c3b0 : (a0 == 0) = false := beq_eq_false_iff_ne.mpr c3
  have c3b1 : (a0 != 0) = true := bne_iff_ne.mpr c3
  replace H := Option.bind_eq_some_iff.mp H
  obtain ⟨⟨t122, t123⟩, A40, H⟩ := H
  replace H : ((tower_mulX.f k (wrap64 (a0 - 1)) t122).bind fun t124 => ((tower_mul.f k (wrap64 (a0 - 1)) t123 (Go.bits .xor .u64 t123 t124)).bind fun t125 => ((tower_square.f k (wrap64 (a0 - 1)) t122).bind fun t126 => ((tower_inv.f k (wrap64 (a0 - 1)) (Go.bits .xor .u64 t125 t126)).bind fun t127 => ((tower_mul.f k (wrap64 (a0 - 1)) t122 t127).bind fun t128 => ((tower_mul.f k (wrap64 (a0 - 1)) (Go.bits .xor .u64 t123 t124) t127).bind fun t129 => ((tower_join.f a0 t128 t129).bind fun t130 => (some t130)))))))) = some r := H
  have A4 := Aside0.mk A40
  clear A40
  replace H := Option.bind_eq_some_iff.mp H
  obtain ⟨t124, A50, H⟩ := H
  replace H : ((tower_mul.f k (wrap64 (a0 - 1)) t123 (Go.bits .xor .u64 t123 t124)).bind fun t125 => ((tower_square.f k (wrap64 (a0 - 1)) t122).bind fun t126 => ((tower_inv.f k (wrap64 (a0 - 1)) (Go.bits .xor .u64 t125 t126)).bind fun t127 => ((tower_mul.f k (wrap64 (a0 - 1)) t122 t127).bind fun t128 => ((tower_mul.f k (wrap64 (a0 - 1)) (Go.bits .xor .u64 t123 t124) t127).bind fun t129 => ((tower_join.f a0 t128 t129).bind fun t130 => (some t130))))))) = some r := H
  have A5 := Aside0.mk A50
  clear A50
  replace H := Option.bind_eq_some_iff.mp H
  obtain ⟨t125, A60, H⟩ := H
  replace H : ((tower_square.f k (wrap64 (a0 - 1)) t122).bind fun t126 => ((tower_inv.f k (wrap64 (a0 - 1)) (Go.bits .xor .u64 t125 t126)).bind fun t127 => ((tower_mul.f k (wrap64 (a0 - 1)) t122 t127).bind fun t128 => ((tower_mul.f k (wrap64 (a0 - 1)) (Go.bits .xor .u64 t123 t124) t127).bind fun t129 => ((tower_join.f a0 t128 t129).bind fun t130 => (some t130)))))) = some r := H
  have A6 := Aside0.mk A60
  clear A60
  replace H := Option.bind_eq_some_iff.mp H
  obtain ⟨t126, A70, H⟩ := H
  replace H : ((tower_inv.f k (wrap64 (a0 - 1)) (Go.bits .xor .u64 t125 t126)).bind fun t127 => ((tower_mul.f k (wrap64 (a0 - 1)) t122 t127).bind fun t128 => ((tower_mul.f k (wrap64 (a0 - 1)) (Go.bits .xor .u64 t123 t124) t127).bind fun t129 => ((tower_join.f a0 t128 t129).bind fun t130 => (some t130))))) = some r := H
  have A7 := Aside0.mk A70
  clear A70
  replace H := Option.bind_eq_some_iff.mp H
  obtain ⟨t127, A80, H⟩ := H
  replace H : ((tower_mul.f k (wrap64 (a0 - 1)) t122 t127).bind fun t128 => ((tower_mul.f k (wrap64 (a0 - 1)) (Go.bits .xor .u64 t123 t124) t127).bind fun t129 => ((tower_join.f a0 t128 t129).bind fun t130 => (some t130)))) = some r := H
  have A8 := Aside0.mk A80
  clear A80
  replace H := Option.bind_eq_some_iff.mp H
  obtain ⟨t128, A90, H⟩ := H
  replace H : ((tower_mul.f k (wrap64 (a0 - 1)) (Go.bits .xor .u64 t123 t124) t127).bind fun t129 => ((tower_join.f a0 t128 t129).bind fun t130 => (some t130))) = some r := H
  have A9 := Aside0.mk A90
  clear A90
  replace H := Option.bind_eq_some_iff.mp H
  obtain ⟨t129, A100, H⟩ := H
  replace H : ((tower_join.f a0 t128 t129).bind fun t130 => (some t130)) = some r := H
  have A10 := Aside0.mk A100
  clear A100
  replace H := Option.bind_eq_some_iff.mp H
  obtain ⟨t130, A110, H⟩ := H
  replace H : (some t130) = some r := H
  have A11 := Aside0.mk A110
  clear A110
  obtain rfl := Option.some.inj H
  go_enter Try.func72, Try.ntmps72
  go_wp2_with (first | ((with_reducible refine gate_callee (f := 90) rfl ?_); refine goesL_ (some 16) rfl rfl Try.func90 (by kernel_rfl) rfl #[.int .i64 a0, .int .u64 a1] rfl (by (try simp only [List.map_toArray, List.map_cons, List.map_nil]); first | done | rfl | (simp only [List.length_drop, List.length_take]; rfl)) ?_; (with_reducible refine (tower_halves.calls a0 a1 t122 t123 _ A4.out).mono ?_); rintro e w' ⟨rfl, ⟨nd, rfl⟩⟩; refine ⟨_, rfl, ?_⟩) | ((with_reducible refine gate_callee (f := 73) rfl ?_); refine goesL_ (some 23) rfl rfl Try.func73 (by kernel_rfl) rfl #[.int .i64 (wrap64 (a0 - 1)), .int .u64 t122] rfl (by (try simp only [List.map_toArray, List.map_cons, List.map_nil]); first | done | rfl | (simp only [List.length_drop, List.length_take]; rfl)) ?_; (with_reducible refine (tower_mulX.calls k (wrap64 (a0 - 1)) t122 t124 _ A5.out).mono ?_); rintro e w' ⟨rfl, ⟨nd, rfl⟩⟩; refine ⟨_, rfl, ?_⟩) | ((with_reducible refine gate_callee (f := 74) rfl ?_); refine goesL_ (some 29) rfl rfl Try.func74 (by kernel_rfl) rfl #[.int .i64 (wrap64 (a0 - 1)), .int .u64 t123, .int .u64 (Go.bits .xor .u64 t123 t124)] rfl (by (try simp only [List.map_toArray, List.map_cons, List.map_nil]); first | done | rfl | (simp only [List.length_drop, List.length_take]; rfl)) ?_; (with_reducible refine (tower_mul.calls k (wrap64 (a0 - 1)) t123 (Go.bits .xor .u64 t123 t124) t125 _ A6.out).mono ?_); rintro e w' ⟨rfl, ⟨nd, rfl⟩⟩; refine ⟨_, rfl, ?_⟩) | ((with_reducible refine gate_callee (f := 75) rfl ?_); refine goesL_ (some 33) rfl rfl Try.func75 (by kernel_rfl) rfl #[.int .i64 (wrap64 (a0 - 1)), .int .u64 t122] rfl (by (try simp only [List.map_toArray, List.map_cons, List.map_nil]); first | done | rfl | (simp only [List.length_drop, List.length_take]; rfl)) ?_; (with_reducible refine (tower_square.calls k (wrap64 (a0 - 1)) t122 t126 _ A7.out).mono ?_); rintro e w' ⟨rfl, ⟨nd, rfl⟩⟩; refine ⟨_, rfl, ?_⟩) | ((with_reducible refine gate_callee (f := 72) rfl ?_); refine goesL_ (some 38) rfl rfl Try.func72 (by kernel_rfl) rfl #[.int .i64 (wrap64 (a0 - 1)), .int .u64 (Go.bits .xor .u64 t125 t126)] rfl (by (try simp only [List.map_toArray, List.map_cons, List.map_nil]); first | done | rfl | (simp only [List.length_drop, List.length_take]; rfl)) ?_; (with_reducible refine (ih k (by omega) (wrap64 (a0 - 1)) (Go.bits .xor .u64 t125 t126) t127 _ A8.out).mono ?_); rintro e w' ⟨rfl, ⟨nd, rfl⟩⟩; refine ⟨_, rfl, ?_⟩) | ((with_reducible refine gate_callee (f := 74) rfl ?_); refine goesL_ (some 44) rfl rfl Try.func74 (by kernel_rfl) rfl #[.int .i64 (wrap64 (a0 - 1)), .int .u64 t122, .int .u64 t127] rfl (by (try simp only [List.map_toArray, List.map_cons, List.map_nil]); first | done | rfl | (simp only [List.length_drop, List.length_take]; rfl)) ?_; (with_reducible refine (tower_mul.calls k (wrap64 (a0 - 1)) t122 t127 t128 _ A9.out).mono ?_); rintro e w' ⟨rfl, ⟨nd, rfl⟩⟩; refine ⟨_, rfl, ?_⟩) | ((with_reducible refine gate_callee (f := 74) rfl ?_); refine goesL_ (some 49) rfl rfl Try.func74 (by kernel_rfl) rfl #[.int .i64 (wrap64 (a0 - 1)), .int .u64 (Go.bits .xor .u64 t123 t124), .int .u64 t127] rfl (by (try simp only [List.map_toArray, List.map_cons, List.map_nil]); first | done | rfl | (simp only [List.length_drop, List.length_take]; rfl)) ?_; (with_reducible refine (tower_mul.calls k (wrap64 (a0 - 1)) (Go.bits .xor .u64 t123 t124) t127 t129 _ A10.out).mono ?_); rintro e w' ⟨rfl, ⟨nd, rfl⟩⟩; refine ⟨_, rfl, ?_⟩) | ((with_reducible refine gate_callee (f := 91) rfl ?_); refine goesL_ (some 50) rfl rfl Try.func91 (by kernel_rfl) rfl #[.int .i64 a0, .int .u64 t128, .int .u64 t129] rfl (by (try simp only [List.map_toArray, List.map_cons, List.map_nil]); first | done | rfl | (simp only [List.length_drop, List.length_take]; rfl)) ?_; (with_reducible refine (tower_join.calls a0 t128 t129 t130 _ A11.out).mono ?_); rintro e w' ⟨rfl, ⟨nd, rfl⟩⟩; refine ⟨_, rfl, ?_⟩))
  go_ret
  exact ⟨by first | rfl | (simp; done) | (simp [*]; done), by repeat (first | exact Drawn0.refl _ | apply Drawn0.step)⟩

end Go.Proofs.Ytmibjgjgfombaaa.P
