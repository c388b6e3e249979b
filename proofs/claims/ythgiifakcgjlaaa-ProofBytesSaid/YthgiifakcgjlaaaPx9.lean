/- Functions that the law reaches, as Lean functions. Conditions: those that each theorem names. -/
import Derived.Test.YthgiifakcgjlaaaPx0
import Derived.Test.YthgiifakcgjlaaaX2
import Derived.Test.YthgiifakcgjlaaaHBox
import Derived.Test.YthgiifakcgjlaaaPx8
set_option maxHeartbeats 8000000
set_option maxRecDepth 100000
namespace Go.Proofs.Ythgiifakcgjlaaa.P
open Go.RowKit YthgiifakcgjlaaaX YthgiifakcgjlaaaW.PrintWords YthgiifakcgjlaaaW.PrintLast YthgiifakcgjlaaaW.PrintMore
attribute [local go_sem] max2_int min2_int max_two min_two max_three min_three max_four min_four
set_option linter.unusedVariables false
set_option linter.unusedSimpArgs false

def slices_IndexFunc_string_string.l0 : Nat → List ByteArray → Int → Int → Option (Int)
 | 0, _, _, _ => none
 | k + 1, x0, x7, x8 => if x8 < x7 then (if 0 ≤ x8 then (if x8 < (x0.length : Int) then ((proof_shaped_1.f (rdOf ByteArray.empty x0 x8)).bind fun t229 => (if t229 = true then (some x8) else (slices_IndexFunc_string_string.l0 k x0 x7 (wrap64 (x8 + 1))))) else (none)) else (none)) else (some (-1))
def slices_IndexFunc_string_string.f (k : Nat) (l0 : List ByteArray) : Option (Int) := slices_IndexFunc_string_string.l0 k l0 (l0.length : Int) 0
theorem slices_IndexFunc_string_string.calls (k : Nat) (A0 : Option Addr) (c0 : Nat) (l0 : List ByteArray) (r : Int) (w : World) (hr0 : Kd.C Kd.string w A0 l0.length l0) (hc0 : l0.length ≤ c0) (h : slices_IndexFunc_string_string.f k l0 = some r) :
  Calls Try.prog 110 #[.slice A0 l0.length c0, .func (.func 100) #[] #[]] w fun e w' => e = .returned (.int .i64 r) ∧ Drawn0 w w' := by
 have HR0 := Aside0.mk hr0
 have HC0 := Aside0.mk hc0
 clear hr0 hc0
 have H : (slices_IndexFunc_string_string.l0 k l0 (l0.length : Int) 0) = some r := h
 clear h
 have H' := Aside0.mk H
 clear H
 go_enter Try.func110, Try.ntmps110
 go_wp2
 go_loopg [8] k (fun kq v8 w' => ∃ (x8_1 : Int), v8 = .int .i64 x8_1 ∧ Aside0 (slices_IndexFunc_string_string.l0 kq l0 (l0.length : Int) x8_1 = some r) ∧ Aside0 (kq ≤ k) ∧ Drawn0 w w')
 case atStart => exact ⟨(0), (by first | rfl | (simp; done) | (simp [*]; done)), H', ⟨Nat.le_refl _⟩, by repeat (first | exact Drawn0.refl _ | apply Drawn0.step)⟩
 case round =>
  clear H'
  try clear c1
  obtain ⟨x8_1, rfl, HA, HK1, ⟨m1, rfl⟩⟩ := hrel
  cases gk with
  | zero => exact absurd HA.out (by simp [slices_IndexFunc_string_string.l0])
  | succ k1 =>
   have H := HA.out
   clear HA
   simp only [slices_IndexFunc_string_string.l0] at H
   by_cases c2 : x8_1 < (l0.length : Int)
   rotate_left
   ·rw [if_neg c2] at H
    have c2b0 : decide (x8_1 < (l0.length : Int)) = false := decide_eq_false c2
    clear c2
    obtain rfl := Option.some.inj H
    go_wp2
    go_ret
    exact ⟨by first | rfl | (simp; done) | (simp [*]; done), by repeat (first | exact Drawn0.refl _ | apply Drawn0.step)⟩

   rw [if_pos c2] at H
   have c2b0 : decide (x8_1 < (l0.length : Int)) = true := decide_eq_true c2
   clear c2
   by_cases c3 : 0 ≤ x8_1
   rotate_left
   ·rw [if_neg c3] at H
    exact absurd H (by simp)
   rw [if_pos c3] at H
   have c3b0 : decide (0 ≤ x8_1) = true := decide_eq_true c3
   clear c3
   by_cases c4 : x8_1 < (l0.length : Int)
   rotate_left
   ·rw [if_neg c4] at H
    exact absurd H (by simp)
   rw [if_pos c4] at H
   have c4b0 : decide (x8_1 < (l0.length : Int)) = true := decide_eq_true c4
   clear c4
   obtain ⟨t229, A5, H⟩ := bm2 H
   try dsimp only at H
   by_cases c6 : t229 = true
   ·subst c6
    have H1 : (some x8_1) = some r := by rw [if_pos rfl] at H; exact H
    clear H
    have H := H1
    clear H1
    obtain rfl := Option.some.inj H
    have p228 : 0 ≤ (x8_1 : Int) := dt
    have q228 : x8_1 < (l0.length : Int) := dt
    obtain ⟨ad228, e228, hx228_0⟩ := Kd.at_string HR0.out x8_1 p228 q228
    cases e228
    replace p228 := eq_true p228
    replace q228 := eq_true q228
    go_wp2_with (first | (go_at_call 100; (with_reducible refine (proof_shaped_1.calls (rdOf ByteArray.empty l0 x8_1) true _ A5.out).mono ?_); rintro e w' ⟨rfl, ⟨nd, rfl⟩⟩))
    go_ret
    exact ⟨by first | rfl | (simp; done) | (simp [*]; done), by repeat (first | exact Drawn0.refl _ | apply Drawn0.step)⟩
   replace c6 := Bool.eq_false_iff.mpr c6
   subst c6
   have H1 : (slices_IndexFunc_string_string.l0 k1 l0 (l0.length : Int) (wrap64 (x8_1 + 1))) = some r := by rw [if_neg (show ¬ (false = true) by decide)] at H; exact H
   clear H
   have H := H1
   clear H1
   have H' := Aside0.mk H
   clear H
   have p228 : 0 ≤ (x8_1 : Int) := dt
   have q228 : x8_1 < (l0.length : Int) := dt
   obtain ⟨ad228, e228, hx228_0⟩ := Kd.at_string HR0.out x8_1 p228 q228
   cases e228
   replace p228 := eq_true p228
   replace q228 := eq_true q228
   go_wp2_with (first | (go_at_call 100; (with_reducible refine (proof_shaped_1.calls (rdOf ByteArray.empty l0 x8_1) false _ A5.out).mono ?_); rintro e w' ⟨rfl, ⟨nd, rfl⟩⟩))
   go_roundg k1
   case measure => have := HK1.out; omega
   case rel => exact ⟨(wrap64 (x8_1 + 1)), (by first | rfl | (simp; done) | (simp [*]; done)), H', ⟨by have := HK1.out; omega⟩, by repeat (first | exact Drawn0.refl _ | apply Drawn0.step)⟩
def slices_ContainsFunc_string_string.f (k : Nat) (l0 : List ByteArray) : Option (Bool) := (slices_IndexFunc_string_string.f k l0).bind fun t230 => (some (decide (t230 ≥ 0)))
theorem slices_ContainsFunc_string_string.calls (k : Nat) (A0 : Option Addr) (c0 : Nat) (l0 : List ByteArray) (r : Bool) (w : World) (hr0 : Kd.C Kd.string w A0 l0.length l0) (hc0 : l0.length ≤ c0) (h : slices_ContainsFunc_string_string.f k l0 = some r) :
  Calls Try.prog 99 #[.slice A0 l0.length c0, .func (.func 100) #[] #[]] w fun e w' => e = .returned (.bool r) ∧ Drawn0 w w' := by
 have HR0 := Aside0.mk hr0
 have HC0 := Aside0.mk hc0
 clear hr0 hc0
 have H : ((slices_IndexFunc_string_string.f k l0).bind fun t230 => (some (decide (t230 ≥ 0)))) = some r := h
 clear h
 obtain ⟨t230, A2, H⟩ := bm2 H
 replace H : (some (decide (t230 ≥ 0))) = some r := H
 obtain rfl := Option.some.inj H
 go_enter Try.func99, Try.ntmps99
 go_wp2_with (first | ((with_reducible refine gate_callee (f := 110) rfl ?_); refine gL (some 7) rfl Try.func110 #[.slice A0 l0.length c0, .func (.func 100) #[] #[]] rfl ?_; (with_reducible refine (slices_IndexFunc_string_string.calls k _ _ l0 t230 _ ?side1 ?side2 A2.out).mono ?_); (case side1 => exact cq HR0.out); (case side2 => exact HC0.out); rintro e w' ⟨rfl, ⟨nd, rfl⟩⟩; refine ⟨_, rfl, ?_⟩))
 go_ret
 exact ⟨by first | rfl | (simp; done) | (simp [*]; done), by repeat (first | exact Drawn0.refl _ | apply Drawn0.step)⟩

def octet_Of.j0 : Nat → Int → Bool → Int → Int → Option (Bool)
 | 0, _, _, _, _ => none
 | k + 1, x0, x5, x232000, x232001 => if x5 = true then (some false) else (if x0 = 7 then (some true) else (if x0 = 6 then (some (x232000 == 0)) else (if x232000 = 0 then (if 0 ≤ x0 then (some ((shr .u64 x232001 (shl .u64 1 x0)) == 0)) else (none)) else (some false))))
def octet_Of.f (k : Nat) (a0 : Int) (a1_0 : Int) (a1_1 : Int) : Option (Bool) := if a0 < 0 then (octet_Of.j0 k a0 true a1_0 a1_1) else (octet_Of.j0 k a0 (decide (a0 > 7)) a1_0 a1_1)
theorem octet_Of.calls (k : Nat) (a0 : Int) (a1_0 : Int) (a1_1 : Int) (r : Bool) (w : World) (h : octet_Of.f k a0 a1_0 a1_1 = some r) :
  Calls Try.prog 91 #[.int .i64 a0, .agg #[.int .u64 a1_0, .int .u64 a1_1]] w fun e w' => e = .returned (.bool r) ∧ Below w.heap.size w w' := by
 have hu61 := Try.underlying61
 have HB := Aside0.mk (Below.refl w.heap.size w)
 have H : (if a0 < 0 then (octet_Of.j0 k a0 true a1_0 a1_1) else (octet_Of.j0 k a0 (decide (a0 > 7)) a1_0 a1_1)) = some r := h
 clear h
 have HC3 := Aside0.mk H
 clear H
 go_enter Try.func91, Try.ntmps91
 go_upto_region 1 with (first | ((with_reducible refine gate_dst (N := 3) rfl ?_); refine box_event ?hg (N := 3) ?hd (cs := #[.int .u64 a1_0, .int .u64 a1_1]) (t := 61) ?hr ?_; (case hd => rfl); (case hg => rfl); (case hr => go_simp <;> rfl); intro gb231 hg w4 hbox hb; have BK231 := Aside0.mk hbox; have GW231 := ge hg HB; have GE231 := ge hg HB; replace HB := bh HB hb; clear hb hbox hg))
 repeat (go_quiet (first | ((with_reducible refine gate_dst (N := 3) rfl ?_); refine box_event ?hg (N := 3) ?hd (cs := #[.int .u64 a1_0, .int .u64 a1_1]) (t := 61) ?hr ?_; (case hd => rfl); (case hg => rfl); (case hr => go_simp <;> rfl); intro gb231 hg w4 hbox hb; have BK231 := Aside0.mk hbox; have GW231 := ge hg HB; have GE231 := ge hg HB; replace HB := bh HB hb; clear hb hbox hg)); go_upto_region 1 with (first | ((with_reducible refine gate_dst (N := 3) rfl ?_); refine box_event ?hg (N := 3) ?hd (cs := #[.int .u64 a1_0, .int .u64 a1_1]) (t := 61) ?hr ?_; (case hd => rfl); (case hg => rfl); (case hr => go_simp <;> rfl); intro gb231 hg w4 hbox hb; have BK231 := Aside0.mk hbox; have GW231 := ge hg HB; have GE231 := ge hg HB; replace HB := bh HB hb; clear hb hbox hg)))
 (try simp only [Act.put, sA, s0, sS])
 go_cut [5] (fun v5 wc => ∃ (kq : Nat) (x5_2 : Bool), v5 = .bool x5_2 ∧ Aside0 (octet_Of.j0 kq a0 x5_2 a1_0 a1_1 = some r) ∧ Aside0 (kq ≤ k) ∧ Aside0 (wc.heap[gb231]? = some (.cells #[.int .u64 a1_0, .int .u64 a1_1] 61 (0, 0))) ∧ Aside0 (Below w.heap.size w wc))
 case first =>
  have H := HC3.out
  clear HC3
  by_cases c5 : a0 < 0
  ·rw [if_pos c5] at H
   have c5b0 : decide (a0 < 0) = true := decide_eq_true c5
   clear c5
   (first | rw [c5b0] | (simp only [i64_w, i32_w]; rw [c5b0]) | skip)
   have H' := Aside0.mk H
   clear H
   go_wp2
   repeat (go_quiet (fail); try go_wp2)
   go_meet
   case rel => exact ⟨_, (true), (by first | rfl | (simp; done) | (simp [*]; done)), H', ⟨by first | omega | exact Nat.le_refl _⟩, ⟨bk BK231.out⟩, ⟨bq HB.out⟩⟩
  rw [if_neg c5] at H
  have c5b0 : decide (a0 < 0) = false := decide_eq_false c5
  clear c5
  (first | rw [c5b0] | (simp only [i64_w, i32_w]; rw [c5b0]) | skip)
  have H' := Aside0.mk H
  clear H
  go_wp2
  repeat (go_quiet (fail); try go_wp2)
  go_meet
  case rel => exact ⟨_, (decide (a0 > 7)), (by first | rfl | (simp; done) | (simp [*]; done)), H', ⟨by first | omega | exact Nat.le_refl _⟩, ⟨bk BK231.out⟩, ⟨bq HB.out⟩⟩
 case rest =>
  clear HC3
  try clear p2
  try clear c5
  try clear c5b0
  obtain ⟨kq, x5_2, rfl, HA, HJ2, BK231, HB⟩ := hcut
  cases kq with
  | zero => exact absurd HA.out (by simp [octet_Of.j0])
  | succ kj2 =>
   have H := HA.out
   clear HA
   simp only [octet_Of.j0] at H
   by_cases c6 : x5_2 = true
   ·subst c6
    have H1 : (some false) = some r := by rw [if_pos rfl] at H; exact H
    clear H
    have H := H1
    clear H1
    obtain rfl := Option.some.inj H
    go_wp2
    repeat (go_quiet (fail); try go_wp2)
    go_ret
    exact ⟨er, bq HB.out⟩
   replace c6 := Bool.eq_false_iff.mpr c6
   subst c6
   have H1 : (if a0 = 7 then (some true) else (if a0 = 6 then (some (a1_0 == 0)) else (if a1_0 = 0 then (if 0 ≤ a0 then (some ((shr .u64 a1_1 (shl .u64 1 a0)) == 0)) else (none)) else (some false)))) = some r := by rw [if_neg (show ¬ (false = true) by decide)] at H; exact H
   clear H
   have H := H1
   clear H1
   by_cases c7 : a0 = 7
   ·rw [if_pos c7] at H
    have c7b0 : (a0 == 7) = true := beq_iff_eq.mpr c7
    have c7b1 : (a0 != 7) = false := bne_eq_false_iff_eq.mpr c7
    clear c7
    obtain rfl := Option.some.inj H
    go_wp2
    repeat (go_quiet (fail); try go_wp2)
    go_ret
    exact ⟨er, bq HB.out⟩
   rw [if_neg c7] at H
   have c7b0 : (a0 == 7) = false := beq_eq_false_iff_ne.mpr c7
   have c7b1 : (a0 != 7) = true := bne_iff_ne.mpr c7
   by_cases c8 : a0 = 6
   ·rw [if_pos c8] at H
    have c8b0 : (a0 == 6) = true := beq_iff_eq.mpr c8
    have c8b1 : (a0 != 6) = false := bne_eq_false_iff_eq.mpr c8
    clear c8
    obtain rfl := Option.some.inj H
    obtain ⟨hcz9_0, hcz9_1⟩ := zc2 BK231
    obtain ⟨hfz9_0, hfz9_1⟩ := zf2 BK231
    go_wp2
    repeat (go_quiet (fail); try go_wp2)
    go_ret
    exact ⟨er, bq HB.out⟩
   rw [if_neg c8] at H
   have c8b0 : (a0 == 6) = false := beq_eq_false_iff_ne.mpr c8
   have c8b1 : (a0 != 6) = true := bne_iff_ne.mpr c8
   by_cases c10 : a1_0 = 0
   rotate_left
   ·rw [if_neg c10] at H
    have c10b0 : (a1_0 == 0) = false := beq_eq_false_iff_ne.mpr c10
    have c10b1 : (a1_0 != 0) = true := bne_iff_ne.mpr c10
    obtain rfl := Option.some.inj H
    obtain ⟨hcz15_0, hcz15_1⟩ := zc2 BK231
    obtain ⟨hfz15_0, hfz15_1⟩ := zf2 BK231
    go_wp2
    repeat (go_quiet (fail); try go_wp2)
    go_ret
    exact ⟨er, bq HB.out⟩

   rw [if_pos c10] at H
   have c10b0 : (a1_0 == 0) = true := beq_iff_eq.mpr c10
   have c10b1 : (a1_0 != 0) = false := bne_eq_false_iff_eq.mpr c10
   clear c10
   by_cases c11 : 0 ≤ a0
   rotate_left
   ·rw [if_neg c11] at H
    exact absurd H (by simp)
   rw [if_pos c11] at H
   have c11b0 := eq_true c11
   have c11b1 : decide (0 ≤ a0) = true := decide_eq_true c11
   clear c11
   obtain ⟨ji12, hji12⟩ : ∃ j_ : Int, (shl .u64 1 a0) = j_ := ⟨_, rfl⟩
   replace H : (some ((shr .u64 a1_1 (ji12)) == 0)) = some r := by first | (rw [hji12] at H; exact H) | (simp only [hji12] at H ⊢; exact H)
   have hji12_ : (IntKind.u64.wrap (1 * 2 ^ min a0.toNat 64)) = ji12 := hji12
   have hji12z : a0 ≤ 64 → (IntKind.u64.wrap (1 * 2 ^ a0.toNat)) = ji12 := shl_small hji12
   have hji12p0 := eq_true (show (0 : Int) ≤ ji12 by rw [← hji12_]; exact wrap_u64_nonneg _)
   have hji12p1 : decide (0 ≤ (ji12 : Int)) = true := decide_eq_true (of_eq_true hji12p0)
   have hji12u : (IntKind.u64.wrap (2 ^ min a0.toNat 64)) = ji12 := by have h_ := hji12_; rw [Int.one_mul] at h_; exact h_
   have hji12v : a0 ≤ 64 → (IntKind.u64.wrap (2 ^ a0.toNat)) = ji12 := fun hle_ => by have h_ := hji12z hle_; rw [Int.one_mul] at h_; exact h_
   obtain ⟨ji13, hji13⟩ : ∃ j_ : Int, (shr .u64 a1_1 (ji12)) = j_ := ⟨_, rfl⟩
   replace H : (some ((ji13) == 0)) = some r := by first | (rw [hji13] at H; exact H) | (simp only [hji13] at H ⊢; exact H)
   have hji13_ : (a1_1 / 2 ^ min (ji12).toNat 64) = ji13 := hji13
   have hji13z : (ji12) ≤ 64 → (a1_1 / 2 ^ (ji12).toNat) = ji13 := shr_small hji13
   obtain rfl := Option.some.inj H
   obtain ⟨hcz14_0, hcz14_1⟩ := zc2 BK231
   obtain ⟨hfz14_0, hfz14_1⟩ := zf2 BK231
   go_wp2
   repeat (go_quiet (fail); try go_wp2)
   go_ret
   exact ⟨by first | rfl | (simp [errW_none, errW_some] <;> rfl) | (simp only [← hji12, ← hji13]; first | rfl | (simp [errW_none, errW_some] <;> rfl)) | (simp [*, errW_none, errW_some] <;> rfl), bq HB.out⟩
def proof_shaped_2_1.f (k : Nat) (a0_0 : Int) (a0_1 : Int) (a1 : Int) : Option (Bool) := (octet_Of.f k a1 a0_0 a0_1).bind fun t233 => (some (!t233))
theorem proof_shaped_2_1.calls (k : Nat) (a0_0 : Int) (a0_1 : Int) (a1 : Int) (r : Bool) (w : World) (gl : Nat) (hY : LevB w gl a1) (h : proof_shaped_2_1.f k a0_0 a0_1 a1 = some r) :
  Calls Try.prog 103 #[.agg #[.int .u64 a0_0, .int .u64 a0_1], .pointer (some ⟨gl, 0, none⟩)] w fun e w' => e = .returned (.bool r) ∧ Below w.heap.size w w' := by
 have hu61 := Try.underlying61
 have HB := Aside0.mk (Below.refl w.heap.size w)
 have HY0 := Aside0.mk hY
 have hcY := hY.cell
 clear hY
 have H : ((octet_Of.f k a1 a0_0 a0_1).bind fun t233 => (some (!t233))) = some r := h
 clear h
 obtain ⟨t233, A3, H⟩ := bm2 H
 replace H : (some (!t233)) = some r := H
 obtain rfl := Option.some.inj H
 go_enter Try.func103, Try.ntmps103
 go_wp2_with (first | ((with_reducible refine gate_dst (N := 2) rfl ?_); refine box_event ?hg (N := 2) ?hd (cs := #[.int .u64 a0_0, .int .u64 a0_1]) (t := 61) ?hr ?_; (case hd => rfl); (case hg => rfl); (case hr => go_simp <;> rfl); intro gb232 hg w4 hbox hb; have BK232 := Aside0.mk hbox; have GW232 := ge hg HB; have GE232 := ge hg HB; replace HB := bh HB hb; clear hcY; have hcY := (HY0.out.below HB.out).cell; clear hb hbox hg; obtain ⟨hcz5_0, hcz5_1⟩ := zc2 BK232; obtain ⟨hfz5_0, hfz5_1⟩ := zf2 BK232) | ((with_reducible refine gate_callee (f := 91) rfl ?_); refine gL (some 6) rfl Try.func91 #[.int .i64 a1, .agg #[.int .u64 a0_0, .int .u64 a0_1]] rfl ?_; (with_reducible refine (octet_Of.calls k a1 a0_0 a0_1 t233 _ A3.out).mono ?_); rintro e w6 ⟨rfl, hb⟩; refine ⟨_, rfl, ?_⟩; replace HB := bh HB hb; (try clear hb); (try clear hk hi)))
 go_ret
 exact ⟨er, bq HB.out⟩

def api_Elem_111.l0 : Nat → List (S61) → Int → Int → Int → Option (Int)
 | 0, _, _, _, _ => none
 | k + 1, x0, x1, x7, x8 => if x8 < x7 then (if 0 ≤ x8 then (if x8 < (x0.length : Int) then ((proof_shaped_2_1.f k ((rd_T61 x0 x8).f0) ((rd_T61 x0 x8).f1) x1).bind fun t235 => (if t235 = true then (some x8) else (api_Elem_111.l0 k x0 x1 x7 (wrap64 (x8 + 1))))) else (none)) else (none)) else (some (-1))
def api_Elem_111.f (k : Nat) (l0 : List (S61)) (a1 : Int) : Option (Int) := api_Elem_111.l0 k l0 a1 (l0.length : Int) 0
theorem api_Elem_111.calls (k : Nat) (A0 : Option Addr) (c0 : Nat) (l0 : List (S61)) (a1 : Int) (r : Int) (w : World) (gl : Nat) (hY : LevB w gl a1) (hr0 : Kd.C k61 w A0 l0.length l0) (hc0 : l0.length ≤ c0) (h : api_Elem_111.f k l0 a1 = some r) :
  Calls Try.prog 111 #[.slice A0 l0.length c0, .func (.func 103) #[] #[.pointer (some ⟨gl, 0, none⟩)]] w fun e w' => e = .returned (.int .i64 r) ∧ Below w.heap.size w w' := by
 have hu61 := Try.underlying61
 have HR0 := Aside0.mk hr0
 have HC0 := Aside0.mk hc0
 clear hr0 hc0
 have HB := Aside0.mk (Below.refl w.heap.size w)
 have HY0 := Aside0.mk hY
 have hcY := hY.cell
 clear hY
 have H : (api_Elem_111.l0 k l0 a1 (l0.length : Int) 0) = some r := h
 clear h
 have H' := Aside0.mk H
 clear H
 go_enter Try.func111, Try.ntmps111
 go_wp2
 go_loopg [8] k (fun kq v8 w' => ∃ (x8_1 : Int), v8 = .int .i64 x8_1 ∧ Aside0 (api_Elem_111.l0 kq l0 a1 (l0.length : Int) x8_1 = some r) ∧ Aside0 (kq ≤ k) ∧ Aside0 (Below w.heap.size w w'))
 case atStart => exact ⟨(0), (by first | rfl | (simp; done) | (simp [*]; done)), H', ⟨Nat.le_refl _⟩, ⟨bq HB.out⟩⟩
 case round =>
  clear H'
  try clear c1
  try clear p2
  obtain ⟨x8_1, rfl, HA, HK1, HB⟩ := hrel
  cases gk with
  | zero => exact absurd HA.out (by simp [api_Elem_111.l0])
  | succ k1 =>
   have H := HA.out
   clear HA
   simp only [api_Elem_111.l0] at H
   by_cases c3 : x8_1 < (l0.length : Int)
   rotate_left
   ·rw [if_neg c3] at H
    have c3b0 : decide (x8_1 < (l0.length : Int)) = false := decide_eq_false c3
    clear c3
    obtain rfl := Option.some.inj H
    go_wp2
    go_ret
    exact ⟨er, bq HB.out⟩

   rw [if_pos c3] at H
   have c3b0 : decide (x8_1 < (l0.length : Int)) = true := decide_eq_true c3
   clear c3
   by_cases c4 : 0 ≤ x8_1
   rotate_left
   ·rw [if_neg c4] at H
    exact absurd H (by simp)
   rw [if_pos c4] at H
   have c4b0 : decide (0 ≤ x8_1) = true := decide_eq_true c4
   clear c4
   by_cases c5 : x8_1 < (l0.length : Int)
   rotate_left
   ·rw [if_neg c5] at H
    exact absurd H (by simp)
   rw [if_pos c5] at H
   have c5b0 : decide (x8_1 < (l0.length : Int)) = true := decide_eq_true c5
   clear c5
   obtain ⟨t235, A6, H⟩ := bm2 H
   try dsimp only at H
   by_cases c7 : t235 = true
   ·subst c7
    have H1 : (some x8_1) = some r := by rw [if_pos rfl] at H; exact H
    clear H
    have H := H1
    clear H1
    obtain rfl := Option.some.inj H
    have p234 : 0 ≤ (x8_1 : Int) := dt
    have q234 : x8_1 < (l0.length : Int) := dt
    obtain ⟨ad234, e234, hx234_0, hx234_1⟩ := at_T61 HR0.out x8_1 p234 q234
    cases e234
    replace hx234_0 := (HB.out.cell (World.block_lt_of_cell? w _ hx234_0)).trans hx234_0
    replace hx234_1 := (HB.out.cell (World.block_lt_of_cell? w _ hx234_1)).trans hx234_1
    replace p234 := eq_true p234
    replace q234 := eq_true q234
    go_wp2_with (first | (go_at_call 103; (with_reducible refine (proof_shaped_2_1.calls (gl := gl) (hY := (by first | exact HY0.out.below HB.out | exact HY0.out.below (bq HB.out))) k1 ((rd_T61 l0 x8_1).f0) ((rd_T61 l0 x8_1).f1) a1 true _ A6.out).mono ?_); rintro e w8 ⟨rfl, hb⟩; replace HB := bh HB hb; (try clear hb); (try clear hk hi)))
    go_ret
    exact ⟨er, bq HB.out⟩
   replace c7 := Bool.eq_false_iff.mpr c7
   subst c7
   have H1 : (api_Elem_111.l0 k1 l0 a1 (l0.length : Int) (wrap64 (x8_1 + 1))) = some r := by rw [if_neg (show ¬ (false = true) by decide)] at H; exact H
   clear H
   have H := H1
   clear H1
   have H' := Aside0.mk H
   clear H
   have p234 : 0 ≤ (x8_1 : Int) := dt
   have q234 : x8_1 < (l0.length : Int) := dt
   obtain ⟨ad234, e234, hx234_0, hx234_1⟩ := at_T61 HR0.out x8_1 p234 q234
   cases e234
   replace hx234_0 := (HB.out.cell (World.block_lt_of_cell? w _ hx234_0)).trans hx234_0
   replace hx234_1 := (HB.out.cell (World.block_lt_of_cell? w _ hx234_1)).trans hx234_1
   replace p234 := eq_true p234
   replace q234 := eq_true q234
   go_wp2_with (first | (go_at_call 103; (with_reducible refine (proof_shaped_2_1.calls (gl := gl) (hY := (by first | exact HY0.out.below HB.out | exact HY0.out.below (bq HB.out))) k1 ((rd_T61 l0 x8_1).f0) ((rd_T61 l0 x8_1).f1) a1 false _ A6.out).mono ?_); rintro e w9 ⟨rfl, hb⟩; replace HB := bh HB hb; (try clear hb); (try clear hk hi)))
   go_roundg k1
   case measure => have := HK1.out; omega
   case rel => exact ⟨(wrap64 (x8_1 + 1)), (by first | rfl | (simp; done) | (simp [*]; done)), H', ⟨by have := HK1.out; omega⟩, ⟨bq HB.out⟩⟩
def api_Elem_102.f (k : Nat) (l0 : List (S61)) (a1 : Int) : Option (Bool) := (api_Elem_111.f k l0 a1).bind fun t236 => (some (decide (t236 ≥ 0)))
theorem api_Elem_102.calls (k : Nat) (A0 : Option Addr) (c0 : Nat) (l0 : List (S61)) (a1 : Int) (r : Bool) (w : World) (gl : Nat) (hY : LevB w gl a1) (hr0 : Kd.C k61 w A0 l0.length l0) (hc0 : l0.length ≤ c0) (h : api_Elem_102.f k l0 a1 = some r) :
  Calls Try.prog 102 #[.slice A0 l0.length c0, .func (.func 103) #[] #[.pointer (some ⟨gl, 0, none⟩)]] w fun e w' => e = .returned (.bool r) ∧ Below w.heap.size w w' := by
 have HR0 := Aside0.mk hr0
 have HC0 := Aside0.mk hc0
 clear hr0 hc0
 have HB := Aside0.mk (Below.refl w.heap.size w)
 have HY0 := Aside0.mk hY
 have hcY := hY.cell
 clear hY
 have H : ((api_Elem_111.f k l0 a1).bind fun t236 => (some (decide (t236 ≥ 0)))) = some r := h
 clear h
 obtain ⟨t236, A3, H⟩ := bm2 H
 replace H : (some (decide (t236 ≥ 0))) = some r := H
 obtain rfl := Option.some.inj H
 go_enter Try.func102, Try.ntmps102
 go_wp2_with (first | ((with_reducible refine gate_callee (f := 111) rfl ?_); refine gL (some 7) rfl Try.func111 #[.slice A0 l0.length c0, .func (.func 103) #[] #[.pointer (some ⟨gl, 0, none⟩)]] rfl ?_; (with_reducible refine (api_Elem_111.calls (gl := gl) (hY := (by first | exact HY0.out.below HB.out | exact HY0.out.below (bq HB.out))) k _ _ l0 a1 t236 _ ?side1 ?side2 A3.out).mono ?_); (case side1 => exact cq HR0.out); (case side2 => exact HC0.out); rintro e w4 ⟨rfl, hb⟩; refine ⟨_, rfl, ?_⟩; replace HB := bh HB hb; (try clear hb); (try clear hk hi)))
 go_ret
 exact ⟨er, bq HB.out⟩

def proof_shaped_2.f (k : Nat) (l0 : List (S61)) (a1 : Int) : Option (Bool) := if (l0.length : Int) > 4096 then (some true) else ((api_Elem_102.f k l0 a1).bind fun t237 => (some t237))
theorem proof_shaped_2.calls (k : Nat) (A0 : Option Addr) (c0 : Nat) (l0 : List (S61)) (a1 : Int) (r : Bool) (w : World) (gl : Nat) (hY : LevB w gl a1) (hr0 : Kd.C k61 w A0 l0.length l0) (hc0 : l0.length ≤ c0) (h : proof_shaped_2.f k l0 a1 = some r) :
  Calls Try.prog 101 #[.slice A0 l0.length c0, .pointer (some ⟨gl, 0, none⟩)] w fun e w' => e = .returned (.bool r) ∧ Below w.heap.size w w' := by
 have HR0 := Aside0.mk hr0
 have HC0 := Aside0.mk hc0
 clear hr0 hc0
 have HB := Aside0.mk (Below.refl w.heap.size w)
 have HY0 := Aside0.mk hY
 have hcY := hY.cell
 clear hY
 have H : (if (l0.length : Int) > 4096 then (some true) else ((api_Elem_102.f k l0 a1).bind fun t237 => (some t237))) = some r := h
 clear h
 by_cases c3 : (l0.length : Int) > 4096
 ·rw [if_pos c3] at H
  have c3b0 : decide (4096 < (l0.length : Int)) = true := decide_eq_true c3
  have c3b1 : decide (4096 < l0.length) = true := decide_eq_true (by omega)
  clear c3
  obtain rfl := Option.some.inj H
  go_enter Try.func101, Try.ntmps101
  go_wp2
  go_ret
  exact ⟨er, bq HB.out⟩
 rw [if_neg c3] at H
 have c3b0 : decide (4096 < (l0.length : Int)) = false := decide_eq_false c3
 have c3b1 : decide (4096 < l0.length) = false := decide_eq_false (by omega)
 clear c3
 obtain ⟨t237, A4, H⟩ := bm2 H
 replace H : (some t237) = some r := H
 obtain rfl := Option.some.inj H
 go_enter Try.func101, Try.ntmps101
 go_wp2_with (first | (go_at_call 102; (with_reducible refine (api_Elem_102.calls (gl := gl) (hY := (by first | exact HY0.out.below HB.out | exact HY0.out.below (bq HB.out))) k _ _ l0 a1 t237 _ ?side1 ?side2 A4.out).mono ?_); (case side1 => exact cq HR0.out); (case side2 => exact HC0.out); rintro e w5 ⟨rfl, hb⟩; replace HB := bh HB hb; (try clear hb); (try clear hk hi)))
 go_ret
 exact ⟨er, bq HB.out⟩

def api_Elem_112.l0 : Nat → List (List (S61)) → Int → Int → Int → Option (Int)
 | 0, _, _, _, _ => none
 | k + 1, x0, x1, x7, x8 => if x8 < x7 then (if 0 ≤ x8 then (if x8 < (x0.length : Int) then ((proof_shaped_2.f k (rd_L6 x0 x8) x1).bind fun t239 => (if t239 = true then (some x8) else (api_Elem_112.l0 k x0 x1 x7 (wrap64 (x8 + 1))))) else (none)) else (none)) else (some (-1))
def api_Elem_112.f (k : Nat) (l0 : List (List (S61))) (a1 : Int) : Option (Int) := api_Elem_112.l0 k l0 a1 (l0.length : Int) 0
theorem api_Elem_112.calls (k : Nat) (A0 : Option Addr) (c0 : Nat) (l0 : List (List (S61))) (a1 : Int) (r : Int) (w : World) (gl : Nat) (hY : LevB w gl a1) (hr0 : Kd.C (Kd.slice 61 k61) w A0 l0.length l0) (hc0 : l0.length ≤ c0) (h : api_Elem_112.f k l0 a1 = some r) :
  Calls Try.prog 112 #[.slice A0 l0.length c0, .func (.func 101) #[] #[.pointer (some ⟨gl, 0, none⟩)]] w fun e w' => e = .returned (.int .i64 r) ∧ Below w.heap.size w w' := by
 have HR0 := Aside0.mk hr0
 have HC0 := Aside0.mk hc0
 clear hr0 hc0
 have HB := Aside0.mk (Below.refl w.heap.size w)
 have HY0 := Aside0.mk hY
 have hcY := hY.cell
 clear hY
 have H : (api_Elem_112.l0 k l0 a1 (l0.length : Int) 0) = some r := h
 clear h
 have H' := Aside0.mk H
 clear H
 go_enter Try.func112, Try.ntmps112
 go_wp2
 go_loopg [8] k (fun kq v8 w' => ∃ (x8_1 : Int), v8 = .int .i64 x8_1 ∧ Aside0 (api_Elem_112.l0 kq l0 a1 (l0.length : Int) x8_1 = some r) ∧ Aside0 (kq ≤ k) ∧ Aside0 (Below w.heap.size w w'))
 case atStart => exact ⟨(0), (by first | rfl | (simp; done) | (simp [*]; done)), H', ⟨Nat.le_refl _⟩, ⟨bq HB.out⟩⟩
 case round =>
  clear H'
  try clear c1
  try clear p2
  obtain ⟨x8_1, rfl, HA, HK1, HB⟩ := hrel
  cases gk with
  | zero => exact absurd HA.out (by simp [api_Elem_112.l0])
  | succ k1 =>
   have H := HA.out
   clear HA
   simp only [api_Elem_112.l0] at H
   by_cases c3 : x8_1 < (l0.length : Int)
   rotate_left
   ·rw [if_neg c3] at H
    have c3b0 : decide (x8_1 < (l0.length : Int)) = false := decide_eq_false c3
    clear c3
    obtain rfl := Option.some.inj H
    go_wp2
    go_ret
    exact ⟨er, bq HB.out⟩

   rw [if_pos c3] at H
   have c3b0 : decide (x8_1 < (l0.length : Int)) = true := decide_eq_true c3
   clear c3
   by_cases c4 : 0 ≤ x8_1
   rotate_left
   ·rw [if_neg c4] at H
    exact absurd H (by simp)
   rw [if_pos c4] at H
   have c4b0 : decide (0 ≤ x8_1) = true := decide_eq_true c4
   clear c4
   by_cases c5 : x8_1 < (l0.length : Int)
   rotate_left
   ·rw [if_neg c5] at H
    exact absurd H (by simp)
   rw [if_pos c5] at H
   have c5b0 : decide (x8_1 < (l0.length : Int)) = true := decide_eq_true c5
   clear c5
   obtain ⟨t239, A6, H⟩ := bm2 H
   try dsimp only at H
   by_cases c7 : t239 = true
   ·subst c7
    have H1 : (some x8_1) = some r := by rw [if_pos rfl] at H; exact H
    clear H
    have H := H1
    clear H1
    obtain rfl := Option.some.inj H
    have p238 : 0 ≤ (x8_1 : Int) := dt
    have q238 : x8_1 < (l0.length : Int) := dt
    obtain ⟨ad238, A238_0, c238_0, e238, hx238_0, hl238_0, hi238_0⟩ := at_L6 HR0.out x8_1 p238 q238
    cases e238
    replace hx238_0 := (HB.out.cell (World.block_lt_of_cell? w _ hx238_0)).trans hx238_0
    have HR238_0 := Aside0.mk hi238_0
    have HC238_0 := Aside0.mk hl238_0
    clear hi238_0 hl238_0
    replace p238 := eq_true p238
    replace q238 := eq_true q238
    go_wp2_with (first | (go_at_call 101; (with_reducible refine (proof_shaped_2.calls (gl := gl) (hY := (by first | exact HY0.out.below HB.out | exact HY0.out.below (bq HB.out))) k1 _ _ (rd_L6 l0 x8_1) a1 true _ ?side1 ?side2 A6.out).mono ?_); (case side1 => exact cq (Kd.C_below HR238_0.out HB.out)); (case side2 => exact HC238_0.out); rintro e w8 ⟨rfl, hb⟩; replace HB := bh HB hb; (try clear hb); (try clear hk hi)))
    go_ret
    exact ⟨er, bq HB.out⟩
   replace c7 := Bool.eq_false_iff.mpr c7
   subst c7
   have H1 : (api_Elem_112.l0 k1 l0 a1 (l0.length : Int) (wrap64 (x8_1 + 1))) = some r := by rw [if_neg (show ¬ (false = true) by decide)] at H; exact H
   clear H
   have H := H1
   clear H1
   have H' := Aside0.mk H
   clear H
   have p238 : 0 ≤ (x8_1 : Int) := dt
   have q238 : x8_1 < (l0.length : Int) := dt
   obtain ⟨ad238, A238_0, c238_0, e238, hx238_0, hl238_0, hi238_0⟩ := at_L6 HR0.out x8_1 p238 q238
   cases e238
   replace hx238_0 := (HB.out.cell (World.block_lt_of_cell? w _ hx238_0)).trans hx238_0
   have HR238_0 := Aside0.mk hi238_0
   have HC238_0 := Aside0.mk hl238_0
   clear hi238_0 hl238_0
   replace p238 := eq_true p238
   replace q238 := eq_true q238
   go_wp2_with (first | (go_at_call 101; (with_reducible refine (proof_shaped_2.calls (gl := gl) (hY := (by first | exact HY0.out.below HB.out | exact HY0.out.below (bq HB.out))) k1 _ _ (rd_L6 l0 x8_1) a1 false _ ?side1 ?side2 A6.out).mono ?_); (case side1 => exact cq (Kd.C_below HR238_0.out HB.out)); (case side2 => exact HC238_0.out); rintro e w9 ⟨rfl, hb⟩; replace HB := bh HB hb; (try clear hb); (try clear hk hi)))
   go_roundg k1
   case measure => have := HK1.out; omega
   case rel => exact ⟨(wrap64 (x8_1 + 1)), (by first | rfl | (simp; done) | (simp [*]; done)), H', ⟨by have := HK1.out; omega⟩, ⟨bq HB.out⟩⟩
def api_Elem_104.f (k : Nat) (l0 : List (List (S61))) (a1 : Int) : Option (Bool) := (api_Elem_112.f k l0 a1).bind fun t240 => (some (decide (t240 ≥ 0)))
theorem api_Elem_104.calls (k : Nat) (A0 : Option Addr) (c0 : Nat) (l0 : List (List (S61))) (a1 : Int) (r : Bool) (w : World) (gl : Nat) (hY : LevB w gl a1) (hr0 : Kd.C (Kd.slice 61 k61) w A0 l0.length l0) (hc0 : l0.length ≤ c0) (h : api_Elem_104.f k l0 a1 = some r) :
  Calls Try.prog 104 #[.slice A0 l0.length c0, .func (.func 101) #[] #[.pointer (some ⟨gl, 0, none⟩)]] w fun e w' => e = .returned (.bool r) ∧ Below w.heap.size w w' := by
 have HR0 := Aside0.mk hr0
 have HC0 := Aside0.mk hc0
 clear hr0 hc0
 have HB := Aside0.mk (Below.refl w.heap.size w)
 have HY0 := Aside0.mk hY
 have hcY := hY.cell
 clear hY
 have H : ((api_Elem_112.f k l0 a1).bind fun t240 => (some (decide (t240 ≥ 0)))) = some r := h
 clear h
 obtain ⟨t240, A3, H⟩ := bm2 H
 replace H : (some (decide (t240 ≥ 0))) = some r := H
 obtain rfl := Option.some.inj H
 go_enter Try.func104, Try.ntmps104
 go_wp2_with (first | ((with_reducible refine gate_callee (f := 112) rfl ?_); refine gL (some 7) rfl Try.func112 #[.slice A0 l0.length c0, .func (.func 101) #[] #[.pointer (some ⟨gl, 0, none⟩)]] rfl ?_; (with_reducible refine (api_Elem_112.calls (gl := gl) (hY := (by first | exact HY0.out.below HB.out | exact HY0.out.below (bq HB.out))) k _ _ l0 a1 t240 _ ?side1 ?side2 A3.out).mono ?_); (case side1 => exact cq HR0.out); (case side2 => exact HC0.out); rintro e w4 ⟨rfl, hb⟩; refine ⟨_, rfl, ?_⟩; replace HB := bh HB hb; (try clear hb); (try clear hk hi)))
 go_ret
 exact ⟨er, bq HB.out⟩

end Go.Proofs.Ythgiifakcgjlaaa.P
