/- Written by a program of this session: functions that the law reaches, as Lean functions, and that the code comes to their answers. Conditions: those that each theorem names. -/
import Derived.Test.YtflddolfmaoalaaPx0
import Derived.Test.YtflddolfmaoalaaPx1
import Derived.Test.YtflddolfmaoalaaPx2
import Derived.Test.YtflddolfmaoalaaPx3
import Derived.Test.YtflddolfmaoalaaPx4
import Derived.Test.YtflddolfmaoalaaPx7
import Derived.Test.YtflddolfmaoalaaPx8
import Derived.Test.YtflddolfmaoalaaPx9
import Derived.Test.YtflddolfmaoalaaHElems
import Derived.Test.YtflddolfmaoalaaHList
namespace Go.Proofs.Ytflddolfmaoalaa.P
open Go.RowKit Go.Proofs.YtflddolfmaoalaaX Go.Proofs.YtflddolfmaoalaaW.PrintWords Go.Proofs.YtflddolfmaoalaaW.PrintLast Go.Proofs.YtflddolfmaoalaaW.PrintMore
attribute [local go_sem] max2_int min2_int max_two min_two max_three min_three max_four min_four   -- for this text's walks alone
set_option linter.unusedVariables false
set_option linter.unusedSimpArgs false

attribute [local go_sem high] eqA32 eqA33
/-! ### steeplelaw01_Texts: function 34 -/
def steeplelaw01_Texts.l0 : Nat → List ByteArray → List ByteArray → Int → Option (Bool)
 | 0, _, _, _ => none
 | k + 1, x0, x1, x5 => if x5 < (x0.length : Int) then (if 0 ≤ x5 then (if x5 < (x1.length : Int) then (if (rdOf ByteArray.empty x0 x5).toList = (rdOf ByteArray.empty x1 x5).toList then (steeplelaw01_Texts.l0 k x0 x1 (wrap64 (x5 + 1))) else (none)) else (none)) else (none)) else (some true)
def steeplelaw01_Texts.f (k : Nat) (l0 : List ByteArray) (l1 : List ByteArray) : Option (Bool) := if (l0.length : Int) = (l1.length : Int) then (steeplelaw01_Texts.l0 k l0 l1 0) else (none)
theorem steeplelaw01_Texts.mono_l : ∀ k, (∀ y0 y1 y2, LeO (steeplelaw01_Texts.l0 k y0 y1 y2) (steeplelaw01_Texts.l0 (k + 1) y0 y1 y2))
 | 0 => fun _ _ _ r h => by simp [steeplelaw01_Texts.l0] at h
 | k + 1 => by
  have ih0 := steeplelaw01_Texts.mono_l k
  ·intro y0 y1 y2
   unfold steeplelaw01_Texts.l0
   repeat' first
   | (with_reducible exact ih0 _ _ _)
   | (with_reducible exact LeO.refl _)
   | (with_reducible exact LeO.none _)
   | (with_reducible refine LeO.ite ?_ ?_)
   | (with_reducible refine LeO.bind ?_ (fun _ => ?_))
   | exact ih0 _ _ _
   | exact LeO.none _
   | refine LeO.ite ?_ ?_
   | refine LeO.bind ?_ (fun _ => ?_)
theorem steeplelaw01_Texts.mono : ∀ a0 a1 k, LeO (steeplelaw01_Texts.f k a0 a1) (steeplelaw01_Texts.f (k + 1) a0 a1) := by
 intro a0 a1 k
 have ih0 := steeplelaw01_Texts.mono_l k
 unfold steeplelaw01_Texts.f
 repeat' first
   | (with_reducible exact ih0 _ _ _)
   | (with_reducible exact LeO.refl _)
   | (with_reducible exact LeO.none _)
   | (with_reducible refine LeO.ite ?_ ?_)
   | (with_reducible refine LeO.bind ?_ (fun _ => ?_))
   | exact ih0 _ _ _
   | exact LeO.none _
   | refine LeO.ite ?_ ?_
   | refine LeO.bind ?_ (fun _ => ?_)
set_option maxHeartbeats 8000000 in
set_option maxRecDepth 100000 in
theorem steeplelaw01_Texts.calls (k : Nat) (A0 : Option Addr) (c0 : Nat) (l0 : List ByteArray) (A1 : Option Addr) (c1 : Nat) (l1 : List ByteArray) (r : Bool) (w : World) (hr0 : Kd.C Kd.string w A0 l0.length l0) (hc0 : l0.length ≤ c0) (hr1 : Kd.C Kd.string w A1 l1.length l1) (hc1 : l1.length ≤ c1) (h : steeplelaw01_Texts.f k l0 l1 = some r) :
  Calls Try.prog 34 #[.slice A0 l0.length c0, .slice A1 l1.length c1] w fun e w' => e = .returned (.bool r) ∧ Drawn0 w w' := by
 have HR0 := Aside0.mk hr0
 have HC0 := Aside0.mk hc0
 clear hr0 hc0
 have HR1 := Aside0.mk hr1
 have HC1 := Aside0.mk hc1
 clear hr1 hc1
 have H : (if (l0.length : Int) = (l1.length : Int) then (steeplelaw01_Texts.l0 k l0 l1 0) else (none)) = some r := h
 clear h
 by_cases c3 : (l0.length : Int) = (l1.length : Int)
 ·rw [if_pos c3] at H
  have c3b0 : ((l0.length : Int) == (l1.length : Int)) = true := beq_iff_eq.mpr c3
  have c3b1 : ((l0.length : Int) != (l1.length : Int)) = false := bne_eq_false_iff_eq.mpr c3
  have c3b2 : (l0.length == l1.length) = true := by first | simpa using c3 | (simp at c3 ⊢; omega)
  clear c3
  have H' := Aside0.mk H
  clear H
  go_enter Try.func34, Try.ntmps34
  go_wp2
  repeat (go_quiet (fail); try go_wp2)
  go_loopg [5] k (fun kq v5 w' => ∃ (x5_1 : Int), v5 = .int .i64 x5_1 ∧ Aside0 (steeplelaw01_Texts.l0 kq l0 l1 x5_1 = some r) ∧ Aside0 (kq ≤ k) ∧ Drawn0 w w')
  case atStart => exact ⟨(0), (by first | rfl | (simp; done) | (simp [*]; done)), H', ⟨Nat.le_refl _⟩, by repeat (first | exact Drawn0.refl _ | apply Drawn0.step)⟩
  case round =>
   clear H'
   try clear c1
   try clear p2
   try clear c3
   try clear c3b0
   try clear c3b1
   try clear c3b2
   obtain ⟨x5_1, rfl, HA, HK1, ⟨m1, rfl⟩⟩ := hrel
   cases gk with
   | zero => exact absurd HA.out (by simp [steeplelaw01_Texts.l0])
   | succ k1 =>
    have H := HA.out
    clear HA
    simp only [steeplelaw01_Texts.l0] at H
    by_cases c4 : x5_1 < (l0.length : Int)
    ·rw [if_pos c4] at H
     have c4b0 : decide (x5_1 < (l0.length : Int)) = true := decide_eq_true c4
     clear c4
     by_cases c5 : 0 ≤ x5_1
     ·rw [if_pos c5] at H
      have c5b0 : decide (0 ≤ x5_1) = true := decide_eq_true c5
      clear c5
      by_cases c6 : x5_1 < (l1.length : Int)
      ·rw [if_pos c6] at H
       have c6b0 : decide (x5_1 < (l1.length : Int)) = true := decide_eq_true c6
       clear c6
       by_cases c7 : (rdOf ByteArray.empty l0 x5_1).toList = (rdOf ByteArray.empty l1 x5_1).toList
       ·rw [if_pos c7] at H
        have c7b0 : ((rdOf ByteArray.empty l0 x5_1).toList == (rdOf ByteArray.empty l1 x5_1).toList) = true := beq_iff_eq.mpr c7
        have c7b1 : ((rdOf ByteArray.empty l0 x5_1).toList != (rdOf ByteArray.empty l1 x5_1).toList) = false := bne_eq_false_iff_eq.mpr c7
        clear c7
        have H' := Aside0.mk H
        clear H
        have p303 : 0 ≤ (x5_1 : Int) := of_decide_eq_true (by first | (with_reducible assumption) | assumption)
        have q303 : x5_1 < (l0.length : Int) := of_decide_eq_true (by first | (with_reducible assumption) | assumption)
        obtain ⟨ad303, e303, hx303_0⟩ := Kd.at_string HR0.out x5_1 p303 q303
        cases e303
        replace p303 := eq_true p303
        replace q303 := eq_true q303
        have p304 : 0 ≤ (x5_1 : Int) := of_decide_eq_true (by first | (with_reducible assumption) | assumption)
        have q304 : x5_1 < (l1.length : Int) := of_decide_eq_true (by first | (with_reducible assumption) | assumption)
        obtain ⟨ad304, e304, hx304_0⟩ := Kd.at_string HR1.out x5_1 p304 q304
        cases e304
        replace p304 := eq_true p304
        replace q304 := eq_true q304
        go_wp2
        repeat (go_quiet (fail); try go_wp2)
        go_roundg k1
        case measure => have := HK1.out; omega
        case rel => exact ⟨(wrap64 (x5_1 + 1)), (by first | rfl | (simp; done) | (simp [*]; done)), H', ⟨by have := HK1.out; omega⟩, by repeat (first | exact Drawn0.refl _ | apply Drawn0.step)⟩
       ·rw [if_neg c7] at H
        exact absurd H (by simp)
      ·rw [if_neg c6] at H
       exact absurd H (by simp)
     ·rw [if_neg c5] at H
      exact absurd H (by simp)
    ·rw [if_neg c4] at H
     have c4b0 : decide (x5_1 < (l0.length : Int)) = false := decide_eq_false c4
     clear c4
     obtain rfl := Option.some.inj H
     go_wp2
     repeat (go_quiet (fail); try go_wp2)
     go_ret
     exact ⟨by first | rfl | (simp; done) | (simp [*]; done), by repeat (first | exact Drawn0.refl _ | apply Drawn0.step)⟩
 ·rw [if_neg c3] at H
  exact absurd H (by simp)

/-! ### steeplelaw01_Same: function 35 -/
def steeplelaw01_Same.l0 : Nat → List (S33) → List (S32) → Int → Option (Bool)
 | 0, _, _, _ => none
 | k + 1, x0, x1, x5 => if x5 < (x0.length : Int) then (if 0 ≤ x5 then (if x5 < (x1.length : Int) then (if (!(((rd_T33 x0 x5).f0) == ((rd_T32 x1 x5).f0)) || (!(((rd_T33 x0 x5).f1) == ((rd_T32 x1 x5).f1)))) = true then (none) else (steeplelaw01_Same.l0 k x0 x1 (wrap64 (x5 + 1)))) else (none)) else (none)) else (some true)
def steeplelaw01_Same.f (k : Nat) (l0 : List (S33)) (l1 : List (S32)) : Option (Bool) := if (l0.length : Int) = (l1.length : Int) then (steeplelaw01_Same.l0 k l0 l1 0) else (none)
theorem steeplelaw01_Same.mono_l : ∀ k, (∀ y0 y1 y2, LeO (steeplelaw01_Same.l0 k y0 y1 y2) (steeplelaw01_Same.l0 (k + 1) y0 y1 y2))
 | 0 => fun _ _ _ r h => by simp [steeplelaw01_Same.l0] at h
 | k + 1 => by
  have ih0 := steeplelaw01_Same.mono_l k
  ·intro y0 y1 y2
   unfold steeplelaw01_Same.l0
   repeat' first
   | (with_reducible exact ih0 _ _ _)
   | (with_reducible exact LeO.refl _)
   | (with_reducible exact LeO.none _)
   | (with_reducible refine LeO.ite ?_ ?_)
   | (with_reducible refine LeO.bind ?_ (fun _ => ?_))
   | exact ih0 _ _ _
   | exact LeO.none _
   | refine LeO.ite ?_ ?_
   | refine LeO.bind ?_ (fun _ => ?_)
theorem steeplelaw01_Same.mono : ∀ a0 a1 k, LeO (steeplelaw01_Same.f k a0 a1) (steeplelaw01_Same.f (k + 1) a0 a1) := by
 intro a0 a1 k
 have ih0 := steeplelaw01_Same.mono_l k
 unfold steeplelaw01_Same.f
 repeat' first
   | (with_reducible exact ih0 _ _ _)
   | (with_reducible exact LeO.refl _)
   | (with_reducible exact LeO.none _)
   | (with_reducible refine LeO.ite ?_ ?_)
   | (with_reducible refine LeO.bind ?_ (fun _ => ?_))
   | exact ih0 _ _ _
   | exact LeO.none _
   | refine LeO.ite ?_ ?_
   | refine LeO.bind ?_ (fun _ => ?_)
set_option maxHeartbeats 8000000 in
set_option maxRecDepth 100000 in
theorem steeplelaw01_Same.calls (k : Nat) (A0 : Option Addr) (c0 : Nat) (l0 : List (S33)) (A1 : Option Addr) (c1 : Nat) (l1 : List (S32)) (r : Bool) (w : World) (hr0 : Kd.C k33 w A0 l0.length l0) (hc0 : l0.length ≤ c0) (hr1 : Kd.C k32 w A1 l1.length l1) (hc1 : l1.length ≤ c1) (h : steeplelaw01_Same.f k l0 l1 = some r) :
  Calls Try.prog 35 #[.slice A0 l0.length c0, .slice A1 l1.length c1] w fun e w' => e = .returned (.bool r) ∧ Drawn0 w w' := by
 have hu33 := Try.underlying33
 have hu32 := Try.underlying32
 have HR0 := Aside0.mk hr0
 have HC0 := Aside0.mk hc0
 clear hr0 hc0
 have HR1 := Aside0.mk hr1
 have HC1 := Aside0.mk hc1
 clear hr1 hc1
 have H : (if (l0.length : Int) = (l1.length : Int) then (steeplelaw01_Same.l0 k l0 l1 0) else (none)) = some r := h
 clear h
 by_cases c3 : (l0.length : Int) = (l1.length : Int)
 ·rw [if_pos c3] at H
  have c3b0 : ((l0.length : Int) == (l1.length : Int)) = true := beq_iff_eq.mpr c3
  have c3b1 : ((l0.length : Int) != (l1.length : Int)) = false := bne_eq_false_iff_eq.mpr c3
  have c3b2 : (l0.length == l1.length) = true := by first | simpa using c3 | (simp at c3 ⊢; omega)
  clear c3
  have H' := Aside0.mk H
  clear H
  go_enter Try.func35, Try.ntmps35
  go_wp2
  repeat (go_quiet (fail); try go_wp2)
  go_loopg [5] k (fun kq v5 w' => ∃ (x5_1 : Int), v5 = .int .i64 x5_1 ∧ Aside0 (steeplelaw01_Same.l0 kq l0 l1 x5_1 = some r) ∧ Aside0 (kq ≤ k) ∧ Drawn0 w w')
  case atStart => exact ⟨(0), (by first | rfl | (simp; done) | (simp [*]; done)), H', ⟨Nat.le_refl _⟩, by repeat (first | exact Drawn0.refl _ | apply Drawn0.step)⟩
  case round =>
   clear H'
   try clear c1
   try clear p2
   try clear c3
   try clear c3b0
   try clear c3b1
   try clear c3b2
   obtain ⟨x5_1, rfl, HA, HK1, ⟨m1, rfl⟩⟩ := hrel
   cases gk with
   | zero => exact absurd HA.out (by simp [steeplelaw01_Same.l0])
   | succ k1 =>
    have H := HA.out
    clear HA
    simp only [steeplelaw01_Same.l0] at H
    by_cases c4 : x5_1 < (l0.length : Int)
    ·rw [if_pos c4] at H
     have c4b0 : decide (x5_1 < (l0.length : Int)) = true := decide_eq_true c4
     clear c4
     by_cases c5 : 0 ≤ x5_1
     ·rw [if_pos c5] at H
      have c5b0 : decide (0 ≤ x5_1) = true := decide_eq_true c5
      clear c5
      by_cases c6 : x5_1 < (l1.length : Int)
      ·rw [if_pos c6] at H
       have c6b0 : decide (x5_1 < (l1.length : Int)) = true := decide_eq_true c6
       clear c6
       by_cases c7 : (!(((rd_T33 l0 x5_1).f0) == ((rd_T32 l1 x5_1).f0)) || (!(((rd_T33 l0 x5_1).f1) == ((rd_T32 l1 x5_1).f1)))) = true
       ·rw [if_pos c7] at H
        exact absurd H (by simp)
       ·rw [if_neg c7] at H
        have c7b0 : (!(((rd_T33 l0 x5_1).f0) == ((rd_T32 l1 x5_1).f0)) || (!(((rd_T33 l0 x5_1).f1) == ((rd_T32 l1 x5_1).f1)))) = false := by simpa using c7
        clear c7
        have H' := Aside0.mk H
        clear H
        have p305 : 0 ≤ (x5_1 : Int) := of_decide_eq_true (by first | (with_reducible assumption) | assumption)
        have q305 : x5_1 < (l0.length : Int) := of_decide_eq_true (by first | (with_reducible assumption) | assumption)
        obtain ⟨ad305, e305, hx305_0, hx305_1⟩ := at_T33 HR0.out x5_1 p305 q305
        cases e305
        replace p305 := eq_true p305
        replace q305 := eq_true q305
        have p306 : 0 ≤ (x5_1 : Int) := of_decide_eq_true (by first | (with_reducible assumption) | assumption)
        have q306 : x5_1 < (l1.length : Int) := of_decide_eq_true (by first | (with_reducible assumption) | assumption)
        obtain ⟨ad306, e306, hx306_0, hx306_1⟩ := at_T32 HR1.out x5_1 p306 q306
        cases e306
        replace p306 := eq_true p306
        replace q306 := eq_true q306
        go_wp2
        repeat (go_quiet (fail); try go_wp2)
        go_roundg k1
        case measure => have := HK1.out; omega
        case rel => exact ⟨(wrap64 (x5_1 + 1)), (by first | rfl | (simp; done) | (simp [*]; done)), H', ⟨by have := HK1.out; omega⟩, by repeat (first | exact Drawn0.refl _ | apply Drawn0.step)⟩
      ·rw [if_neg c6] at H
       exact absurd H (by simp)
     ·rw [if_neg c5] at H
      exact absurd H (by simp)
    ·rw [if_neg c4] at H
     have c4b0 : decide (x5_1 < (l0.length : Int)) = false := decide_eq_false c4
     clear c4
     obtain rfl := Option.some.inj H
     go_wp2
     repeat (go_quiet (fail); try go_wp2)
     go_ret
     exact ⟨by first | rfl | (simp; done) | (simp [*]; done), by repeat (first | exact Drawn0.refl _ | apply Drawn0.step)⟩
 ·rw [if_neg c3] at H
  exact absurd H (by simp)

/-! ### steeplelaw01_OctetBack: function 7 -/
def steeplelaw01_OctetBack.j0 : Nat → Int → List ByteArray → Bool → Int → List (S33) → Option (Bool)
 | 0, _, _, _, _, _ => none
 | k + 1, x0, x1, x33, x308000, x308001 => if x33 = true then ((steeplelaw01_awake.f k).bind fun t311 => (some t311)) else ((octet_Num.f x0).bind fun t312 => ((octet_List.f k x1).bind fun t313 => (if t312.size + t313.size ≤ 9223372036854775807 then ((octet_Elems.f k x308000 x308001).bind fun t314 => (if (t312 ++ t313).size + t314.size ≤ 9223372036854775807 then ((octet_Text.f (⟨#[101, 110, 100]⟩ : ByteArray)).bind fun t315 => (if ((t312 ++ t313) ++ t314).size + t315.size ≤ 9223372036854775807 then ((octet_Read.f (((t312 ++ t313) ++ t314) ++ t315)).bind fun bt316 => ((octet_Reader_Num.f bt316.1 bt316.2 x0).bind fun bt319 => ((octet_Reader_List.f k bt319.2.1 bt319.2.2 (x1.length : Int) 300).bind fun bt322 => ((octet_Reader_Elems.f k bt322.2.1 bt322.2.2 x308000 (x308001.length : Int)).bind fun bt327 => ((octet_Reader_Text.f bt327.2.1 bt327.2.2 3).bind fun bt332 => ((steeplelaw01_awake.f k).bind fun t335 => (if t335 = true then (if bt319.1 = x0 then ((steeplelaw01_Texts.f k bt322.1 x1).bind fun t336 => (if t336 = true then ((steeplelaw01_Ref.f k x308001).bind fun t337 => ((steeplelaw01_Same.f k bt327.1 t337).bind fun t340 => (if t340 = true then (if bt332.1.toList = ([101, 110, 100] : List UInt8) then ((octet_Reader_End.f bt332.2.1 bt332.2.2).bind fun bt341 => (some (bt341.1 == 0))) else (none)) else (none)))) else (none))) else (none)) else (none)))))))) else (none))) else (none))) else (none))))
def steeplelaw01_OctetBack.f (k : Nat) (a0 : Int) (l1 : List ByteArray) (a2_0 : Int) (l2_1 : List (S33)) : Option (Bool) := (steeplelaw01_Few.f k l1 20 300).bind fun t308 => (if t308 = true then (if (l2_1.length : Int) > 50 then (steeplelaw01_OctetBack.j0 k a0 l1 true a2_0 l2_1) else ((octet_Num.f a0).bind fun t309 => (if t309.toList = ([] : List UInt8) then (steeplelaw01_OctetBack.j0 k a0 l1 true a2_0 l2_1) else ((octet_Elems.f k a2_0 l2_1).bind fun t310 => (steeplelaw01_OctetBack.j0 k a0 l1 (t310.toList == ([] : List UInt8)) a2_0 l2_1))))) else (steeplelaw01_OctetBack.j0 k a0 l1 true a2_0 l2_1))
theorem steeplelaw01_OctetBack.mono_l : ∀ k, (∀ y0 y1 y2 y3 y4, LeO (steeplelaw01_OctetBack.j0 k y0 y1 y2 y3 y4) (steeplelaw01_OctetBack.j0 (k + 1) y0 y1 y2 y3 y4))
 | 0 => fun _ _ _ _ _ r h => by simp [steeplelaw01_OctetBack.j0] at h
 | k + 1 => by
  have ih0 := steeplelaw01_OctetBack.mono_l k
  ·intro y0 y1 y2 y3 y4
   unfold steeplelaw01_OctetBack.j0
   repeat' first
   | (with_reducible exact ih0 _ _ _ _ _)
   | (with_reducible exact octet_Elems.mono _ _ _)
   | (with_reducible exact octet_List.mono _ _)
   | (with_reducible exact octet_Reader_Elems.mono _ _ _ _ _)
   | (with_reducible exact octet_Reader_List.mono _ _ _ _ _)
   | (with_reducible exact steeplelaw01_Few.mono _ _ _ _)
   | (with_reducible exact steeplelaw01_Ref.mono _ _)
   | (with_reducible exact steeplelaw01_Same.mono _ _ _)
   | (with_reducible exact steeplelaw01_Texts.mono _ _ _)
   | (with_reducible exact steeplelaw01_awake.mono _)
   | (with_reducible exact LeO.refl _)
   | (with_reducible exact LeO.none _)
   | (with_reducible refine LeO.ite ?_ ?_)
   | (with_reducible refine LeO.bind ?_ (fun _ => ?_))
   | exact ih0 _ _ _ _ _
   | exact octet_Elems.mono _ _ _
   | exact octet_List.mono _ _
   | exact octet_Reader_Elems.mono _ _ _ _ _
   | exact octet_Reader_List.mono _ _ _ _ _
   | exact steeplelaw01_Few.mono _ _ _ _
   | exact steeplelaw01_Ref.mono _ _
   | exact steeplelaw01_Same.mono _ _ _
   | exact steeplelaw01_Texts.mono _ _ _
   | exact steeplelaw01_awake.mono _
   | exact LeO.none _
   | refine LeO.ite ?_ ?_
   | refine LeO.bind ?_ (fun _ => ?_)
theorem steeplelaw01_OctetBack.mono : ∀ a0 a1 a2 a3 k, LeO (steeplelaw01_OctetBack.f k a0 a1 a2 a3) (steeplelaw01_OctetBack.f (k + 1) a0 a1 a2 a3) := by
 intro a0 a1 a2 a3 k
 have ih0 := steeplelaw01_OctetBack.mono_l k
 unfold steeplelaw01_OctetBack.f
 repeat' first
   | (with_reducible exact ih0 _ _ _ _ _)
   | (with_reducible exact octet_Elems.mono _ _ _)
   | (with_reducible exact octet_List.mono _ _)
   | (with_reducible exact octet_Reader_Elems.mono _ _ _ _ _)
   | (with_reducible exact octet_Reader_List.mono _ _ _ _ _)
   | (with_reducible exact steeplelaw01_Few.mono _ _ _ _)
   | (with_reducible exact steeplelaw01_Ref.mono _ _)
   | (with_reducible exact steeplelaw01_Same.mono _ _ _)
   | (with_reducible exact steeplelaw01_Texts.mono _ _ _)
   | (with_reducible exact steeplelaw01_awake.mono _)
   | (with_reducible exact LeO.refl _)
   | (with_reducible exact LeO.none _)
   | (with_reducible refine LeO.ite ?_ ?_)
   | (with_reducible refine LeO.bind ?_ (fun _ => ?_))
   | exact ih0 _ _ _ _ _
   | exact octet_Elems.mono _ _ _
   | exact octet_List.mono _ _
   | exact octet_Reader_Elems.mono _ _ _ _ _
   | exact octet_Reader_List.mono _ _ _ _ _
   | exact steeplelaw01_Few.mono _ _ _ _
   | exact steeplelaw01_Ref.mono _ _
   | exact steeplelaw01_Same.mono _ _ _
   | exact steeplelaw01_Texts.mono _ _ _
   | exact steeplelaw01_awake.mono _
   | exact LeO.none _
   | refine LeO.ite ?_ ?_
   | refine LeO.bind ?_ (fun _ => ?_)
def steeplelaw01_OctetBack.T3 : Bool × List (List Nat × List Nat) := (true, [([], []), ([0], [0]), ([], []), ([2, 1], [2]), ([1, 3], [1, 3]), ([], []), ([5], [5]), ([], []), ([7], [7]), ([6, 8, 3], [6, 8]), ([4, 9], [4, 9]), ([9], []), ([10, 11], [10, 11]), ([12, 11], [12]), ([13, 13, 0, 1, 2, 3, 4, 5, 6, 7, 8, 9, 10, 11, 12, 13], [13])])
def steeplelaw01_OctetBack.B3 : List Nat := [0, 1, 0, 7, 15, 0, 32, 0, 128, 495, 1023, 1007, 4095, 8191, 16383]
theorem steeplelaw01_OctetBack.tab3 : rtab .any (opsOf Try.f7 3) = steeplelaw01_OctetBack.T3 := by kernel_rfl
theorem steeplelaw01_OctetBack.bits3 : waitsOk steeplelaw01_OctetBack.T3.2 steeplelaw01_OctetBack.B3 = true := by kernel_rfl
set_option maxHeartbeats 8000000 in
set_option maxRecDepth 100000 in
theorem steeplelaw01_OctetBack.calls (k : Nat) (a0 : Int) (A1 : Option Addr) (c1 : Nat) (l1 : List ByteArray) (a2_0 : Int) (A2_1 : Option Addr) (c2_1 : Nat) (l2_1 : List (S33)) (r : Bool) (w : World) (hr1 : Kd.C Kd.string w A1 l1.length l1) (hc1 : l1.length ≤ c1) (hr2_1 : Kd.C k33 w A2_1 l2_1.length l2_1) (hc2_1 : l2_1.length ≤ c2_1) (h : steeplelaw01_OctetBack.f k a0 l1 a2_0 l2_1 = some r) :
  Calls Try.prog 7 #[.int .i64 a0, .slice A1 l1.length c1, .agg #[.int .i64 a2_0, .slice A2_1 l2_1.length c2_1]] w fun e w' => e = .returned (.bool r) ∧ Below w.heap.size w w' := by
 have hu57 := Try.underlying57
 have HR1 := Aside0.mk hr1
 have HC1 := Aside0.mk hc1
 clear hr1 hc1
 have HR2_1 := Aside0.mk hr2_1
 have HC2_1 := Aside0.mk hc2_1
 clear hr2_1 hc2_1
 have HB := Aside0.mk (Below.refl w.heap.size w)
 have H : ((steeplelaw01_Few.f k l1 20 300).bind fun t308 => (if t308 = true then (if (l2_1.length : Int) > 50 then (steeplelaw01_OctetBack.j0 k a0 l1 true a2_0 l2_1) else ((octet_Num.f a0).bind fun t309 => (if t309.toList = ([] : List UInt8) then (steeplelaw01_OctetBack.j0 k a0 l1 true a2_0 l2_1) else ((octet_Elems.f k a2_0 l2_1).bind fun t310 => (steeplelaw01_OctetBack.j0 k a0 l1 (t310.toList == ([] : List UInt8)) a2_0 l2_1))))) else (steeplelaw01_OctetBack.j0 k a0 l1 true a2_0 l2_1))) = some r := h
 clear h
 have HC4 := Aside0.mk H
 clear H
 go_enter Try.func7, Try.ntmps7
 go_upto_region 1 with (first | ((with_reducible refine gate_dst (N := 5) rfl ?_); (try (refine gate_guard (by rfl) ?_; dsimp only)); refine box_event ?hg (N := 5) ?hd (cs := #[.int .i64 a2_0, .slice A2_1 l2_1.length c2_1]) (t := 57) ?hr ?_; (case hd => rfl); (case hg => rfl); (case hr => first | (go_simp; done) | (go_simp; rfl)); intro gb307 hg w5 hbox hb; have BK307 := Aside0.mk hbox; have GW307 := ge hg HB; have GE307 := ge hg HB; replace HB := bh HB hb; clear hb hbox hg))
 (try simp only [Act.put, List.setIfInBounds_toArray, List.set_cons_zero, List.set_cons_succ])
 go_cut [33] (fun v33 wc => ∃ (kq : Nat) (x33_3 : Bool), v33 = .bool x33_3 ∧ Aside0 (steeplelaw01_OctetBack.j0 kq a0 l1 x33_3 a2_0 l2_1 = some r) ∧ Aside0 (kq ≤ k) ∧ Aside0 (wc.heap[gb307]? = some (.cells #[.int .i64 a2_0, (.slice A2_1 l2_1.length c2_1)] 57 (0, 0))) ∧ Aside0 (Below w.heap.size w wc))
 case first =>
  have H := HC4.out
  clear HC4
  replace H := Option.bind_eq_some_iff.mp H
  obtain ⟨t308, A60, H⟩ := H
  replace H : (if t308 = true then (if (l2_1.length : Int) > 50 then (steeplelaw01_OctetBack.j0 k a0 l1 true a2_0 l2_1) else ((octet_Num.f a0).bind fun t309 => (if t309.toList = ([] : List UInt8) then (steeplelaw01_OctetBack.j0 k a0 l1 true a2_0 l2_1) else ((octet_Elems.f k a2_0 l2_1).bind fun t310 => (steeplelaw01_OctetBack.j0 k a0 l1 (t310.toList == ([] : List UInt8)) a2_0 l2_1))))) else (steeplelaw01_OctetBack.j0 k a0 l1 true a2_0 l2_1)) = some r := H
  have A6 := Aside0.mk A60
  clear A60
  by_cases c7 : t308 = true
  ·subst c7
   have H1 : (if (l2_1.length : Int) > 50 then (steeplelaw01_OctetBack.j0 k a0 l1 true a2_0 l2_1) else ((octet_Num.f a0).bind fun t309 => (if t309.toList = ([] : List UInt8) then (steeplelaw01_OctetBack.j0 k a0 l1 true a2_0 l2_1) else ((octet_Elems.f k a2_0 l2_1).bind fun t310 => (steeplelaw01_OctetBack.j0 k a0 l1 (t310.toList == ([] : List UInt8)) a2_0 l2_1))))) = some r := by rw [if_pos rfl] at H; exact H
   clear H
   have H := H1
   clear H1
   by_cases c8 : (l2_1.length : Int) > 50
   ·rw [if_pos c8] at H
    have c8b0 : decide (50 < (l2_1.length : Int)) = true := decide_eq_true c8
    have c8b1 : decide (50 < l2_1.length) = true := decide_eq_true (by omega)
    clear c8
    (first | rw [c8b0] | (simp only [i64_w, i32_w]; rw [c8b0]) | skip)
    have H' := Aside0.mk H
    clear H
    go_wp2_with (first | ((with_reducible refine gate_callee (f := 8) rfl ?_); refine goesL_ (some 13) rfl rfl Try.func8 (by kernel_rfl) rfl #[.slice A1 l1.length c1, .int .i64 20, .int .i64 300] rfl (by (try simp only [List.map_toArray, List.map_cons, List.map_nil]); first | done | rfl | (simp only [List.length_drop, List.length_take]; rfl)) ?_; (with_reducible refine (steeplelaw01_Few.calls k _ _ l1 20 300 true _ ?side1 ?side2 A6.out).mono ?_); (case side1 => repeat (first | exact (Kd.C_below HR1.out HB.out) | (with_reducible refine Kd.C_alloc ?_ _) | (with_reducible refine Kd.C_drewN ?_ _) | (with_reducible refine Kd.C_drew ?_))); (case side2 => exact HC1.out); rintro e w' ⟨rfl, ⟨nd, rfl⟩⟩; refine ⟨_, rfl, ?_⟩; obtain ⟨hcz9_0, hcz9_1⟩ := zc2 BK307; obtain ⟨hfz9_0, hfz9_1⟩ := zf2 BK307))
    go_meet
    case rel => exact ⟨_, (true), (by first | rfl | (simp; done) | (simp [*]; done)), H', ⟨by first | omega | exact Nat.le_refl _⟩, ⟨bk BK307.out⟩, ⟨bq HB.out⟩⟩
   ·rw [if_neg c8] at H
    have c8b0 : decide (50 < (l2_1.length : Int)) = false := decide_eq_false c8
    have c8b1 : decide (50 < l2_1.length) = false := decide_eq_false (by omega)
    clear c8
    (first | rw [c8b0] | (simp only [i64_w, i32_w]; rw [c8b0]) | skip)
    replace H := Option.bind_eq_some_iff.mp H
    obtain ⟨t309, A100, H⟩ := H
    replace H : (if t309.toList = ([] : List UInt8) then (steeplelaw01_OctetBack.j0 k a0 l1 true a2_0 l2_1) else ((octet_Elems.f k a2_0 l2_1).bind fun t310 => (steeplelaw01_OctetBack.j0 k a0 l1 (t310.toList == ([] : List UInt8)) a2_0 l2_1))) = some r := H
    have A10 := Aside0.mk A100
    clear A100
    by_cases c11 : t309.toList = ([] : List UInt8)
    ·rw [if_pos c11] at H
     have c11b0 : (t309.toList == ([] : List UInt8)) = true := beq_iff_eq.mpr c11
     have c11b1 : (t309.toList != ([] : List UInt8)) = false := bne_eq_false_iff_eq.mpr c11
     clear c11
     have H' := Aside0.mk H
     clear H
     go_wp2_with (first | ((with_reducible refine gate_callee (f := 8) rfl ?_); refine goesL_ (some 13) rfl rfl Try.func8 (by kernel_rfl) rfl #[.slice A1 l1.length c1, .int .i64 20, .int .i64 300] rfl (by (try simp only [List.map_toArray, List.map_cons, List.map_nil]); first | done | rfl | (simp only [List.length_drop, List.length_take]; rfl)) ?_; (with_reducible refine (steeplelaw01_Few.calls k _ _ l1 20 300 true _ ?side1 ?side2 A6.out).mono ?_); (case side1 => repeat (first | exact (Kd.C_below HR1.out HB.out) | (with_reducible refine Kd.C_alloc ?_ _) | (with_reducible refine Kd.C_drewN ?_ _) | (with_reducible refine Kd.C_drew ?_))); (case side2 => exact HC1.out); rintro e w' ⟨rfl, ⟨nd, rfl⟩⟩; refine ⟨_, rfl, ?_⟩; obtain ⟨hcz12_0, hcz12_1⟩ := zc2 BK307; obtain ⟨hfz12_0, hfz12_1⟩ := zf2 BK307) | (go_at_call 12; (with_reducible refine (octet_Num.calls a0 t309 _ A10.out).mono ?_); rintro e w13 ⟨rfl, hb⟩; replace BK307 := bb BK307 hb; replace HB := bh HB hb; (try clear hb); (try clear hb2); (try clear hk); (try clear hi)))
     go_meet
     case rel => exact ⟨_, (true), (by first | rfl | (simp; done) | (simp [*]; done)), H', ⟨by first | omega | exact Nat.le_refl _⟩, ⟨bk BK307.out⟩, ⟨bq HB.out⟩⟩
    ·rw [if_neg c11] at H
     have c11b0 : (t309.toList == ([] : List UInt8)) = false := beq_eq_false_iff_ne.mpr c11
     have c11b1 : (t309.toList != ([] : List UInt8)) = true := bne_iff_ne.mpr c11
     replace H := Option.bind_eq_some_iff.mp H
     obtain ⟨t310, A140, H⟩ := H
     replace H : (steeplelaw01_OctetBack.j0 k a0 l1 (t310.toList == ([] : List UInt8)) a2_0 l2_1) = some r := H
     have A14 := Aside0.mk A140
     clear A140
     have H' := Aside0.mk H
     clear H
     go_wp2_with (first | ((with_reducible refine gate_callee (f := 8) rfl ?_); refine goesL_ (some 13) rfl rfl Try.func8 (by kernel_rfl) rfl #[.slice A1 l1.length c1, .int .i64 20, .int .i64 300] rfl (by (try simp only [List.map_toArray, List.map_cons, List.map_nil]); first | done | rfl | (simp only [List.length_drop, List.length_take]; rfl)) ?_; (with_reducible refine (steeplelaw01_Few.calls k _ _ l1 20 300 true _ ?side1 ?side2 A6.out).mono ?_); (case side1 => repeat (first | exact (Kd.C_below HR1.out HB.out) | (with_reducible refine Kd.C_alloc ?_ _) | (with_reducible refine Kd.C_drewN ?_ _) | (with_reducible refine Kd.C_drew ?_))); (case side2 => exact HC1.out); rintro e w' ⟨rfl, ⟨nd, rfl⟩⟩; refine ⟨_, rfl, ?_⟩; obtain ⟨hcz15_0, hcz15_1⟩ := zc2 BK307; obtain ⟨hfz15_0, hfz15_1⟩ := zf2 BK307) | (go_at_call 12; (with_reducible refine (octet_Num.calls a0 t309 _ A10.out).mono ?_); rintro e w16 ⟨rfl, hb⟩; replace BK307 := bb BK307 hb; replace HB := bh HB hb; (try clear hb); (try clear hb2); (try clear hk); (try clear hi); obtain ⟨hcz17_0, hcz17_1⟩ := zc2 BK307; obtain ⟨hfz17_0, hfz17_1⟩ := zf2 BK307) | (go_at_call 22; (with_reducible refine (octet_Elems.calls k a2_0 _ _ l2_1 t310 _ ?side1 ?side2 A14.out).mono ?_); (case side1 => repeat (first | exact (Kd.C_below HR2_1.out HB.out) | (with_reducible refine Kd.C_alloc ?_ _) | (with_reducible refine Kd.C_drewN ?_ _) | (with_reducible refine Kd.C_drew ?_))); (case side2 => exact HC2_1.out); rintro e w18 ⟨rfl, hb⟩; replace BK307 := bb BK307 hb; replace HB := bh HB hb; (try clear hb); (try clear hb2); (try clear hk); (try clear hi)))
     go_meet
     case rel => exact ⟨_, ((t310.toList == ([] : List UInt8))), (by first | rfl | (simp; done) | (simp [*]; done)), H', ⟨by first | omega | exact Nat.le_refl _⟩, ⟨bk BK307.out⟩, ⟨bq HB.out⟩⟩
  ·replace c7 := Bool.eq_false_iff.mpr c7
   subst c7
   have H1 : (steeplelaw01_OctetBack.j0 k a0 l1 true a2_0 l2_1) = some r := by rw [if_neg (show ¬ (false = true) by decide)] at H; exact H
   clear H
   have H := H1
   clear H1
   have H' := Aside0.mk H
   clear H
   go_wp2_with (first | ((with_reducible refine gate_callee (f := 8) rfl ?_); refine goesL_ (some 13) rfl rfl Try.func8 (by kernel_rfl) rfl #[.slice A1 l1.length c1, .int .i64 20, .int .i64 300] rfl (by (try simp only [List.map_toArray, List.map_cons, List.map_nil]); first | done | rfl | (simp only [List.length_drop, List.length_take]; rfl)) ?_; (with_reducible refine (steeplelaw01_Few.calls k _ _ l1 20 300 false _ ?side1 ?side2 A6.out).mono ?_); (case side1 => repeat (first | exact (Kd.C_below HR1.out HB.out) | (with_reducible refine Kd.C_alloc ?_ _) | (with_reducible refine Kd.C_drewN ?_ _) | (with_reducible refine Kd.C_drew ?_))); (case side2 => exact HC1.out); rintro e w' ⟨rfl, ⟨nd, rfl⟩⟩; refine ⟨_, rfl, ?_⟩))
   go_meet
   case rel => exact ⟨_, (true), (by first | rfl | (simp; done) | (simp [*]; done)), H', ⟨by first | omega | exact Nat.le_refl _⟩, ⟨bk BK307.out⟩, ⟨bq HB.out⟩⟩
 case rest =>
  clear HC4
  try clear c1
  try clear c2
  try clear p2
  try clear c7
  try clear c8
  try clear c8b0
  try clear c8b1
  try clear c11
  try clear c11b0
  try clear c11b1
  try clear hcz12_0
  try clear hcz12_1
  try clear hcz15_0
  try clear hcz15_1
  try clear hcz17_0
  try clear hcz17_1
  try clear hcz9_0
  try clear hcz9_1
  try clear hfz12_0
  try clear hfz12_1
  try clear hfz15_0
  try clear hfz15_1
  try clear hfz17_0
  try clear hfz17_1
  try clear hfz9_0
  try clear hfz9_1
  obtain ⟨kq, x33_3, rfl, HA, HJ3, BK307, HB⟩ := hcut
  cases kq with
  | zero => exact absurd HA.out (by simp [steeplelaw01_OctetBack.j0])
  | succ kj3 =>
   have H := HA.out
   clear HA
   simp only [steeplelaw01_OctetBack.j0] at H
   by_cases c19 : x33_3 = true
   ·subst c19
    have H1 : ((steeplelaw01_awake.f kj3).bind fun t311 => (some t311)) = some r := by rw [if_pos rfl] at H; exact H
    clear H
    have H := H1
    clear H1
    replace H := Option.bind_eq_some_iff.mp H
    obtain ⟨t311, A200, H⟩ := H
    replace H : (some t311) = some r := H
    have A20 := Aside0.mk A200
    clear A200
    obtain rfl := Option.some.inj H
    go_wp2_with (first | ((with_reducible refine gate_callee (f := 9) rfl ?_); refine goesL_ (some 34) rfl rfl Try.func9 (by kernel_rfl) rfl #[] rfl (by (try simp only [List.map_toArray, List.map_cons, List.map_nil]); first | done | rfl | (simp only [List.length_drop, List.length_take]; rfl)) ?_; (with_reducible refine (steeplelaw01_awake.calls kj3  t311 _ A20.out).mono ?_); rintro e w21 ⟨rfl, hb⟩; refine ⟨_, rfl, ?_⟩; replace BK307 := bb BK307 hb; replace HB := bh HB hb; (try clear hb); (try clear hb2); (try clear hk); (try clear hi)))
    go_ret
    exact ⟨by first | rfl | (simp [errW_none, errW_some] <;> rfl) | (simp [*, errW_none, errW_some] <;> rfl), bq HB.out⟩
   ·replace c19 := Bool.eq_false_iff.mpr c19
    subst c19
    have H1 : ((octet_Num.f a0).bind fun t312 => ((octet_List.f kj3 l1).bind fun t313 => (if t312.size + t313.size ≤ 9223372036854775807 then ((octet_Elems.f kj3 a2_0 l2_1).bind fun t314 => (if (t312 ++ t313).size + t314.size ≤ 9223372036854775807 then ((octet_Text.f (⟨#[101, 110, 100]⟩ : ByteArray)).bind fun t315 => (if ((t312 ++ t313) ++ t314).size + t315.size ≤ 9223372036854775807 then ((octet_Read.f (((t312 ++ t313) ++ t314) ++ t315)).bind fun bt316 => ((octet_Reader_Num.f bt316.1 bt316.2 a0).bind fun bt319 => ((octet_Reader_List.f kj3 bt319.2.1 bt319.2.2 (l1.length : Int) 300).bind fun bt322 => ((octet_Reader_Elems.f kj3 bt322.2.1 bt322.2.2 a2_0 (l2_1.length : Int)).bind fun bt327 => ((octet_Reader_Text.f bt327.2.1 bt327.2.2 3).bind fun bt332 => ((steeplelaw01_awake.f kj3).bind fun t335 => (if t335 = true then (if bt319.1 = a0 then ((steeplelaw01_Texts.f kj3 bt322.1 l1).bind fun t336 => (if t336 = true then ((steeplelaw01_Ref.f kj3 l2_1).bind fun t337 => ((steeplelaw01_Same.f kj3 bt327.1 t337).bind fun t340 => (if t340 = true then (if bt332.1.toList = ([101, 110, 100] : List UInt8) then ((octet_Reader_End.f bt332.2.1 bt332.2.2).bind fun bt341 => (some (bt341.1 == 0))) else (none)) else (none)))) else (none))) else (none)) else (none)))))))) else (none))) else (none))) else (none)))) = some r := by rw [if_neg (show ¬ (false = true) by decide)] at H; exact H
    clear H
    have H := H1
    clear H1
    replace H := Option.bind_eq_some_iff.mp H
    obtain ⟨t312, A220, H⟩ := H
    replace H : ((octet_List.f kj3 l1).bind fun t313 => (if t312.size + t313.size ≤ 9223372036854775807 then ((octet_Elems.f kj3 a2_0 l2_1).bind fun t314 => (if (t312 ++ t313).size + t314.size ≤ 9223372036854775807 then ((octet_Text.f (⟨#[101, 110, 100]⟩ : ByteArray)).bind fun t315 => (if ((t312 ++ t313) ++ t314).size + t315.size ≤ 9223372036854775807 then ((octet_Read.f (((t312 ++ t313) ++ t314) ++ t315)).bind fun bt316 => ((octet_Reader_Num.f bt316.1 bt316.2 a0).bind fun bt319 => ((octet_Reader_List.f kj3 bt319.2.1 bt319.2.2 (l1.length : Int) 300).bind fun bt322 => ((octet_Reader_Elems.f kj3 bt322.2.1 bt322.2.2 a2_0 (l2_1.length : Int)).bind fun bt327 => ((octet_Reader_Text.f bt327.2.1 bt327.2.2 3).bind fun bt332 => ((steeplelaw01_awake.f kj3).bind fun t335 => (if t335 = true then (if bt319.1 = a0 then ((steeplelaw01_Texts.f kj3 bt322.1 l1).bind fun t336 => (if t336 = true then ((steeplelaw01_Ref.f kj3 l2_1).bind fun t337 => ((steeplelaw01_Same.f kj3 bt327.1 t337).bind fun t340 => (if t340 = true then (if bt332.1.toList = ([101, 110, 100] : List UInt8) then ((octet_Reader_End.f bt332.2.1 bt332.2.2).bind fun bt341 => (some (bt341.1 == 0))) else (none)) else (none)))) else (none))) else (none)) else (none)))))))) else (none))) else (none))) else (none))) = some r := H
    have A22 := Aside0.mk A220
    clear A220
    replace H := Option.bind_eq_some_iff.mp H
    obtain ⟨t313, A230, H⟩ := H
    replace H : (if t312.size + t313.size ≤ 9223372036854775807 then ((octet_Elems.f kj3 a2_0 l2_1).bind fun t314 => (if (t312 ++ t313).size + t314.size ≤ 9223372036854775807 then ((octet_Text.f (⟨#[101, 110, 100]⟩ : ByteArray)).bind fun t315 => (if ((t312 ++ t313) ++ t314).size + t315.size ≤ 9223372036854775807 then ((octet_Read.f (((t312 ++ t313) ++ t314) ++ t315)).bind fun bt316 => ((octet_Reader_Num.f bt316.1 bt316.2 a0).bind fun bt319 => ((octet_Reader_List.f kj3 bt319.2.1 bt319.2.2 (l1.length : Int) 300).bind fun bt322 => ((octet_Reader_Elems.f kj3 bt322.2.1 bt322.2.2 a2_0 (l2_1.length : Int)).bind fun bt327 => ((octet_Reader_Text.f bt327.2.1 bt327.2.2 3).bind fun bt332 => ((steeplelaw01_awake.f kj3).bind fun t335 => (if t335 = true then (if bt319.1 = a0 then ((steeplelaw01_Texts.f kj3 bt322.1 l1).bind fun t336 => (if t336 = true then ((steeplelaw01_Ref.f kj3 l2_1).bind fun t337 => ((steeplelaw01_Same.f kj3 bt327.1 t337).bind fun t340 => (if t340 = true then (if bt332.1.toList = ([101, 110, 100] : List UInt8) then ((octet_Reader_End.f bt332.2.1 bt332.2.2).bind fun bt341 => (some (bt341.1 == 0))) else (none)) else (none)))) else (none))) else (none)) else (none)))))))) else (none))) else (none))) else (none)) = some r := H
    have A23 := Aside0.mk A230
    clear A230
    by_cases c24 : t312.size + t313.size ≤ 9223372036854775807
    ·rw [if_pos c24] at H
     have c24b0 := eq_true c24
     have c24b1 : decide (t312.size + t313.size ≤ 9223372036854775807) = true := decide_eq_true c24
     try have c24b2 : (9223372036854775807 < t312.size + t313.size) = False := eq_false (Nat.not_lt.2 c24)
     replace H := Option.bind_eq_some_iff.mp H
     obtain ⟨t314, A250, H⟩ := H
     replace H : (if (t312 ++ t313).size + t314.size ≤ 9223372036854775807 then ((octet_Text.f (⟨#[101, 110, 100]⟩ : ByteArray)).bind fun t315 => (if ((t312 ++ t313) ++ t314).size + t315.size ≤ 9223372036854775807 then ((octet_Read.f (((t312 ++ t313) ++ t314) ++ t315)).bind fun bt316 => ((octet_Reader_Num.f bt316.1 bt316.2 a0).bind fun bt319 => ((octet_Reader_List.f kj3 bt319.2.1 bt319.2.2 (l1.length : Int) 300).bind fun bt322 => ((octet_Reader_Elems.f kj3 bt322.2.1 bt322.2.2 a2_0 (l2_1.length : Int)).bind fun bt327 => ((octet_Reader_Text.f bt327.2.1 bt327.2.2 3).bind fun bt332 => ((steeplelaw01_awake.f kj3).bind fun t335 => (if t335 = true then (if bt319.1 = a0 then ((steeplelaw01_Texts.f kj3 bt322.1 l1).bind fun t336 => (if t336 = true then ((steeplelaw01_Ref.f kj3 l2_1).bind fun t337 => ((steeplelaw01_Same.f kj3 bt327.1 t337).bind fun t340 => (if t340 = true then (if bt332.1.toList = ([101, 110, 100] : List UInt8) then ((octet_Reader_End.f bt332.2.1 bt332.2.2).bind fun bt341 => (some (bt341.1 == 0))) else (none)) else (none)))) else (none))) else (none)) else (none)))))))) else (none))) else (none)) = some r := H
     have A25 := Aside0.mk A250
     clear A250
     by_cases c26 : (t312 ++ t313).size + t314.size ≤ 9223372036854775807
     ·rw [if_pos c26] at H
      have c26b0 := eq_true c26
      have c26b1 : decide ((t312 ++ t313).size + t314.size ≤ 9223372036854775807) = true := decide_eq_true c26
      try have c26b2 : (9223372036854775807 < (t312 ++ t313).size + t314.size) = False := eq_false (Nat.not_lt.2 c26)
      try have c26b3 : (9223372036854775807 < t312.size + t313.size + t314.size) = False := by have h_ := c26; simp only [ByteArray.size_append] at h_; exact eq_false (Nat.not_lt.2 h_)
      replace H := Option.bind_eq_some_iff.mp H
      obtain ⟨t315, A270, H⟩ := H
      replace H : (if ((t312 ++ t313) ++ t314).size + t315.size ≤ 9223372036854775807 then ((octet_Read.f (((t312 ++ t313) ++ t314) ++ t315)).bind fun bt316 => ((octet_Reader_Num.f bt316.1 bt316.2 a0).bind fun bt319 => ((octet_Reader_List.f kj3 bt319.2.1 bt319.2.2 (l1.length : Int) 300).bind fun bt322 => ((octet_Reader_Elems.f kj3 bt322.2.1 bt322.2.2 a2_0 (l2_1.length : Int)).bind fun bt327 => ((octet_Reader_Text.f bt327.2.1 bt327.2.2 3).bind fun bt332 => ((steeplelaw01_awake.f kj3).bind fun t335 => (if t335 = true then (if bt319.1 = a0 then ((steeplelaw01_Texts.f kj3 bt322.1 l1).bind fun t336 => (if t336 = true then ((steeplelaw01_Ref.f kj3 l2_1).bind fun t337 => ((steeplelaw01_Same.f kj3 bt327.1 t337).bind fun t340 => (if t340 = true then (if bt332.1.toList = ([101, 110, 100] : List UInt8) then ((octet_Reader_End.f bt332.2.1 bt332.2.2).bind fun bt341 => (some (bt341.1 == 0))) else (none)) else (none)))) else (none))) else (none)) else (none)))))))) else (none)) = some r := H
      have A27 := Aside0.mk A270
      clear A270
      by_cases c28 : ((t312 ++ t313) ++ t314).size + t315.size ≤ 9223372036854775807
      ·rw [if_pos c28] at H
       have c28b0 := eq_true c28
       have c28b1 : decide (((t312 ++ t313) ++ t314).size + t315.size ≤ 9223372036854775807) = true := decide_eq_true c28
       try have c28b2 : (9223372036854775807 < ((t312 ++ t313) ++ t314).size + t315.size) = False := eq_false (Nat.not_lt.2 c28)
       try have c28b3 : (9223372036854775807 < t312.size + t313.size + t314.size + t315.size) = False := by have h_ := c28; simp only [ByteArray.size_append] at h_; exact eq_false (Nat.not_lt.2 h_)
       replace H := Option.bind_eq_some_iff.mp H
       obtain ⟨⟨t316, t317⟩, A290, H⟩ := H
       replace H : ((octet_Reader_Num.f t316 t317 a0).bind fun bt319 => ((octet_Reader_List.f kj3 bt319.2.1 bt319.2.2 (l1.length : Int) 300).bind fun bt322 => ((octet_Reader_Elems.f kj3 bt322.2.1 bt322.2.2 a2_0 (l2_1.length : Int)).bind fun bt327 => ((octet_Reader_Text.f bt327.2.1 bt327.2.2 3).bind fun bt332 => ((steeplelaw01_awake.f kj3).bind fun t335 => (if t335 = true then (if bt319.1 = a0 then ((steeplelaw01_Texts.f kj3 bt322.1 l1).bind fun t336 => (if t336 = true then ((steeplelaw01_Ref.f kj3 l2_1).bind fun t337 => ((steeplelaw01_Same.f kj3 bt327.1 t337).bind fun t340 => (if t340 = true then (if bt332.1.toList = ([101, 110, 100] : List UInt8) then ((octet_Reader_End.f bt332.2.1 bt332.2.2).bind fun bt341 => (some (bt341.1 == 0))) else (none)) else (none)))) else (none))) else (none)) else (none))))))) = some r := H
       have A29 := Aside0.mk A290
       clear A290
       replace H := Option.bind_eq_some_iff.mp H
       obtain ⟨⟨t319, t320, t321⟩, A300, H⟩ := H
       replace H : ((octet_Reader_List.f kj3 t320 t321 (l1.length : Int) 300).bind fun bt322 => ((octet_Reader_Elems.f kj3 bt322.2.1 bt322.2.2 a2_0 (l2_1.length : Int)).bind fun bt327 => ((octet_Reader_Text.f bt327.2.1 bt327.2.2 3).bind fun bt332 => ((steeplelaw01_awake.f kj3).bind fun t335 => (if t335 = true then (if t319 = a0 then ((steeplelaw01_Texts.f kj3 bt322.1 l1).bind fun t336 => (if t336 = true then ((steeplelaw01_Ref.f kj3 l2_1).bind fun t337 => ((steeplelaw01_Same.f kj3 bt327.1 t337).bind fun t340 => (if t340 = true then (if bt332.1.toList = ([101, 110, 100] : List UInt8) then ((octet_Reader_End.f bt332.2.1 bt332.2.2).bind fun bt341 => (some (bt341.1 == 0))) else (none)) else (none)))) else (none))) else (none)) else (none)))))) = some r := H
       have A30 := Aside0.mk A300
       clear A300
       replace H := Option.bind_eq_some_iff.mp H
       obtain ⟨⟨t322, t325, t326⟩, A310, H⟩ := H
       replace H : ((octet_Reader_Elems.f kj3 t325 t326 a2_0 (l2_1.length : Int)).bind fun bt327 => ((octet_Reader_Text.f bt327.2.1 bt327.2.2 3).bind fun bt332 => ((steeplelaw01_awake.f kj3).bind fun t335 => (if t335 = true then (if t319 = a0 then ((steeplelaw01_Texts.f kj3 t322 l1).bind fun t336 => (if t336 = true then ((steeplelaw01_Ref.f kj3 l2_1).bind fun t337 => ((steeplelaw01_Same.f kj3 bt327.1 t337).bind fun t340 => (if t340 = true then (if bt332.1.toList = ([101, 110, 100] : List UInt8) then ((octet_Reader_End.f bt332.2.1 bt332.2.2).bind fun bt341 => (some (bt341.1 == 0))) else (none)) else (none)))) else (none))) else (none)) else (none))))) = some r := H
       have A31 := Aside0.mk A310
       clear A310
       replace H := Option.bind_eq_some_iff.mp H
       obtain ⟨⟨t327, t330, t331⟩, A320, H⟩ := H
       replace H : ((octet_Reader_Text.f t330 t331 3).bind fun bt332 => ((steeplelaw01_awake.f kj3).bind fun t335 => (if t335 = true then (if t319 = a0 then ((steeplelaw01_Texts.f kj3 t322 l1).bind fun t336 => (if t336 = true then ((steeplelaw01_Ref.f kj3 l2_1).bind fun t337 => ((steeplelaw01_Same.f kj3 t327 t337).bind fun t340 => (if t340 = true then (if bt332.1.toList = ([101, 110, 100] : List UInt8) then ((octet_Reader_End.f bt332.2.1 bt332.2.2).bind fun bt341 => (some (bt341.1 == 0))) else (none)) else (none)))) else (none))) else (none)) else (none)))) = some r := H
       have A32 := Aside0.mk A320
       clear A320
       replace H := Option.bind_eq_some_iff.mp H
       obtain ⟨⟨t332, t333, t334⟩, A330, H⟩ := H
       replace H : ((steeplelaw01_awake.f kj3).bind fun t335 => (if t335 = true then (if t319 = a0 then ((steeplelaw01_Texts.f kj3 t322 l1).bind fun t336 => (if t336 = true then ((steeplelaw01_Ref.f kj3 l2_1).bind fun t337 => ((steeplelaw01_Same.f kj3 t327 t337).bind fun t340 => (if t340 = true then (if t332.toList = ([101, 110, 100] : List UInt8) then ((octet_Reader_End.f t333 t334).bind fun bt341 => (some (bt341.1 == 0))) else (none)) else (none)))) else (none))) else (none)) else (none))) = some r := H
       have A33 := Aside0.mk A330
       clear A330
       replace H := Option.bind_eq_some_iff.mp H
       obtain ⟨t335, A340, H⟩ := H
       replace H : (if t335 = true then (if t319 = a0 then ((steeplelaw01_Texts.f kj3 t322 l1).bind fun t336 => (if t336 = true then ((steeplelaw01_Ref.f kj3 l2_1).bind fun t337 => ((steeplelaw01_Same.f kj3 t327 t337).bind fun t340 => (if t340 = true then (if t332.toList = ([101, 110, 100] : List UInt8) then ((octet_Reader_End.f t333 t334).bind fun bt341 => (some (bt341.1 == 0))) else (none)) else (none)))) else (none))) else (none)) else (none)) = some r := H
       have A34 := Aside0.mk A340
       clear A340
       by_cases c35 : t335 = true
       ·subst c35
        have H1 : (if t319 = a0 then ((steeplelaw01_Texts.f kj3 t322 l1).bind fun t336 => (if t336 = true then ((steeplelaw01_Ref.f kj3 l2_1).bind fun t337 => ((steeplelaw01_Same.f kj3 t327 t337).bind fun t340 => (if t340 = true then (if t332.toList = ([101, 110, 100] : List UInt8) then ((octet_Reader_End.f t333 t334).bind fun bt341 => (some (bt341.1 == 0))) else (none)) else (none)))) else (none))) else (none)) = some r := by rw [if_pos rfl] at H; exact H
        clear H
        have H := H1
        clear H1
        by_cases c36 : t319 = a0
        ·rw [if_pos c36] at H
         have c36b0 : (t319 == a0) = true := beq_iff_eq.mpr c36
         have c36b1 : (t319 != a0) = false := bne_eq_false_iff_eq.mpr c36
         clear c36
         replace H := Option.bind_eq_some_iff.mp H
         obtain ⟨t336, A370, H⟩ := H
         replace H : (if t336 = true then ((steeplelaw01_Ref.f kj3 l2_1).bind fun t337 => ((steeplelaw01_Same.f kj3 t327 t337).bind fun t340 => (if t340 = true then (if t332.toList = ([101, 110, 100] : List UInt8) then ((octet_Reader_End.f t333 t334).bind fun bt341 => (some (bt341.1 == 0))) else (none)) else (none)))) else (none)) = some r := H
         have A37 := Aside0.mk A370
         clear A370
         by_cases c38 : t336 = true
         ·subst c38
          have H1 : ((steeplelaw01_Ref.f kj3 l2_1).bind fun t337 => ((steeplelaw01_Same.f kj3 t327 t337).bind fun t340 => (if t340 = true then (if t332.toList = ([101, 110, 100] : List UInt8) then ((octet_Reader_End.f t333 t334).bind fun bt341 => (some (bt341.1 == 0))) else (none)) else (none)))) = some r := by rw [if_pos rfl] at H; exact H
          clear H
          have H := H1
          clear H1
          replace H := Option.bind_eq_some_iff.mp H
          obtain ⟨t337, A390, H⟩ := H
          replace H : ((steeplelaw01_Same.f kj3 t327 t337).bind fun t340 => (if t340 = true then (if t332.toList = ([101, 110, 100] : List UInt8) then ((octet_Reader_End.f t333 t334).bind fun bt341 => (some (bt341.1 == 0))) else (none)) else (none))) = some r := H
          have A39 := Aside0.mk A390
          clear A390
          replace H := Option.bind_eq_some_iff.mp H
          obtain ⟨t340, A400, H⟩ := H
          replace H : (if t340 = true then (if t332.toList = ([101, 110, 100] : List UInt8) then ((octet_Reader_End.f t333 t334).bind fun bt341 => (some (bt341.1 == 0))) else (none)) else (none)) = some r := H
          have A40 := Aside0.mk A400
          clear A400
          by_cases c41 : t340 = true
          ·subst c41
           have H1 : (if t332.toList = ([101, 110, 100] : List UInt8) then ((octet_Reader_End.f t333 t334).bind fun bt341 => (some (bt341.1 == 0))) else (none)) = some r := by rw [if_pos rfl] at H; exact H
           clear H
           have H := H1
           clear H1
           by_cases c42 : t332.toList = ([101, 110, 100] : List UInt8)
           ·rw [if_pos c42] at H
            have c42b0 : (t332.toList == ([101, 110, 100] : List UInt8)) = true := beq_iff_eq.mpr c42
            have c42b1 : (t332.toList != ([101, 110, 100] : List UInt8)) = false := bne_eq_false_iff_eq.mpr c42
            clear c42
            replace H := Option.bind_eq_some_iff.mp H
            obtain ⟨⟨t341, t342, t343⟩, A430, H⟩ := H
            replace H : (some (t341 == 0)) = some r := H
            have A43 := Aside0.mk A430
            clear A430
            obtain rfl := Option.some.inj H
            try go_wp2
            replace BK307 := Aside0.mk (blk_drew BK307.out)
            replace HB := Aside0.mk (below_drew1 HB.out)
            refine start_ (n := 15) (S := fun w' => w'.cell? ⟨gb307, 0, none⟩ = some (.int .i64 a2_0) ∧ w'.cell? ⟨gb307, 1, none⟩ = some (.slice A2_1 l2_1.length c2_1)) (ds := []) #[false, false, false, false, false, false, false, false, false, false, false, false, false, false, false] (by kernel_rfl) rfl rfl ⟨(blk_cell BK307.out 0).trans rfl, (blk_cell BK307.out 1).trans rfl⟩ (fun hHeld => ?_); refine with_tabW steeplelaw01_OctetBack.tab3 steeplelaw01_OctetBack.bits3 (fun HT_ HW_ => ?_)
            generalize wc.drew = w44 at BK307 HB hHeld ⊢
            refine pure_ (i := 0) (N := some 35) (v := ?_) (a' := ?_) #[true, false, false, false, false, false, false, false, false, false, false, false, false, false, false] rfl rfl (any_of HT_.out (by kernel_rfl)) (fun _ _ _ h => h) (Or.inl ⟨by rfl, ?_⟩) ?_ ?_
            rotate_left
            ·intro w'
             go_simp
             with_reducible rfl
            rotate_left
            ·simp only [Act.put, List.setIfInBounds_toArray, List.set_cons_zero, List.set_cons_succ, i64_w, i32_w]
             rfl
            refine pure_ (i := 2) (N := some 37) (v := ?_) (a' := ?_) #[true, false, true, false, false, false, false, false, false, false, false, false, false, false, false] rfl rfl (any_of HT_.out (by kernel_rfl)) (fun _ _ _ h => h) (Or.inl ⟨by rfl, ?_⟩) ?_ ?_
            rotate_left
            ·intro w'
             go_simp
             with_reducible rfl
            rotate_left
            ·simp only [Act.put, List.setIfInBounds_toArray, List.set_cons_zero, List.set_cons_succ, i64_w, i32_w]
             rfl
            refine pure_ (i := 5) (N := some 40) (v := ?_) (a' := ?_) #[true, false, true, false, false, true, false, false, false, false, false, false, false, false, false] rfl rfl (any_of HT_.out (by kernel_rfl)) (fun _ _ _ h => h) (Or.inl ⟨by rfl, ?_⟩) ?_ ?_
            rotate_left
            ·intro w'
             go_simp
             with_reducible rfl
            rotate_left
            ·simp only [Act.put, List.setIfInBounds_toArray, List.set_cons_zero, List.set_cons_succ, i64_w, i32_w]
             rfl
            refine pure_ (i := 7) (N := some 42) (v := ?_) (a' := ?_) #[true, false, true, false, false, true, false, true, false, false, false, false, false, false, false] rfl rfl (any_of HT_.out (by kernel_rfl)) (fun _ _ _ h => h) (Or.inl ⟨by rfl, ?_⟩) ?_ ?_
            rotate_left
            ·intro w'
             go_simp
             with_reducible rfl
            rotate_left
            ·simp only [Act.put, List.setIfInBounds_toArray, List.set_cons_zero, List.set_cons_succ, i64_w, i32_w]
             rfl
            refine take_ (i := 6) (N := some 41) (v := ?_) (a' := ?_) #[true, false, true, false, false, true, true, true, false, false, false, false, false, false, false] rfl rfl (take_ofW HT_.out HW_.out (by kernel_rfl)) (fun _ _ _ h => h) (Or.inl ⟨by rfl, ?_⟩) hHeld ?_ ?_
            rotate_left
            ·rintro w' ⟨s0, s1⟩
             go_simp
             with_reducible rfl
            rotate_left
            ·simp only [Act.put, List.setIfInBounds_toArray, List.set_cons_zero, List.set_cons_succ, i64_w, i32_w]
             rfl
            refine take_ (i := 8) (N := some 43) (v := ?_) (a' := ?_) #[true, false, true, false, false, true, true, true, true, false, false, false, false, false, false] rfl rfl (take_ofW HT_.out HW_.out (by kernel_rfl)) (fun _ _ _ h => h) (Or.inl ⟨by rfl, ?_⟩) hHeld ?_ ?_
            rotate_left
            ·rintro w' ⟨s0, s1⟩
             go_simp
             with_reducible rfl
            rotate_left
            ·simp only [Act.put, List.setIfInBounds_toArray, List.set_cons_zero, List.set_cons_succ, i64_w, i32_w]
             rfl
            refine one_ (i := 1) (N := some 36) #[true, true, true, false, false, true, true, true, true, false, false, false, false, false, false] rfl rfl (one_of HT_.out (by kernel_rfl)) (by decide) (fun K hK => ?_)
            refine goes_ Try.func12 (by kernel_rfl) rfl #[.int .i64 a0] (by rfl) rfl rfl (by (try simp only [List.map_toArray, List.map_cons, List.map_nil]); first | done | rfl | (simp only [List.length_drop, List.length_take]; rfl)) ?_
            with_reducible refine (octet_Num.calls a0 t312 _ A22.out).mono ?_
            rintro e w45 ⟨rfl, hb⟩
            refine ⟨_, rfl, ?_⟩
            replace BK307 := bb BK307 hb
            replace HB := bh HB hb
            (try clear hb)
            (try clear hb2)
            (try clear hk)
            (try clear hi)
            refine hK.out _ _ ⟨(blk_cell BK307.out 0).trans rfl, (blk_cell BK307.out 1).trans rfl⟩ (fun hHeld => ?_)
            clear hK K
            refine norm_ (a' := ?_) ?_ ?_
            rotate_left
            ·show Act.put _ (some 36) _ = _
             simp only [Act.put, List.setIfInBounds_toArray, List.set_cons_zero, List.set_cons_succ, i64_w, i32_w]
             rfl
            refine one_ (i := 3) (N := some 38) #[true, true, true, true, false, true, true, true, true, false, false, false, false, false, false] rfl rfl (one_of HT_.out (by kernel_rfl)) (by decide) (fun K hK => ?_)
            refine goes_ Try.func14 (by kernel_rfl) rfl #[.slice A1 l1.length c1] (by rfl) rfl rfl (by (try simp only [List.map_toArray, List.map_cons, List.map_nil]); first | done | rfl | (simp only [List.length_drop, List.length_take]; rfl)) ?_
            with_reducible refine (octet_List.calls kj3 _ _ l1 t313 _ ?side1 ?side2 A23.out).mono ?_
            (case side1 => repeat (first | exact (Kd.C_below HR1.out HB.out) | (with_reducible refine Kd.C_alloc ?_ _) | (with_reducible refine Kd.C_drewN ?_ _) | (with_reducible refine Kd.C_drew ?_)))
            (case side2 => exact HC1.out)
            rintro e w46 ⟨rfl, hb⟩
            refine ⟨_, rfl, ?_⟩
            replace BK307 := bb BK307 hb
            replace HB := bh HB hb
            (try clear hb)
            (try clear hb2)
            (try clear hk)
            (try clear hi)
            refine hK.out _ _ ⟨(blk_cell BK307.out 0).trans rfl, (blk_cell BK307.out 1).trans rfl⟩ (fun hHeld => ?_)
            clear hK K
            refine norm_ (a' := ?_) ?_ ?_
            rotate_left
            ·show Act.put _ (some 38) _ = _
             simp only [Act.put, List.setIfInBounds_toArray, List.set_cons_zero, List.set_cons_succ, i64_w, i32_w]
             rfl
            refine pure_ (i := 4) (N := some 39) (v := ?_) (a' := ?_) #[true, true, true, true, true, true, true, true, true, false, false, false, false, false, false] rfl rfl (any_of HT_.out (by kernel_rfl)) (fun _ _ _ h => h) (Or.inl ⟨by rfl, ?_⟩) ?_ ?_
            rotate_left
            ·intro w'
             go_simp
             with_reducible rfl
            rotate_left
            ·simp only [Act.put, List.setIfInBounds_toArray, List.set_cons_zero, List.set_cons_succ, i64_w, i32_w]
             rfl
            refine one_ (i := 9) (N := some 44) #[true, true, true, true, true, true, true, true, true, true, false, false, false, false, false] rfl rfl (one_of HT_.out (by kernel_rfl)) (by decide) (fun K hK => ?_)
            refine goes_ Try.func22 (by kernel_rfl) rfl #[.int .i64 a2_0, .slice A2_1 l2_1.length c2_1] (by rfl) rfl rfl (by (try simp only [List.map_toArray, List.map_cons, List.map_nil]); first | done | rfl | (simp only [List.length_drop, List.length_take]; rfl)) ?_
            with_reducible refine (octet_Elems.calls kj3 a2_0 _ _ l2_1 t314 _ ?side1 ?side2 A25.out).mono ?_
            (case side1 => repeat (first | exact (Kd.C_below HR2_1.out HB.out) | (with_reducible refine Kd.C_alloc ?_ _) | (with_reducible refine Kd.C_drewN ?_ _) | (with_reducible refine Kd.C_drew ?_)))
            (case side2 => exact HC2_1.out)
            rintro e w47 ⟨rfl, hb⟩
            refine ⟨_, rfl, ?_⟩
            replace BK307 := bb BK307 hb
            replace HB := bh HB hb
            (try clear hb)
            (try clear hb2)
            (try clear hk)
            (try clear hi)
            refine hK.out _ _ ⟨(blk_cell BK307.out 0).trans rfl, (blk_cell BK307.out 1).trans rfl⟩ (fun hHeld => ?_)
            clear hK K
            refine norm_ (a' := ?_) ?_ ?_
            rotate_left
            ·show Act.put _ (some 44) _ = _
             simp only [Act.put, List.setIfInBounds_toArray, List.set_cons_zero, List.set_cons_succ, i64_w, i32_w]
             rfl
            refine pure_ (i := 10) (N := some 45) (v := ?_) (a' := ?_) #[true, true, true, true, true, true, true, true, true, true, true, false, false, false, false] rfl rfl (any_of HT_.out (by kernel_rfl)) (fun _ _ _ h => h) (Or.inl ⟨by rfl, ?_⟩) ?_ ?_
            rotate_left
            ·intro w'
             go_simp
             with_reducible rfl
            rotate_left
            ·simp only [Act.put, List.setIfInBounds_toArray, List.set_cons_zero, List.set_cons_succ, i64_w, i32_w]
             rfl
            refine one_ (i := 11) (N := some 46) #[true, true, true, true, true, true, true, true, true, true, true, true, false, false, false] rfl rfl (one_of HT_.out (by kernel_rfl)) (by decide) (fun K hK => ?_)
            refine goes_ Try.func10 (by kernel_rfl) rfl #[.string (⟨#[101, 110, 100]⟩ : ByteArray)] (by rfl) rfl rfl (by (try simp only [List.map_toArray, List.map_cons, List.map_nil]); first | done | rfl | (simp only [List.length_drop, List.length_take]; rfl)) ?_
            with_reducible refine (octet_Text.calls (⟨#[101, 110, 100]⟩ : ByteArray) t315 _ A27.out).mono ?_
            rintro e w48 ⟨rfl, hb⟩
            refine ⟨_, rfl, ?_⟩
            replace BK307 := bb BK307 hb
            replace HB := bh HB hb
            (try clear hb)
            (try clear hb2)
            (try clear hk)
            (try clear hi)
            refine hK.out _ _ ⟨(blk_cell BK307.out 0).trans rfl, (blk_cell BK307.out 1).trans rfl⟩ (fun hHeld => ?_)
            clear hK K
            refine norm_ (a' := ?_) ?_ ?_
            rotate_left
            ·show Act.put _ (some 46) _ = _
             simp only [Act.put, List.setIfInBounds_toArray, List.set_cons_zero, List.set_cons_succ, i64_w, i32_w]
             rfl
            refine pure_ (i := 12) (N := some 47) (v := ?_) (a' := ?_) #[true, true, true, true, true, true, true, true, true, true, true, true, true, false, false] rfl rfl (any_of HT_.out (by kernel_rfl)) (fun _ _ _ h => h) (Or.inl ⟨by rfl, ?_⟩) ?_ ?_
            rotate_left
            ·intro w'
             go_simp
             with_reducible rfl
            rotate_left
            ·simp only [Act.put, List.setIfInBounds_toArray, List.set_cons_zero, List.set_cons_succ, i64_w, i32_w]
             rfl
            refine one_ (i := 13) (N := some 48) #[true, true, true, true, true, true, true, true, true, true, true, true, true, true, false] rfl rfl (one_of HT_.out (by kernel_rfl)) (by decide) (fun K hK => ?_)
            refine goes_ Try.func33 (by kernel_rfl) rfl #[.string (((t312 ++ t313) ++ t314) ++ t315)] (by rfl) rfl rfl (by (try simp only [List.map_toArray, List.map_cons, List.map_nil]); first | done | rfl | (simp only [List.length_drop, List.length_take]; rfl)) ?_
            with_reducible refine (octet_Read.calls (((t312 ++ t313) ++ t314) ++ t315) t316 t317 w _ ?side1 A29.out).mono ?_
            (case side1 => repeat (first | (with_reducible first | exact HB.out | apply below_alloc | apply pw_below_drewN | apply below_drew1 | refine below_set ?_ GE307.out) | exact HB.out))
            rintro e w49 ⟨g318, rfl, hi, hb, hb2⟩
            refine ⟨_, rfl, ?_⟩
            have HI318 := Aside0.mk hi
            have NB318_307 := Aside0.mk (IsS80.ne_blk hi (blk_below (g := gb307) (o := .cells #[.int .i64 a2_0, .slice A2_1 l2_1.length c2_1] 57 (0, 0)) (bk BK307.out) hb2) (by decide))
            have NB307_318 := Aside0.mk (Ne.symm (IsS80.ne_blk hi (blk_below (g := gb307) (o := .cells #[.int .i64 a2_0, .slice A2_1 l2_1.length c2_1] 57 (0, 0)) (bk BK307.out) hb2) (by decide)))
            replace BK307 := Aside0.mk (blk_below (g := gb307) (o := .cells #[.int .i64 a2_0, .slice A2_1 l2_1.length c2_1] 57 (0, 0)) (bk BK307.out) hb2)
            replace HB := Aside0.mk hb
            (try clear hb)
            (try clear hb2)
            (try clear hk)
            (try clear hi)
            refine hK.out _ _ ⟨(blk_cell BK307.out 0).trans rfl, (blk_cell BK307.out 1).trans rfl⟩ (fun hHeld => ?_)
            clear hK K
            refine norm_ (a' := ?_) ?_ ?_
            rotate_left
            ·show Act.put _ (some 48) _ = _
             simp only [Act.put, List.setIfInBounds_toArray, List.set_cons_zero, List.set_cons_succ, i64_w, i32_w]
             rfl
            refine pure_ (i := 14) (N := some 7) (v := ?_) (a' := ?_) #[true, true, true, true, true, true, true, true, true, true, true, true, true, true, true] rfl rfl (any_of HT_.out (by kernel_rfl)) (fun _ _ _ h => h) (Or.inl ⟨by rfl, ?_⟩) ?_ ?_
            rotate_left
            ·intro w'
             go_simp
             with_reducible rfl
            rotate_left
            ·simp only [Act.put, List.setIfInBounds_toArray, List.set_cons_zero, List.set_cons_succ, i64_w, i32_w]
             rfl
            refine done_ (done_of HT_.out (by kernel_rfl)) ?_
            try go_wp2_with (first | ((with_reducible refine gate_callee (f := 25) rfl ?_); refine goesL_ (some 51) rfl rfl Try.func25 (by kernel_rfl) rfl #[.pointer (some ⟨g318, 0, none⟩), .int .i64 a0] rfl (by (try simp only [List.map_toArray, List.map_cons, List.map_nil]); first | done | rfl | (simp only [List.length_drop, List.length_take]; rfl)) ?_; (with_reducible refine (octet_Reader_Num.calls g318 t316 t317 a0 t319 t320 t321 w _ ?side1 ?side2 A30.out).mono ?_); (case side1 => repeat (first | (with_reducible first | exact HI318.out | apply IsS80.alloc | apply IsS80.drewN | apply IsS80.drew | apply IsS80.set_0 | apply IsS80.set_1 | refine IsS80.far ?_ NB318_307.out _) | exact HI318.out)); (case side2 => repeat (first | (with_reducible first | exact HB.out | apply below_alloc | apply pw_below_drewN | apply below_drew1 | refine below_set ?_ (IsS80.ge HI318.out) | refine below_set ?_ GE307.out) | exact HB.out)); rintro e w50 ⟨rfl, hi, hb, hk⟩; refine ⟨_, rfl, ?_⟩; replace BK307 := Aside0.mk (KeepBut.blk hk (g' := gb307) (o := .cells #[.int .i64 a2_0, .slice A2_1 l2_1.length c2_1] 57 (0, 0)) (bk BK307.out) NB307_318.out (by simp)); replace HB := Aside0.mk hb; replace HI318 := Aside0.mk hi; (try clear hb); (try clear hb2); (try clear hk); (try clear hi)) | ((with_reducible refine gate_callee (f := 27) rfl ?_); refine goesL_ (some 55) rfl rfl Try.func27 (by kernel_rfl) rfl #[.pointer (some ⟨g318, 0, none⟩), .int .i64 (l1.length : Int), .int .i64 300] rfl (by (try simp only [List.map_toArray, List.map_cons, List.map_nil]); first | done | rfl | (simp only [List.length_drop, List.length_take]; rfl)) ?_; (with_reducible refine (octet_Reader_List.calls kj3 g318 t320 t321 (l1.length : Int) 300 t322 t325 t326 w _ ?side1 ?side2 A31.out).mono ?_); (case side1 => repeat (first | (with_reducible first | exact HI318.out | apply IsS80.alloc | apply IsS80.drewN | apply IsS80.drew | apply IsS80.set_0 | apply IsS80.set_1 | refine IsS80.far ?_ NB318_307.out _) | exact HI318.out)); (case side2 => repeat (first | (with_reducible first | exact HB.out | apply below_alloc | apply pw_below_drewN | apply below_drew1 | refine below_set ?_ (IsS80.ge HI318.out) | refine below_set ?_ GE307.out) | exact HB.out)); rintro e w51 ⟨v323, rfl, ho0, hi, hb, hk⟩; refine ⟨_, rfl, ?_⟩; have HO324 := Aside0.mk (Kd.R_lower ho0 (below_size (by repeat (first | (with_reducible first | exact HB.out | apply below_alloc | apply pw_below_drewN | apply below_drew1 | refine below_set ?_ (IsS80.ge HI318.out) | refine below_set ?_ GE307.out) | exact HB.out)))); replace BK307 := Aside0.mk (KeepBut.blk hk (g' := gb307) (o := .cells #[.int .i64 a2_0, .slice A2_1 l2_1.length c2_1] 57 (0, 0)) (bk BK307.out) NB307_318.out (by simp)); replace HB := Aside0.mk hb; replace HI318 := Aside0.mk hi; (try clear hb); (try clear hb2); (try clear hk); (try clear hi); (try clear ho0); have hnb52 := NB307_318.out; have hnc52 := NB318_307.out; obtain ⟨hcz53_0, hcz53_1⟩ := zc2 BK307; obtain ⟨hfz53_0, hfz53_1⟩ := zf2 BK307) | ((with_reducible refine gate_callee (f := 29) rfl ?_); refine goesL_ (some 62) rfl rfl Try.func29 (by kernel_rfl) rfl #[.pointer (some ⟨g318, 0, none⟩), .int .i64 a2_0, .int .i64 (l2_1.length : Int)] rfl (by (try simp only [List.map_toArray, List.map_cons, List.map_nil]); first | done | rfl | (simp only [List.length_drop, List.length_take]; rfl)) ?_; (with_reducible refine (octet_Reader_Elems.calls kj3 g318 t325 t326 a2_0 (l2_1.length : Int) t327 t330 t331 w _ ?side1 ?side2 A32.out).mono ?_); (case side1 => repeat (first | (with_reducible first | exact HI318.out | apply IsS80.alloc | apply IsS80.drewN | apply IsS80.drew | apply IsS80.set_0 | apply IsS80.set_1 | refine IsS80.far ?_ NB318_307.out _) | exact HI318.out)); (case side2 => repeat (first | (with_reducible first | exact HB.out | apply below_alloc | apply pw_below_drewN | apply below_drew1 | refine below_set ?_ (IsS80.ge HI318.out) | refine below_set ?_ GE307.out) | exact HB.out)); rintro e w54 ⟨v328, rfl, ho0, hi, hb, hk⟩; refine ⟨_, rfl, ?_⟩; have HO329 := Aside0.mk (Kd.R_lower ho0 (below_size (by repeat (first | (with_reducible first | exact HB.out | apply below_alloc | apply pw_below_drewN | apply below_drew1 | refine below_set ?_ (IsS80.ge HI318.out) | refine below_set ?_ GE307.out) | exact HB.out)))); replace BK307 := Aside0.mk (KeepBut.blk hk (g' := gb307) (o := .cells #[.int .i64 a2_0, .slice A2_1 l2_1.length c2_1] 57 (0, 0)) (bk BK307.out) NB307_318.out (by simp)); replace HO324 := Aside0.mk (Kd.R_mono (Kd.R_keep (IsS80.apart (show IsS80 w _ g318 t325 t326 from by repeat (first | (with_reducible first | exact HI318.out | apply IsS80.alloc | apply IsS80.drewN | apply IsS80.drew | apply IsS80.set_0 | apply IsS80.set_1 | refine IsS80.far ?_ NB318_307.out _) | exact HI318.out)) (kr HO324.out) (by decide)) hk (fun _ h => h.2)) (fun _ h => h.1)); replace HB := Aside0.mk hb; replace HI318 := Aside0.mk hi; (try clear hb); (try clear hb2); (try clear hk); (try clear hi); (try clear ho0)) | ((with_reducible refine gate_callee (f := 26) rfl ?_); refine goesL_ (some 64) rfl rfl Try.func26 (by kernel_rfl) rfl #[.pointer (some ⟨g318, 0, none⟩), .int .i64 3] rfl (by (try simp only [List.map_toArray, List.map_cons, List.map_nil]); first | done | rfl | (simp only [List.length_drop, List.length_take]; rfl)) ?_; (with_reducible refine (octet_Reader_Text.calls g318 t330 t331 3 t332 t333 t334 w _ ?side1 ?side2 A33.out).mono ?_); (case side1 => repeat (first | (with_reducible first | exact HI318.out | apply IsS80.alloc | apply IsS80.drewN | apply IsS80.drew | apply IsS80.set_0 | apply IsS80.set_1 | refine IsS80.far ?_ NB318_307.out _) | exact HI318.out)); (case side2 => repeat (first | (with_reducible first | exact HB.out | apply below_alloc | apply pw_below_drewN | apply below_drew1 | refine below_set ?_ (IsS80.ge HI318.out) | refine below_set ?_ GE307.out) | exact HB.out)); rintro e w55 ⟨rfl, hi, hb, hk⟩; refine ⟨_, rfl, ?_⟩; replace BK307 := Aside0.mk (KeepBut.blk hk (g' := gb307) (o := .cells #[.int .i64 a2_0, .slice A2_1 l2_1.length c2_1] 57 (0, 0)) (bk BK307.out) NB307_318.out (by simp)); replace HO324 := Aside0.mk (Kd.R_mono (Kd.R_keep (IsS80.apart (show IsS80 w _ g318 t330 t331 from by repeat (first | (with_reducible first | exact HI318.out | apply IsS80.alloc | apply IsS80.drewN | apply IsS80.drew | apply IsS80.set_0 | apply IsS80.set_1 | refine IsS80.far ?_ NB318_307.out _) | exact HI318.out)) (kr HO324.out) (by decide)) hk (fun _ h => h.2)) (fun _ h => h.1)); replace HO329 := Aside0.mk (Kd.R_mono (Kd.R_keep (IsS80.apart (show IsS80 w _ g318 t330 t331 from by repeat (first | (with_reducible first | exact HI318.out | apply IsS80.alloc | apply IsS80.drewN | apply IsS80.drew | apply IsS80.set_0 | apply IsS80.set_1 | refine IsS80.far ?_ NB318_307.out _) | exact HI318.out)) (kr HO329.out) (by decide)) hk (fun _ h => h.2)) (fun _ h => h.1)); replace HB := Aside0.mk hb; replace HI318 := Aside0.mk hi; (try clear hb); (try clear hb2); (try clear hk); (try clear hi)) | ((with_reducible refine gate_callee (f := 9) rfl ?_); refine goesL_ (some 65) rfl rfl Try.func9 (by kernel_rfl) rfl #[] rfl (by (try simp only [List.map_toArray, List.map_cons, List.map_nil]); first | done | rfl | (simp only [List.length_drop, List.length_take]; rfl)) ?_; (with_reducible refine (steeplelaw01_awake.calls kj3  true _ A34.out).mono ?_); rintro e w56 ⟨rfl, hb⟩; refine ⟨_, rfl, ?_⟩; replace HO324 := kb HO324 hb; replace HO329 := kb HO329 hb; replace BK307 := bb BK307 hb; replace HB := Aside0.mk (below_step (by repeat (first | (with_reducible first | exact HB.out | apply below_alloc | apply pw_below_drewN | apply below_drew1 | refine below_set ?_ (IsS80.ge HI318.out) | refine below_set ?_ GE307.out) | exact HB.out)) hb); replace HI318 := Aside0.mk (IsS80.below (by repeat (first | (with_reducible first | exact HI318.out | apply IsS80.alloc | apply IsS80.drewN | apply IsS80.drew | apply IsS80.set_0 | apply IsS80.set_1 | refine IsS80.far ?_ NB318_307.out _) | exact HI318.out)) hb); (try clear hb); (try clear hb2); (try clear hk); (try clear hi); obtain ⟨Ao57, co57, eo57⟩ := Kd.R_slice HO324.out; subst eo57) | (go_at_call 34; (with_reducible refine (steeplelaw01_Texts.calls kj3 _ _ t322 _ _ l1 true _ ?side1 ?side2 ?side3 ?side4 A37.out).mono ?_); (case side1 => repeat (first | exact (Kd.R_reads' HO324.out).2.2 | (with_reducible refine Kd.C_alloc ?_ _) | (with_reducible refine Kd.C_drewN ?_ _) | (with_reducible refine Kd.C_drew ?_))); (case side2 => exact (Kd.R_reads' HO324.out).2.1); (case side3 => repeat (first | exact (Kd.C_below HR1.out HB.out) | (with_reducible refine Kd.C_alloc ?_ _) | (with_reducible refine Kd.C_drewN ?_ _) | (with_reducible refine Kd.C_drew ?_))); (case side4 => exact HC1.out); rintro e w' ⟨rfl, ⟨nd, rfl⟩⟩; obtain ⟨hcz58_0, hcz58_1⟩ := zc2 BK307; obtain ⟨hfz58_0, hfz58_1⟩ := zf2 BK307) | (go_at_call 24; (with_reducible refine (steeplelaw01_Ref.calls kj3 _ _ l2_1 t337 _ ?side1 ?side2 A39.out).mono ?_); (case side1 => repeat (first | exact (Kd.C_below HR2_1.out (by repeat (first | (with_reducible first | exact HB.out | apply below_alloc | apply pw_below_drewN | apply below_drew1 | refine below_set ?_ (IsS80.ge HI318.out) | refine below_set ?_ GE307.out) | exact HB.out))) | (with_reducible refine Kd.C_alloc ?_ _) | (with_reducible refine Kd.C_drewN ?_ _) | (with_reducible refine Kd.C_drew ?_))); (case side2 => exact HC2_1.out); rintro e w59 ⟨v338, rfl, ho0, hb⟩; have HO339 := Aside0.mk (Kd.R_lower ho0 (below_size (by repeat (first | (with_reducible first | exact HB.out | apply below_alloc | apply pw_below_drewN | apply below_drew1 | refine below_set ?_ (IsS80.ge HI318.out) | refine below_set ?_ GE307.out) | exact HB.out)))); replace HO324 := kb HO324 hb; replace HO329 := kb HO329 hb; replace BK307 := bb BK307 hb; replace HB := Aside0.mk (below_step (by repeat (first | (with_reducible first | exact HB.out | apply below_alloc | apply pw_below_drewN | apply below_drew1 | refine below_set ?_ (IsS80.ge HI318.out) | refine below_set ?_ GE307.out) | exact HB.out)) hb); replace HI318 := Aside0.mk (IsS80.below (by repeat (first | (with_reducible first | exact HI318.out | apply IsS80.alloc | apply IsS80.drewN | apply IsS80.drew | apply IsS80.set_0 | apply IsS80.set_1 | refine IsS80.far ?_ NB318_307.out _) | exact HI318.out)) hb); (try clear hb); (try clear hb2); (try clear hk); (try clear hi); (try clear ho0); obtain ⟨Ao60, co60, eo60⟩ := Kd.R_slice HO329.out; subst eo60; obtain ⟨Ao61, co61, eo61⟩ := Kd.R_slice HO339.out; subst eo61) | (go_at_call 35; (with_reducible refine (steeplelaw01_Same.calls kj3 _ _ t327 _ _ t337 true _ ?side1 ?side2 ?side3 ?side4 A40.out).mono ?_); (case side1 => repeat (first | exact (Kd.R_reads' HO329.out).2.2 | (with_reducible refine Kd.C_alloc ?_ _) | (with_reducible refine Kd.C_drewN ?_ _) | (with_reducible refine Kd.C_drew ?_))); (case side2 => exact (Kd.R_reads' HO329.out).2.1); (case side3 => repeat (first | exact (Kd.R_reads' HO339.out).2.2 | (with_reducible refine Kd.C_alloc ?_ _) | (with_reducible refine Kd.C_drewN ?_ _) | (with_reducible refine Kd.C_drew ?_))); (case side4 => exact (Kd.R_reads' HO339.out).2.1); rintro e w' ⟨rfl, ⟨nd, rfl⟩⟩) | (go_at_call 32; (with_reducible refine (octet_Reader_End.calls g318 t333 t334 t341 t342 t343 w _ ?side1 ?side2 A43.out).mono ?_); (case side1 => repeat (first | (with_reducible first | exact HI318.out | apply IsS80.alloc | apply IsS80.drewN | apply IsS80.drew | apply IsS80.set_0 | apply IsS80.set_1 | refine IsS80.far ?_ NB318_307.out _) | exact HI318.out)); (case side2 => repeat (first | (with_reducible first | exact HB.out | apply below_alloc | apply pw_below_drewN | apply below_drew1 | refine below_set ?_ (IsS80.ge HI318.out) | refine below_set ?_ GE307.out) | exact HB.out)); rintro e w62 ⟨rfl, hi, hb, hk⟩; replace BK307 := Aside0.mk (KeepBut.blk hk (g' := gb307) (o := .cells #[.int .i64 a2_0, .slice A2_1 l2_1.length c2_1] 57 (0, 0)) (bk BK307.out) NB307_318.out (by simp)); replace HO324 := Aside0.mk (Kd.R_mono (Kd.R_keep (IsS80.apart (show IsS80 w _ g318 t333 t334 from by repeat (first | (with_reducible first | exact HI318.out | apply IsS80.alloc | apply IsS80.drewN | apply IsS80.drew | apply IsS80.set_0 | apply IsS80.set_1 | refine IsS80.far ?_ NB318_307.out _) | exact HI318.out)) (kr HO324.out) (by decide)) hk (fun _ h => h.2)) (fun _ h => h.1)); replace HO329 := Aside0.mk (Kd.R_mono (Kd.R_keep (IsS80.apart (show IsS80 w _ g318 t333 t334 from by repeat (first | (with_reducible first | exact HI318.out | apply IsS80.alloc | apply IsS80.drewN | apply IsS80.drew | apply IsS80.set_0 | apply IsS80.set_1 | refine IsS80.far ?_ NB318_307.out _) | exact HI318.out)) (kr HO329.out) (by decide)) hk (fun _ h => h.2)) (fun _ h => h.1)); replace HO339 := Aside0.mk (Kd.R_mono (Kd.R_keep (IsS80.apart (show IsS80 w _ g318 t333 t334 from by repeat (first | (with_reducible first | exact HI318.out | apply IsS80.alloc | apply IsS80.drewN | apply IsS80.drew | apply IsS80.set_0 | apply IsS80.set_1 | refine IsS80.far ?_ NB318_307.out _) | exact HI318.out)) (kr HO339.out) (by decide)) hk (fun _ h => h.2)) (fun _ h => h.1)); replace HB := Aside0.mk hb; replace HI318 := Aside0.mk hi; (try clear hb); (try clear hb2); (try clear hk); (try clear hi)))
            go_ret
            exact ⟨by first | rfl | (simp [errW_none, errW_some] <;> rfl) | (simp [*, errW_none, errW_some] <;> rfl), by repeat (first | (with_reducible first | exact HB.out | apply below_alloc | apply pw_below_drewN | apply below_drew1 | refine below_set ?_ (IsS80.ge HI318.out) | refine below_set ?_ GE307.out) | exact HB.out)⟩
           ·rw [if_neg c42] at H
            exact absurd H (by simp)
          ·replace c41 := Bool.eq_false_iff.mpr c41
           subst c41
           have H1 : (none) = some r := by rw [if_neg (show ¬ (false = true) by decide)] at H; exact H
           clear H
           have H := H1
           clear H1
           exact absurd H (by simp)
         ·replace c38 := Bool.eq_false_iff.mpr c38
          subst c38
          have H1 : (none) = some r := by rw [if_neg (show ¬ (false = true) by decide)] at H; exact H
          clear H
          have H := H1
          clear H1
          exact absurd H (by simp)
        ·rw [if_neg c36] at H
         exact absurd H (by simp)
       ·replace c35 := Bool.eq_false_iff.mpr c35
        subst c35
        have H1 : (none) = some r := by rw [if_neg (show ¬ (false = true) by decide)] at H; exact H
        clear H
        have H := H1
        clear H1
        exact absurd H (by simp)
      ·rw [if_neg c28] at H
       exact absurd H (by simp)
     ·rw [if_neg c26] at H
      exact absurd H (by simp)
    ·rw [if_neg c24] at H
     exact absurd H (by simp)

/-- THE ONE PURE STATEMENT of steeplelaw01_OctetBack. -/
def steeplelaw01_OctetBack.Pure : Prop := ∀ (x0 : Int) (x1 : List ByteArray) (x2 : S57), (Lit.int .i64 x0).wf = true → (x1.length ≤ maxLen ∧ x1.length * 16 ≤ 140737488351232 ∧ ∀ y0 ∈ x1, y0.size ≤ 140737488351232) → ((Lit.int .i64 x2.f0).wf = true ∧ (x2.f1.length ≤ maxLen ∧ x2.f1.length * 16 ≤ 140737488351232 ∧ ∀ y0 ∈ x2.f1, ((Lit.int .u64 y0.f0).wf = true ∧ (Lit.int .u64 y0.f1).wf = true))) → ∃ k, steeplelaw01_OctetBack.f k x0 x1 x2.f0 x2.f1 = some true

end Go.Proofs.Ytflddolfmaoalaa.P
