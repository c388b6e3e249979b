/- Written by a program of this session: functions that the law reaches, as Lean functions, and that the code comes to their answers. Conditions: those that each theorem names. -/
import Derived.Test.YtmibjgjgfombaaaPx0
import Derived.Test.YtmibjgjgfombaaaHNil12
import Derived.Test.YtmibjgjgfombaaaPx1
import Derived.Test.YtmibjgjgfombaaaPx4
import Derived.Test.YtmibjgjgfombaaaPx5
import Derived.Test.YtmibjgjgfombaaaPx6
import Derived.Test.YtmibjgjgfombaaaPx6a
import Derived.Test.YtmibjgjgfombaaaPx17
import Derived.Test.YtmibjgjgfombaaaHRows
import Derived.Test.YtmibjgjgfombaaaHSu
-- HND
namespace Go.Proofs.Ytmibjgjgfombaaa.P
open Go.RowKit Go.Proofs.YtmibjgjgfombaaaX Go.Proofs.YtmibjgjgfombaaaW.PrintWords Go.Proofs.YtmibjgjgfombaaaW.PrintLast Go.Proofs.YtmibjgjgfombaaaW.PrintMore
attribute [local go_sem] max2_int min2_int max_two min_two max_three min_three max_four min_four   -- for this text's walks alone
set_option linter.unusedVariables false
set_option linter.unusedSimpArgs false

/-! ### steeplelaw12_MerkleNil: function 8 -/
def steeplelaw12_MerkleNil.j0 : Nat → List ByteArray → ByteArray → Bool → Option (Bool)
 | 0, _, _, _ => none
 | k + 1, x0, x1, x19 => if x19 = true then ((steeplelaw12_awake.f k).bind fun t574 => (some t574)) else ((merkle_RowsNil.f x0).bind fun bt575 => ((merkle_RootNil.f x0).bind fun bt579 => (if x1.size + 1 ≤ 9223372036854775807 then ((merkle_TwinNil.f 0 0 x1 (x1 ++ (⟨#[120]⟩ : ByteArray)) ([] : List ByteArray) ([] : List ByteArray)).bind fun bt581 => ((steeplelaw12_awake.f k).bind fun t584 => (if t584 = true then (if bt575.2 = 1 then (if bt579.2 = 1 then (if bt581.2.2 = true then (none) else ((merkle_LeafNil.f x1).bind fun t585 => ((merkle_NodeNil.f x1 x1).bind fun t586 => (if t585.size + t586.size ≤ 9223372036854775807 then ((sponge_SumNil.f x1).bind fun t587 => (if (t585 ++ t586).size + t587.size ≤ 9223372036854775807 then (if ((t585 ++ t586) ++ t587).toList = ([] : List UInt8) then ((merkle_CheckNil.f k (⟨#[]⟩ : ByteArray) 0 0 x1 ([] : List ByteArray)).bind fun t588 => (some (!t588))) else (none)) else (none))) else (none))))) else (none)) else (none)) else (none)))) else (none))))
def steeplelaw12_MerkleNil.f (k : Nat) (l0 : List ByteArray) (a1 : ByteArray) : Option (Bool) := (steeplelaw01_Few.f k l0 16 100).bind fun t573 => (if t573 = true then (steeplelaw12_MerkleNil.j0 k l0 a1 (decide ((a1.size : Int) > 100))) else (steeplelaw12_MerkleNil.j0 k l0 a1 true))
theorem steeplelaw12_MerkleNil.mono_l : ∀ k, (∀ y0 y1 y2, LeO (steeplelaw12_MerkleNil.j0 k y0 y1 y2) (steeplelaw12_MerkleNil.j0 (k + 1) y0 y1 y2))
 | 0 => fun _ _ _ r h => by simp [steeplelaw12_MerkleNil.j0] at h
 | k + 1 => by
  have ih0 := steeplelaw12_MerkleNil.mono_l k
  ·intro y0 y1 y2
   unfold steeplelaw12_MerkleNil.j0
   repeat' first
   | (with_reducible exact ih0 _ _ _)
   | (with_reducible exact merkle_Check.mono _ _ _ _ _ _ _)
   | (with_reducible exact steeplelaw01_Few.mono _ _ _ _)
   | (with_reducible exact steeplelaw12_awake.mono _)
   | (with_reducible exact LeO.refl _)
   | (with_reducible exact LeO.none _)
   | (with_reducible refine LeO.ite ?_ ?_)
   | (with_reducible refine LeO.bind ?_ (fun _ => ?_))
   | exact ih0 _ _ _
   | exact merkle_Check.mono _ _ _ _ _ _ _
   | exact steeplelaw01_Few.mono _ _ _ _
   | exact steeplelaw12_awake.mono _
   | exact LeO.none _
   | refine LeO.ite ?_ ?_
   | refine LeO.bind ?_ (fun _ => ?_)
theorem steeplelaw12_MerkleNil.mono : ∀ a0 a1 k, LeO (steeplelaw12_MerkleNil.f k a0 a1) (steeplelaw12_MerkleNil.f (k + 1) a0 a1) := by
 intro a0 a1 k
 have ih0 := steeplelaw12_MerkleNil.mono_l k
 unfold steeplelaw12_MerkleNil.f
 repeat' first
   | (with_reducible exact ih0 _ _ _)
   | (with_reducible exact merkle_Check.mono _ _ _ _ _ _ _)
   | (with_reducible exact steeplelaw01_Few.mono _ _ _ _)
   | (with_reducible exact steeplelaw12_awake.mono _)
   | (with_reducible exact LeO.refl _)
   | (with_reducible exact LeO.none _)
   | (with_reducible refine LeO.ite ?_ ?_)
   | (with_reducible refine LeO.bind ?_ (fun _ => ?_))
   | exact ih0 _ _ _
   | exact merkle_Check.mono _ _ _ _ _ _ _
   | exact steeplelaw01_Few.mono _ _ _ _
   | exact steeplelaw12_awake.mono _
   | exact LeO.none _
   | refine LeO.ite ?_ ?_
   | refine LeO.bind ?_ (fun _ => ?_)
set_option maxHeartbeats 8000000 in
set_option maxRecDepth 100000 in
theorem steeplelaw12_MerkleNil.calls (k : Nat) (A0 : Option Addr) (c0 : Nat) (l0 : List ByteArray) (a1 : ByteArray) (r : Bool) (w : World) (hr0 : Kd.C Kd.string w A0 l0.length l0) (hc0 : l0.length ≤ c0) (h : steeplelaw12_MerkleNil.f k l0 a1 = some r) :
  Calls Try.prog 8 #[.slice A0 l0.length c0, .string a1] w fun e w' => e = .returned (.bool r) ∧ Below w.heap.size w w' := by
 have HR0 := Aside0.mk hr0
 have HC0 := Aside0.mk hc0
 clear hr0 hc0
 have HB := Aside0.mk (Below.refl w.heap.size w)
 have H : ((steeplelaw01_Few.f k l0 16 100).bind fun t573 => (if t573 = true then (steeplelaw12_MerkleNil.j0 k l0 a1 (decide ((a1.size : Int) > 100))) else (steeplelaw12_MerkleNil.j0 k l0 a1 true))) = some r := h
 clear h
 have HC3 := Aside0.mk H
 clear H
 go_enter Try.func8, Try.ntmps8
 go_upto_region 1 with (fail)
 go_cut [19] (fun v19 wc => ∃ (kq : Nat) (x19_2 : Bool), v19 = .bool x19_2 ∧ Aside0 (steeplelaw12_MerkleNil.j0 kq l0 a1 x19_2 = some r) ∧ Aside0 (kq ≤ k) ∧ Aside0 (Below w.heap.size w wc))
 case first =>
  have H := HC3.out
  clear HC3
  replace H := Option.bind_eq_some_iff.mp H
  obtain ⟨t573, A40, H⟩ := H
  replace H : (if t573 = true then (steeplelaw12_MerkleNil.j0 k l0 a1 (decide ((a1.size : Int) > 100))) else (steeplelaw12_MerkleNil.j0 k l0 a1 true)) = some r := H
  have A4 := Aside0.mk A40
  clear A40
  by_cases c5 : t573 = true
  ·subst c5
   have H1 : (steeplelaw12_MerkleNil.j0 k l0 a1 (decide ((a1.size : Int) > 100))) = some r := by rw [if_pos rfl] at H; exact H
   clear H
   have H := H1
   clear H1
   have H' := Aside0.mk H
   clear H
   go_wp2_with (first | ((with_reducible refine gate_callee (f := 9) rfl ?_); refine goesL_ (some 13) rfl rfl Try.func9 (by kernel_rfl) rfl #[.slice A0 l0.length c0, .int .i64 16, .int .i64 100] rfl (by (try simp only [List.map_toArray, List.map_cons, List.map_nil]); first | done | rfl | (simp only [List.length_drop, List.length_take]; rfl)) ?_; (with_reducible refine (steeplelaw01_Few.calls k _ _ l0 16 100 true _ ?side1 ?side2 A4.out).mono ?_); (case side1 => repeat (first | exact (Kd.C_below HR0.out HB.out) | (with_reducible refine Kd.C_alloc ?_ _) | (with_reducible refine Kd.C_drewN ?_ _) | (with_reducible refine Kd.C_drew ?_))); (case side2 => exact HC0.out); rintro e w' ⟨rfl, ⟨nd, rfl⟩⟩; refine ⟨_, rfl, ?_⟩))
   go_meet
   case rel => exact ⟨_, (decide ((a1.size : Int) > 100)), (by first | rfl | (simp; done) | (simp [*]; done)), H', ⟨by first | omega | exact Nat.le_refl _⟩, ⟨bq HB.out⟩⟩
  ·replace c5 := Bool.eq_false_iff.mpr c5
   subst c5
   have H1 : (steeplelaw12_MerkleNil.j0 k l0 a1 true) = some r := by rw [if_neg (show ¬ (false = true) by decide)] at H; exact H
   clear H
   have H := H1
   clear H1
   have H' := Aside0.mk H
   clear H
   go_wp2_with (first | ((with_reducible refine gate_callee (f := 9) rfl ?_); refine goesL_ (some 13) rfl rfl Try.func9 (by kernel_rfl) rfl #[.slice A0 l0.length c0, .int .i64 16, .int .i64 100] rfl (by (try simp only [List.map_toArray, List.map_cons, List.map_nil]); first | done | rfl | (simp only [List.length_drop, List.length_take]; rfl)) ?_; (with_reducible refine (steeplelaw01_Few.calls k _ _ l0 16 100 false _ ?side1 ?side2 A4.out).mono ?_); (case side1 => repeat (first | exact (Kd.C_below HR0.out HB.out) | (with_reducible refine Kd.C_alloc ?_ _) | (with_reducible refine Kd.C_drewN ?_ _) | (with_reducible refine Kd.C_drew ?_))); (case side2 => exact HC0.out); rintro e w' ⟨rfl, ⟨nd, rfl⟩⟩; refine ⟨_, rfl, ?_⟩))
   go_meet
   case rel => exact ⟨_, (true), (by first | rfl | (simp; done) | (simp [*]; done)), H', ⟨by first | omega | exact Nat.le_refl _⟩, ⟨bq HB.out⟩⟩
 case rest =>
  clear HC3
  try clear p2
  try clear c5
  obtain ⟨kq, x19_2, rfl, HA, HJ2, HB⟩ := hcut
  cases kq with
  | zero => exact absurd HA.out (by simp [steeplelaw12_MerkleNil.j0])
  | succ kj2 =>
   have H := HA.out
   clear HA
   simp only [steeplelaw12_MerkleNil.j0] at H
   by_cases c6 : x19_2 = true
   ·subst c6
    have H1 : ((steeplelaw12_awake.f kj2).bind fun t574 => (some t574)) = some r := by rw [if_pos rfl] at H; exact H
    clear H
    have H := H1
    clear H1
    replace H := Option.bind_eq_some_iff.mp H
    obtain ⟨t574, A70, H⟩ := H
    replace H : (some t574) = some r := H
    have A7 := Aside0.mk A70
    clear A70
    obtain rfl := Option.some.inj H
    go_wp2_with (first | ((with_reducible refine gate_callee (f := 10) rfl ?_); refine goesL_ (some 20) rfl rfl Try.func10 (by kernel_rfl) rfl #[] rfl (by (try simp only [List.map_toArray, List.map_cons, List.map_nil]); first | done | rfl | (simp only [List.length_drop, List.length_take]; rfl)) ?_; (with_reducible refine (steeplelaw12_awake.calls kj2  t574 _ A7.out).mono ?_); rintro e w8 ⟨rfl, hb⟩; refine ⟨_, rfl, ?_⟩; replace HB := bh HB hb; (try clear hb); (try clear hb2); (try clear hk); (try clear hi)))
    go_ret
    exact ⟨by first | rfl | (simp [errW_none, errW_some] <;> rfl) | (simp [*, errW_none, errW_some] <;> rfl), bq HB.out⟩
   ·replace c6 := Bool.eq_false_iff.mpr c6
    subst c6
    have H1 : ((merkle_RowsNil.f l0).bind fun bt575 => ((merkle_RootNil.f l0).bind fun bt579 => (if a1.size + 1 ≤ 9223372036854775807 then ((merkle_TwinNil.f 0 0 a1 (a1 ++ (⟨#[120]⟩ : ByteArray)) ([] : List ByteArray) ([] : List ByteArray)).bind fun bt581 => ((steeplelaw12_awake.f kj2).bind fun t584 => (if t584 = true then (if bt575.2 = 1 then (if bt579.2 = 1 then (if bt581.2.2 = true then (none) else ((merkle_LeafNil.f a1).bind fun t585 => ((merkle_NodeNil.f a1 a1).bind fun t586 => (if t585.size + t586.size ≤ 9223372036854775807 then ((sponge_SumNil.f a1).bind fun t587 => (if (t585 ++ t586).size + t587.size ≤ 9223372036854775807 then (if ((t585 ++ t586) ++ t587).toList = ([] : List UInt8) then ((merkle_CheckNil.f kj2 (⟨#[]⟩ : ByteArray) 0 0 a1 ([] : List ByteArray)).bind fun t588 => (some (!t588))) else (none)) else (none))) else (none))))) else (none)) else (none)) else (none)))) else (none)))) = some r := by rw [if_neg (show ¬ (false = true) by decide)] at H; exact H
    clear H
    have H := H1
    clear H1
    replace H := Option.bind_eq_some_iff.mp H
    obtain ⟨⟨t575, t576⟩, A90, H⟩ := H
    replace H : ((merkle_RootNil.f l0).bind fun bt579 => (if a1.size + 1 ≤ 9223372036854775807 then ((merkle_TwinNil.f 0 0 a1 (a1 ++ (⟨#[120]⟩ : ByteArray)) ([] : List ByteArray) ([] : List ByteArray)).bind fun bt581 => ((steeplelaw12_awake.f kj2).bind fun t584 => (if t584 = true then (if t576 = 1 then (if bt579.2 = 1 then (if bt581.2.2 = true then (none) else ((merkle_LeafNil.f a1).bind fun t585 => ((merkle_NodeNil.f a1 a1).bind fun t586 => (if t585.size + t586.size ≤ 9223372036854775807 then ((sponge_SumNil.f a1).bind fun t587 => (if (t585 ++ t586).size + t587.size ≤ 9223372036854775807 then (if ((t585 ++ t586) ++ t587).toList = ([] : List UInt8) then ((merkle_CheckNil.f kj2 (⟨#[]⟩ : ByteArray) 0 0 a1 ([] : List ByteArray)).bind fun t588 => (some (!t588))) else (none)) else (none))) else (none))))) else (none)) else (none)) else (none)))) else (none))) = some r := H
    have A9 := Aside0.mk A90
    clear A90
    replace H := Option.bind_eq_some_iff.mp H
    obtain ⟨⟨t579, t580⟩, A100, H⟩ := H
    replace H : (if a1.size + 1 ≤ 9223372036854775807 then ((merkle_TwinNil.f 0 0 a1 (a1 ++ (⟨#[120]⟩ : ByteArray)) ([] : List ByteArray) ([] : List ByteArray)).bind fun bt581 => ((steeplelaw12_awake.f kj2).bind fun t584 => (if t584 = true then (if t576 = 1 then (if t580 = 1 then (if bt581.2.2 = true then (none) else ((merkle_LeafNil.f a1).bind fun t585 => ((merkle_NodeNil.f a1 a1).bind fun t586 => (if t585.size + t586.size ≤ 9223372036854775807 then ((sponge_SumNil.f a1).bind fun t587 => (if (t585 ++ t586).size + t587.size ≤ 9223372036854775807 then (if ((t585 ++ t586) ++ t587).toList = ([] : List UInt8) then ((merkle_CheckNil.f kj2 (⟨#[]⟩ : ByteArray) 0 0 a1 ([] : List ByteArray)).bind fun t588 => (some (!t588))) else (none)) else (none))) else (none))))) else (none)) else (none)) else (none)))) else (none)) = some r := H
    have A10 := Aside0.mk A100
    clear A100
    by_cases c11 : a1.size + 1 ≤ 9223372036854775807
    ·rw [if_pos c11] at H
     have c11b0 := eq_true c11
     have c11b1 : decide (a1.size + 1 ≤ 9223372036854775807) = true := decide_eq_true c11
     try have c11b2 : (9223372036854775807 < a1.size + 1) = False := eq_false (Nat.not_lt.2 c11)
     replace H := Option.bind_eq_some_iff.mp H
     obtain ⟨⟨t581, t582, t583⟩, A120, H⟩ := H
     replace H : ((steeplelaw12_awake.f kj2).bind fun t584 => (if t584 = true then (if t576 = 1 then (if t580 = 1 then (if t583 = true then (none) else ((merkle_LeafNil.f a1).bind fun t585 => ((merkle_NodeNil.f a1 a1).bind fun t586 => (if t585.size + t586.size ≤ 9223372036854775807 then ((sponge_SumNil.f a1).bind fun t587 => (if (t585 ++ t586).size + t587.size ≤ 9223372036854775807 then (if ((t585 ++ t586) ++ t587).toList = ([] : List UInt8) then ((merkle_CheckNil.f kj2 (⟨#[]⟩ : ByteArray) 0 0 a1 ([] : List ByteArray)).bind fun t588 => (some (!t588))) else (none)) else (none))) else (none))))) else (none)) else (none)) else (none))) = some r := H
     have A12 := Aside0.mk A120
     clear A120
     replace H := Option.bind_eq_some_iff.mp H
     obtain ⟨t584, A130, H⟩ := H
     replace H : (if t584 = true then (if t576 = 1 then (if t580 = 1 then (if t583 = true then (none) else ((merkle_LeafNil.f a1).bind fun t585 => ((merkle_NodeNil.f a1 a1).bind fun t586 => (if t585.size + t586.size ≤ 9223372036854775807 then ((sponge_SumNil.f a1).bind fun t587 => (if (t585 ++ t586).size + t587.size ≤ 9223372036854775807 then (if ((t585 ++ t586) ++ t587).toList = ([] : List UInt8) then ((merkle_CheckNil.f kj2 (⟨#[]⟩ : ByteArray) 0 0 a1 ([] : List ByteArray)).bind fun t588 => (some (!t588))) else (none)) else (none))) else (none))))) else (none)) else (none)) else (none)) = some r := H
     have A13 := Aside0.mk A130
     clear A130
     by_cases c14 : t584 = true
     ·subst c14
      have H1 : (if t576 = 1 then (if t580 = 1 then (if t583 = true then (none) else ((merkle_LeafNil.f a1).bind fun t585 => ((merkle_NodeNil.f a1 a1).bind fun t586 => (if t585.size + t586.size ≤ 9223372036854775807 then ((sponge_SumNil.f a1).bind fun t587 => (if (t585 ++ t586).size + t587.size ≤ 9223372036854775807 then (if ((t585 ++ t586) ++ t587).toList = ([] : List UInt8) then ((merkle_CheckNil.f kj2 (⟨#[]⟩ : ByteArray) 0 0 a1 ([] : List ByteArray)).bind fun t588 => (some (!t588))) else (none)) else (none))) else (none))))) else (none)) else (none)) = some r := by rw [if_pos rfl] at H; exact H
      clear H
      have H := H1
      clear H1
      by_cases c15 : t576 = 1
      ·rw [if_pos c15] at H
       have c15b0 : (t576 == 1) = true := beq_iff_eq.mpr c15
       have c15b1 : (t576 != 1) = false := bne_eq_false_iff_eq.mpr c15
       clear c15
       by_cases c16 : t580 = 1
       ·rw [if_pos c16] at H
        have c16b0 : (t580 == 1) = true := beq_iff_eq.mpr c16
        have c16b1 : (t580 != 1) = false := bne_eq_false_iff_eq.mpr c16
        clear c16
        by_cases c17 : t583 = true
        ·subst c17
         have H1 : (none) = some r := by rw [if_pos rfl] at H; exact H
         clear H
         have H := H1
         clear H1
         exact absurd H (by simp)
        ·replace c17 := Bool.eq_false_iff.mpr c17
         subst c17
         have H1 : ((merkle_LeafNil.f a1).bind fun t585 => ((merkle_NodeNil.f a1 a1).bind fun t586 => (if t585.size + t586.size ≤ 9223372036854775807 then ((sponge_SumNil.f a1).bind fun t587 => (if (t585 ++ t586).size + t587.size ≤ 9223372036854775807 then (if ((t585 ++ t586) ++ t587).toList = ([] : List UInt8) then ((merkle_CheckNil.f kj2 (⟨#[]⟩ : ByteArray) 0 0 a1 ([] : List ByteArray)).bind fun t588 => (some (!t588))) else (none)) else (none))) else (none)))) = some r := by rw [if_neg (show ¬ (false = true) by decide)] at H; exact H
         clear H
         have H := H1
         clear H1
         replace H := Option.bind_eq_some_iff.mp H
         obtain ⟨t585, A180, H⟩ := H
         replace H : ((merkle_NodeNil.f a1 a1).bind fun t586 => (if t585.size + t586.size ≤ 9223372036854775807 then ((sponge_SumNil.f a1).bind fun t587 => (if (t585 ++ t586).size + t587.size ≤ 9223372036854775807 then (if ((t585 ++ t586) ++ t587).toList = ([] : List UInt8) then ((merkle_CheckNil.f kj2 (⟨#[]⟩ : ByteArray) 0 0 a1 ([] : List ByteArray)).bind fun t588 => (some (!t588))) else (none)) else (none))) else (none))) = some r := H
         have A18 := Aside0.mk A180
         clear A180
         replace H := Option.bind_eq_some_iff.mp H
         obtain ⟨t586, A190, H⟩ := H
         replace H : (if t585.size + t586.size ≤ 9223372036854775807 then ((sponge_SumNil.f a1).bind fun t587 => (if (t585 ++ t586).size + t587.size ≤ 9223372036854775807 then (if ((t585 ++ t586) ++ t587).toList = ([] : List UInt8) then ((merkle_CheckNil.f kj2 (⟨#[]⟩ : ByteArray) 0 0 a1 ([] : List ByteArray)).bind fun t588 => (some (!t588))) else (none)) else (none))) else (none)) = some r := H
         have A19 := Aside0.mk A190
         clear A190
         by_cases c20 : t585.size + t586.size ≤ 9223372036854775807
         ·rw [if_pos c20] at H
          have c20b0 := eq_true c20
          have c20b1 : decide (t585.size + t586.size ≤ 9223372036854775807) = true := decide_eq_true c20
          try have c20b2 : (9223372036854775807 < t585.size + t586.size) = False := eq_false (Nat.not_lt.2 c20)
          replace H := Option.bind_eq_some_iff.mp H
          obtain ⟨t587, A210, H⟩ := H
          replace H : (if (t585 ++ t586).size + t587.size ≤ 9223372036854775807 then (if ((t585 ++ t586) ++ t587).toList = ([] : List UInt8) then ((merkle_CheckNil.f kj2 (⟨#[]⟩ : ByteArray) 0 0 a1 ([] : List ByteArray)).bind fun t588 => (some (!t588))) else (none)) else (none)) = some r := H
          have A21 := Aside0.mk A210
          clear A210
          by_cases c22 : (t585 ++ t586).size + t587.size ≤ 9223372036854775807
          ·rw [if_pos c22] at H
           have c22b0 := eq_true c22
           have c22b1 : decide ((t585 ++ t586).size + t587.size ≤ 9223372036854775807) = true := decide_eq_true c22
           try have c22b2 : (9223372036854775807 < (t585 ++ t586).size + t587.size) = False := eq_false (Nat.not_lt.2 c22)
           by_cases c23 : ((t585 ++ t586) ++ t587).toList = ([] : List UInt8)
           ·rw [if_pos c23] at H
            have c23b0 : (((t585 ++ t586) ++ t587).toList == ([] : List UInt8)) = true := beq_iff_eq.mpr c23
            have c23b1 : (((t585 ++ t586) ++ t587).toList != ([] : List UInt8)) = false := bne_eq_false_iff_eq.mpr c23
            clear c23
            replace H := Option.bind_eq_some_iff.mp H
            obtain ⟨t588, A240, H⟩ := H
            replace H : (some (!t588)) = some r := H
            have A24 := Aside0.mk A240
            clear A240
            obtain rfl := Option.some.inj H
            go_wp2_with (first | ((with_reducible refine gate_callee (f := 12) rfl ?_); refine goesL_ (some 23) rfl rfl Try.func12 (by kernel_rfl) rfl #[.pointer none, .slice A0 l0.length c0] rfl (by (try simp only [List.map_toArray, List.map_cons, List.map_nil]); first | done | rfl | (simp only [List.length_drop, List.length_take]; rfl)) ?_; (with_reducible refine (merkle_RowsNil.calls _ _ l0 t575 t576 _ ?side1 ?side2 A9.out).mono ?_); (case side1 => repeat (first | exact (Kd.C_below HR0.out HB.out) | (with_reducible refine Kd.C_alloc ?_ _) | (with_reducible refine Kd.C_drewN ?_ _) | (with_reducible refine Kd.C_drew ?_))); (case side2 => exact HC0.out); rintro e w25 ⟨v577, rfl, ho0, hb⟩; refine ⟨_, rfl, ?_⟩; have HO578 := Aside0.mk (Kd.S_lower ho0 (below_size (bq HB.out))); replace HB := bh HB hb; (try clear hb); (try clear hb2); (try clear hk); (try clear hi); (try clear ho0)) | ((with_reducible refine gate_callee (f := 13) rfl ?_); refine goesL_ (some 28) rfl rfl Try.func13 (by kernel_rfl) rfl #[.pointer none, .slice A0 l0.length c0] rfl (by (try simp only [List.map_toArray, List.map_cons, List.map_nil]); first | done | rfl | (simp only [List.length_drop, List.length_take]; rfl)) ?_; (with_reducible refine (merkle_RootNil.calls _ _ l0 t579 t580 _ ?side1 ?side2 A10.out).mono ?_); (case side1 => repeat (first | exact (Kd.C_below HR0.out HB.out) | (with_reducible refine Kd.C_alloc ?_ _) | (with_reducible refine Kd.C_drewN ?_ _) | (with_reducible refine Kd.C_drew ?_))); (case side2 => exact HC0.out); rintro e w26 ⟨rfl, hb⟩; refine ⟨_, rfl, ?_⟩; replace HO578 := Aside0.mk (Kd.S_below (by (with_reducible repeat (first | apply Kd.S_alloc | apply Kd.S_drewN | apply Kd.S_drew)); exact HO578.out) hb); replace HB := bh HB hb; (try clear hb); (try clear hb2); (try clear hk); (try clear hi)) | ((with_reducible refine gate_callee (f := 25) rfl ?_); refine goesL_ (some 35) rfl rfl Try.func25 (by kernel_rfl) rfl #[.pointer none, .int .i64 0, .int .i64 0, .string a1, .string (a1 ++ (⟨#[120]⟩ : ByteArray)), .slice none 0 0, .slice none 0 0] rfl (by (try simp only [List.map_toArray, List.map_cons, List.map_nil]); first | done | rfl | (simp only [List.length_drop, List.length_take]; rfl)) ?_; (refine (merkle_TwinNil.calls 0 0 a1 (a1 ++ (⟨#[120]⟩ : ByteArray)) _ _ ([] : List ByteArray) _ _ ([] : List ByteArray) t581 t582 false _ ?side1 ?side2 ?side3 ?side4 A12.out).mono ?_); (case side1 => exact Kd.C_nil _ _); (case side2 => exact Nat.le_refl _); (case side3 => exact Kd.C_nil _ _); (case side4 => exact Nat.le_refl _); rintro e w27 ⟨rfl, hb⟩; refine ⟨_, rfl, ?_⟩; replace HO578 := Aside0.mk (Kd.S_below (by (with_reducible repeat (first | apply Kd.S_alloc | apply Kd.S_drewN | apply Kd.S_drew)); exact HO578.out) hb); replace HB := bh HB hb; (try clear hb); (try clear hb2); (try clear hk); (try clear hi)) | ((with_reducible refine gate_callee (f := 10) rfl ?_); refine goesL_ (some 39) rfl rfl Try.func10 (by kernel_rfl) rfl #[] rfl (by (try simp only [List.map_toArray, List.map_cons, List.map_nil]); first | done | rfl | (simp only [List.length_drop, List.length_take]; rfl)) ?_; (with_reducible refine (steeplelaw12_awake.calls kj2  true _ A13.out).mono ?_); rintro e w28 ⟨rfl, hb⟩; refine ⟨_, rfl, ?_⟩; replace HO578 := Aside0.mk (Kd.S_below (by (with_reducible repeat (first | apply Kd.S_alloc | apply Kd.S_drewN | apply Kd.S_drew)); exact HO578.out) hb); replace HB := bh HB hb; (try clear hb); (try clear hb2); (try clear hk); (try clear hi)) | (go_at_call 26; (with_reducible refine (merkle_LeafNil.calls a1 t585 _ A18.out).mono ?_); rintro e w29 ⟨rfl, hb⟩; replace HO578 := Aside0.mk (Kd.S_below (by (with_reducible repeat (first | apply Kd.S_alloc | apply Kd.S_drewN | apply Kd.S_drew)); exact HO578.out) hb); replace HB := bh HB hb; (try clear hb); (try clear hb2); (try clear hk); (try clear hi)) | (go_at_call 28; (with_reducible refine (merkle_NodeNil.calls a1 a1 t586 _ A19.out).mono ?_); rintro e w30 ⟨rfl, hb⟩; replace HO578 := Aside0.mk (Kd.S_below (by (with_reducible repeat (first | apply Kd.S_alloc | apply Kd.S_drewN | apply Kd.S_drew)); exact HO578.out) hb); replace HB := bh HB hb; (try clear hb); (try clear hb2); (try clear hk); (try clear hi)) | (go_at_call 29; (with_reducible refine (sponge_SumNil.calls a1 t587 _ A21.out).mono ?_); rintro e w31 ⟨rfl, hb⟩; replace HO578 := Aside0.mk (Kd.S_below (by (with_reducible repeat (first | apply Kd.S_alloc | apply Kd.S_drewN | apply Kd.S_drew)); exact HO578.out) hb); replace HB := bh HB hb; (try clear hb); (try clear hb2); (try clear hk); (try clear hi)) | (go_at_call 24; (refine (merkle_CheckNil.calls kj2 (⟨#[]⟩ : ByteArray) 0 0 a1 _ _ ([] : List ByteArray) t588 _ ?side1 ?side2 A24.out).mono ?_); (case side1 => exact Kd.C_nil _ _); (case side2 => exact Nat.le_refl _); rintro e w32 ⟨rfl, hb⟩; replace HO578 := Aside0.mk (Kd.S_below (by (with_reducible repeat (first | apply Kd.S_alloc | apply Kd.S_drewN | apply Kd.S_drew)); exact HO578.out) hb); replace HB := bh HB hb; (try clear hb); (try clear hb2); (try clear hk); (try clear hi)))
            go_ret
            exact ⟨by first | rfl | (simp [errW_none, errW_some] <;> rfl) | (simp [*, errW_none, errW_some] <;> rfl), bq HB.out⟩
           ·rw [if_neg c23] at H
            exact absurd H (by simp)
          ·rw [if_neg c22] at H
           exact absurd H (by simp)
         ·rw [if_neg c20] at H
          exact absurd H (by simp)
       ·rw [if_neg c16] at H
        exact absurd H (by simp)
      ·rw [if_neg c15] at H
       exact absurd H (by simp)
     ·replace c14 := Bool.eq_false_iff.mpr c14
      subst c14
      have H1 : (none) = some r := by rw [if_neg (show ¬ (false = true) by decide)] at H; exact H
      clear H
      have H := H1
      clear H1
      exact absurd H (by simp)
    ·rw [if_neg c11] at H
     exact absurd H (by simp)

/-- THE ONE PURE STATEMENT of steeplelaw12_MerkleNil. -/
def steeplelaw12_MerkleNil.Pure : Prop := ∀ (x0 : List ByteArray) (x1 : ByteArray), (x0.length ≤ maxLen ∧ x0.length * 16 ≤ 140737488351232 ∧ ∀ y0 ∈ x0, y0.size ≤ 140737488351232) → x1.size ≤ 140737488351232 → ∃ k, steeplelaw12_MerkleNil.f k x0 x1 = some true

end Go.Proofs.Ytmibjgjgfombaaa.P
