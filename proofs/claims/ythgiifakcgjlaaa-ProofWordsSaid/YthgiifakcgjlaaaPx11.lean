/- Written by a program of this session: functions that the law reaches, as Lean functions, and that the code comes to their answers. Conditions: those that each theorem names. -/
import Derived.Test.YthgiifakcgjlaaaPx0
import Derived.Test.YthgiifakcgjlaaaPx6
import Derived.Test.YthgiifakcgjlaaaPx9
import Derived.Test.YthgiifakcgjlaaaPx10
import Derived.Test.YthgiifakcgjlaaaHWords
namespace Go.Proofs.Ythgiifakcgjlaaa.P
open Go.RowKit Go.Proofs.YthgiifakcgjlaaaX Go.Proofs.YthgiifakcgjlaaaW.PrintWords Go.Proofs.YthgiifakcgjlaaaW.PrintLast Go.Proofs.YthgiifakcgjlaaaW.PrintMore
attribute [local go_sem] max2_int min2_int max_two min_two max_three min_three max_four min_four   -- for this text's walks alone
set_option linter.unusedVariables false
set_option linter.unusedSimpArgs false

/-! ### steeplelaw29_ProofWords: function 4 -/
mutual
def steeplelaw29_ProofWords.j0 : Nat → List (List Int) → ByteArray → Bool → Option (Bool)
 | 0, _, _, _ => none
 | k + 1, x0, x1, x19 => if x19 = true then ((steeplelaw29_awake.f k).bind fun t280 => (some t280)) else (steeplelaw29_ProofWords.l0 k x0 x1 0)
def steeplelaw29_ProofWords.l0 : Nat → List (List Int) → ByteArray → Int → Option (Bool)
 | 0, _, _, _ => none
 | k + 1, x0, x1, x5 => if x5 < (x0.length : Int) then (if 0 ≤ x5 then (if ((rd_L6 x0 x5).length : Int) > 20 then ((steeplelaw29_awake.f k).bind fun t282 => (some t282)) else (steeplelaw29_ProofWords.l0 k x0 x1 (wrap64 (x5 + 1)))) else (none)) else ((proof_Words.f x0).bind fun bt283 => ((proof_ReadWords.f k bt283.1).bind fun bt285 => (if bt283.2 = 0 then (if bt285.2 = 0 then ((steepleref29_Words.f k x0).bind fun t289 => (if bt283.1.toList = t289.toList then ((steeplelaw29_columns.f k bt285.1 x0).bind fun t290 => (if t290 = true then ((proof_ReadWords.f k x1).bind fun bt291 => (if bt291.2 = 0 then ((steeplelaw29_awake.f k).bind fun t295 => (if t295 = true then ((steepleref29_Words.f k bt291.1).bind fun t296 => (some (t296.toList == x1.toList))) else (none))) else ((steeplelaw29_awake.f k).bind fun t297 => (if t297 = true then (if bt291.2 = 3 then (some ((bt291.1.length : Int) == 0)) else (none)) else (none))))) else (none))) else (none))) else (none)) else (none))))
end
def steeplelaw29_ProofWords.f (k : Nat) (l0 : List (List Int)) (a1 : ByteArray) : Option (Bool) := if (l0.length : Int) > 20 then (steeplelaw29_ProofWords.j0 k l0 a1 true) else (steeplelaw29_ProofWords.j0 k l0 a1 (decide ((a1.size : Int) > 2000)))
set_option maxHeartbeats 8000000 in
set_option maxRecDepth 100000 in
theorem steeplelaw29_ProofWords.calls (k : Nat) (A0 : Option Addr) (c0 : Nat) (l0 : List (List Int)) (a1 : ByteArray) (r : Bool) (w : World) (hr0 : Kd.C (Kd.slice 59 (Kd.int .u64)) w A0 l0.length l0) (hc0 : l0.length ≤ c0) (h : steeplelaw29_ProofWords.f k l0 a1 = some r) :
  Calls Try.prog 4 #[.slice A0 l0.length c0, .string a1] w fun e w' => e = .returned (.bool r) ∧ Below w.heap.size w w' := by
 have HR0 := Aside0.mk hr0
 have HC0 := Aside0.mk hc0
 clear hr0 hc0
 have HB := Aside0.mk (Below.refl w.heap.size w)
 have H : (if (l0.length : Int) > 20 then (steeplelaw29_ProofWords.j0 k l0 a1 true) else (steeplelaw29_ProofWords.j0 k l0 a1 (decide ((a1.size : Int) > 2000)))) = some r := h
 clear h
 have HC3 := Aside0.mk H
 clear H
 go_enter Try.func4, Try.ntmps4
 go_upto_region 1 with (fail)
 go_cut [19] (fun v19 wc => ∃ (kq : Nat) (x19_2 : Bool), v19 = .bool x19_2 ∧ Aside0 (steeplelaw29_ProofWords.j0 kq l0 a1 x19_2 = some r) ∧ Aside0 (kq ≤ k) ∧ Aside0 (Below w.heap.size w wc))
 case first =>
  have H := HC3.out
  clear HC3
  by_cases c4 : (l0.length : Int) > 20
  ·rw [if_pos c4] at H
   have c4b0 : decide (20 < (l0.length : Int)) = true := decide_eq_true c4
   have c4b1 : decide (20 < l0.length) = true := decide_eq_true (by omega)
   clear c4
   (first | rw [c4b0] | (simp only [i64_w, i32_w]; rw [c4b0]) | skip)
   have H' := Aside0.mk H
   clear H
   go_wp2
   go_meet
   case rel => exact ⟨_, (true), (by first | rfl | (simp; done) | (simp [*]; done)), H', ⟨by first | omega | exact Nat.le_refl _⟩, ⟨bq HB.out⟩⟩
  ·rw [if_neg c4] at H
   have c4b0 : decide (20 < (l0.length : Int)) = false := decide_eq_false c4
   have c4b1 : decide (20 < l0.length) = false := decide_eq_false (by omega)
   clear c4
   (first | rw [c4b0] | (simp only [i64_w, i32_w]; rw [c4b0]) | skip)
   have H' := Aside0.mk H
   clear H
   go_wp2
   go_meet
   case rel => exact ⟨_, (decide ((a1.size : Int) > 2000)), (by first | rfl | (simp; done) | (simp [*]; done)), H', ⟨by first | omega | exact Nat.le_refl _⟩, ⟨bq HB.out⟩⟩
 case rest =>
  clear HC3
  try clear p2
  try clear c4
  try clear c4b0
  try clear c4b1
  obtain ⟨kq, x19_2, rfl, HA, HJ2, HB⟩ := hcut
  cases kq with
  | zero => exact absurd HA.out (by simp [steeplelaw29_ProofWords.j0])
  | succ kj2 =>
   have H := HA.out
   clear HA
   simp only [steeplelaw29_ProofWords.j0] at H
   by_cases c5 : x19_2 = true
   ·subst c5
    have H1 : ((steeplelaw29_awake.f kj2).bind fun t280 => (some t280)) = some r := by rw [if_pos rfl] at H; exact H
    clear H
    have H := H1
    clear H1
    replace H := Option.bind_eq_some_iff.mp H
    obtain ⟨t280, A60, H⟩ := H
    replace H : (some t280) = some r := H
    have A6 := Aside0.mk A60
    clear A60
    obtain rfl := Option.some.inj H
    go_wp2_with (first | ((with_reducible refine gate_callee (f := 9) rfl ?_); refine goesL_ (some 20) rfl rfl Try.func9 (by kernel_rfl) rfl #[] rfl (by (try simp only [List.map_toArray, List.map_cons, List.map_nil]); first | done | rfl | (simp only [List.length_drop, List.length_take]; rfl)) ?_; (with_reducible refine (steeplelaw29_awake.calls kj2  t280 _ A6.out).mono ?_); rintro e w7 ⟨rfl, hb⟩; refine ⟨_, rfl, ?_⟩; replace HB := bh HB hb; (try clear hb); (try clear hb2); (try clear hk); (try clear hi)))
    go_ret
    exact ⟨by first | rfl | (simp [errW_none, errW_some] <;> rfl) | (simp [*, errW_none, errW_some] <;> rfl), bq HB.out⟩
   ·replace c5 := Bool.eq_false_iff.mpr c5
    subst c5
    have H1 : (steeplelaw29_ProofWords.l0 kj2 l0 a1 0) = some r := by rw [if_neg (show ¬ (false = true) by decide)] at H; exact H
    clear H
    have H := H1
    clear H1
    have H' := Aside0.mk H
    clear H
    go_wp2
    go_loopg [5] kj2 (fun kq v5 w' => ∃ (x5_2 : Int), v5 = .int .i64 x5_2 ∧ Aside0 (steeplelaw29_ProofWords.l0 kq l0 a1 x5_2 = some r) ∧ Aside0 (kq ≤ kj2) ∧ Aside0 (Below w.heap.size w w'))
    case atStart => exact ⟨(0), (by first | rfl | (simp; done) | (simp [*]; done)), H', ⟨Nat.le_refl _⟩, ⟨bq HB.out⟩⟩
    case round =>
     clear H'
     try clear p2
     try clear c4
     try clear c4b0
     try clear c4b1
     try clear c5
     try clear p2
     obtain ⟨x5_2, rfl, HA, HK2, HB⟩ := hrel
     cases gk with
     | zero => exact absurd HA.out (by simp [steeplelaw29_ProofWords.l0])
     | succ k2 =>
      have H := HA.out
      clear HA
      simp only [steeplelaw29_ProofWords.l0] at H
      by_cases c8 : x5_2 < (l0.length : Int)
      ·rw [if_pos c8] at H
       have c8b0 : decide (x5_2 < (l0.length : Int)) = true := decide_eq_true c8
       clear c8
       by_cases c9 : 0 ≤ x5_2
       ·rw [if_pos c9] at H
        have c9b0 : decide (0 ≤ x5_2) = true := decide_eq_true c9
        clear c9
        by_cases c10 : ((rd_L6 l0 x5_2).length : Int) > 20
        ·rw [if_pos c10] at H
         have c10b0 : decide (20 < ((rd_L6 l0 x5_2).length : Int)) = true := decide_eq_true c10
         have c10b1 : decide (20 < (rd_L6 l0 x5_2).length) = true := decide_eq_true (by omega)
         clear c10
         replace H := Option.bind_eq_some_iff.mp H
         obtain ⟨t282, A110, H⟩ := H
         replace H : (some t282) = some r := H
         have A11 := Aside0.mk A110
         clear A110
         obtain rfl := Option.some.inj H
         have p281 : 0 ≤ (x5_2 : Int) := of_decide_eq_true (by first | (with_reducible assumption) | assumption)
         have q281 : x5_2 < (l0.length : Int) := of_decide_eq_true (by first | (with_reducible assumption) | assumption)
         obtain ⟨ad281, A281_0, c281_0, e281, hx281_0, hl281_0, hi281_0⟩ := at_L6 HR0.out x5_2 p281 q281
         cases e281
         replace hx281_0 := (HB.out.cell (World.block_lt_of_cell? w _ hx281_0)).trans hx281_0
         have HR281_0 := Aside0.mk hi281_0
         have HC281_0 := Aside0.mk hl281_0
         clear hi281_0 hl281_0
         replace p281 := eq_true p281
         replace q281 := eq_true q281
         go_wp2_with (first | ((with_reducible refine gate_callee (f := 9) rfl ?_); refine goesL_ (some 33) rfl rfl Try.func9 (by kernel_rfl) rfl #[] rfl (by (try simp only [List.map_toArray, List.map_cons, List.map_nil]); first | done | rfl | (simp only [List.length_drop, List.length_take]; rfl)) ?_; (with_reducible refine (steeplelaw29_awake.calls k2  t282 _ A11.out).mono ?_); rintro e w12 ⟨rfl, hb⟩; refine ⟨_, rfl, ?_⟩; replace HB := bh HB hb; (try clear hb); (try clear hb2); (try clear hk); (try clear hi)))
         go_ret
         exact ⟨by first | rfl | (simp [errW_none, errW_some] <;> rfl) | (simp [*, errW_none, errW_some] <;> rfl), bq HB.out⟩
        ·rw [if_neg c10] at H
         have c10b0 : decide (20 < ((rd_L6 l0 x5_2).length : Int)) = false := decide_eq_false c10
         have c10b1 : decide (20 < (rd_L6 l0 x5_2).length) = false := decide_eq_false (by omega)
         clear c10
         have H' := Aside0.mk H
         clear H
         have p281 : 0 ≤ (x5_2 : Int) := of_decide_eq_true (by first | (with_reducible assumption) | assumption)
         have q281 : x5_2 < (l0.length : Int) := of_decide_eq_true (by first | (with_reducible assumption) | assumption)
         obtain ⟨ad281, A281_0, c281_0, e281, hx281_0, hl281_0, hi281_0⟩ := at_L6 HR0.out x5_2 p281 q281
         cases e281
         replace hx281_0 := (HB.out.cell (World.block_lt_of_cell? w _ hx281_0)).trans hx281_0
         have HR281_0 := Aside0.mk hi281_0
         have HC281_0 := Aside0.mk hl281_0
         clear hi281_0 hl281_0
         replace p281 := eq_true p281
         replace q281 := eq_true q281
         go_wp2
         go_roundg k2
         case measure => have := HJ2.out; have := HK2.out; omega
         case rel => exact ⟨(wrap64 (x5_2 + 1)), (by first | rfl | (simp; done) | (simp [*]; done)), H', ⟨by have := HJ2.out; have := HK2.out; omega⟩, ⟨bq HB.out⟩⟩
       ·rw [if_neg c9] at H
        exact absurd H (by simp)
      ·rw [if_neg c8] at H
       have c8b0 : decide (x5_2 < (l0.length : Int)) = false := decide_eq_false c8
       clear c8
       replace H := Option.bind_eq_some_iff.mp H
       obtain ⟨⟨t283, t284⟩, A130, H⟩ := H
       replace H : ((proof_ReadWords.f k2 t283).bind fun bt285 => (if t284 = 0 then (if bt285.2 = 0 then ((steepleref29_Words.f k2 l0).bind fun t289 => (if t283.toList = t289.toList then ((steeplelaw29_columns.f k2 bt285.1 l0).bind fun t290 => (if t290 = true then ((proof_ReadWords.f k2 a1).bind fun bt291 => (if bt291.2 = 0 then ((steeplelaw29_awake.f k2).bind fun t295 => (if t295 = true then ((steepleref29_Words.f k2 bt291.1).bind fun t296 => (some (t296.toList == a1.toList))) else (none))) else ((steeplelaw29_awake.f k2).bind fun t297 => (if t297 = true then (if bt291.2 = 3 then (some ((bt291.1.length : Int) == 0)) else (none)) else (none))))) else (none))) else (none))) else (none)) else (none))) = some r := H
       have A13 := Aside0.mk A130
       clear A130
       replace H := Option.bind_eq_some_iff.mp H
       obtain ⟨⟨t285, t286⟩, A140, H⟩ := H
       replace H : (if t284 = 0 then (if t286 = 0 then ((steepleref29_Words.f k2 l0).bind fun t289 => (if t283.toList = t289.toList then ((steeplelaw29_columns.f k2 t285 l0).bind fun t290 => (if t290 = true then ((proof_ReadWords.f k2 a1).bind fun bt291 => (if bt291.2 = 0 then ((steeplelaw29_awake.f k2).bind fun t295 => (if t295 = true then ((steepleref29_Words.f k2 bt291.1).bind fun t296 => (some (t296.toList == a1.toList))) else (none))) else ((steeplelaw29_awake.f k2).bind fun t297 => (if t297 = true then (if bt291.2 = 3 then (some ((bt291.1.length : Int) == 0)) else (none)) else (none))))) else (none))) else (none))) else (none)) else (none)) = some r := H
       have A14 := Aside0.mk A140
       clear A140
       by_cases c15 : t284 = 0
       ·rw [if_pos c15] at H
        have c15b0 : (t284 == 0) = true := beq_iff_eq.mpr c15
        have c15b1 : (t284 != 0) = false := bne_eq_false_iff_eq.mpr c15
        clear c15
        by_cases c16 : t286 = 0
        ·rw [if_pos c16] at H
         have c16b0 : (t286 == 0) = true := beq_iff_eq.mpr c16
         have c16b1 : (t286 != 0) = false := bne_eq_false_iff_eq.mpr c16
         clear c16
         replace H := Option.bind_eq_some_iff.mp H
         obtain ⟨t289, A170, H⟩ := H
         replace H : (if t283.toList = t289.toList then ((steeplelaw29_columns.f k2 t285 l0).bind fun t290 => (if t290 = true then ((proof_ReadWords.f k2 a1).bind fun bt291 => (if bt291.2 = 0 then ((steeplelaw29_awake.f k2).bind fun t295 => (if t295 = true then ((steepleref29_Words.f k2 bt291.1).bind fun t296 => (some (t296.toList == a1.toList))) else (none))) else ((steeplelaw29_awake.f k2).bind fun t297 => (if t297 = true then (if bt291.2 = 3 then (some ((bt291.1.length : Int) == 0)) else (none)) else (none))))) else (none))) else (none)) = some r := H
         have A17 := Aside0.mk A170
         clear A170
         by_cases c18 : t283.toList = t289.toList
         ·rw [if_pos c18] at H
          have c18b0 : (t283.toList == t289.toList) = true := beq_iff_eq.mpr c18
          have c18b1 : (t283.toList != t289.toList) = false := bne_eq_false_iff_eq.mpr c18
          clear c18
          replace H := Option.bind_eq_some_iff.mp H
          obtain ⟨t290, A190, H⟩ := H
          replace H : (if t290 = true then ((proof_ReadWords.f k2 a1).bind fun bt291 => (if bt291.2 = 0 then ((steeplelaw29_awake.f k2).bind fun t295 => (if t295 = true then ((steepleref29_Words.f k2 bt291.1).bind fun t296 => (some (t296.toList == a1.toList))) else (none))) else ((steeplelaw29_awake.f k2).bind fun t297 => (if t297 = true then (if bt291.2 = 3 then (some ((bt291.1.length : Int) == 0)) else (none)) else (none))))) else (none)) = some r := H
          have A19 := Aside0.mk A190
          clear A190
          by_cases c20 : t290 = true
          ·subst c20
           have H1 : ((proof_ReadWords.f k2 a1).bind fun bt291 => (if bt291.2 = 0 then ((steeplelaw29_awake.f k2).bind fun t295 => (if t295 = true then ((steepleref29_Words.f k2 bt291.1).bind fun t296 => (some (t296.toList == a1.toList))) else (none))) else ((steeplelaw29_awake.f k2).bind fun t297 => (if t297 = true then (if bt291.2 = 3 then (some ((bt291.1.length : Int) == 0)) else (none)) else (none))))) = some r := by rw [if_pos rfl] at H; exact H
           clear H
           have H := H1
           clear H1
           replace H := Option.bind_eq_some_iff.mp H
           obtain ⟨⟨t291, t292⟩, A210, H⟩ := H
           replace H : (if t292 = 0 then ((steeplelaw29_awake.f k2).bind fun t295 => (if t295 = true then ((steepleref29_Words.f k2 t291).bind fun t296 => (some (t296.toList == a1.toList))) else (none))) else ((steeplelaw29_awake.f k2).bind fun t297 => (if t297 = true then (if t292 = 3 then (some ((t291.length : Int) == 0)) else (none)) else (none)))) = some r := H
           have A21 := Aside0.mk A210
           clear A210
           by_cases c22 : t292 = 0
           ·rw [if_pos c22] at H
            have c22b0 : (t292 == 0) = true := beq_iff_eq.mpr c22
            have c22b1 : (t292 != 0) = false := bne_eq_false_iff_eq.mpr c22
            clear c22
            replace H := Option.bind_eq_some_iff.mp H
            obtain ⟨t295, A230, H⟩ := H
            replace H : (if t295 = true then ((steepleref29_Words.f k2 t291).bind fun t296 => (some (t296.toList == a1.toList))) else (none)) = some r := H
            have A23 := Aside0.mk A230
            clear A230
            by_cases c24 : t295 = true
            ·subst c24
             have H1 : ((steepleref29_Words.f k2 t291).bind fun t296 => (some (t296.toList == a1.toList))) = some r := by rw [if_pos rfl] at H; exact H
             clear H
             have H := H1
             clear H1
             replace H := Option.bind_eq_some_iff.mp H
             obtain ⟨t296, A250, H⟩ := H
             replace H : (some (t296.toList == a1.toList)) = some r := H
             have A25 := Aside0.mk A250
             clear A250
             obtain rfl := Option.some.inj H
             go_wp2_with (first | ((with_reducible refine gate_callee (f := 15) rfl ?_); refine goesL_ (some 36) rfl rfl Try.func15 (by kernel_rfl) rfl #[.slice A0 l0.length c0] rfl (by (try simp only [List.map_toArray, List.map_cons, List.map_nil]); first | done | rfl | (simp only [List.length_drop, List.length_take]; rfl)) ?_; (with_reducible refine (proof_Words.calls _ _ l0 t283 t284 _ ?side1 ?side2 A13.out).mono ?_); (case side1 => repeat (first | exact (Kd.C_below HR0.out HB.out) | (with_reducible refine Kd.C_alloc ?_ _) | (with_reducible refine Kd.C_drewN ?_ _) | (with_reducible refine Kd.C_drew ?_))); (case side2 => exact HC0.out); rintro e w26 ⟨rfl, hb⟩; refine ⟨_, rfl, ?_⟩; replace HB := bh HB hb; (try clear hb); (try clear hb2); (try clear hk); (try clear hi)) | ((with_reducible refine gate_callee (f := 16) rfl ?_); refine goesL_ (some 41) rfl rfl Try.func16 (by kernel_rfl) rfl #[.string t283] rfl (by (try simp only [List.map_toArray, List.map_cons, List.map_nil]); first | done | rfl | (simp only [List.length_drop, List.length_take]; rfl)) ?_; (with_reducible refine (proof_ReadWords.calls k2 t283 t285 t286 _ A14.out).mono ?_); rintro e w27 ⟨v287, rfl, ho0, hb⟩; refine ⟨_, rfl, ?_⟩; have HO288 := Aside0.mk (Kd.S_lower ho0 (below_size (bq HB.out))); replace HB := bh HB hb; (try clear hb); (try clear hb2); (try clear hk); (try clear hi); (try clear ho0)) | (go_at_call 17; (with_reducible refine (steepleref29_Words.calls k2 _ _ l0 t289 _ ?side1 ?side2 A17.out).mono ?_); (case side1 => repeat (first | exact (Kd.C_below HR0.out HB.out) | (with_reducible refine Kd.C_alloc ?_ _) | (with_reducible refine Kd.C_drewN ?_ _) | (with_reducible refine Kd.C_drew ?_))); (case side2 => exact HC0.out); rintro e w28 ⟨rfl, hb⟩; replace HO288 := Aside0.mk (Kd.S_below (by (with_reducible repeat (first | apply Kd.S_alloc | apply Kd.S_drewN | apply Kd.S_drew)); exact HO288.out) hb); replace HB := bh HB hb; (try clear hb); (try clear hb2); (try clear hk); (try clear hi); obtain ⟨Ao29, co29, eo29⟩ := Kd.S_slice HO288.out; subst eo29) | (go_at_call 18; (with_reducible refine (steeplelaw29_columns.calls k2 _ _ t285 _ _ l0 true _ ?side1 ?side2 ?side3 ?side4 A19.out).mono ?_); (case side1 => repeat (first | exact (Kd.S_reads' HO288.out).2.2 | (with_reducible refine Kd.C_alloc ?_ _) | (with_reducible refine Kd.C_drewN ?_ _) | (with_reducible refine Kd.C_drew ?_))); (case side2 => exact (Kd.S_reads' HO288.out).2.1); (case side3 => repeat (first | exact (Kd.C_below HR0.out HB.out) | (with_reducible refine Kd.C_alloc ?_ _) | (with_reducible refine Kd.C_drewN ?_ _) | (with_reducible refine Kd.C_drew ?_))); (case side4 => exact HC0.out); rintro e w' ⟨rfl, ⟨nd, rfl⟩⟩) | ((with_reducible refine gate_callee (f := 16) rfl ?_); refine goesL_ (some 64) rfl rfl Try.func16 (by kernel_rfl) rfl #[.string a1] rfl (by (try simp only [List.map_toArray, List.map_cons, List.map_nil]); first | done | rfl | (simp only [List.length_drop, List.length_take]; rfl)) ?_; (with_reducible refine (proof_ReadWords.calls k2 a1 t291 t292 _ A21.out).mono ?_); rintro e w30 ⟨v293, rfl, ho0, hb⟩; refine ⟨_, rfl, ?_⟩; have HO294 := Aside0.mk (Kd.S_lower (Kd.S_new' ho0 (Kd.S_lt (by (with_reducible repeat (first | apply Kd.S_alloc | apply Kd.S_drewN | apply Kd.S_drew)); exact HO288.out))) (below_size (bq HB.out))); replace HO288 := Aside0.mk (Kd.S_elder' (by (with_reducible repeat (first | apply Kd.S_alloc | apply Kd.S_drewN | apply Kd.S_drew)); exact HO288.out) (Kd.S_base ho0) hb); replace HB := bh HB hb; (try clear hb); (try clear hb2); (try clear hk); (try clear hi); (try clear ho0)) | ((with_reducible refine gate_callee (f := 9) rfl ?_); refine goesL_ (some 79) rfl rfl Try.func9 (by kernel_rfl) rfl #[] rfl (by (try simp only [List.map_toArray, List.map_cons, List.map_nil]); first | done | rfl | (simp only [List.length_drop, List.length_take]; rfl)) ?_; (with_reducible refine (steeplelaw29_awake.calls k2  true _ A23.out).mono ?_); rintro e w31 ⟨rfl, hb⟩; refine ⟨_, rfl, ?_⟩; replace HO288 := Aside0.mk (Kd.S_below (by (with_reducible repeat (first | apply Kd.S_alloc | apply Kd.S_drewN | apply Kd.S_drew)); exact HO288.out) hb); replace HO294 := Aside0.mk (Kd.S_below (by (with_reducible repeat (first | apply Kd.S_alloc | apply Kd.S_drewN | apply Kd.S_drew)); exact HO294.out) hb); replace HB := bh HB hb; (try clear hb); (try clear hb2); (try clear hk); (try clear hi); obtain ⟨Ao32, co32, eo32⟩ := Kd.S_slice HO294.out; subst eo32) | (go_at_call 17; (with_reducible refine (steepleref29_Words.calls k2 _ _ t291 t296 _ ?side1 ?side2 A25.out).mono ?_); (case side1 => repeat (first | exact (Kd.S_reads' HO294.out).2.2 | (with_reducible refine Kd.C_alloc ?_ _) | (with_reducible refine Kd.C_drewN ?_ _) | (with_reducible refine Kd.C_drew ?_))); (case side2 => exact (Kd.S_reads' HO294.out).2.1); rintro e w33 ⟨rfl, hb⟩; replace HO288 := Aside0.mk (Kd.S_below (by (with_reducible repeat (first | apply Kd.S_alloc | apply Kd.S_drewN | apply Kd.S_drew)); exact HO288.out) hb); replace HO294 := Aside0.mk (Kd.S_below (by (with_reducible repeat (first | apply Kd.S_alloc | apply Kd.S_drewN | apply Kd.S_drew)); exact HO294.out) hb); replace HB := bh HB hb; (try clear hb); (try clear hb2); (try clear hk); (try clear hi)))
             go_ret
             exact ⟨by first | rfl | (simp [errW_none, errW_some] <;> rfl) | (simp [*, errW_none, errW_some] <;> rfl), bq HB.out⟩
            ·replace c24 := Bool.eq_false_iff.mpr c24
             subst c24
             have H1 : (none) = some r := by rw [if_neg (show ¬ (false = true) by decide)] at H; exact H
             clear H
             have H := H1
             clear H1
             exact absurd H (by simp)
           ·rw [if_neg c22] at H
            have c22b0 : (t292 == 0) = false := beq_eq_false_iff_ne.mpr c22
            have c22b1 : (t292 != 0) = true := bne_iff_ne.mpr c22
            replace H := Option.bind_eq_some_iff.mp H
            obtain ⟨t297, A340, H⟩ := H
            replace H : (if t297 = true then (if t292 = 3 then (some ((t291.length : Int) == 0)) else (none)) else (none)) = some r := H
            have A34 := Aside0.mk A340
            clear A340
            by_cases c35 : t297 = true
            ·subst c35
             have H1 : (if t292 = 3 then (some ((t291.length : Int) == 0)) else (none)) = some r := by rw [if_pos rfl] at H; exact H
             clear H
             have H := H1
             clear H1
             by_cases c36 : t292 = 3
             ·rw [if_pos c36] at H
              have c36b0 : (t292 == 3) = true := beq_iff_eq.mpr c36
              have c36b1 : (t292 != 3) = false := bne_eq_false_iff_eq.mpr c36
              clear c36
              obtain rfl := Option.some.inj H
              go_wp2_with (first | ((with_reducible refine gate_callee (f := 15) rfl ?_); refine goesL_ (some 36) rfl rfl Try.func15 (by kernel_rfl) rfl #[.slice A0 l0.length c0] rfl (by (try simp only [List.map_toArray, List.map_cons, List.map_nil]); first | done | rfl | (simp only [List.length_drop, List.length_take]; rfl)) ?_; (with_reducible refine (proof_Words.calls _ _ l0 t283 t284 _ ?side1 ?side2 A13.out).mono ?_); (case side1 => repeat (first | exact (Kd.C_below HR0.out HB.out) | (with_reducible refine Kd.C_alloc ?_ _) | (with_reducible refine Kd.C_drewN ?_ _) | (with_reducible refine Kd.C_drew ?_))); (case side2 => exact HC0.out); rintro e w37 ⟨rfl, hb⟩; refine ⟨_, rfl, ?_⟩; replace HB := bh HB hb; (try clear hb); (try clear hb2); (try clear hk); (try clear hi)) | ((with_reducible refine gate_callee (f := 16) rfl ?_); refine goesL_ (some 41) rfl rfl Try.func16 (by kernel_rfl) rfl #[.string t283] rfl (by (try simp only [List.map_toArray, List.map_cons, List.map_nil]); first | done | rfl | (simp only [List.length_drop, List.length_take]; rfl)) ?_; (with_reducible refine (proof_ReadWords.calls k2 t283 t285 t286 _ A14.out).mono ?_); rintro e w38 ⟨v287, rfl, ho0, hb⟩; refine ⟨_, rfl, ?_⟩; have HO288 := Aside0.mk (Kd.S_lower ho0 (below_size (bq HB.out))); replace HB := bh HB hb; (try clear hb); (try clear hb2); (try clear hk); (try clear hi); (try clear ho0)) | (go_at_call 17; (with_reducible refine (steepleref29_Words.calls k2 _ _ l0 t289 _ ?side1 ?side2 A17.out).mono ?_); (case side1 => repeat (first | exact (Kd.C_below HR0.out HB.out) | (with_reducible refine Kd.C_alloc ?_ _) | (with_reducible refine Kd.C_drewN ?_ _) | (with_reducible refine Kd.C_drew ?_))); (case side2 => exact HC0.out); rintro e w39 ⟨rfl, hb⟩; replace HO288 := Aside0.mk (Kd.S_below (by (with_reducible repeat (first | apply Kd.S_alloc | apply Kd.S_drewN | apply Kd.S_drew)); exact HO288.out) hb); replace HB := bh HB hb; (try clear hb); (try clear hb2); (try clear hk); (try clear hi); obtain ⟨Ao40, co40, eo40⟩ := Kd.S_slice HO288.out; subst eo40) | (go_at_call 18; (with_reducible refine (steeplelaw29_columns.calls k2 _ _ t285 _ _ l0 true _ ?side1 ?side2 ?side3 ?side4 A19.out).mono ?_); (case side1 => repeat (first | exact (Kd.S_reads' HO288.out).2.2 | (with_reducible refine Kd.C_alloc ?_ _) | (with_reducible refine Kd.C_drewN ?_ _) | (with_reducible refine Kd.C_drew ?_))); (case side2 => exact (Kd.S_reads' HO288.out).2.1); (case side3 => repeat (first | exact (Kd.C_below HR0.out HB.out) | (with_reducible refine Kd.C_alloc ?_ _) | (with_reducible refine Kd.C_drewN ?_ _) | (with_reducible refine Kd.C_drew ?_))); (case side4 => exact HC0.out); rintro e w' ⟨rfl, ⟨nd, rfl⟩⟩) | ((with_reducible refine gate_callee (f := 16) rfl ?_); refine goesL_ (some 64) rfl rfl Try.func16 (by kernel_rfl) rfl #[.string a1] rfl (by (try simp only [List.map_toArray, List.map_cons, List.map_nil]); first | done | rfl | (simp only [List.length_drop, List.length_take]; rfl)) ?_; (with_reducible refine (proof_ReadWords.calls k2 a1 t291 t292 _ A21.out).mono ?_); rintro e w41 ⟨v293, rfl, ho0, hb⟩; refine ⟨_, rfl, ?_⟩; have HO294 := Aside0.mk (Kd.S_lower (Kd.S_new' ho0 (Kd.S_lt (by (with_reducible repeat (first | apply Kd.S_alloc | apply Kd.S_drewN | apply Kd.S_drew)); exact HO288.out))) (below_size (bq HB.out))); replace HO288 := Aside0.mk (Kd.S_elder' (by (with_reducible repeat (first | apply Kd.S_alloc | apply Kd.S_drewN | apply Kd.S_drew)); exact HO288.out) (Kd.S_base ho0) hb); replace HB := bh HB hb; (try clear hb); (try clear hb2); (try clear hk); (try clear hi); (try clear ho0)) | ((with_reducible refine gate_callee (f := 9) rfl ?_); refine goesL_ (some 69) rfl rfl Try.func9 (by kernel_rfl) rfl #[] rfl (by (try simp only [List.map_toArray, List.map_cons, List.map_nil]); first | done | rfl | (simp only [List.length_drop, List.length_take]; rfl)) ?_; (with_reducible refine (steeplelaw29_awake.calls k2  true _ A34.out).mono ?_); rintro e w42 ⟨rfl, hb⟩; refine ⟨_, rfl, ?_⟩; replace HO288 := Aside0.mk (Kd.S_below (by (with_reducible repeat (first | apply Kd.S_alloc | apply Kd.S_drewN | apply Kd.S_drew)); exact HO288.out) hb); replace HO294 := Aside0.mk (Kd.S_below (by (with_reducible repeat (first | apply Kd.S_alloc | apply Kd.S_drewN | apply Kd.S_drew)); exact HO294.out) hb); replace HB := bh HB hb; (try clear hb); (try clear hb2); (try clear hk); (try clear hi); obtain ⟨Ao43, co43, eo43⟩ := Kd.S_slice HO294.out; subst eo43))
              go_ret
              exact ⟨by first | rfl | (simp [errW_none, errW_some] <;> rfl) | (simp [*, errW_none, errW_some] <;> rfl), bq HB.out⟩
             ·rw [if_neg c36] at H
              exact absurd H (by simp)
            ·replace c35 := Bool.eq_false_iff.mpr c35
             subst c35
             have H1 : (none) = some r := by rw [if_neg (show ¬ (false = true) by decide)] at H; exact H
             clear H
             have H := H1
             clear H1
             exact absurd H (by simp)
          ·replace c20 := Bool.eq_false_iff.mpr c20
           subst c20
           have H1 : (none) = some r := by rw [if_neg (show ¬ (false = true) by decide)] at H; exact H
           clear H
           have H := H1
           clear H1
           exact absurd H (by simp)
         ·rw [if_neg c18] at H
          exact absurd H (by simp)
        ·rw [if_neg c16] at H
         exact absurd H (by simp)
       ·rw [if_neg c15] at H
        exact absurd H (by simp)

/-- THE ONE PURE STATEMENT of steeplelaw29_ProofWords. -/
def steeplelaw29_ProofWords.Pure : Prop := ∀ (x0 : List (List Int)) (x1 : ByteArray), (x0.length ≤ maxLen ∧ x0.length * 24 ≤ 140737488351232 ∧ ∀ y0 ∈ x0, (y0.length ≤ maxLen ∧ y0.length * 8 ≤ 140737488351232 ∧ ∀ y1 ∈ y0, (Lit.int .u64 y1).wf = true)) → x1.size ≤ 140737488351232 → ∃ k, steeplelaw29_ProofWords.f k x0 x1 = some true

/-! ### steeplelaw25_Ref: function 19 -/
end Go.Proofs.Ythgiifakcgjlaaa.P
