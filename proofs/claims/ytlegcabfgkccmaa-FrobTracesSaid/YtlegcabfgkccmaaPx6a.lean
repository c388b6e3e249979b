/- Written by a program of this session: functions that the law reaches, as Lean functions, and that the code comes to their answers. Conditions: those that each theorem names. -/
import Derived.Test.YtlegcabfgkccmaaHTrace
import Derived.Test.YtlegcabfgkccmaaHNorm
import Derived.Test.YtlegcabfgkccmaaHLeast
import Derived.Test.YtlegcabfgkccmaaPx0
import Derived.Test.YtlegcabfgkccmaaPx1
import Derived.Test.YtlegcabfgkccmaaPx3
import Derived.Test.YtlegcabfgkccmaaPx4
namespace Go.Proofs.Ytlegcabfgkccmaa.P
open Go.RowKit Go.Proofs.YtlegcabfgkccmaaX Go.Proofs.YtlegcabfgkccmaaW.PrintWords Go.Proofs.YtlegcabfgkccmaaW.PrintLast Go.Proofs.YtlegcabfgkccmaaW.PrintMore
attribute [local go_sem] max2_int min2_int max_two min_two max_three min_three max_four min_four   -- for this text's walks alone
set_option linter.unusedVariables false
set_option linter.unusedSimpArgs false

attribute [local go_sem high] eqA24
/-! ### steeplelaw33_awake: function 14 -/
def steeplelaw33_awake.f (k : Nat)  : Option (Bool) := (frob_Least.f k 1 0 2).bind fun t135 => ((frob_Trace.f k 1 0 0 2).bind fun bt138 => ((tower_One.f).bind fun bt140 => (if (bt138.1 == bt140.1 && (bt138.2 == bt140.2)) = true then ((frob_Norm.f k 1 0 0 2).bind fun bt142 => ((tower_One.f).bind fun bt144 => (if (bt142.1 == bt144.1 && (bt142.2 == bt144.2)) = true then (if (t135.length : Int) = 3 then (if 0 < (t135.length : Int) then (if rdOf false t135 0 = true then (if 1 < (t135.length : Int) then (if rdOf false t135 1 = true then (if 2 < (t135.length : Int) then (some (rdOf false t135 2)) else (none)) else (none)) else (none)) else (none)) else (none)) else (none)) else (none)))) else (none))))
theorem steeplelaw33_awake.mono : ∀ k, LeO (steeplelaw33_awake.f k ) (steeplelaw33_awake.f (k + 1) ) := by
 intro  k
 unfold steeplelaw33_awake.f
 repeat' first
   | (with_reducible exact frob_Least.mono _ _ _ _)
   | (with_reducible exact frob_Norm.mono _ _ _ _ _)
   | (with_reducible exact frob_Trace.mono _ _ _ _ _)
   | (with_reducible exact LeO.refl _)
   | (with_reducible exact LeO.none _)
   | (with_reducible refine LeO.ite ?_ ?_)
   | (with_reducible refine LeO.bind ?_ (fun _ => ?_))
   | exact frob_Least.mono _ _ _ _
   | exact frob_Norm.mono _ _ _ _ _
   | exact frob_Trace.mono _ _ _ _ _
   | exact LeO.none _
   | refine LeO.ite ?_ ?_
   | refine LeO.bind ?_ (fun _ => ?_)
set_option maxHeartbeats 8000000 in
set_option maxRecDepth 100000 in
theorem steeplelaw33_awake.calls (k : Nat)  (r : Bool) (w : World) (h : steeplelaw33_awake.f k  = some r) :
  Calls Try.prog 14 #[] w fun e w' => e = .returned (.bool r) ∧ Below w.heap.size w w' := by
 have hu24 := Try.underlying24
 have HB := Aside0.mk (Below.refl w.heap.size w)
 have H : ((frob_Least.f k 1 0 2).bind fun t135 => ((frob_Trace.f k 1 0 0 2).bind fun bt138 => ((tower_One.f).bind fun bt140 => (if (bt138.1 == bt140.1 && (bt138.2 == bt140.2)) = true then ((frob_Norm.f k 1 0 0 2).bind fun bt142 => ((tower_One.f).bind fun bt144 => (if (bt142.1 == bt144.1 && (bt142.2 == bt144.2)) = true then (if (t135.length : Int) = 3 then (if 0 < (t135.length : Int) then (if rdOf false t135 0 = true then (if 1 < (t135.length : Int) then (if rdOf false t135 1 = true then (if 2 < (t135.length : Int) then (some (rdOf false t135 2)) else (none)) else (none)) else (none)) else (none)) else (none)) else (none)) else (none)))) else (none))))) = some r := h
 clear h
 replace H := Option.bind_eq_some_iff.mp H
 obtain ⟨t135, A10, H⟩ := H
 replace H : ((frob_Trace.f k 1 0 0 2).bind fun bt138 => ((tower_One.f).bind fun bt140 => (if (bt138.1 == bt140.1 && (bt138.2 == bt140.2)) = true then ((frob_Norm.f k 1 0 0 2).bind fun bt142 => ((tower_One.f).bind fun bt144 => (if (bt142.1 == bt144.1 && (bt142.2 == bt144.2)) = true then (if (t135.length : Int) = 3 then (if 0 < (t135.length : Int) then (if rdOf false t135 0 = true then (if 1 < (t135.length : Int) then (if rdOf false t135 1 = true then (if 2 < (t135.length : Int) then (some (rdOf false t135 2)) else (none)) else (none)) else (none)) else (none)) else (none)) else (none)) else (none)))) else (none)))) = some r := H
 have A1 := Aside0.mk A10
 clear A10
 replace H := Option.bind_eq_some_iff.mp H
 obtain ⟨⟨t138, t139⟩, A20, H⟩ := H
 replace H : ((tower_One.f).bind fun bt140 => (if (t138 == bt140.1 && (t139 == bt140.2)) = true then ((frob_Norm.f k 1 0 0 2).bind fun bt142 => ((tower_One.f).bind fun bt144 => (if (bt142.1 == bt144.1 && (bt142.2 == bt144.2)) = true then (if (t135.length : Int) = 3 then (if 0 < (t135.length : Int) then (if rdOf false t135 0 = true then (if 1 < (t135.length : Int) then (if rdOf false t135 1 = true then (if 2 < (t135.length : Int) then (some (rdOf false t135 2)) else (none)) else (none)) else (none)) else (none)) else (none)) else (none)) else (none)))) else (none))) = some r := H
 have A2 := Aside0.mk A20
 clear A20
 replace H := Option.bind_eq_some_iff.mp H
 obtain ⟨⟨t140, t141⟩, A30, H⟩ := H
 replace H : (if (t138 == t140 && (t139 == t141)) = true then ((frob_Norm.f k 1 0 0 2).bind fun bt142 => ((tower_One.f).bind fun bt144 => (if (bt142.1 == bt144.1 && (bt142.2 == bt144.2)) = true then (if (t135.length : Int) = 3 then (if 0 < (t135.length : Int) then (if rdOf false t135 0 = true then (if 1 < (t135.length : Int) then (if rdOf false t135 1 = true then (if 2 < (t135.length : Int) then (some (rdOf false t135 2)) else (none)) else (none)) else (none)) else (none)) else (none)) else (none)) else (none)))) else (none)) = some r := H
 have A3 := Aside0.mk A30
 clear A30
 by_cases c4 : (t138 == t140 && (t139 == t141)) = true
 ·rw [if_pos c4] at H
  have c4b0 : (t138 == t140 && (t139 == t141)) = true := c4
  (try (have c4b1 : decide (t138 = t140 && (t139 == t141)) = true := by simpa using c4))
  (try (have c4b2 : (t138 == t140 && (t139 == t141)) = true := by simpa using c4))
  clear c4
  replace H := Option.bind_eq_some_iff.mp H
  obtain ⟨⟨t142, t143⟩, A50, H⟩ := H
  replace H : ((tower_One.f).bind fun bt144 => (if (t142 == bt144.1 && (t143 == bt144.2)) = true then (if (t135.length : Int) = 3 then (if 0 < (t135.length : Int) then (if rdOf false t135 0 = true then (if 1 < (t135.length : Int) then (if rdOf false t135 1 = true then (if 2 < (t135.length : Int) then (some (rdOf false t135 2)) else (none)) else (none)) else (none)) else (none)) else (none)) else (none)) else (none))) = some r := H
  have A5 := Aside0.mk A50
  clear A50
  replace H := Option.bind_eq_some_iff.mp H
  obtain ⟨⟨t144, t145⟩, A60, H⟩ := H
  replace H : (if (t142 == t144 && (t143 == t145)) = true then (if (t135.length : Int) = 3 then (if 0 < (t135.length : Int) then (if rdOf false t135 0 = true then (if 1 < (t135.length : Int) then (if rdOf false t135 1 = true then (if 2 < (t135.length : Int) then (some (rdOf false t135 2)) else (none)) else (none)) else (none)) else (none)) else (none)) else (none)) else (none)) = some r := H
  have A6 := Aside0.mk A60
  clear A60
  by_cases c7 : (t142 == t144 && (t143 == t145)) = true
  ·rw [if_pos c7] at H
   have c7b0 : (t142 == t144 && (t143 == t145)) = true := c7
   (try (have c7b1 : decide (t142 = t144 && (t143 == t145)) = true := by simpa using c7))
   (try (have c7b2 : (t142 == t144 && (t143 == t145)) = true := by simpa using c7))
   clear c7
   by_cases c8 : (t135.length : Int) = 3
   ·rw [if_pos c8] at H
    have c8b0 : ((t135.length : Int) == 3) = true := beq_iff_eq.mpr c8
    have c8b1 : ((t135.length : Int) != 3) = false := bne_eq_false_iff_eq.mpr c8
    clear c8
    by_cases c9 : 0 < (t135.length : Int)
    ·rw [if_pos c9] at H
     have c9b0 : decide (0 < (t135.length : Int)) = true := decide_eq_true c9
     have c9b1 : decide (0 < t135.length) = true := decide_eq_true (by omega)
     clear c9
     obtain ⟨bq10, hbq10⟩ : ∃ b_ : Bool, b_ = (rdOf false t135 0) := ⟨_, rfl⟩
     replace H : (if bq10 = true then (if 1 < (t135.length : Int) then (if rdOf false t135 1 = true then (if 2 < (t135.length : Int) then (some (rdOf false t135 2)) else (none)) else (none)) else (none)) else (none)) = some r := by rw [← hbq10] at H; exact H
     have Nbq10 := Aside0.mk hbq10
     clear hbq10
     by_cases c11 : bq10 = true
     ·subst c11
      have H1 : (if 1 < (t135.length : Int) then (if rdOf false t135 1 = true then (if 2 < (t135.length : Int) then (some (rdOf false t135 2)) else (none)) else (none)) else (none)) = some r := by rw [if_pos rfl] at H; exact H
      clear H
      have H := H1
      clear H1
      by_cases c12 : 1 < (t135.length : Int)
      ·rw [if_pos c12] at H
       have c12b0 : decide (1 < (t135.length : Int)) = true := decide_eq_true c12
       have c12b1 : decide (1 < t135.length) = true := decide_eq_true (by omega)
       clear c12
       obtain ⟨bq13, hbq13⟩ : ∃ b_ : Bool, b_ = (rdOf false t135 1) := ⟨_, rfl⟩
       replace H : (if bq13 = true then (if 2 < (t135.length : Int) then (some (rdOf false t135 2)) else (none)) else (none)) = some r := by rw [← hbq13] at H; exact H
       have Nbq13 := Aside0.mk hbq13
       clear hbq13
       by_cases c14 : bq13 = true
       ·subst c14
        have H1 : (if 2 < (t135.length : Int) then (some (rdOf false t135 2)) else (none)) = some r := by rw [if_pos rfl] at H; exact H
        clear H
        have H := H1
        clear H1
        by_cases c15 : 2 < (t135.length : Int)
        ·rw [if_pos c15] at H
         have c15b0 : decide (2 < (t135.length : Int)) = true := decide_eq_true c15
         have c15b1 : decide (2 < t135.length) = true := decide_eq_true (by omega)
         clear c15
         obtain rfl := Option.some.inj H
         go_enter Try.func14, Try.ntmps14
         go_wp2_with (first | ((with_reducible refine gate_callee (f := 16) rfl ?_); refine goesL_ (some 3) rfl rfl Try.func16 (by kernel_rfl) rfl #[.int .i64 1, .agg #[.int .u64 0, .int .u64 2]] rfl (by (try simp only [List.map_toArray, List.map_cons, List.map_nil]); first | done | rfl | (simp only [List.length_drop, List.length_take]; rfl)) ?_; (with_reducible refine (frob_Least.calls k 1 0 2 t135 _ A1.out).mono ?_); rintro e w16 ⟨v136, rfl, ho0, hb⟩; refine ⟨_, rfl, ?_⟩; have HO137 := kw ho0 HB; replace HB := bh HB hb; (try clear hb); (try clear hb2); (try clear hk); (try clear hi); (try clear ho0)) | ((with_reducible refine gate_callee (f := 11) rfl ?_); refine goesL_ (some 5) rfl rfl Try.func11 (by kernel_rfl) rfl #[.int .i64 1, .int .i64 0, .agg #[.int .u64 0, .int .u64 2]] rfl (by (try simp only [List.map_toArray, List.map_cons, List.map_nil]); first | done | rfl | (simp only [List.length_drop, List.length_take]; rfl)) ?_; (with_reducible refine (frob_Trace.calls k 1 0 0 2 t138 t139 _ A2.out).mono ?_); rintro e w17 ⟨rfl, hb⟩; refine ⟨_, rfl, ?_⟩; replace HO137 := kb HO137 hb; replace HB := bh HB hb; (try clear hb); (try clear hb2); (try clear hk); (try clear hi)) | ((with_reducible refine gate_callee (f := 40) rfl ?_); refine goesL_ (some 6) rfl rfl Try.func40 (by kernel_rfl) rfl #[] rfl (by (try simp only [List.map_toArray, List.map_cons, List.map_nil]); first | done | rfl | (simp only [List.length_drop, List.length_take]; rfl)) ?_; (with_reducible refine (tower_One.calls  t140 t141 _ A3.out).mono ?_); rintro e w18 ⟨rfl, hb⟩; refine ⟨_, rfl, ?_⟩; replace HO137 := kb HO137 hb; replace HB := bh HB hb; (try clear hb); (try clear hb2); (try clear hk); (try clear hi)) | (go_at_call 15; (with_reducible refine (frob_Norm.calls k 1 0 0 2 t142 t143 _ A5.out).mono ?_); rintro e w19 ⟨rfl, hb⟩; replace HO137 := kb HO137 hb; replace HB := bh HB hb; (try clear hb); (try clear hb2); (try clear hk); (try clear hi)) | (go_at_call 40; (with_reducible refine (tower_One.calls  t144 t145 _ A6.out).mono ?_); rintro e w20 ⟨rfl, hb⟩; replace HO137 := kb HO137 hb; replace HB := bh HB hb; (try clear hb); (try clear hb2); (try clear hk); (try clear hi); obtain ⟨Ao21, co21, eo21⟩ := Kd.R_slice HO137.out; subst eo21; have p146 : 0 ≤ (0 : Int) := (by omega); have q146 : 0 < (t135.length : Int) := of_decide_eq_true (by first | (with_reducible assumption) | assumption); obtain ⟨ad146, e146, hx146_0⟩ := Kd.at_bool (Kd.R_reads' HO137.out).2.2 0 p146 q146; (try rw [← Nbq10.out] at hx146_0); (try rw [← Nbq13.out] at hx146_0); cases e146; have qi146 : (0 < t135.length) = True := eq_true (by omega); (try rw [show ((0 : Int)).toNat = 0 from rfl] at hx146_0); (try rw [Addr.add_zero'] at hx146_0); replace p146 := eq_true p146; replace q146 := eq_true q146; have p147 : 0 ≤ (1 : Int) := (by omega); have q147 : 1 < (t135.length : Int) := of_decide_eq_true (by first | (with_reducible assumption) | assumption); obtain ⟨ad147, e147, hx147_0⟩ := Kd.at_bool (Kd.R_reads' HO137.out).2.2 1 p147 q147; (try rw [← Nbq10.out] at hx147_0); (try rw [← Nbq13.out] at hx147_0); obtain rfl : ad146 = ad147 := (by injection e147); (try simp only [show (1 : Int).toNat = 1 from rfl, Nat.reduceMul, Nat.reduceEqDiff, Go.Addr.add, ↓reduceIte] at hx147_0); have qi147 : (1 < t135.length) = True := eq_true (by omega); (try rw [show ((1 : Int)).toNat = 1 from rfl] at hx147_0); replace p147 := eq_true p147; replace q147 := eq_true q147; have p148 : 0 ≤ (2 : Int) := (by omega); have q148 : 2 < (t135.length : Int) := of_decide_eq_true (by first | (with_reducible assumption) | assumption); obtain ⟨ad148, e148, hx148_0⟩ := Kd.at_bool (Kd.R_reads' HO137.out).2.2 2 p148 q148; (try rw [← Nbq10.out] at hx148_0); (try rw [← Nbq13.out] at hx148_0); obtain rfl : ad146 = ad148 := (by injection e148); (try simp only [show (2 : Int).toNat = 2 from rfl, Nat.reduceMul, Nat.reduceEqDiff, Go.Addr.add, ↓reduceIte] at hx148_0); have qi148 : (2 < t135.length) = True := eq_true (by omega); (try rw [show ((2 : Int)).toNat = 2 from rfl] at hx148_0); replace p148 := eq_true p148; replace q148 := eq_true q148))
         go_ret
         exact ⟨by first | rfl | (simp [errW_none, errW_some] <;> rfl) | (simp [*, errW_none, errW_some] <;> rfl), bq HB.out⟩
        ·rw [if_neg c15] at H
         exact absurd H (by simp)
       ·replace c14 := Bool.eq_false_iff.mpr c14
        subst c14
        have H1 : (none) = some r := by rw [if_neg (show ¬ (false = true) by decide)] at H; exact H
        clear H
        have H := H1
        clear H1
        exact absurd H (by simp)
      ·rw [if_neg c12] at H
       exact absurd H (by simp)
     ·replace c11 := Bool.eq_false_iff.mpr c11
      subst c11
      have H1 : (none) = some r := by rw [if_neg (show ¬ (false = true) by decide)] at H; exact H
      clear H
      have H := H1
      clear H1
      exact absurd H (by simp)
    ·rw [if_neg c9] at H
     exact absurd H (by simp)
   ·rw [if_neg c8] at H
    exact absurd H (by simp)
  ·rw [if_neg c7] at H
   exact absurd H (by simp)
 ·rw [if_neg c4] at H
  exact absurd H (by simp)

-- NOT PRINTED: function 3 (steeplelaw33_FrobLinear)

end Go.Proofs.Ytlegcabfgkccmaa.P
