/- Written by a program of this session: functions that the law reaches, as Lean functions, and that the code comes to their answers. Conditions: those that each theorem names. -/
import Derived.Test.YtceneggampgboaaPx0
import Derived.Test.YtceneggampgboaaPx3
import Derived.Test.YtceneggampgboaaPx6
import Derived.Test.YtceneggampgboaaPx15
import Derived.Test.YtceneggampgboaaHClone
import Derived.Test.YtceneggampgboaaHLow
namespace Go.Proofs.Ytceneggampgboaa.P
open Go.RowKit Go.Proofs.YtceneggampgboaaX Go.Proofs.YtceneggampgboaaW.PrintWords Go.Proofs.YtceneggampgboaaW.PrintLast Go.Proofs.YtceneggampgboaaW.PrintMore
attribute [local go_sem] max2_int min2_int max_two min_two max_three min_three max_four min_four   -- for this text's walks alone
set_option linter.unusedVariables false
set_option linter.unusedSimpArgs false

/-! ### pack_timesX: function 56 -/
def pack_timesX.f : Nat → Int → Int → Option (Int)
 | 0, _, _ => none
 | k + 1, a0, a1 => if a0 = 0 then (some a1) else (if 0 ≤ (wrap64 (a0 - 1)) then (if 0 ≤ (shl .i64 1 (wrap64 (a0 - 1))) then ((pack_low.f a0).bind fun t573 => ((pack_timesX.f k (wrap64 (a0 - 1)) (Go.bits .and .u64 (shr .u64 a1 (shl .i64 1 (wrap64 (a0 - 1)))) t573)).bind fun t574 => (some (Go.bits .or .u64 (shl .u64 (Go.bits .xor .u64 (Go.bits .and .u64 a1 t573) t574) (shl .i64 1 (wrap64 (a0 - 1)))) (Go.bits .and .u64 (shr .u64 a1 (shl .i64 1 (wrap64 (a0 - 1)))) t573))))) else (none)) else (none))
theorem pack_timesX.mono_l : ∀ k, (∀ y0 y1, LeO (pack_timesX.f k y0 y1) (pack_timesX.f (k + 1) y0 y1))
 | 0 => fun _ _ r h => by simp [pack_timesX.f] at h
 | k + 1 => by
  have ih0 := pack_timesX.mono_l k
  ·intro y0 y1
   unfold pack_timesX.f
   repeat' first
   | (with_reducible exact ih0 _ _)
   | (with_reducible exact LeO.refl _)
   | (with_reducible exact LeO.none _)
   | (with_reducible refine LeO.ite ?_ ?_)
   | (with_reducible refine LeO.bind ?_ (fun _ => ?_))
   | exact ih0 _ _
   | exact LeO.none _
   | refine LeO.ite ?_ ?_
   | refine LeO.bind ?_ (fun _ => ?_)
theorem pack_timesX.mono : ∀ a0 a1 k, LeO (pack_timesX.f k a0 a1) (pack_timesX.f (k + 1) a0 a1) := by
 intro a0 a1 k
 have ih0 := pack_timesX.mono_l k
 exact ih0 a0 a1
set_option maxHeartbeats 8000000 in
set_option maxRecDepth 100000 in
theorem pack_timesX.calls (k : Nat) : ∀ (a0 : Int) (a1 : Int) (r : Int) (w : World) (h : pack_timesX.f k a0 a1 = some r),
  Calls Try.prog 56 #[.int .i64 a0, .int .u64 a1] w fun e w' => e = .returned (.int .u64 r) ∧ Drawn0 w w' := by
 induction k using Nat.strongRecOn with
 | _ k ih =>
 intro a0 a1 r w h
 cases k with
 | zero => exact absurd h (by simp [pack_timesX.f])
 | succ k =>
 simp only [pack_timesX.f] at h
 have H : (if a0 = 0 then (some a1) else (if 0 ≤ (wrap64 (a0 - 1)) then (if 0 ≤ (shl .i64 1 (wrap64 (a0 - 1))) then ((pack_low.f a0).bind fun t573 => ((pack_timesX.f k (wrap64 (a0 - 1)) (Go.bits .and .u64 (shr .u64 a1 (shl .i64 1 (wrap64 (a0 - 1)))) t573)).bind fun t574 => (some (Go.bits .or .u64 (shl .u64 (Go.bits .xor .u64 (Go.bits .and .u64 a1 t573) t574) (shl .i64 1 (wrap64 (a0 - 1)))) (Go.bits .and .u64 (shr .u64 a1 (shl .i64 1 (wrap64 (a0 - 1)))) t573))))) else (none)) else (none))) = some r := h
 clear h
 by_cases c3 : a0 = 0
 ·rw [if_pos c3] at H
  have c3b0 : (a0 == 0) = true := beq_iff_eq.mpr c3
  have c3b1 : (a0 != 0) = false := bne_eq_false_iff_eq.mpr c3
  clear c3
  obtain rfl := Option.some.inj H
  go_enter Try.func56, Try.ntmps56
  go_wp2
  repeat (go_quiet (fail); try go_wp2)
  go_ret
  exact ⟨by first | rfl | (simp; done) | (simp [*]; done), by repeat (first | exact Drawn0.refl _ | apply Drawn0.step)⟩
 ·rw [if_neg c3] at H
  have c3b0 : (a0 == 0) = false := beq_eq_false_iff_ne.mpr c3
  have c3b1 : (a0 != 0) = true := bne_iff_ne.mpr c3
  obtain ⟨ji4, hji4⟩ : ∃ j_ : Int, (wrap64 (a0 - 1)) = j_ := ⟨_, rfl⟩
  replace H : (if 0 ≤ (ji4) then (if 0 ≤ (shl .i64 1 (ji4)) then ((pack_low.f a0).bind fun t573 => ((pack_timesX.f k (ji4) (Go.bits .and .u64 (shr .u64 a1 (shl .i64 1 (ji4))) t573)).bind fun t574 => (some (Go.bits .or .u64 (shl .u64 (Go.bits .xor .u64 (Go.bits .and .u64 a1 t573) t574) (shl .i64 1 (ji4))) (Go.bits .and .u64 (shr .u64 a1 (shl .i64 1 (ji4))) t573))))) else (none)) else (none)) = some r := by first | (rw [hji4] at H; exact H) | (simp only [hji4] at H ⊢; exact H)
  have hji4w : (IntKind.i64.wrap (a0 - 1)) = ji4 := (i64_w _).trans hji4
  by_cases c5 : 0 ≤ (ji4)
  ·rw [if_pos c5] at H
   have c5b0 := eq_true c5
   have c5b1 : decide (0 ≤ (ji4)) = true := decide_eq_true c5
   clear c5
   obtain ⟨ji6, hji6⟩ : ∃ j_ : Int, (shl .i64 1 (ji4)) = j_ := ⟨_, rfl⟩
   replace H : (if 0 ≤ (ji6) then ((pack_low.f a0).bind fun t573 => ((pack_timesX.f k (ji4) (Go.bits .and .u64 (shr .u64 a1 (ji6)) t573)).bind fun t574 => (some (Go.bits .or .u64 (shl .u64 (Go.bits .xor .u64 (Go.bits .and .u64 a1 t573) t574) (ji6)) (Go.bits .and .u64 (shr .u64 a1 (ji6)) t573))))) else (none)) = some r := by first | (rw [hji6] at H; exact H) | (simp only [hji6] at H ⊢; exact H)
   have hji6_ : (IntKind.i64.wrap (1 * 2 ^ min (ji4).toNat 64)) = ji6 := hji6
   have hji6z : (ji4) ≤ 64 → (IntKind.i64.wrap (1 * 2 ^ (ji4).toNat)) = ji6 := shl_small hji6
   have hji6u : (IntKind.i64.wrap (2 ^ min (ji4).toNat 64)) = ji6 := by have h_ := hji6_; rw [Int.one_mul] at h_; exact h_
   have hji6v : (ji4) ≤ 64 → (IntKind.i64.wrap (2 ^ (ji4).toNat)) = ji6 := fun hle_ => by have h_ := hji6z hle_; rw [Int.one_mul] at h_; exact h_
   have hji6y : (wrap64 (1 * 2 ^ min (ji4).toNat 64)) = ji6 := (i64_w _).symm.trans hji6_
   have hji6x : (ji4) ≤ 64 → (wrap64 (1 * 2 ^ (ji4).toNat)) = ji6 := fun h_ => (i64_w _).symm.trans (hji6z h_)
   by_cases c7 : 0 ≤ (ji6)
   ·rw [if_pos c7] at H
    have c7b0 := eq_true c7
    have c7b1 : decide (0 ≤ (ji6)) = true := decide_eq_true c7
    clear c7
    obtain ⟨ji8, hji8⟩ : ∃ j_ : Int, (shr .u64 a1 (ji6)) = j_ := ⟨_, rfl⟩
    replace H : ((pack_low.f a0).bind fun t573 => ((pack_timesX.f k (ji4) (Go.bits .and .u64 (ji8) t573)).bind fun t574 => (some (Go.bits .or .u64 (shl .u64 (Go.bits .xor .u64 (Go.bits .and .u64 a1 t573) t574) (ji6)) (Go.bits .and .u64 (ji8) t573))))) = some r := by first | (rw [hji8] at H; exact H) | (simp only [hji8] at H ⊢; exact H)
    have hji8_ : (a1 / 2 ^ min (ji6).toNat 64) = ji8 := hji8
    have hji8z : (ji6) ≤ 64 → (a1 / 2 ^ (ji6).toNat) = ji8 := shr_small hji8
    replace H := Option.bind_eq_some_iff.mp H
    obtain ⟨t573, A90, H⟩ := H
    replace H : ((pack_timesX.f k (ji4) (Go.bits .and .u64 (ji8) t573)).bind fun t574 => (some (Go.bits .or .u64 (shl .u64 (Go.bits .xor .u64 (Go.bits .and .u64 a1 t573) t574) (ji6)) (Go.bits .and .u64 (ji8) t573)))) = some r := H
    have A9 := Aside0.mk A90
    clear A90
    replace H := Option.bind_eq_some_iff.mp H
    obtain ⟨t574, A100, H⟩ := H
    replace H : (some (Go.bits .or .u64 (shl .u64 (Go.bits .xor .u64 (Go.bits .and .u64 a1 t573) t574) (ji6)) (Go.bits .and .u64 (ji8) t573))) = some r := H
    have A10 := Aside0.mk A100
    clear A100
    have c11b0 := eq_true (of_decide_eq_true (by first | (with_reducible assumption) | assumption) : 0 ≤ (ji6))
    obtain ⟨ji12, hji12⟩ : ∃ j_ : Int, (shl .u64 (Go.bits .xor .u64 (Go.bits .and .u64 a1 t573) t574) (ji6)) = j_ := ⟨_, rfl⟩
    replace H : (some (Go.bits .or .u64 (ji12) (Go.bits .and .u64 (ji8) t573))) = some r := by first | (rw [hji12] at H; exact H) | (simp only [hji12] at H ⊢; exact H)
    (try rw [hji12] at A9)
    (try rw [hji12] at A10)
    have hji12_ : (IntKind.u64.wrap ((Go.bits .xor .u64 (Go.bits .and .u64 a1 t573) t574) * 2 ^ min (ji6).toNat 64)) = ji12 := hji12
    have hji12z : (ji6) ≤ 64 → (IntKind.u64.wrap ((Go.bits .xor .u64 (Go.bits .and .u64 a1 t573) t574) * 2 ^ (ji6).toNat)) = ji12 := shl_small hji12
    have hji12p0 := eq_true (show (0 : Int) ≤ ji12 by rw [← hji12_]; exact wrap_u64_nonneg _)
    have hji12p1 : decide (0 ≤ (ji12 : Int)) = true := decide_eq_true (of_eq_true hji12p0)
    obtain rfl := Option.some.inj H
    go_enter Try.func56, Try.ntmps56
    go_wp2_with (first | (go_at_call 55; (with_reducible refine (pack_low.calls a0 t573 _ A9.out).mono ?_); rintro e w' ⟨rfl, ⟨nd, rfl⟩⟩; (try first | exact ⟨rfl, _, World.drewN_drewN _ _ _⟩ | exact ⟨rfl, _, Eq.trans (World.drewN_drewN _ _ _) (congrArg (World.drewN _) (Nat.add_assoc _ _ _))⟩)) | (go_at_call 56; (with_reducible refine (ih k (by omega) ji4 (Go.bits .and .u64 (ji8) t573) t574 _ A10.out).mono ?_); rintro e w' ⟨rfl, ⟨nd, rfl⟩⟩; (try first | exact ⟨rfl, _, World.drewN_drewN _ _ _⟩ | exact ⟨rfl, _, Eq.trans (World.drewN_drewN _ _ _) (congrArg (World.drewN _) (Nat.add_assoc _ _ _))⟩)))
    repeat (go_quiet (first | (go_at_call 55; (with_reducible refine (pack_low.calls a0 t573 _ A9.out).mono ?_); rintro e w' ⟨rfl, ⟨nd, rfl⟩⟩; (try first | exact ⟨rfl, _, World.drewN_drewN _ _ _⟩ | exact ⟨rfl, _, Eq.trans (World.drewN_drewN _ _ _) (congrArg (World.drewN _) (Nat.add_assoc _ _ _))⟩)) | (go_at_call 56; (with_reducible refine (ih k (by omega) ji4 (Go.bits .and .u64 (ji8) t573) t574 _ A10.out).mono ?_); rintro e w' ⟨rfl, ⟨nd, rfl⟩⟩; (try first | exact ⟨rfl, _, World.drewN_drewN _ _ _⟩ | exact ⟨rfl, _, Eq.trans (World.drewN_drewN _ _ _) (congrArg (World.drewN _) (Nat.add_assoc _ _ _))⟩))); try go_wp2_with (first | (go_at_call 55; (with_reducible refine (pack_low.calls a0 t573 _ A9.out).mono ?_); rintro e w' ⟨rfl, ⟨nd, rfl⟩⟩; (try first | exact ⟨rfl, _, World.drewN_drewN _ _ _⟩ | exact ⟨rfl, _, Eq.trans (World.drewN_drewN _ _ _) (congrArg (World.drewN _) (Nat.add_assoc _ _ _))⟩)) | (go_at_call 56; (with_reducible refine (ih k (by omega) ji4 (Go.bits .and .u64 (ji8) t573) t574 _ A10.out).mono ?_); rintro e w' ⟨rfl, ⟨nd, rfl⟩⟩; (try first | exact ⟨rfl, _, World.drewN_drewN _ _ _⟩ | exact ⟨rfl, _, Eq.trans (World.drewN_drewN _ _ _) (congrArg (World.drewN _) (Nat.add_assoc _ _ _))⟩))))
    go_ret
    exact ⟨by first | rfl | (simp; done) | (simp only [← hji4, ← hji6, ← hji8, ← hji12] <;> (first | rfl | simp)) | (simp [*]; done), by repeat (first | exact Drawn0.refl _ | apply Drawn0.step)⟩
   ·rw [if_neg c7] at H
    exact absurd H (by simp)
  ·rw [if_neg c5] at H
   exact absurd H (by simp)

/-! ### pack_times: function 51 -/
def pack_times.f : Nat → Int → Int → Int → Option (Int)
 | 0, _, _, _ => none
 | k + 1, a0, a1, a2 => if a0 = 0 then (some (Go.bits .and .u64 a1 a2)) else (if 0 ≤ (wrap64 (a0 - 1)) then ((pack_low.f a0).bind fun t575 => (if 0 ≤ (shl .i64 1 (wrap64 (a0 - 1))) then ((pack_times.f k (wrap64 (a0 - 1)) (Go.bits .and .u64 (shr .u64 a1 (shl .i64 1 (wrap64 (a0 - 1)))) t575) (Go.bits .and .u64 (shr .u64 a2 (shl .i64 1 (wrap64 (a0 - 1)))) t575)).bind fun t576 => ((pack_times.f k (wrap64 (a0 - 1)) (Go.bits .and .u64 a1 t575) (Go.bits .and .u64 a2 t575)).bind fun t577 => ((pack_times.f k (wrap64 (a0 - 1)) (Go.bits .xor .u64 (Go.bits .and .u64 (shr .u64 a1 (shl .i64 1 (wrap64 (a0 - 1)))) t575) (Go.bits .and .u64 a1 t575)) (Go.bits .xor .u64 (Go.bits .and .u64 (shr .u64 a2 (shl .i64 1 (wrap64 (a0 - 1)))) t575) (Go.bits .and .u64 a2 t575))).bind fun t578 => ((pack_timesX.f k (wrap64 (a0 - 1)) t576).bind fun t579 => (some (Go.bits .xor .u64 (Go.bits .or .u64 (shl .u64 (Go.bits .xor .u64 (Go.bits .xor .u64 (Go.bits .xor .u64 t578 t576) t577) t579) (shl .i64 1 (wrap64 (a0 - 1)))) t577) t576)))))) else (none))) else (none))
theorem pack_times.mono_l : ∀ k, (∀ y0 y1 y2, LeO (pack_times.f k y0 y1 y2) (pack_times.f (k + 1) y0 y1 y2))
 | 0 => fun _ _ _ r h => by simp [pack_times.f] at h
 | k + 1 => by
  have ih0 := pack_times.mono_l k
  ·intro y0 y1 y2
   unfold pack_times.f
   repeat' first
   | (with_reducible exact ih0 _ _ _)
   | (with_reducible exact pack_timesX.mono _ _ _)
   | (with_reducible exact LeO.refl _)
   | (with_reducible exact LeO.none _)
   | (with_reducible refine LeO.ite ?_ ?_)
   | (with_reducible refine LeO.bind ?_ (fun _ => ?_))
   | exact ih0 _ _ _
   | exact pack_timesX.mono _ _ _
   | exact LeO.none _
   | refine LeO.ite ?_ ?_
   | refine LeO.bind ?_ (fun _ => ?_)
theorem pack_times.mono : ∀ a0 a1 a2 k, LeO (pack_times.f k a0 a1 a2) (pack_times.f (k + 1) a0 a1 a2) := by
 intro a0 a1 a2 k
 have ih0 := pack_times.mono_l k
 exact ih0 a0 a1 a2
set_option maxHeartbeats 8000000 in
set_option maxRecDepth 100000 in
theorem pack_times.calls (k : Nat) : ∀ (a0 : Int) (a1 : Int) (a2 : Int) (r : Int) (w : World) (h : pack_times.f k a0 a1 a2 = some r),
  Calls Try.prog 51 #[.int .i64 a0, .int .u64 a1, .int .u64 a2] w fun e w' => e = .returned (.int .u64 r) ∧ Drawn0 w w' := by
 induction k using Nat.strongRecOn with
 | _ k ih =>
 intro a0 a1 a2 r w h
 cases k with
 | zero => exact absurd h (by simp [pack_times.f])
 | succ k =>
 simp only [pack_times.f] at h
 have H : (if a0 = 0 then (some (Go.bits .and .u64 a1 a2)) else (if 0 ≤ (wrap64 (a0 - 1)) then ((pack_low.f a0).bind fun t575 => (if 0 ≤ (shl .i64 1 (wrap64 (a0 - 1))) then ((pack_times.f k (wrap64 (a0 - 1)) (Go.bits .and .u64 (shr .u64 a1 (shl .i64 1 (wrap64 (a0 - 1)))) t575) (Go.bits .and .u64 (shr .u64 a2 (shl .i64 1 (wrap64 (a0 - 1)))) t575)).bind fun t576 => ((pack_times.f k (wrap64 (a0 - 1)) (Go.bits .and .u64 a1 t575) (Go.bits .and .u64 a2 t575)).bind fun t577 => ((pack_times.f k (wrap64 (a0 - 1)) (Go.bits .xor .u64 (Go.bits .and .u64 (shr .u64 a1 (shl .i64 1 (wrap64 (a0 - 1)))) t575) (Go.bits .and .u64 a1 t575)) (Go.bits .xor .u64 (Go.bits .and .u64 (shr .u64 a2 (shl .i64 1 (wrap64 (a0 - 1)))) t575) (Go.bits .and .u64 a2 t575))).bind fun t578 => ((pack_timesX.f k (wrap64 (a0 - 1)) t576).bind fun t579 => (some (Go.bits .xor .u64 (Go.bits .or .u64 (shl .u64 (Go.bits .xor .u64 (Go.bits .xor .u64 (Go.bits .xor .u64 t578 t576) t577) t579) (shl .i64 1 (wrap64 (a0 - 1)))) t577) t576)))))) else (none))) else (none))) = some r := h
 clear h
 by_cases c4 : a0 = 0
 ·rw [if_pos c4] at H
  have c4b0 : (a0 == 0) = true := beq_iff_eq.mpr c4
  have c4b1 : (a0 != 0) = false := bne_eq_false_iff_eq.mpr c4
  clear c4
  obtain rfl := Option.some.inj H
  go_enter Try.func51, Try.ntmps51
  go_wp2
  repeat (go_quiet (fail); try go_wp2)
  go_ret
  exact ⟨by first | rfl | (simp; done) | (simp [*]; done), by repeat (first | exact Drawn0.refl _ | apply Drawn0.step)⟩
 ·rw [if_neg c4] at H
  have c4b0 : (a0 == 0) = false := beq_eq_false_iff_ne.mpr c4
  have c4b1 : (a0 != 0) = true := bne_iff_ne.mpr c4
  obtain ⟨ji5, hji5⟩ : ∃ j_ : Int, (wrap64 (a0 - 1)) = j_ := ⟨_, rfl⟩
  replace H : (if 0 ≤ (ji5) then ((pack_low.f a0).bind fun t575 => (if 0 ≤ (shl .i64 1 (ji5)) then ((pack_times.f k (ji5) (Go.bits .and .u64 (shr .u64 a1 (shl .i64 1 (ji5))) t575) (Go.bits .and .u64 (shr .u64 a2 (shl .i64 1 (ji5))) t575)).bind fun t576 => ((pack_times.f k (ji5) (Go.bits .and .u64 a1 t575) (Go.bits .and .u64 a2 t575)).bind fun t577 => ((pack_times.f k (ji5) (Go.bits .xor .u64 (Go.bits .and .u64 (shr .u64 a1 (shl .i64 1 (ji5))) t575) (Go.bits .and .u64 a1 t575)) (Go.bits .xor .u64 (Go.bits .and .u64 (shr .u64 a2 (shl .i64 1 (ji5))) t575) (Go.bits .and .u64 a2 t575))).bind fun t578 => ((pack_timesX.f k (ji5) t576).bind fun t579 => (some (Go.bits .xor .u64 (Go.bits .or .u64 (shl .u64 (Go.bits .xor .u64 (Go.bits .xor .u64 (Go.bits .xor .u64 t578 t576) t577) t579) (shl .i64 1 (ji5))) t577) t576)))))) else (none))) else (none)) = some r := by first | (rw [hji5] at H; exact H) | (simp only [hji5] at H ⊢; exact H)
  have hji5w : (IntKind.i64.wrap (a0 - 1)) = ji5 := (i64_w _).trans hji5
  by_cases c6 : 0 ≤ (ji5)
  ·rw [if_pos c6] at H
   have c6b0 := eq_true c6
   have c6b1 : decide (0 ≤ (ji5)) = true := decide_eq_true c6
   clear c6
   obtain ⟨ji7, hji7⟩ : ∃ j_ : Int, (shl .i64 1 (ji5)) = j_ := ⟨_, rfl⟩
   replace H : ((pack_low.f a0).bind fun t575 => (if 0 ≤ (ji7) then ((pack_times.f k (ji5) (Go.bits .and .u64 (shr .u64 a1 (ji7)) t575) (Go.bits .and .u64 (shr .u64 a2 (ji7)) t575)).bind fun t576 => ((pack_times.f k (ji5) (Go.bits .and .u64 a1 t575) (Go.bits .and .u64 a2 t575)).bind fun t577 => ((pack_times.f k (ji5) (Go.bits .xor .u64 (Go.bits .and .u64 (shr .u64 a1 (ji7)) t575) (Go.bits .and .u64 a1 t575)) (Go.bits .xor .u64 (Go.bits .and .u64 (shr .u64 a2 (ji7)) t575) (Go.bits .and .u64 a2 t575))).bind fun t578 => ((pack_timesX.f k (ji5) t576).bind fun t579 => (some (Go.bits .xor .u64 (Go.bits .or .u64 (shl .u64 (Go.bits .xor .u64 (Go.bits .xor .u64 (Go.bits .xor .u64 t578 t576) t577) t579) (ji7)) t577) t576)))))) else (none))) = some r := by first | (rw [hji7] at H; exact H) | (simp only [hji7] at H ⊢; exact H)
   have hji7_ : (IntKind.i64.wrap (1 * 2 ^ min (ji5).toNat 64)) = ji7 := hji7
   have hji7z : (ji5) ≤ 64 → (IntKind.i64.wrap (1 * 2 ^ (ji5).toNat)) = ji7 := shl_small hji7
   have hji7u : (IntKind.i64.wrap (2 ^ min (ji5).toNat 64)) = ji7 := by have h_ := hji7_; rw [Int.one_mul] at h_; exact h_
   have hji7v : (ji5) ≤ 64 → (IntKind.i64.wrap (2 ^ (ji5).toNat)) = ji7 := fun hle_ => by have h_ := hji7z hle_; rw [Int.one_mul] at h_; exact h_
   have hji7y : (wrap64 (1 * 2 ^ min (ji5).toNat 64)) = ji7 := (i64_w _).symm.trans hji7_
   have hji7x : (ji5) ≤ 64 → (wrap64 (1 * 2 ^ (ji5).toNat)) = ji7 := fun h_ => (i64_w _).symm.trans (hji7z h_)
   replace H := Option.bind_eq_some_iff.mp H
   obtain ⟨t575, A80, H⟩ := H
   replace H : (if 0 ≤ (ji7) then ((pack_times.f k (ji5) (Go.bits .and .u64 (shr .u64 a1 (ji7)) t575) (Go.bits .and .u64 (shr .u64 a2 (ji7)) t575)).bind fun t576 => ((pack_times.f k (ji5) (Go.bits .and .u64 a1 t575) (Go.bits .and .u64 a2 t575)).bind fun t577 => ((pack_times.f k (ji5) (Go.bits .xor .u64 (Go.bits .and .u64 (shr .u64 a1 (ji7)) t575) (Go.bits .and .u64 a1 t575)) (Go.bits .xor .u64 (Go.bits .and .u64 (shr .u64 a2 (ji7)) t575) (Go.bits .and .u64 a2 t575))).bind fun t578 => ((pack_timesX.f k (ji5) t576).bind fun t579 => (some (Go.bits .xor .u64 (Go.bits .or .u64 (shl .u64 (Go.bits .xor .u64 (Go.bits .xor .u64 (Go.bits .xor .u64 t578 t576) t577) t579) (ji7)) t577) t576)))))) else (none)) = some r := H
   have A8 := Aside0.mk A80
   clear A80
   by_cases c9 : 0 ≤ (ji7)
   ·rw [if_pos c9] at H
    have c9b0 := eq_true c9
    have c9b1 : decide (0 ≤ (ji7)) = true := decide_eq_true c9
    clear c9
    obtain ⟨ji10, hji10⟩ : ∃ j_ : Int, (shr .u64 a1 (ji7)) = j_ := ⟨_, rfl⟩
    replace H : ((pack_times.f k (ji5) (Go.bits .and .u64 (ji10) t575) (Go.bits .and .u64 (shr .u64 a2 (ji7)) t575)).bind fun t576 => ((pack_times.f k (ji5) (Go.bits .and .u64 a1 t575) (Go.bits .and .u64 a2 t575)).bind fun t577 => ((pack_times.f k (ji5) (Go.bits .xor .u64 (Go.bits .and .u64 (ji10) t575) (Go.bits .and .u64 a1 t575)) (Go.bits .xor .u64 (Go.bits .and .u64 (shr .u64 a2 (ji7)) t575) (Go.bits .and .u64 a2 t575))).bind fun t578 => ((pack_timesX.f k (ji5) t576).bind fun t579 => (some (Go.bits .xor .u64 (Go.bits .or .u64 (shl .u64 (Go.bits .xor .u64 (Go.bits .xor .u64 (Go.bits .xor .u64 t578 t576) t577) t579) (ji7)) t577) t576)))))) = some r := by first | (rw [hji10] at H; exact H) | (simp only [hji10] at H ⊢; exact H)
    (try rw [hji10] at A8)
    have hji10_ : (a1 / 2 ^ min (ji7).toNat 64) = ji10 := hji10
    have hji10z : (ji7) ≤ 64 → (a1 / 2 ^ (ji7).toNat) = ji10 := shr_small hji10
    have c11b0 := eq_true (of_decide_eq_true (by first | (with_reducible assumption) | assumption) : 0 ≤ (ji7))
    obtain ⟨ji12, hji12⟩ : ∃ j_ : Int, (shr .u64 a2 (ji7)) = j_ := ⟨_, rfl⟩
    replace H : ((pack_times.f k (ji5) (Go.bits .and .u64 (ji10) t575) (Go.bits .and .u64 (ji12) t575)).bind fun t576 => ((pack_times.f k (ji5) (Go.bits .and .u64 a1 t575) (Go.bits .and .u64 a2 t575)).bind fun t577 => ((pack_times.f k (ji5) (Go.bits .xor .u64 (Go.bits .and .u64 (ji10) t575) (Go.bits .and .u64 a1 t575)) (Go.bits .xor .u64 (Go.bits .and .u64 (ji12) t575) (Go.bits .and .u64 a2 t575))).bind fun t578 => ((pack_timesX.f k (ji5) t576).bind fun t579 => (some (Go.bits .xor .u64 (Go.bits .or .u64 (shl .u64 (Go.bits .xor .u64 (Go.bits .xor .u64 (Go.bits .xor .u64 t578 t576) t577) t579) (ji7)) t577) t576)))))) = some r := by first | (rw [hji12] at H; exact H) | (simp only [hji12] at H ⊢; exact H)
    (try rw [hji12] at A8)
    have hji12_ : (a2 / 2 ^ min (ji7).toNat 64) = ji12 := hji12
    have hji12z : (ji7) ≤ 64 → (a2 / 2 ^ (ji7).toNat) = ji12 := shr_small hji12
    replace H := Option.bind_eq_some_iff.mp H
    obtain ⟨t576, A130, H⟩ := H
    replace H : ((pack_times.f k (ji5) (Go.bits .and .u64 a1 t575) (Go.bits .and .u64 a2 t575)).bind fun t577 => ((pack_times.f k (ji5) (Go.bits .xor .u64 (Go.bits .and .u64 (ji10) t575) (Go.bits .and .u64 a1 t575)) (Go.bits .xor .u64 (Go.bits .and .u64 (ji12) t575) (Go.bits .and .u64 a2 t575))).bind fun t578 => ((pack_timesX.f k (ji5) t576).bind fun t579 => (some (Go.bits .xor .u64 (Go.bits .or .u64 (shl .u64 (Go.bits .xor .u64 (Go.bits .xor .u64 (Go.bits .xor .u64 t578 t576) t577) t579) (ji7)) t577) t576))))) = some r := H
    have A13 := Aside0.mk A130
    clear A130
    replace H := Option.bind_eq_some_iff.mp H
    obtain ⟨t577, A140, H⟩ := H
    replace H : ((pack_times.f k (ji5) (Go.bits .xor .u64 (Go.bits .and .u64 (ji10) t575) (Go.bits .and .u64 a1 t575)) (Go.bits .xor .u64 (Go.bits .and .u64 (ji12) t575) (Go.bits .and .u64 a2 t575))).bind fun t578 => ((pack_timesX.f k (ji5) t576).bind fun t579 => (some (Go.bits .xor .u64 (Go.bits .or .u64 (shl .u64 (Go.bits .xor .u64 (Go.bits .xor .u64 (Go.bits .xor .u64 t578 t576) t577) t579) (ji7)) t577) t576)))) = some r := H
    have A14 := Aside0.mk A140
    clear A140
    replace H := Option.bind_eq_some_iff.mp H
    obtain ⟨t578, A150, H⟩ := H
    replace H : ((pack_timesX.f k (ji5) t576).bind fun t579 => (some (Go.bits .xor .u64 (Go.bits .or .u64 (shl .u64 (Go.bits .xor .u64 (Go.bits .xor .u64 (Go.bits .xor .u64 t578 t576) t577) t579) (ji7)) t577) t576))) = some r := H
    have A15 := Aside0.mk A150
    clear A150
    replace H := Option.bind_eq_some_iff.mp H
    obtain ⟨t579, A160, H⟩ := H
    replace H : (some (Go.bits .xor .u64 (Go.bits .or .u64 (shl .u64 (Go.bits .xor .u64 (Go.bits .xor .u64 (Go.bits .xor .u64 t578 t576) t577) t579) (ji7)) t577) t576)) = some r := H
    have A16 := Aside0.mk A160
    clear A160
    have c17b0 := eq_true (of_decide_eq_true (by first | (with_reducible assumption) | assumption) : 0 ≤ (ji7))
    obtain ⟨ji18, hji18⟩ : ∃ j_ : Int, (shl .u64 (Go.bits .xor .u64 (Go.bits .xor .u64 (Go.bits .xor .u64 t578 t576) t577) t579) (ji7)) = j_ := ⟨_, rfl⟩
    replace H : (some (Go.bits .xor .u64 (Go.bits .or .u64 (ji18) t577) t576)) = some r := by first | (rw [hji18] at H; exact H) | (simp only [hji18] at H ⊢; exact H)
    (try rw [hji18] at A8)
    (try rw [hji18] at A13)
    (try rw [hji18] at A14)
    (try rw [hji18] at A15)
    (try rw [hji18] at A16)
    have hji18_ : (IntKind.u64.wrap ((Go.bits .xor .u64 (Go.bits .xor .u64 (Go.bits .xor .u64 t578 t576) t577) t579) * 2 ^ min (ji7).toNat 64)) = ji18 := hji18
    have hji18z : (ji7) ≤ 64 → (IntKind.u64.wrap ((Go.bits .xor .u64 (Go.bits .xor .u64 (Go.bits .xor .u64 t578 t576) t577) t579) * 2 ^ (ji7).toNat)) = ji18 := shl_small hji18
    have hji18p0 := eq_true (show (0 : Int) ≤ ji18 by rw [← hji18_]; exact wrap_u64_nonneg _)
    have hji18p1 : decide (0 ≤ (ji18 : Int)) = true := decide_eq_true (of_eq_true hji18p0)
    obtain rfl := Option.some.inj H
    go_enter Try.func51, Try.ntmps51
    go_wp2_with (first | (go_at_call 55; (with_reducible refine (pack_low.calls a0 t575 _ A8.out).mono ?_); rintro e w' ⟨rfl, ⟨nd, rfl⟩⟩; (try first | exact ⟨rfl, _, World.drewN_drewN _ _ _⟩ | exact ⟨rfl, _, Eq.trans (World.drewN_drewN _ _ _) (congrArg (World.drewN _) (Nat.add_assoc _ _ _))⟩)) | (go_at_call 51; (with_reducible refine (ih k (by omega) ji5 (Go.bits .and .u64 (ji10) t575) (Go.bits .and .u64 (ji12) t575) t576 _ A13.out).mono ?_); rintro e w' ⟨rfl, ⟨nd, rfl⟩⟩; (try first | exact ⟨rfl, _, World.drewN_drewN _ _ _⟩ | exact ⟨rfl, _, Eq.trans (World.drewN_drewN _ _ _) (congrArg (World.drewN _) (Nat.add_assoc _ _ _))⟩)) | (go_at_call 51; (with_reducible refine (ih k (by omega) ji5 (Go.bits .and .u64 a1 t575) (Go.bits .and .u64 a2 t575) t577 _ A14.out).mono ?_); rintro e w' ⟨rfl, ⟨nd, rfl⟩⟩; (try first | exact ⟨rfl, _, World.drewN_drewN _ _ _⟩ | exact ⟨rfl, _, Eq.trans (World.drewN_drewN _ _ _) (congrArg (World.drewN _) (Nat.add_assoc _ _ _))⟩)) | (go_at_call 51; (with_reducible refine (ih k (by omega) ji5 (Go.bits .xor .u64 (Go.bits .and .u64 (ji10) t575) (Go.bits .and .u64 a1 t575)) (Go.bits .xor .u64 (Go.bits .and .u64 (ji12) t575) (Go.bits .and .u64 a2 t575)) t578 _ A15.out).mono ?_); rintro e w' ⟨rfl, ⟨nd, rfl⟩⟩; (try first | exact ⟨rfl, _, World.drewN_drewN _ _ _⟩ | exact ⟨rfl, _, Eq.trans (World.drewN_drewN _ _ _) (congrArg (World.drewN _) (Nat.add_assoc _ _ _))⟩)) | (go_at_call 56; (with_reducible refine (pack_timesX.calls k ji5 t576 t579 _ A16.out).mono ?_); rintro e w' ⟨rfl, ⟨nd, rfl⟩⟩; (try first | exact ⟨rfl, _, World.drewN_drewN _ _ _⟩ | exact ⟨rfl, _, Eq.trans (World.drewN_drewN _ _ _) (congrArg (World.drewN _) (Nat.add_assoc _ _ _))⟩)))
    repeat (go_quiet (first | (go_at_call 55; (with_reducible refine (pack_low.calls a0 t575 _ A8.out).mono ?_); rintro e w' ⟨rfl, ⟨nd, rfl⟩⟩; (try first | exact ⟨rfl, _, World.drewN_drewN _ _ _⟩ | exact ⟨rfl, _, Eq.trans (World.drewN_drewN _ _ _) (congrArg (World.drewN _) (Nat.add_assoc _ _ _))⟩)) | (go_at_call 51; (with_reducible refine (ih k (by omega) ji5 (Go.bits .and .u64 (ji10) t575) (Go.bits .and .u64 (ji12) t575) t576 _ A13.out).mono ?_); rintro e w' ⟨rfl, ⟨nd, rfl⟩⟩; (try first | exact ⟨rfl, _, World.drewN_drewN _ _ _⟩ | exact ⟨rfl, _, Eq.trans (World.drewN_drewN _ _ _) (congrArg (World.drewN _) (Nat.add_assoc _ _ _))⟩)) | (go_at_call 51; (with_reducible refine (ih k (by omega) ji5 (Go.bits .and .u64 a1 t575) (Go.bits .and .u64 a2 t575) t577 _ A14.out).mono ?_); rintro e w' ⟨rfl, ⟨nd, rfl⟩⟩; (try first | exact ⟨rfl, _, World.drewN_drewN _ _ _⟩ | exact ⟨rfl, _, Eq.trans (World.drewN_drewN _ _ _) (congrArg (World.drewN _) (Nat.add_assoc _ _ _))⟩)) | (go_at_call 51; (with_reducible refine (ih k (by omega) ji5 (Go.bits .xor .u64 (Go.bits .and .u64 (ji10) t575) (Go.bits .and .u64 a1 t575)) (Go.bits .xor .u64 (Go.bits .and .u64 (ji12) t575) (Go.bits .and .u64 a2 t575)) t578 _ A15.out).mono ?_); rintro e w' ⟨rfl, ⟨nd, rfl⟩⟩; (try first | exact ⟨rfl, _, World.drewN_drewN _ _ _⟩ | exact ⟨rfl, _, Eq.trans (World.drewN_drewN _ _ _) (congrArg (World.drewN _) (Nat.add_assoc _ _ _))⟩)) | (go_at_call 56; (with_reducible refine (pack_timesX.calls k ji5 t576 t579 _ A16.out).mono ?_); rintro e w' ⟨rfl, ⟨nd, rfl⟩⟩; (try first | exact ⟨rfl, _, World.drewN_drewN _ _ _⟩ | exact ⟨rfl, _, Eq.trans (World.drewN_drewN _ _ _) (congrArg (World.drewN _) (Nat.add_assoc _ _ _))⟩))); try go_wp2_with (first | (go_at_call 55; (with_reducible refine (pack_low.calls a0 t575 _ A8.out).mono ?_); rintro e w' ⟨rfl, ⟨nd, rfl⟩⟩; (try first | exact ⟨rfl, _, World.drewN_drewN _ _ _⟩ | exact ⟨rfl, _, Eq.trans (World.drewN_drewN _ _ _) (congrArg (World.drewN _) (Nat.add_assoc _ _ _))⟩)) | (go_at_call 51; (with_reducible refine (ih k (by omega) ji5 (Go.bits .and .u64 (ji10) t575) (Go.bits .and .u64 (ji12) t575) t576 _ A13.out).mono ?_); rintro e w' ⟨rfl, ⟨nd, rfl⟩⟩; (try first | exact ⟨rfl, _, World.drewN_drewN _ _ _⟩ | exact ⟨rfl, _, Eq.trans (World.drewN_drewN _ _ _) (congrArg (World.drewN _) (Nat.add_assoc _ _ _))⟩)) | (go_at_call 51; (with_reducible refine (ih k (by omega) ji5 (Go.bits .and .u64 a1 t575) (Go.bits .and .u64 a2 t575) t577 _ A14.out).mono ?_); rintro e w' ⟨rfl, ⟨nd, rfl⟩⟩; (try first | exact ⟨rfl, _, World.drewN_drewN _ _ _⟩ | exact ⟨rfl, _, Eq.trans (World.drewN_drewN _ _ _) (congrArg (World.drewN _) (Nat.add_assoc _ _ _))⟩)) | (go_at_call 51; (with_reducible refine (ih k (by omega) ji5 (Go.bits .xor .u64 (Go.bits .and .u64 (ji10) t575) (Go.bits .and .u64 a1 t575)) (Go.bits .xor .u64 (Go.bits .and .u64 (ji12) t575) (Go.bits .and .u64 a2 t575)) t578 _ A15.out).mono ?_); rintro e w' ⟨rfl, ⟨nd, rfl⟩⟩; (try first | exact ⟨rfl, _, World.drewN_drewN _ _ _⟩ | exact ⟨rfl, _, Eq.trans (World.drewN_drewN _ _ _) (congrArg (World.drewN _) (Nat.add_assoc _ _ _))⟩)) | (go_at_call 56; (with_reducible refine (pack_timesX.calls k ji5 t576 t579 _ A16.out).mono ?_); rintro e w' ⟨rfl, ⟨nd, rfl⟩⟩; (try first | exact ⟨rfl, _, World.drewN_drewN _ _ _⟩ | exact ⟨rfl, _, Eq.trans (World.drewN_drewN _ _ _) (congrArg (World.drewN _) (Nat.add_assoc _ _ _))⟩))))
    go_ret
    exact ⟨by first | rfl | (simp; done) | (simp only [← hji5, ← hji7, ← hji10, ← hji12, ← hji18] <;> (first | rfl | simp)) | (simp [*]; done), by repeat (first | exact Drawn0.refl _ | apply Drawn0.step)⟩
   ·rw [if_neg c9] at H
    exact absurd H (by simp)
  ·rw [if_neg c6] at H
   exact absurd H (by simp)

/-! ### pack_Mul: function 28 -/
def pack_Mul.l0 : Nat → List Int → List Int → Int → Int → Int → Int → List Int → Option (Int × Int × List Int × Int)
 | 0, _, _, _, _, _, _, _ => none
 | k + 1, x6, x18, x19, x20, x581000, x581001, x581002 => if x20 < x19 then (if 0 ≤ x20 then (if x20 < (x18.length : Int) then (if x20 < (x6.length : Int) then ((pack_times.f k x581000 (rd x6 x20) (rd x18 x20)).bind fun t589 => (pack_Mul.l0 k (x6.set (x20 : Int).toNat t589) x18 x19 (wrap64 (x20 + 1)) x581000 x581001 x581002)) else (none)) else (none)) else (none)) else ((pack_vec.f x581000 x581001 x6).bind fun bt591 => (some (bt591.1, bt591.2.1, bt591.2.2, 0)))
def pack_Mul.f (k : Nat) (a0_0 : Int) (a0_1 : Int) (l0_2 : List Int) (a1_0 : Int) (a1_1 : Int) (l1_2 : List Int) : Option (Int × Int × List Int × Int) := (pack_alike.f a0_0 a0_1 l0_2 a1_0 a1_1 l1_2).bind fun t583 => (if t583 = true then ((slices_Clone_uint64_uint64.f l0_2).bind fun t584 => (pack_Mul.l0 k t584 l1_2 (l1_2.length : Int) 0 a0_0 a0_1 l0_2)) else (some (0, 0, ([] : List Int), 6)))
theorem pack_Mul.mono_l : ∀ k, (∀ y0 y1 y2 y3 y4 y5 y6, LeO (pack_Mul.l0 k y0 y1 y2 y3 y4 y5 y6) (pack_Mul.l0 (k + 1) y0 y1 y2 y3 y4 y5 y6))
 | 0 => fun _ _ _ _ _ _ _ r h => by simp [pack_Mul.l0] at h
 | k + 1 => by
  have ih0 := pack_Mul.mono_l k
  ·intro y0 y1 y2 y3 y4 y5 y6
   unfold pack_Mul.l0
   repeat' first
   | (with_reducible exact ih0 _ _ _ _ _ _ _)
   | (with_reducible exact pack_times.mono _ _ _ _)
   | (with_reducible exact LeO.refl _)
   | (with_reducible exact LeO.none _)
   | (with_reducible refine LeO.ite ?_ ?_)
   | (with_reducible refine LeO.bind ?_ (fun _ => ?_))
   | exact ih0 _ _ _ _ _ _ _
   | exact pack_times.mono _ _ _ _
   | exact LeO.none _
   | refine LeO.ite ?_ ?_
   | refine LeO.bind ?_ (fun _ => ?_)
theorem pack_Mul.mono : ∀ a0 a1 a2 a3 a4 a5 k, LeO (pack_Mul.f k a0 a1 a2 a3 a4 a5) (pack_Mul.f (k + 1) a0 a1 a2 a3 a4 a5) := by
 intro a0 a1 a2 a3 a4 a5 k
 have ih0 := pack_Mul.mono_l k
 unfold pack_Mul.f
 repeat' first
   | (with_reducible exact ih0 _ _ _ _ _ _ _)
   | (with_reducible exact pack_times.mono _ _ _ _)
   | (with_reducible exact LeO.refl _)
   | (with_reducible exact LeO.none _)
   | (with_reducible refine LeO.ite ?_ ?_)
   | (with_reducible refine LeO.bind ?_ (fun _ => ?_))
   | exact ih0 _ _ _ _ _ _ _
   | exact pack_times.mono _ _ _ _
   | exact LeO.none _
   | refine LeO.ite ?_ ?_
   | refine LeO.bind ?_ (fun _ => ?_)
def pack_Mul.T7 : Bool × List (List Nat × List Nat) := (true, [([], []), ([], []), ([], []), ([2], [2]), ([], []), ([], []), ([4, 5], [4, 5]), ([6], [6]), ([], []), ([3, 7, 8], [3, 7, 8]), ([0, 1, 0, 1, 2, 3, 4, 5, 6, 7, 8, 9], [0, 1]), ([10, 9, 9, 0, 1, 2, 3, 4, 5, 6, 7, 8, 9], [9, 10])])
def pack_Mul.B7 : List Nat := [0, 0, 0, 4, 0, 0, 48, 112, 0, 508, 1023, 2047]
theorem pack_Mul.tab7 : rtab .any (opsOf Try.f28 7) = pack_Mul.T7 := by kernel_rfl
theorem pack_Mul.bits7 : waitsOk pack_Mul.T7.2 pack_Mul.B7 = true := by kernel_rfl
set_option maxHeartbeats 8000000 in
set_option maxRecDepth 100000 in
theorem pack_Mul.calls (k : Nat) (a0_0 : Int) (a0_1 : Int) (A0_2 : Option Addr) (c0_2 : Nat) (l0_2 : List Int) (a1_0 : Int) (a1_1 : Int) (A1_2 : Option Addr) (c1_2 : Nat) (l1_2 : List Int) (r1 : Int) (r2 : Int) (r3 : List Int) (r4 : Int) (w : World) (hr0_2 : Kd.C (Kd.int .u64) w A0_2 l0_2.length l0_2) (hc0_2 : l0_2.length ≤ c0_2) (hr1_2 : Kd.C (Kd.int .u64) w A1_2 l1_2.length l1_2) (hc1_2 : l1_2.length ≤ c1_2) (h : pack_Mul.f k a0_0 a0_1 l0_2 a1_0 a1_1 l1_2 = some (r1, r2, r3, r4)) :
  Calls Try.prog 28 #[.agg #[.int .i64 a0_0, .int .i64 a0_1, .slice A0_2 l0_2.length c0_2], .agg #[.int .i64 a1_0, .int .i64 a1_1, .slice A1_2 l1_2.length c1_2]] w fun e w' => ∃ v2_ : Value, e = .returned (.tuple #[.agg #[.int .i64 r1, .int .i64 r2, v2_], .int .i64 r4]) ∧ Kd.R (Kd.int .u64) 23 w' w.heap.size (fun _ => True) v2_ r3 ∧ Below w.heap.size w w' := by
 have hu31 := Try.underlying31
 have HR0_2 := Aside0.mk hr0_2
 have HC0_2 := Aside0.mk hc0_2
 clear hr0_2 hc0_2
 have HR1_2 := Aside0.mk hr1_2
 have HC1_2 := Aside0.mk hc1_2
 clear hr1_2 hc1_2
 have HB := Aside0.mk (Below.refl w.heap.size w)
 have H : ((pack_alike.f a0_0 a0_1 l0_2 a1_0 a1_1 l1_2).bind fun t583 => (if t583 = true then ((slices_Clone_uint64_uint64.f l0_2).bind fun t584 => (pack_Mul.l0 k t584 l1_2 (l1_2.length : Int) 0 a0_0 a0_1 l0_2)) else (some (0, 0, ([] : List Int), 6)))) = some (r1, r2, r3, r4) := h
 clear h
 replace H := Option.bind_eq_some_iff.mp H
 obtain ⟨t583, A30, H⟩ := H
 replace H : (if t583 = true then ((slices_Clone_uint64_uint64.f l0_2).bind fun t584 => (pack_Mul.l0 k t584 l1_2 (l1_2.length : Int) 0 a0_0 a0_1 l0_2)) else (some (0, 0, ([] : List Int), 6))) = some (r1, r2, r3, r4) := H
 have A3 := Aside0.mk A30
 clear A30
 by_cases c4 : t583 = true
 ·subst c4
  have H1 : ((slices_Clone_uint64_uint64.f l0_2).bind fun t584 => (pack_Mul.l0 k t584 l1_2 (l1_2.length : Int) 0 a0_0 a0_1 l0_2)) = some (r1, r2, r3, r4) := by rw [if_pos rfl] at H; exact H
  clear H
  have H := H1
  clear H1
  replace H := Option.bind_eq_some_iff.mp H
  obtain ⟨t584, A50, H⟩ := H
  replace H : (pack_Mul.l0 k t584 l1_2 (l1_2.length : Int) 0 a0_0 a0_1 l0_2) = some (r1, r2, r3, r4) := H
  have A5 := Aside0.mk A50
  clear A50
  have H' := Aside0.mk H
  clear H
  go_enter Try.func28, Try.ntmps28
  go_wp2_with (first | ((with_reducible refine gate_dst (N := 2) rfl ?_); refine box_event ?hg (N := 2) ?hd (cs := #[.int .i64 a0_0, .int .i64 a0_1, .slice A0_2 l0_2.length c0_2]) (t := 31) ?hr ?_; (case hd => rfl); (case hg => rfl); (case hr => first | (go_simp; done) | (go_simp; rfl)); intro gb580 hg w6 hbox hb; have BK580 := Aside0.mk hbox; have GW580 := ge hg HB; have GE580 := ge hg HB; replace HB := bh HB hb; clear hb hbox hg) | ((with_reducible refine gate_dst (N := 3) rfl ?_); refine box_event ?hg (N := 3) ?hd (cs := #[.int .i64 a1_0, .int .i64 a1_1, .slice A1_2 l1_2.length c1_2]) (t := 31) ?hr ?_; (case hd => rfl); (case hg => rfl); (case hr => first | (go_simp; done) | (go_simp; rfl)); intro gb581 hg w7 hbox hb; have BK581 := Aside0.mk hbox; have GW581 := ge hg HB; have GE581 := ge hg HB; have NB580_581 := nl hg BK580; have NB581_580 := ng hg BK580; replace BK580 := bb BK580 hb; replace HB := bh HB hb; clear hb hbox hg) | ((with_reducible refine gate_dst (N := 4) rfl ?_); refine box_event ?hg (N := 4) ?hd (cs := #[.int .i64 0, .int .i64 0, .slice none 0 0]) (t := 31) ?hr ?_; (case hd => rfl); (case hg => rfl); (case hr => first | (go_simp; done) | (go_simp; rfl)); intro gb582 hg w8 hbox hb; have BK582 := Aside0.mk hbox; have GW582 := ge hg HB; have GE582 := ge hg HB; have NB580_582 := nl hg BK580; have NB582_580 := ng hg BK580; have NB581_582 := nl hg BK581; have NB582_581 := ng hg BK581; replace BK580 := bb BK580 hb; replace BK581 := bb BK581 hb; replace HB := bh HB hb; clear hb hbox hg; have hnb9 := NB580_581.out; have hnc9 := NB581_580.out; have hnb10 := NB580_582.out; have hnc10 := NB582_580.out; obtain ⟨hcz11_0, hcz11_1, hcz11_2⟩ := zc3 BK580; obtain ⟨hfz11_0, hfz11_1, hfz11_2⟩ := zf3 BK580; have hnb12 := NB581_582.out; have hnc12 := NB582_581.out; obtain ⟨hcz13_0, hcz13_1, hcz13_2⟩ := zc3 BK581; obtain ⟨hfz13_0, hfz13_1, hfz13_2⟩ := zf3 BK581) | ((with_reducible refine gate_callee (f := 48) rfl ?_); refine goesL_ (some 11) rfl rfl Try.func48 (by kernel_rfl) rfl #[.agg #[.int .i64 a0_0, .int .i64 a0_1, .slice A0_2 l0_2.length c0_2], .agg #[.int .i64 a1_0, .int .i64 a1_1, .slice A1_2 l1_2.length c1_2]] rfl (by (try simp only [List.map_toArray, List.map_cons, List.map_nil]); first | done | rfl | (simp only [List.length_drop, List.length_take]; rfl)) ?_; (with_reducible refine (pack_alike.calls a0_0 a0_1 _ _ l0_2 a1_0 a1_1 _ _ l1_2 true _ ?side1 ?side2 ?side3 ?side4 A3.out).mono ?_); (case side1 => repeat (first | exact (Kd.C_below HR0_2.out HB.out) | (with_reducible refine Kd.C_alloc ?_ _) | (with_reducible refine Kd.C_drewN ?_ _) | (with_reducible refine Kd.C_drew ?_))); (case side2 => exact HC0_2.out); (case side3 => repeat (first | exact (Kd.C_below HR1_2.out HB.out) | (with_reducible refine Kd.C_alloc ?_ _) | (with_reducible refine Kd.C_drewN ?_ _) | (with_reducible refine Kd.C_drew ?_))); (case side4 => exact HC1_2.out); rintro e w14 ⟨rfl, hb⟩; refine ⟨_, rfl, ?_⟩; replace BK580 := bb BK580 hb; replace BK581 := bb BK581 hb; replace BK582 := bb BK582 hb; replace HB := bh HB hb; (try clear hb); (try clear hb2); (try clear hk); (try clear hi); obtain ⟨hcz15_0, hcz15_1, hcz15_2⟩ := zc3 BK580; obtain ⟨hfz15_0, hfz15_1, hfz15_2⟩ := zf3 BK580) | ((with_reducible refine gate_callee (f := 43) rfl ?_); refine goesL_ (some 16) rfl rfl Try.func43 (by kernel_rfl) rfl #[.slice A0_2 l0_2.length c0_2] rfl (by (try simp only [List.map_toArray, List.map_cons, List.map_nil]); first | done | rfl | (simp only [List.length_drop, List.length_take]; rfl)) ?_; (with_reducible refine (slices_Clone_uint64_uint64.calls _ _ l0_2 t584 _ ?side1 ?side2 A5.out).mono ?_); (case side1 => repeat (first | exact (Kd.C_below HR0_2.out HB.out) | (with_reducible refine Kd.C_alloc ?_ _) | (with_reducible refine Kd.C_drewN ?_ _) | (with_reducible refine Kd.C_drew ?_))); (case side2 => exact HC0_2.out); rintro e w16 ⟨v585, rfl, ho0, hb⟩; refine ⟨_, rfl, ?_⟩; have HO586 := kw ho0 HB; replace BK580 := bb BK580 hb; replace BK581 := bb BK581 hb; replace BK582 := bb BK582 hb; replace HB := bh HB hb; (try clear hb); (try clear hb2); (try clear hk); (try clear hi); (try clear ho0); obtain ⟨hcz17_0, hcz17_1, hcz17_2⟩ := zc3 BK581; obtain ⟨hfz17_0, hfz17_1, hfz17_2⟩ := zf3 BK581))
  go_loopg [20] k (fun kq v20 w' => ∃ (x6_1 : List Int) (x20_1 : Int), v20 = .int .i64 x20_1 ∧ Aside0 (pack_Mul.l0 kq x6_1 l1_2 (l1_2.length : Int) x20_1 a0_0 a0_1 l0_2 = some (r1, r2, r3, r4)) ∧ Aside0 (kq ≤ k) ∧ Aside0 (Kd.R (Kd.int .u64) 23 w' w.heap.size (fun _ => True) v585 x6_1) ∧ Aside0 (w'.heap[gb580]? = some (.cells #[.int .i64 a0_0, .int .i64 a0_1, (.slice A0_2 l0_2.length c0_2)] 31 (0, 0))) ∧ Aside0 (w'.heap[gb581]? = some (.cells #[.int .i64 a1_0, .int .i64 a1_1, (.slice A1_2 l1_2.length c1_2)] 31 (0, 0))) ∧ Aside0 (w'.heap[gb582]? = some (.cells #[.int .i64 0, .int .i64 0, (.slice none 0 0)] 31 (0, 0))) ∧ Aside0 (Below w.heap.size w w'))
  case atStart => exact ⟨(t584), (0), (by first | rfl | (simp; done) | (simp [*]; done)), H', ⟨Nat.le_refl _⟩, ⟨kr HO586.out⟩, ⟨bk BK580.out⟩, ⟨bk BK581.out⟩, ⟨bk BK582.out⟩, ⟨bq HB.out⟩⟩
  case round =>
   clear H'
   try clear c1
   try clear c2
   try clear p2
   try clear c4
   try clear c9
   try clear c10
   try clear c12
   try clear hcz11_0
   try clear hcz11_1
   try clear hcz11_2
   try clear hcz13_0
   try clear hcz13_1
   try clear hcz13_2
   try clear hcz15_0
   try clear hcz15_1
   try clear hcz15_2
   try clear hcz17_0
   try clear hcz17_1
   try clear hcz17_2
   try clear hfz11_0
   try clear hfz11_1
   try clear hfz11_2
   try clear hfz13_0
   try clear hfz13_1
   try clear hfz13_2
   try clear hfz15_0
   try clear hfz15_1
   try clear hfz15_2
   try clear hfz17_0
   try clear hfz17_1
   try clear hfz17_2
   obtain ⟨x6_1, x20_1, rfl, HA, HK1, HO_6, BK580, BK581, BK582, HB⟩ := hrel
   cases gk with
   | zero => exact absurd HA.out (by simp [pack_Mul.l0])
   | succ k1 =>
    have H := HA.out
    clear HA
    simp only [pack_Mul.l0] at H
    by_cases c18 : x20_1 < (l1_2.length : Int)
    ·rw [if_pos c18] at H
     have c18b0 : decide (x20_1 < (l1_2.length : Int)) = true := decide_eq_true c18
     clear c18
     by_cases c19 : 0 ≤ x20_1
     ·rw [if_pos c19] at H
      have c19b0 : decide (0 ≤ x20_1) = true := decide_eq_true c19
      clear c19
      by_cases c20 : x20_1 < (l1_2.length : Int)
      ·rw [if_pos c20] at H
       have c20b0 : decide (x20_1 < (l1_2.length : Int)) = true := decide_eq_true c20
       clear c20
       by_cases c21 : x20_1 < (x6_1.length : Int)
       ·rw [if_pos c21] at H
        have c21b0 : decide (x20_1 < (x6_1.length : Int)) = true := decide_eq_true c21
        clear c21
        replace H := Option.bind_eq_some_iff.mp H
        obtain ⟨t589, A220, H⟩ := H
        replace H : (pack_Mul.l0 k1 (x6_1.set (x20_1 : Int).toNat t589) l1_2 (l1_2.length : Int) (wrap64 (x20_1 + 1)) a0_0 a0_1 l0_2) = some (r1, r2, r3, r4) := H
        have A22 := Aside0.mk A220
        clear A220
        obtain ⟨y590, hy590⟩ : ∃ y_ : List Int, y_ = (x6_1.set (x20_1 : Int).toNat t589) := ⟨_, rfl⟩
        replace H : (pack_Mul.l0 k1 y590 l1_2 (l1_2.length : Int) (wrap64 (x20_1 + 1)) a0_0 a0_1 l0_2) = some (r1, r2, r3, r4) := by first | (rw [hy590]; with_reducible exact H) | (have H2_ := (Option.bind_some _ _).symm.trans H; rw [hy590]; with_reducible exact H2_) | (have H2_ := (Option.bind_some _ _).symm.trans H; with_reducible exact H2_) | with_reducible exact H | (rw [hy590]; exact H) | exact H
        have Ny590 := Aside0.mk hy590
        clear hy590
        have H' := Aside0.mk H
        clear H
        have p587 : 0 ≤ (x20_1 : Int) := of_decide_eq_true (by first | (with_reducible assumption) | assumption)
        have q587 : x20_1 < (l1_2.length : Int) := of_decide_eq_true (by first | (with_reducible assumption) | assumption)
        obtain ⟨ad587, e587, hx587_0⟩ := Kd.at_int HR1_2.out x20_1 p587 q587
        cases e587
        replace hx587_0 := (HB.out.cell (World.block_lt_of_cell? w _ hx587_0)).trans hx587_0
        replace p587 := eq_true p587
        replace q587 := eq_true q587
        try go_wp2
        replace HO_6 := Aside0.mk (Kd.R_drew HO_6.out)
        replace BK580 := Aside0.mk (blk_drew BK580.out)
        replace BK581 := Aside0.mk (blk_drew BK581.out)
        replace BK582 := Aside0.mk (blk_drew BK582.out)
        replace HB := Aside0.mk (below_drew1 HB.out)
        obtain ⟨Ao25, co25, eo25⟩ := Kd.R_slice HO_6.out
        (first | subst eo25 | (injection eo25 with f1_ f2_ f3_; have f4_ := f1_.symm; have f5_ := f3_.symm; clear f1_ f2_ f3_; subst f4_; subst f5_))
        have p588 : 0 ≤ (x20_1 : Int) := of_decide_eq_true (by first | (with_reducible assumption) | assumption)
        have q588 : x20_1 < (x6_1.length : Int) := of_decide_eq_true (by first | (with_reducible assumption) | assumption)
        (try (obtain ⟨Ap_, cp_, ep_⟩ := Kd.R_slice HO_6.out; subst ep_))
        obtain ⟨ad588, e588, hx588_0⟩ := Kd.at_int (Kd.R_reads' HO_6.out).2.2 x20_1 p588 q588
        cases e588
        replace p588 := eq_true p588
        replace q588 := eq_true q588
        refine start_ (n := 12) (S := fun w' => w'.cell? ⟨gb580, 0, none⟩ = some (.int .i64 a0_0) ∧ w'.cell? ⟨gb580, 1, none⟩ = some (.int .i64 a0_1) ∧ w'.cell? ⟨gb580, 2, none⟩ = some (.slice A0_2 l0_2.length c0_2) ∧ w'.cell? (ad588.add (x20_1).toNat) = some (.int .u64 (rd x6_1 x20_1))) (ds := [11]) #[false, false, false, false, false, false, false, false, false, false, false, false] (by kernel_rfl) rfl rfl ⟨(blk_cell BK580.out 0).trans rfl, (blk_cell BK580.out 1).trans rfl, (blk_cell BK580.out 2).trans rfl, hx588_0⟩ (fun hHeld => ?_); refine with_tabW pack_Mul.tab7 pack_Mul.bits7 (fun HT_ HW_ => ?_)
        generalize wr.drew = w24 at HO_6 BK580 BK581 BK582 HB hx588_0 hHeld ⊢
        refine pure_ (i := 0) (N := some 25) (v := ?_) (a' := ?_) #[true, false, false, false, false, false, false, false, false, false, false, false] rfl rfl (any_of HT_.out (by kernel_rfl)) (fun _ _ _ h => h) (Or.inl ⟨by rfl, ?_⟩) ?_ ?_
        rotate_left
        ·intro w'
         go_simp
         with_reducible rfl
        rotate_left
        ·simp only [Act.put, List.setIfInBounds_toArray, List.set_cons_zero, List.set_cons_succ, i64_w, i32_w]
         rfl
        refine pure_ (i := 1) (N := some 26) (v := ?_) (a' := ?_) #[true, true, false, false, false, false, false, false, false, false, false, false] rfl rfl (any_of HT_.out (by kernel_rfl)) (fun _ _ _ h => h) (Or.inl ⟨by rfl, ?_⟩) ?_ ?_
        rotate_left
        ·intro w'
         go_simp
         with_reducible rfl
        rotate_left
        ·simp only [Act.put, List.setIfInBounds_toArray, List.set_cons_zero, List.set_cons_succ, i64_w, i32_w]
         rfl
        refine pure_ (i := 2) (N := some 27) (v := ?_) (a' := ?_) #[true, true, true, false, false, false, false, false, false, false, false, false] rfl rfl (any_of HT_.out (by kernel_rfl)) (fun _ _ _ h => h) (Or.inl ⟨by rfl, ?_⟩) ?_ ?_
        rotate_left
        ·intro w'
         go_simp
         with_reducible rfl
        rotate_left
        ·simp only [Act.put, List.setIfInBounds_toArray, List.set_cons_zero, List.set_cons_succ, i64_w, i32_w]
         rfl
        refine pure_ (i := 4) (N := some 29) (v := ?_) (a' := ?_) #[true, true, true, false, true, false, false, false, false, false, false, false] rfl rfl (any_of HT_.out (by kernel_rfl)) (fun _ _ _ h => h) (Or.inl ⟨by rfl, ?_⟩) ?_ ?_
        rotate_left
        ·intro w'
         go_simp
         with_reducible rfl
        rotate_left
        ·simp only [Act.put, List.setIfInBounds_toArray, List.set_cons_zero, List.set_cons_succ, i64_w, i32_w]
         rfl
        refine pure_ (i := 5) (N := some 30) (v := ?_) (a' := ?_) #[true, true, true, false, true, true, false, false, false, false, false, false] rfl rfl (any_of HT_.out (by kernel_rfl)) (fun _ _ _ h => h) (Or.inl ⟨by rfl, ?_⟩) ?_ ?_
        rotate_left
        ·intro w'
         go_simp
         with_reducible rfl
        rotate_left
        ·simp only [Act.put, List.setIfInBounds_toArray, List.set_cons_zero, List.set_cons_succ, i64_w, i32_w]
         rfl
        refine pure_ (i := 6) (N := some 31) (v := ?_) (a' := ?_) #[true, true, true, false, true, true, true, false, false, false, false, false] rfl rfl (any_of HT_.out (by kernel_rfl)) (fun _ _ _ h => h) (Or.inl ⟨by rfl, ?_⟩) ?_ ?_
        rotate_left
        ·intro w'
         go_simp
         with_reducible rfl
        rotate_left
        ·simp only [Act.put, List.setIfInBounds_toArray, List.set_cons_zero, List.set_cons_succ, i64_w, i32_w]
         rfl
        refine pure_ (i := 8) (N := some 33) (v := ?_) (a' := ?_) #[true, true, true, false, true, true, true, false, true, false, false, false] rfl rfl (any_of HT_.out (by kernel_rfl)) (fun _ _ _ h => h) (Or.inl ⟨by rfl, ?_⟩) ?_ ?_
        rotate_left
        ·intro w'
         go_simp
         with_reducible rfl
        rotate_left
        ·simp only [Act.put, List.setIfInBounds_toArray, List.set_cons_zero, List.set_cons_succ, i64_w, i32_w]
         rfl
        refine take_ (i := 3) (N := some 28) (v := ?_) (a' := ?_) #[true, true, true, true, true, true, true, false, true, false, false, false] rfl rfl (take_ofW HT_.out HW_.out (by kernel_rfl)) (fun _ _ _ h => h) (Or.inl ⟨by rfl, ?_⟩) hHeld ?_ ?_
        rotate_left
        ·rintro w' ⟨s0, s1, s2, s3⟩
         go_simp
         with_reducible rfl
        rotate_left
        ·simp only [Act.put, List.setIfInBounds_toArray, List.set_cons_zero, List.set_cons_succ, i64_w, i32_w]
         rfl
        refine take_ (i := 7) (N := some 32) (v := ?_) (a' := ?_) #[true, true, true, true, true, true, true, true, true, false, false, false] rfl rfl (take_ofW HT_.out HW_.out (by kernel_rfl)) (fun _ _ _ h => h) (Or.inl ⟨by rfl, ?_⟩) hHeld ?_ ?_
        rotate_left
        ·rintro w' ⟨s0, s1, s2, s3⟩
         go_simp
         with_reducible rfl
        rotate_left
        ·simp only [Act.put, List.setIfInBounds_toArray, List.set_cons_zero, List.set_cons_succ, i64_w, i32_w]
         rfl
        refine one_ (i := 9) (N := some 34) #[true, true, true, true, true, true, true, true, true, true, false, false] rfl rfl (one_of HT_.out (by kernel_rfl)) (by decide) (fun K hK => ?_)
        refine goes_ Try.func51 (by kernel_rfl) rfl #[.int .i64 a0_0, .int .u64 (rd x6_1 x20_1), .int .u64 (rd l1_2 x20_1)] (by rfl) rfl rfl (by (try simp only [List.map_toArray, List.map_cons, List.map_nil]); first | done | rfl | (simp only [List.length_drop, List.length_take]; rfl)) ?_
        with_reducible refine (pack_times.calls k1 a0_0 (rd x6_1 x20_1) (rd l1_2 x20_1) t589 _ A22.out).mono ?_
        rintro e w' ⟨rfl, ⟨nd, rfl⟩⟩
        refine ⟨_, rfl, ?_⟩
        have p23 : 0 ≤ (x20_1 : Int) := of_decide_eq_true (by first | (with_reducible assumption) | assumption)
        have q23 : (x20_1 : Int) < ((x6_1.length : Int) : Int) := of_decide_eq_true (by first | (with_reducible assumption) | assumption)
        obtain ⟨go23, co23, eo23, gb23, gl23, cl23, HG23⟩ := Kd.R_form HO_6.out (by omega)
        (first | cases eo23 | (injection eo23 with ea_ en_ ec_; (first | subst ea_ | (injection ea_ with ea_; subst ea_)); subst ec_; clear en_))
        have GB23 := Aside0.mk gb23
        have GG23 := Aside0.mk HG23
        clear gb23 gl23 HG23
        (first | simp only [add_plain] at hx588_0 | skip)
        obtain ⟨hx23_0, hf23_0⟩ := Kd.R_celln 0 HO_6.out (x20_1 : Int) p23 q23
        replace p23 := eq_true p23
        replace q23 := eq_true q23
        have HP26 := Kd.R_putn HO_6.out (x20_1 : Int) t589
        rw [← Ny590.out] at HP26
        have HQ26 := Aside0.mk HP26
        clear HP26
        refine hK.out _ _ ⟨(blk_cell BK580.out 0).trans rfl, (blk_cell BK580.out 1).trans rfl, (blk_cell BK580.out 2).trans rfl, hHeld.2.2.2⟩ (fun hHeld => ?_)
        clear hK K
        refine norm_ (a' := ?_) ?_ ?_
        rotate_left
        ·show Act.put _ (some 34) _ = _
         simp only [Act.put, List.setIfInBounds_toArray, List.set_cons_zero, List.set_cons_succ, i64_w, i32_w]
         rfl
        refine pure_ (i := 10) (N := some 35) (v := ?_) (a' := ?_) #[true, true, true, true, true, true, true, true, true, true, true, false] rfl rfl (any_of HT_.out (by kernel_rfl)) (fun _ _ _ h => h) (Or.inl ⟨by rfl, ?_⟩) ?_ ?_
        rotate_left
        ·intro w'
         go_simp
         with_reducible rfl
        rotate_left
        ·simp only [Act.put, List.setIfInBounds_toArray, List.set_cons_zero, List.set_cons_succ, i64_w, i32_w]
         rfl
        refine last_ (i := 11) (N := none) #[true, true, true, true, true, true, true, true, true, true, true, true] rfl rfl (one_of HT_.out (by kernel_rfl)) (by decide) (fun K hK => ?_)
        refine skip_ (w1 := ?_) (by rfl) rfl ?_ ?_
        rotate_left
        ·go_simp
         rfl
        refine hK.out _ _ ?_
        clear hK K
        refine done_ (done_of HT_.out (by kernel_rfl)) ?_
        try go_wp2
        go_roundg k1
        case measure => have := HK1.out; omega
        case rel => exact ⟨(y590), (wrap64 (x20_1 + 1)), (by first | rfl | (simp; done) | (simp [*]; done)), H', ⟨by have := HK1.out; omega⟩, ⟨by (with_reducible repeat refine kl ?_); exact HQ26.out⟩, ⟨by (with_reducible repeat refine bl ?_); refine blk_far ?_ (by have h_ := Kd.R_ne HO_6.out BK580.out (by decide); intro e_; exact h_ (by rw [e_]; rfl)) _; (with_reducible repeat refine bl ?_); exact BK580.out⟩, ⟨by (with_reducible repeat refine bl ?_); refine blk_far ?_ (by have h_ := Kd.R_ne HO_6.out BK581.out (by decide); intro e_; exact h_ (by rw [e_]; rfl)) _; (with_reducible repeat refine bl ?_); exact BK581.out⟩, ⟨by (with_reducible repeat refine bl ?_); refine blk_far ?_ (by have h_ := Kd.R_ne HO_6.out BK582.out (by decide); intro e_; exact h_ (by rw [e_]; rfl)) _; (with_reducible repeat refine bl ?_); exact BK582.out⟩, ⟨by repeat (first | (with_reducible first | exact HB.out | apply below_alloc | apply pw_below_drewN | apply below_drew1 | refine below_set ?_ GB23.out | refine below_set ?_ GE580.out | refine below_set ?_ GE581.out | refine below_set ?_ GE582.out) | exact HB.out)⟩⟩
       ·rw [if_neg c21] at H
        exact absurd H (by simp)
      ·rw [if_neg c20] at H
       exact absurd H (by simp)
     ·rw [if_neg c19] at H
      exact absurd H (by simp)
    ·rw [if_neg c18] at H
     have c18b0 : decide (x20_1 < (l1_2.length : Int)) = false := decide_eq_false c18
     clear c18
     replace H := Option.bind_eq_some_iff.mp H
     obtain ⟨⟨t591, t592, t593⟩, A270, H⟩ := H
     replace H : (some (t591, t592, t593, 0)) = some (r1, r2, r3, r4) := H
     have A27 := Aside0.mk A270
     clear A270
     simp only [Option.some.injEq, Prod.mk.injEq] at H
     obtain ⟨rfl, rfl, rfl, rfl⟩ := H
     have hnb28 := NB580_581.out
     have hnc28 := NB581_580.out
     have hnb29 := NB580_582.out
     have hnc29 := NB582_580.out
     obtain ⟨hcz30_0, hcz30_1, hcz30_2⟩ := zc3 BK580
     obtain ⟨hfz30_0, hfz30_1, hfz30_2⟩ := zf3 BK580
     obtain ⟨Ao31, co31, eo31⟩ := Kd.R_slice HO_6.out
     subst eo31
     go_wp2_with (first | ((with_reducible refine gate_callee (f := 40) rfl ?_); refine goesL_ (some 42) rfl rfl Try.func40 (by kernel_rfl) rfl #[.int .i64 a0_0, .int .i64 a0_1, .slice Ao31 x6_1.length co31] rfl (by (try simp only [List.map_toArray, List.map_cons, List.map_nil]); first | done | rfl | (simp only [List.length_drop, List.length_take]; rfl)) ?_; (with_reducible refine (pack_vec.calls a0_0 a0_1 (fun k_ => some k_ = (.slice Ao31 x6_1.length co31 : Value).ownBlock) (.slice Ao31 x6_1.length co31) x6_1 t591 t592 t593 w _ ?side1 ?side2 A27.out).mono ?_); (case side1 => repeat (first | (with_reducible first | exact HB.out | apply below_alloc | apply pw_below_drewN | apply below_drew1 | refine below_set ?_ GE580.out | refine below_set ?_ GE581.out | refine below_set ?_ GE582.out) | exact HB.out)); (case side2 => exact Kd.R_tight rfl HO_6.out); rintro e w32 ⟨v594, rfl, ho0, hb, hkp⟩; refine ⟨_, rfl, ?_⟩; have HO595 := Aside0.mk (Kd.R_mono (ok' := fun k_ => True) ho0 (fun k_ hk_ => trivial)); replace BK580 := Aside0.mk (blk_kept (bk BK580.out) hkp (fun hs_ => (fun e_ => (Kd.R_ne HO_6.out BK580.out (by decide)) e_) hs_)); replace BK581 := Aside0.mk (blk_kept (bk BK581.out) hkp (fun hs_ => (fun e_ => (Kd.R_ne HO_6.out BK581.out (by decide)) e_) hs_)); replace BK582 := Aside0.mk (blk_kept (bk BK582.out) hkp (fun hs_ => (fun e_ => (Kd.R_ne HO_6.out BK582.out (by decide)) e_) hs_)); replace HB := Aside0.mk hb; clear HO_6; (try clear hb); (try clear hkp); (try clear ho0); have hnb33 := NB582_581.out; have hnc33 := NB581_582.out; obtain ⟨hcz34_0, hcz34_1, hcz34_2⟩ := zc3 BK582; obtain ⟨hfz34_0, hfz34_1, hfz34_2⟩ := zf3 BK582; obtain ⟨Ao35, co35, eo35⟩ := Kd.R_slice HO595.out; subst eo35))
     refine bodyPost_ret (results_ct rfl _ _ gb582 31 #[.int .i64 t591, .int .i64 t592, .slice Ao35 t593.length co35] (0, 0) _ rfl (by (with_reducible repeat refine bl ?_); refine blk_put (cs := #[.int .i64 t591, .int .i64 t592, .slice none 0 0]) ?_ 2 _ rfl; (with_reducible repeat refine bl ?_); refine blk_put (cs := #[.int .i64 t591, .int .i64 0, .slice none 0 0]) ?_ 1 _ rfl; (with_reducible repeat refine bl ?_); refine blk_put (cs := #[.int .i64 0, .int .i64 0, .slice none 0 0]) ?_ 0 _ rfl; (with_reducible repeat refine bl ?_); exact BK582.out) Try.underlying31 rfl (by kernel_rfl)) rfl ?_
     exact ⟨_, by first | rfl | (simp [errW_none, errW_some] <;> rfl) | (simp [*, errW_none, errW_some] <;> rfl), by (with_reducible repeat refine kl ?_); exact Kd.R_mono (Kd.R_far (p := ⟨gb582, 2, none⟩) (Kd.R_far (p := ⟨gb582, 1, none⟩) (Kd.R_far (p := ⟨gb582, 0, none⟩) (Kd.R_types HO595.out BK582.out (by decide)) (fun _ hk => hk.2) (.int .i64 t591)) (fun _ hk => hk.2) (.int .i64 t592)) (fun _ hk => hk.2) (.slice Ao35 t593.length co35)) (fun _ hk => trivial), bq HB.out⟩
 ·replace c4 := Bool.eq_false_iff.mpr c4
  subst c4
  have H1 : (some (0, 0, ([] : List Int), 6)) = some (r1, r2, r3, r4) := by rw [if_neg (show ¬ (false = true) by decide)] at H; exact H
  clear H
  have H := H1
  clear H1
  simp only [Option.some.injEq, Prod.mk.injEq] at H
  obtain ⟨rfl, rfl, rfl, rfl⟩ := H
  go_enter Try.func28, Try.ntmps28
  go_wp2_with (first | ((with_reducible refine gate_dst (N := 2) rfl ?_); refine box_event ?hg (N := 2) ?hd (cs := #[.int .i64 a0_0, .int .i64 a0_1, .slice A0_2 l0_2.length c0_2]) (t := 31) ?hr ?_; (case hd => rfl); (case hg => rfl); (case hr => first | (go_simp; done) | (go_simp; rfl)); intro gb580 hg w36 hbox hb; have BK580 := Aside0.mk hbox; have GW580 := ge hg HB; have GE580 := ge hg HB; replace HB := bh HB hb; clear hb hbox hg) | ((with_reducible refine gate_dst (N := 3) rfl ?_); refine box_event ?hg (N := 3) ?hd (cs := #[.int .i64 a1_0, .int .i64 a1_1, .slice A1_2 l1_2.length c1_2]) (t := 31) ?hr ?_; (case hd => rfl); (case hg => rfl); (case hr => first | (go_simp; done) | (go_simp; rfl)); intro gb581 hg w37 hbox hb; have BK581 := Aside0.mk hbox; have GW581 := ge hg HB; have GE581 := ge hg HB; have NB580_581 := nl hg BK580; have NB581_580 := ng hg BK580; replace BK580 := bb BK580 hb; replace HB := bh HB hb; clear hb hbox hg) | ((with_reducible refine gate_dst (N := 4) rfl ?_); refine box_event ?hg (N := 4) ?hd (cs := #[.int .i64 0, .int .i64 0, .slice none 0 0]) (t := 31) ?hr ?_; (case hd => rfl); (case hg => rfl); (case hr => first | (go_simp; done) | (go_simp; rfl)); intro gb582 hg w38 hbox hb; have BK582 := Aside0.mk hbox; have GW582 := ge hg HB; have GE582 := ge hg HB; have NB580_582 := nl hg BK580; have NB582_580 := ng hg BK580; have NB581_582 := nl hg BK581; have NB582_581 := ng hg BK581; replace BK580 := bb BK580 hb; replace BK581 := bb BK581 hb; replace HB := bh HB hb; clear hb hbox hg; have hnb39 := NB580_581.out; have hnc39 := NB581_580.out; have hnb40 := NB580_582.out; have hnc40 := NB582_580.out; obtain ⟨hcz41_0, hcz41_1, hcz41_2⟩ := zc3 BK580; obtain ⟨hfz41_0, hfz41_1, hfz41_2⟩ := zf3 BK580; have hnb42 := NB581_582.out; have hnc42 := NB582_581.out; obtain ⟨hcz43_0, hcz43_1, hcz43_2⟩ := zc3 BK581; obtain ⟨hfz43_0, hfz43_1, hfz43_2⟩ := zf3 BK581) | ((with_reducible refine gate_callee (f := 48) rfl ?_); refine goesL_ (some 11) rfl rfl Try.func48 (by kernel_rfl) rfl #[.agg #[.int .i64 a0_0, .int .i64 a0_1, .slice A0_2 l0_2.length c0_2], .agg #[.int .i64 a1_0, .int .i64 a1_1, .slice A1_2 l1_2.length c1_2]] rfl (by (try simp only [List.map_toArray, List.map_cons, List.map_nil]); first | done | rfl | (simp only [List.length_drop, List.length_take]; rfl)) ?_; (with_reducible refine (pack_alike.calls a0_0 a0_1 _ _ l0_2 a1_0 a1_1 _ _ l1_2 false _ ?side1 ?side2 ?side3 ?side4 A3.out).mono ?_); (case side1 => repeat (first | exact (Kd.C_below HR0_2.out HB.out) | (with_reducible refine Kd.C_alloc ?_ _) | (with_reducible refine Kd.C_drewN ?_ _) | (with_reducible refine Kd.C_drew ?_))); (case side2 => exact HC0_2.out); (case side3 => repeat (first | exact (Kd.C_below HR1_2.out HB.out) | (with_reducible refine Kd.C_alloc ?_ _) | (with_reducible refine Kd.C_drewN ?_ _) | (with_reducible refine Kd.C_drew ?_))); (case side4 => exact HC1_2.out); rintro e w44 ⟨rfl, hb⟩; refine ⟨_, rfl, ?_⟩; replace BK580 := bb BK580 hb; replace BK581 := bb BK581 hb; replace BK582 := bb BK582 hb; replace HB := bh HB hb; (try clear hb); (try clear hb2); (try clear hk); (try clear hi); obtain ⟨hcz45_0, hcz45_1, hcz45_2⟩ := zc3 BK582; obtain ⟨hfz45_0, hfz45_1, hfz45_2⟩ := zf3 BK582))
  refine bodyPost_ret (results_ct rfl _ _ gb582 31 #[.int .i64 0, .int .i64 0, .slice none 0 0] (0, 0) _ rfl (by (with_reducible repeat refine bl ?_); refine blk_put (cs := #[.int .i64 0, .int .i64 0, .slice none 0 0]) ?_ 2 _ rfl; (with_reducible repeat refine bl ?_); refine blk_put (cs := #[.int .i64 0, .int .i64 0, .slice none 0 0]) ?_ 1 _ rfl; (with_reducible repeat refine bl ?_); refine blk_put (cs := #[.int .i64 0, .int .i64 0, .slice none 0 0]) ?_ 0 _ rfl; (with_reducible repeat refine bl ?_); exact BK582.out) Try.underlying31 rfl (by kernel_rfl)) rfl ?_
  exact ⟨_, by first | rfl | (simp [errW_none, errW_some] <;> rfl) | (simp [*, errW_none, errW_some] <;> rfl), by first | exact Kd.R_nil _ _ _ _ _ | exact Kd.N_nil _ _ _ _ _ | exact Kd.V_nil _ _ _ _ _ | exact Kd.Q_nil _ _ _ _ _ | exact Kd.S_nil _ _ _ _ _, bq HB.out⟩

/-! ### tower_Add: function 57 -/
def tower_Add.f (a0_0 : Int) (a0_1 : Int) (a1_0 : Int) (a1_1 : Int) : Option (Int × Int) := some (Go.bits .xor .u64 a0_0 a1_0, Go.bits .xor .u64 a0_1 a1_1)
set_option maxHeartbeats 8000000 in
set_option maxRecDepth 100000 in
theorem tower_Add.calls (a0_0 : Int) (a0_1 : Int) (a1_0 : Int) (a1_1 : Int) (r1 : Int) (r2 : Int) (w : World) (h : tower_Add.f a0_0 a0_1 a1_0 a1_1 = some (r1, r2)) :
  Calls Try.prog 57 #[.agg #[.int .u64 a0_0, .int .u64 a0_1], .agg #[.int .u64 a1_0, .int .u64 a1_1]] w fun e w' => e = .returned (.agg #[.int .u64 r1, .int .u64 r2]) ∧ Below w.heap.size w w' := by
 have hu25 := Try.underlying25
 have HB := Aside0.mk (Below.refl w.heap.size w)
 have H : (some (Go.bits .xor .u64 a0_0 a1_0, Go.bits .xor .u64 a0_1 a1_1)) = some (r1, r2) := h
 clear h
 simp only [Option.some.injEq, Prod.mk.injEq] at H
 obtain ⟨rfl, rfl⟩ := H
 go_enter Try.func57, Try.ntmps57
 go_wp2_with (first | ((with_reducible refine gate_dst (N := 2) rfl ?_); refine box_event ?hg (N := 2) ?hd (cs := #[.int .u64 a0_0, .int .u64 a0_1]) (t := 25) ?hr ?_; (case hd => rfl); (case hg => rfl); (case hr => first | (go_simp; done) | (go_simp; rfl)); intro gb596 hg w3 hbox hb; have BK596 := Aside0.mk hbox; have GW596 := ge hg HB; have GE596 := ge hg HB; replace HB := bh HB hb; clear hb hbox hg) | ((with_reducible refine gate_dst (N := 3) rfl ?_); refine box_event ?hg (N := 3) ?hd (cs := #[.int .u64 a1_0, .int .u64 a1_1]) (t := 25) ?hr ?_; (case hd => rfl); (case hg => rfl); (case hr => first | (go_simp; done) | (go_simp; rfl)); intro gb597 hg w4 hbox hb; have BK597 := Aside0.mk hbox; have GW597 := ge hg HB; have GE597 := ge hg HB; have NB596_597 := nl hg BK596; have NB597_596 := ng hg BK596; replace BK596 := bb BK596 hb; replace HB := bh HB hb; clear hb hbox hg) | ((with_reducible refine gate_dst (N := 4) rfl ?_); refine box_event ?hg (N := 4) ?hd (cs := #[.int .u64 0, .int .u64 0]) (t := 25) ?hr ?_; (case hd => rfl); (case hg => rfl); (case hr => first | (go_simp; done) | (go_simp; rfl)); intro gb598 hg w5 hbox hb; have BK598 := Aside0.mk hbox; have GW598 := ge hg HB; have GE598 := ge hg HB; have NB596_598 := nl hg BK596; have NB598_596 := ng hg BK596; have NB597_598 := nl hg BK597; have NB598_597 := ng hg BK597; replace BK596 := bb BK596 hb; replace BK597 := bb BK597 hb; replace HB := bh HB hb; clear hb hbox hg; have hnb6 := NB596_597.out; have hnc6 := NB597_596.out; have hnb7 := NB596_598.out; have hnc7 := NB598_596.out; obtain ⟨hcz8_0, hcz8_1⟩ := zc2 BK596; obtain ⟨hfz8_0, hfz8_1⟩ := zf2 BK596; have hnb9 := NB597_598.out; have hnc9 := NB598_597.out; obtain ⟨hcz10_0, hcz10_1⟩ := zc2 BK597; obtain ⟨hfz10_0, hfz10_1⟩ := zf2 BK597; obtain ⟨hcz11_0, hcz11_1⟩ := zc2 BK598; obtain ⟨hfz11_0, hfz11_1⟩ := zf2 BK598))
 refine bodyPost_ret (results_cell_row rfl _ _ gb598 25 #[.int .u64 (Go.bits .xor .u64 a0_0 a1_0), .int .u64 (Go.bits .xor .u64 a0_1 a1_1)] (0, 0) _ rfl (by (with_reducible repeat refine bl ?_); refine blk_put (cs := #[.int .u64 (Go.bits .xor .u64 a0_0 a1_0), .int .u64 0]) ?_ 1 _ rfl; (with_reducible repeat refine bl ?_); refine blk_put (cs := #[.int .u64 0, .int .u64 0]) ?_ 0 _ rfl; (with_reducible repeat refine bl ?_); exact BK598.out) Try.underlying25 rfl (by kernel_rfl)) rfl ?_
 exact ⟨by first | rfl | (simp [errW_none, errW_some] <;> rfl) | (simp [*, errW_none, errW_some] <;> rfl), bq HB.out⟩

/-! ### tower_Sum: function 52 -/
def tower_Sum.l0 : Nat → List (S25) → Int → Int → Int → Int → Option (Int × Int)
 | 0, _, _, _, _, _ => none
 | k + 1, x6, x7, x8, x601000, x601001 => if x8 < x7 then (if 0 ≤ x8 then (if x8 < (x6.length : Int) then ((tower_Add.f x601000 x601001 ((rd_T25 x6 x8).f0) ((rd_T25 x6 x8).f1)).bind fun bt603 => (tower_Sum.l0 k x6 x7 (wrap64 (x8 + 1)) bt603.1 bt603.2)) else (none)) else (none)) else (some (x601000, x601001))
def tower_Sum.f (k : Nat) (l0 : List (S25)) : Option (Int × Int) := tower_Sum.l0 k l0 (l0.length : Int) 0 0 0
theorem tower_Sum.mono_l : ∀ k, (∀ y0 y1 y2 y3 y4, LeO (tower_Sum.l0 k y0 y1 y2 y3 y4) (tower_Sum.l0 (k + 1) y0 y1 y2 y3 y4))
 | 0 => fun _ _ _ _ _ r h => by simp [tower_Sum.l0] at h
 | k + 1 => by
  have ih0 := tower_Sum.mono_l k
  ·intro y0 y1 y2 y3 y4
   unfold tower_Sum.l0
   repeat' first
   | (with_reducible exact ih0 _ _ _ _ _)
   | (with_reducible exact LeO.refl _)
   | (with_reducible exact LeO.none _)
   | (with_reducible refine LeO.ite ?_ ?_)
   | (with_reducible refine LeO.bind ?_ (fun _ => ?_))
   | exact ih0 _ _ _ _ _
   | exact LeO.none _
   | refine LeO.ite ?_ ?_
   | refine LeO.bind ?_ (fun _ => ?_)
theorem tower_Sum.mono : ∀ a0 k, LeO (tower_Sum.f k a0) (tower_Sum.f (k + 1) a0) := by
 intro a0 k
 have ih0 := tower_Sum.mono_l k
 unfold tower_Sum.f
 repeat' first
   | (with_reducible exact ih0 _ _ _ _ _)
   | (with_reducible exact LeO.refl _)
   | (with_reducible exact LeO.none _)
   | (with_reducible refine LeO.ite ?_ ?_)
   | (with_reducible refine LeO.bind ?_ (fun _ => ?_))
   | exact ih0 _ _ _ _ _
   | exact LeO.none _
   | refine LeO.ite ?_ ?_
   | refine LeO.bind ?_ (fun _ => ?_)
set_option maxHeartbeats 8000000 in
set_option maxRecDepth 100000 in
theorem tower_Sum.calls (k : Nat) (A0 : Option Addr) (c0 : Nat) (l0 : List (S25)) (r1 : Int) (r2 : Int) (w : World) (hr0 : Kd.C k25 w A0 l0.length l0) (hc0 : l0.length ≤ c0) (h : tower_Sum.f k l0 = some (r1, r2)) :
  Calls Try.prog 52 #[.slice A0 l0.length c0] w fun e w' => e = .returned (.agg #[.int .u64 r1, .int .u64 r2]) ∧ Below w.heap.size w w' := by
 have hu25 := Try.underlying25
 have HR0 := Aside0.mk hr0
 have HC0 := Aside0.mk hc0
 clear hr0 hc0
 have HB := Aside0.mk (Below.refl w.heap.size w)
 have H : (tower_Sum.l0 k l0 (l0.length : Int) 0 0 0) = some (r1, r2) := h
 clear h
 have H' := Aside0.mk H
 clear H
 go_enter Try.func52, Try.ntmps52
 go_wp2_with (first | ((with_reducible refine gate_dst (N := 2) rfl ?_); refine box_event ?hg (N := 2) ?hd (cs := #[.int .u64 0, .int .u64 0]) (t := 25) ?hr ?_; (case hd => rfl); (case hg => rfl); (case hr => first | (go_simp; done) | (go_simp; rfl)); intro gb599 hg w2 hbox hb; have BK599 := Aside0.mk hbox; have GW599 := ge hg HB; have GE599 := ge hg HB; replace HB := bh HB hb; clear hb hbox hg) | ((with_reducible refine gate_dst (N := 3) rfl ?_); refine box_event ?hg (N := 3) ?hd (cs := #[.int .u64 0, .int .u64 0]) (t := 25) ?hr ?_; (case hd => rfl); (case hg => rfl); (case hr => first | (go_simp; done) | (go_simp; rfl)); intro gb600 hg w3 hbox hb; have BK600 := Aside0.mk hbox; have GW600 := ge hg HB; have GE600 := ge hg HB; have NB599_600 := nl hg BK599; have NB600_599 := ng hg BK599; replace BK599 := bb BK599 hb; replace HB := bh HB hb; clear hb hbox hg))
 go_loopg [8] k (fun kq v8 w' => ∃ (x8_1 : Int) (x601000_1 : Int) (x601001_1 : Int), v8 = .int .i64 x8_1 ∧ Aside0 (tower_Sum.l0 kq l0 (l0.length : Int) x8_1 x601000_1 x601001_1 = some (r1, r2)) ∧ Aside0 (kq ≤ k) ∧ Aside0 (w'.heap[gb599]? = some (.cells #[.int .u64 0, .int .u64 0] 25 (0, 0))) ∧ Aside0 (w'.heap[gb600]? = some (.cells #[.int .u64 x601000_1, .int .u64 x601001_1] 25 (0, 0))) ∧ Aside0 (Below w.heap.size w w'))
 case atStart => exact ⟨(0), (0), (0), (by first | rfl | (simp; done) | (simp [*]; done)), H', ⟨Nat.le_refl _⟩, ⟨bk BK599.out⟩, ⟨bk BK600.out⟩, ⟨bq HB.out⟩⟩
 case round =>
  clear H'
  try clear p2
  obtain ⟨x8_1, x601000_1, x601001_1, rfl, HA, HK1, BK599, BK600, HB⟩ := hrel
  cases gk with
  | zero => exact absurd HA.out (by simp [tower_Sum.l0])
  | succ k1 =>
   have H := HA.out
   clear HA
   simp only [tower_Sum.l0] at H
   by_cases c4 : x8_1 < (l0.length : Int)
   ·rw [if_pos c4] at H
    have c4b0 : decide (x8_1 < (l0.length : Int)) = true := decide_eq_true c4
    clear c4
    by_cases c5 : 0 ≤ x8_1
    ·rw [if_pos c5] at H
     have c5b0 : decide (0 ≤ x8_1) = true := decide_eq_true c5
     clear c5
     by_cases c6 : x8_1 < (l0.length : Int)
     ·rw [if_pos c6] at H
      have c6b0 : decide (x8_1 < (l0.length : Int)) = true := decide_eq_true c6
      clear c6
      replace H := Option.bind_eq_some_iff.mp H
      obtain ⟨⟨t603, t604⟩, A70, H⟩ := H
      replace H : (tower_Sum.l0 k1 l0 (l0.length : Int) (wrap64 (x8_1 + 1)) t603 t604) = some (r1, r2) := H
      have A7 := Aside0.mk A70
      clear A70
      have H' := Aside0.mk H
      clear H
      have p601 : 0 ≤ (x8_1 : Int) := of_decide_eq_true (by first | (with_reducible assumption) | assumption)
      have q601 : x8_1 < (l0.length : Int) := of_decide_eq_true (by first | (with_reducible assumption) | assumption)
      obtain ⟨ad601, e601, hx601_0, hx601_1⟩ := at_T25 HR0.out x8_1 p601 q601
      cases e601
      replace hx601_0 := (HB.out.cell (World.block_lt_of_cell? w _ hx601_0)).trans hx601_0
      replace hx601_1 := (HB.out.cell (World.block_lt_of_cell? w _ hx601_1)).trans hx601_1
      replace p601 := eq_true p601
      replace q601 := eq_true q601
      go_wp2_with (first | ((with_reducible refine gate_dst (N := 5) rfl ?_); refine box_event ?hg (N := 5) ?hd (cs := #[.int .u64 0, .int .u64 0]) (t := 25) ?hr ?_; (case hd => rfl); (case hg => rfl); (case hr => first | (go_simp; done) | (go_simp; rfl)); intro gb602 hg w8 hbox hb; have BK602 := Aside0.mk hbox; have GW602 := ge hg HB; have GE602 := ge hg HB; have NB599_602 := nl hg BK599; have NB602_599 := ng hg BK599; have NB600_602 := nl hg BK600; have NB602_600 := ng hg BK600; replace BK599 := bb BK599 hb; replace BK600 := bb BK600 hb; replace HB := bh HB hb; clear hb hbox hg; have hnb9 := NB602_599.out; have hnc9 := NB599_602.out; have hnb10 := NB602_600.out; have hnc10 := NB600_602.out; obtain ⟨hcz11_0, hcz11_1⟩ := zc2 BK602; obtain ⟨hfz11_0, hfz11_1⟩ := zf2 BK602; have hnb12 := NB600_599.out; have hnc12 := NB599_600.out; obtain ⟨hcz13_0, hcz13_1⟩ := zc2 BK600; obtain ⟨hfz13_0, hfz13_1⟩ := zf2 BK600) | ((with_reducible refine gate_callee (f := 57) rfl ?_); refine goesL_ (some 14) rfl rfl Try.func57 (by kernel_rfl) rfl #[.agg #[.int .u64 x601000_1, .int .u64 x601001_1], .agg #[.int .u64 ((rd_T25 l0 x8_1).f0), .int .u64 ((rd_T25 l0 x8_1).f1)]] rfl (by (try simp only [List.map_toArray, List.map_cons, List.map_nil]); first | done | rfl | (simp only [List.length_drop, List.length_take]; rfl)) ?_; (with_reducible refine (tower_Add.calls x601000_1 x601001_1 ((rd_T25 l0 x8_1).f0) ((rd_T25 l0 x8_1).f1) t603 t604 _ A7.out).mono ?_); rintro e w14 ⟨rfl, hb⟩; refine ⟨_, rfl, ?_⟩; replace BK599 := Aside0.mk (blk_below (g := gb599) (o := .cells #[.int .u64 0, .int .u64 0] 25 (0, 0)) (by (with_reducible repeat refine bl ?_); refine blk_far ?_ NB599_602.out _; (with_reducible repeat refine bl ?_); refine blk_far ?_ NB599_602.out _; (with_reducible repeat refine bl ?_); exact BK599.out) hb); replace BK600 := Aside0.mk (blk_below (g := gb600) (o := .cells #[.int .u64 x601000_1, .int .u64 x601001_1] 25 (0, 0)) (by (with_reducible repeat refine bl ?_); refine blk_far ?_ NB600_602.out _; (with_reducible repeat refine bl ?_); refine blk_far ?_ NB600_602.out _; (with_reducible repeat refine bl ?_); exact BK600.out) hb); replace BK602 := Aside0.mk (blk_below (g := gb602) (o := .cells #[.int .u64 ((rd_T25 l0 x8_1).f0), .int .u64 ((rd_T25 l0 x8_1).f1)] 25 (0, 0)) (by (with_reducible repeat refine bl ?_); refine blk_put (cs := #[.int .u64 ((rd_T25 l0 x8_1).f0), .int .u64 0]) ?_ 1 _ rfl; (with_reducible repeat refine bl ?_); refine blk_put (cs := #[.int .u64 0, .int .u64 0]) ?_ 0 _ rfl; (with_reducible repeat refine bl ?_); exact BK602.out) hb); replace HB := bh HB hb; (try clear hb); (try clear hb2); (try clear hk); (try clear hi); obtain ⟨hcz15_0, hcz15_1⟩ := zc2 BK600; obtain ⟨hfz15_0, hfz15_1⟩ := zf2 BK600))
      go_roundg k1
      case measure => have := HK1.out; omega
      case rel => exact ⟨(wrap64 (x8_1 + 1)), (t603), (t604), (by first | rfl | (simp; done) | (simp [*]; done)), H', ⟨by have := HK1.out; omega⟩, ⟨by (with_reducible repeat refine bl ?_); refine blk_far ?_ NB599_600.out _; (with_reducible repeat refine bl ?_); refine blk_far ?_ NB599_600.out _; (with_reducible repeat refine bl ?_); exact BK599.out⟩, ⟨by (with_reducible repeat refine bl ?_); refine blk_put (cs := #[.int .u64 t603, .int .u64 x601001_1]) ?_ 1 _ rfl; (with_reducible repeat refine bl ?_); refine blk_put (cs := #[.int .u64 x601000_1, .int .u64 x601001_1]) ?_ 0 _ rfl; (with_reducible repeat refine bl ?_); exact BK600.out⟩, ⟨bq HB.out⟩⟩
     ·rw [if_neg c6] at H
      exact absurd H (by simp)
    ·rw [if_neg c5] at H
     exact absurd H (by simp)
   ·rw [if_neg c4] at H
    have c4b0 : decide (x8_1 < (l0.length : Int)) = false := decide_eq_false c4
    clear c4
    simp only [Option.some.injEq, Prod.mk.injEq] at H
    obtain ⟨rfl, rfl⟩ := H
    have hnb16 := NB600_599.out
    have hnc16 := NB599_600.out
    obtain ⟨hcz17_0, hcz17_1⟩ := zc2 BK600
    obtain ⟨hfz17_0, hfz17_1⟩ := zf2 BK600
    obtain ⟨hcz18_0, hcz18_1⟩ := zc2 BK599
    obtain ⟨hfz18_0, hfz18_1⟩ := zf2 BK599
    go_wp2
    refine bodyPost_ret (results_cell_row rfl _ _ gb599 25 #[.int .u64 x601000_1, .int .u64 x601001_1] (0, 0) _ rfl (by (with_reducible repeat refine bl ?_); refine blk_put (cs := #[.int .u64 x601000_1, .int .u64 0]) ?_ 1 _ rfl; (with_reducible repeat refine bl ?_); refine blk_put (cs := #[.int .u64 0, .int .u64 0]) ?_ 0 _ rfl; (with_reducible repeat refine bl ?_); exact BK599.out) Try.underlying25 rfl (by kernel_rfl)) rfl ?_
    exact ⟨by first | rfl | (simp [errW_none, errW_some] <;> rfl) | (simp [*, errW_none, errW_some] <;> rfl), bq HB.out⟩

/-! ### pack_Dot: function 29 -/
def pack_Dot.f (k : Nat) (a0_0 : Int) (a0_1 : Int) (l0_2 : List Int) (a1_0 : Int) (a1_1 : Int) (l1_2 : List Int) : Option (Int × Int × Int) := (pack_Mul.f k a0_0 a0_1 l0_2 a1_0 a1_1 l1_2).bind fun bt608 => (if bt608.2.2.2 = 0 then ((pack_Vec_Elems.f k bt608.1 bt608.2.1 bt608.2.2.1).bind fun t615 => ((tower_Sum.f k t615).bind fun bt618 => (some (bt618.1, bt618.2, 0)))) else (some (0, 0, bt608.2.2.2)))
theorem pack_Dot.mono : ∀ a0 a1 a2 a3 a4 a5 k, LeO (pack_Dot.f k a0 a1 a2 a3 a4 a5) (pack_Dot.f (k + 1) a0 a1 a2 a3 a4 a5) := by
 intro a0 a1 a2 a3 a4 a5 k
 unfold pack_Dot.f
 repeat' first
   | (with_reducible exact pack_Mul.mono _ _ _ _ _ _ _)
   | (with_reducible exact pack_Vec_Elems.mono _ _ _ _)
   | (with_reducible exact tower_Sum.mono _ _)
   | (with_reducible exact LeO.refl _)
   | (with_reducible exact LeO.none _)
   | (with_reducible refine LeO.ite ?_ ?_)
   | (with_reducible refine LeO.bind ?_ (fun _ => ?_))
   | exact pack_Mul.mono _ _ _ _ _ _ _
   | exact pack_Vec_Elems.mono _ _ _ _
   | exact tower_Sum.mono _ _
   | exact LeO.none _
   | refine LeO.ite ?_ ?_
   | refine LeO.bind ?_ (fun _ => ?_)
set_option maxHeartbeats 8000000 in
set_option maxRecDepth 100000 in
theorem pack_Dot.calls (k : Nat) (a0_0 : Int) (a0_1 : Int) (A0_2 : Option Addr) (c0_2 : Nat) (l0_2 : List Int) (a1_0 : Int) (a1_1 : Int) (A1_2 : Option Addr) (c1_2 : Nat) (l1_2 : List Int) (r1 : Int) (r2 : Int) (r3 : Int) (w : World) (hr0_2 : Kd.C (Kd.int .u64) w A0_2 l0_2.length l0_2) (hc0_2 : l0_2.length ≤ c0_2) (hr1_2 : Kd.C (Kd.int .u64) w A1_2 l1_2.length l1_2) (hc1_2 : l1_2.length ≤ c1_2) (h : pack_Dot.f k a0_0 a0_1 l0_2 a1_0 a1_1 l1_2 = some (r1, r2, r3)) :
  Calls Try.prog 29 #[.agg #[.int .i64 a0_0, .int .i64 a0_1, .slice A0_2 l0_2.length c0_2], .agg #[.int .i64 a1_0, .int .i64 a1_1, .slice A1_2 l1_2.length c1_2]] w fun e w' => e = .returned (.tuple #[.agg #[.int .u64 r1, .int .u64 r2], .int .i64 r3]) ∧ Below w.heap.size w w' := by
 have hu31 := Try.underlying31
 have hu25 := Try.underlying25
 have HR0_2 := Aside0.mk hr0_2
 have HC0_2 := Aside0.mk hc0_2
 clear hr0_2 hc0_2
 have HR1_2 := Aside0.mk hr1_2
 have HC1_2 := Aside0.mk hc1_2
 clear hr1_2 hc1_2
 have HB := Aside0.mk (Below.refl w.heap.size w)
 have H : ((pack_Mul.f k a0_0 a0_1 l0_2 a1_0 a1_1 l1_2).bind fun bt608 => (if bt608.2.2.2 = 0 then ((pack_Vec_Elems.f k bt608.1 bt608.2.1 bt608.2.2.1).bind fun t615 => ((tower_Sum.f k t615).bind fun bt618 => (some (bt618.1, bt618.2, 0)))) else (some (0, 0, bt608.2.2.2)))) = some (r1, r2, r3) := h
 clear h
 replace H := Option.bind_eq_some_iff.mp H
 obtain ⟨⟨t608, t609, t610, t613⟩, A30, H⟩ := H
 replace H : (if t613 = 0 then ((pack_Vec_Elems.f k t608 t609 t610).bind fun t615 => ((tower_Sum.f k t615).bind fun bt618 => (some (bt618.1, bt618.2, 0)))) else (some (0, 0, t613))) = some (r1, r2, r3) := H
 have A3 := Aside0.mk A30
 clear A30
 by_cases c4 : t613 = 0
 ·rw [if_pos c4] at H
  have c4b0 : (t613 == 0) = true := beq_iff_eq.mpr c4
  have c4b1 : (t613 != 0) = false := bne_eq_false_iff_eq.mpr c4
  clear c4
  replace H := Option.bind_eq_some_iff.mp H
  obtain ⟨t615, A50, H⟩ := H
  replace H : ((tower_Sum.f k t615).bind fun bt618 => (some (bt618.1, bt618.2, 0))) = some (r1, r2, r3) := H
  have A5 := Aside0.mk A50
  clear A50
  replace H := Option.bind_eq_some_iff.mp H
  obtain ⟨⟨t618, t619⟩, A60, H⟩ := H
  replace H : (some (t618, t619, 0)) = some (r1, r2, r3) := H
  have A6 := Aside0.mk A60
  clear A60
  simp only [Option.some.injEq, Prod.mk.injEq] at H
  obtain ⟨rfl, rfl, rfl⟩ := H
  go_enter Try.func29, Try.ntmps29
  go_wp2_with (first | ((with_reducible refine gate_dst (N := 2) rfl ?_); refine box_event ?hg (N := 2) ?hd (cs := #[.int .i64 a0_0, .int .i64 a0_1, .slice A0_2 l0_2.length c0_2]) (t := 31) ?hr ?_; (case hd => rfl); (case hg => rfl); (case hr => first | (go_simp; done) | (go_simp; rfl)); intro gb605 hg w7 hbox hb; have BK605 := Aside0.mk hbox; have GW605 := ge hg HB; have GE605 := ge hg HB; replace HB := bh HB hb; clear hb hbox hg) | ((with_reducible refine gate_dst (N := 3) rfl ?_); refine box_event ?hg (N := 3) ?hd (cs := #[.int .i64 a1_0, .int .i64 a1_1, .slice A1_2 l1_2.length c1_2]) (t := 31) ?hr ?_; (case hd => rfl); (case hg => rfl); (case hr => first | (go_simp; done) | (go_simp; rfl)); intro gb606 hg w8 hbox hb; have BK606 := Aside0.mk hbox; have GW606 := ge hg HB; have GE606 := ge hg HB; have NB605_606 := nl hg BK605; have NB606_605 := ng hg BK605; replace BK605 := bb BK605 hb; replace HB := bh HB hb; clear hb hbox hg) | ((with_reducible refine gate_dst (N := 4) rfl ?_); refine box_event ?hg (N := 4) ?hd (cs := #[.int .u64 0, .int .u64 0]) (t := 25) ?hr ?_; (case hd => rfl); (case hg => rfl); (case hr => first | (go_simp; done) | (go_simp; rfl)); intro gb607 hg w9 hbox hb; have BK607 := Aside0.mk hbox; have GW607 := ge hg HB; have GE607 := ge hg HB; have NB605_607 := nl hg BK605; have NB607_605 := ng hg BK605; have NB606_607 := nl hg BK606; have NB607_606 := ng hg BK606; replace BK605 := bb BK605 hb; replace BK606 := bb BK606 hb; replace HB := bh HB hb; clear hb hbox hg; have hnb10 := NB605_606.out; have hnc10 := NB606_605.out; have hnb11 := NB605_607.out; have hnc11 := NB607_605.out; obtain ⟨hcz12_0, hcz12_1, hcz12_2⟩ := zc3 BK605; obtain ⟨hfz12_0, hfz12_1, hfz12_2⟩ := zf3 BK605; have hnb13 := NB606_607.out; have hnc13 := NB607_606.out; obtain ⟨hcz14_0, hcz14_1, hcz14_2⟩ := zc3 BK606; obtain ⟨hfz14_0, hfz14_1, hfz14_2⟩ := zf3 BK606) | ((with_reducible refine gate_callee (f := 28) rfl ?_); refine goesL_ (some 11) rfl rfl Try.func28 (by kernel_rfl) rfl #[.agg #[.int .i64 a0_0, .int .i64 a0_1, .slice A0_2 l0_2.length c0_2], .agg #[.int .i64 a1_0, .int .i64 a1_1, .slice A1_2 l1_2.length c1_2]] rfl (by (try simp only [List.map_toArray, List.map_cons, List.map_nil]); first | done | rfl | (simp only [List.length_drop, List.length_take]; rfl)) ?_; (with_reducible refine (pack_Mul.calls k a0_0 a0_1 _ _ l0_2 a1_0 a1_1 _ _ l1_2 t608 t609 t610 t613 _ ?side1 ?side2 ?side3 ?side4 A3.out).mono ?_); (case side1 => repeat (first | exact (Kd.C_below HR0_2.out HB.out) | (with_reducible refine Kd.C_alloc ?_ _) | (with_reducible refine Kd.C_drewN ?_ _) | (with_reducible refine Kd.C_drew ?_))); (case side2 => exact HC0_2.out); (case side3 => repeat (first | exact (Kd.C_below HR1_2.out HB.out) | (with_reducible refine Kd.C_alloc ?_ _) | (with_reducible refine Kd.C_drewN ?_ _) | (with_reducible refine Kd.C_drew ?_))); (case side4 => exact HC1_2.out); rintro e w15 ⟨v611, rfl, ho0, hb⟩; refine ⟨_, rfl, ?_⟩; have HO612 := kw ho0 HB; replace BK605 := bb BK605 hb; replace BK606 := bb BK606 hb; replace BK607 := bb BK607 hb; replace HB := bh HB hb; (try clear hb); (try clear hb2); (try clear hk); (try clear hi); (try clear ho0)) | ((with_reducible refine gate_dst (N := 6) rfl ?_); refine box_event ?hg (N := 6) ?hd (cs := #[.int .i64 0, .int .i64 0, .slice none 0 0]) (t := 31) ?hr ?_; (case hd => rfl); (case hg => rfl); (case hr => first | (go_simp; done) | (go_simp; rfl)); intro gb614 hg w16 hbox hb; have BK614 := Aside0.mk hbox; have GW614 := ge hg HB; have GE614 := ge hg HB; have NB605_614 := nl hg BK605; have NB614_605 := ng hg BK605; have NB606_614 := nl hg BK606; have NB614_606 := ng hg BK606; have NB607_614 := nl hg BK607; have NB614_607 := ng hg BK607; replace HO612 := kb HO612 hb; replace BK605 := bb BK605 hb; replace BK606 := bb BK606 hb; replace BK607 := bb BK607 hb; replace HB := bh HB hb; clear hb hbox hg; have hnb17 := NB614_605.out; have hnc17 := NB605_614.out; have hnb18 := NB614_606.out; have hnc18 := NB606_614.out; have hnb19 := NB614_607.out; have hnc19 := NB607_614.out; obtain ⟨hcz20_0, hcz20_1, hcz20_2⟩ := zc3 BK614; obtain ⟨hfz20_0, hfz20_1, hfz20_2⟩ := zf3 BK614; obtain ⟨Ao21, co21, eo21⟩ := Kd.R_slice HO612.out; subst eo21) | ((with_reducible refine gate_callee (f := 23) rfl ?_); refine goesL_ (some 19) rfl rfl Try.func23 (by kernel_rfl) rfl #[.agg #[.int .i64 t608, .int .i64 t609, .slice Ao21 t610.length co21]] rfl (by (try simp only [List.map_toArray, List.map_cons, List.map_nil]); first | done | rfl | (simp only [List.length_drop, List.length_take]; rfl)) ?_; (with_reducible refine (pack_Vec_Elems.calls k t608 t609 _ _ t610 t615 _ ?side1 ?side2 A5.out).mono ?_); (case side1 => refine (Kd.R_reads' (e := 23) (base := w.heap.size) (ok := fun k_ => True) (n := t610.length) (c := co21) ?_).2.2; exact (by (with_reducible repeat refine kl ?_); exact (Kd.R_mono (Kd.R_far (p := ⟨gb614, 2, none⟩) (Kd.R_far (p := ⟨gb614, 1, none⟩) (Kd.R_far (p := ⟨gb614, 0, none⟩) (Kd.R_types HO612.out BK614.out (by decide)) (fun _ hk => hk.2) (.int .i64 t608)) (fun _ hk => hk.2) (.int .i64 t609)) (fun _ hk => hk.2) (.slice Ao21 t610.length co21)) (fun _ h_ => h_.1)))); (case side2 => exact (Kd.R_reads' HO612.out).2.1); rintro e w22 ⟨v616, rfl, ho0, hb⟩; refine ⟨_, rfl, ?_⟩; have HO617 := Aside0.mk (Kd.R_lower (Kd.R_newB ho0 (g := gb607) (o := .cells #[.int .u64 0, .int .u64 0] 25 (0, 0)) (by (with_reducible repeat refine bl ?_); refine blk_far ?_ NB607_614.out _; (with_reducible repeat refine bl ?_); refine blk_far ?_ NB607_614.out _; (with_reducible repeat refine bl ?_); refine blk_far ?_ NB607_614.out _; (with_reducible repeat refine bl ?_); exact BK607.out)) (below_size (bq HB.out))); replace HO612 := Aside0.mk (Kd.R_below (by (with_reducible repeat refine kl ?_); exact (Kd.R_mono (Kd.R_far (p := ⟨gb614, 2, none⟩) (Kd.R_far (p := ⟨gb614, 1, none⟩) (Kd.R_far (p := ⟨gb614, 0, none⟩) (Kd.R_types HO612.out BK614.out (by decide)) (fun _ hk => hk.2) (.int .i64 t608)) (fun _ hk => hk.2) (.int .i64 t609)) (fun _ hk => hk.2) (.slice Ao21 t610.length co21)) (fun _ h_ => h_.1))) hb); replace BK605 := Aside0.mk (blk_below (g := gb605) (o := .cells #[.int .i64 a0_0, .int .i64 a0_1, .slice A0_2 l0_2.length c0_2] 31 (0, 0)) (by (with_reducible repeat refine bl ?_); refine blk_far ?_ NB605_614.out _; (with_reducible repeat refine bl ?_); refine blk_far ?_ NB605_614.out _; (with_reducible repeat refine bl ?_); refine blk_far ?_ NB605_614.out _; (with_reducible repeat refine bl ?_); exact BK605.out) hb); replace BK606 := Aside0.mk (blk_below (g := gb606) (o := .cells #[.int .i64 a1_0, .int .i64 a1_1, .slice A1_2 l1_2.length c1_2] 31 (0, 0)) (by (with_reducible repeat refine bl ?_); refine blk_far ?_ NB606_614.out _; (with_reducible repeat refine bl ?_); refine blk_far ?_ NB606_614.out _; (with_reducible repeat refine bl ?_); refine blk_far ?_ NB606_614.out _; (with_reducible repeat refine bl ?_); exact BK606.out) hb); replace BK607 := Aside0.mk (blk_below (g := gb607) (o := .cells #[.int .u64 0, .int .u64 0] 25 (0, 0)) (by (with_reducible repeat refine bl ?_); refine blk_far ?_ NB607_614.out _; (with_reducible repeat refine bl ?_); refine blk_far ?_ NB607_614.out _; (with_reducible repeat refine bl ?_); refine blk_far ?_ NB607_614.out _; (with_reducible repeat refine bl ?_); exact BK607.out) hb); replace BK614 := Aside0.mk (blk_below (g := gb614) (o := .cells #[.int .i64 t608, .int .i64 t609, .slice Ao21 t610.length co21] 31 (0, 0)) (by (with_reducible repeat refine bl ?_); refine blk_put (cs := #[.int .i64 t608, .int .i64 t609, .slice none 0 0]) ?_ 2 _ rfl; (with_reducible repeat refine bl ?_); refine blk_put (cs := #[.int .i64 t608, .int .i64 0, .slice none 0 0]) ?_ 1 _ rfl; (with_reducible repeat refine bl ?_); refine blk_put (cs := #[.int .i64 0, .int .i64 0, .slice none 0 0]) ?_ 0 _ rfl; (with_reducible repeat refine bl ?_); exact BK614.out) hb); replace HB := bh HB hb; (try clear hb); (try clear hb2); (try clear hk); (try clear hi); (try clear ho0); obtain ⟨Ao23, co23, eo23⟩ := Kd.R_slice HO617.out; subst eo23) | ((with_reducible refine gate_callee (f := 52) rfl ?_); refine goesL_ (some 20) rfl rfl Try.func52 (by kernel_rfl) rfl #[.slice Ao23 t615.length co23] rfl (by (try simp only [List.map_toArray, List.map_cons, List.map_nil]); first | done | rfl | (simp only [List.length_drop, List.length_take]; rfl)) ?_; (with_reducible refine (tower_Sum.calls k _ _ t615 t618 t619 _ ?side1 ?side2 A6.out).mono ?_); (case side1 => repeat (first | exact (Kd.R_reads' HO617.out).2.2 | (with_reducible refine Kd.C_alloc ?_ _) | (with_reducible refine Kd.C_drewN ?_ _) | (with_reducible refine Kd.C_drew ?_))); (case side2 => exact (Kd.R_reads' HO617.out).2.1); rintro e w24 ⟨rfl, hb⟩; refine ⟨_, rfl, ?_⟩; replace HO612 := kb HO612 hb; replace HO617 := kb HO617 hb; replace BK605 := bb BK605 hb; replace BK606 := bb BK606 hb; replace BK607 := bb BK607 hb; replace BK614 := bb BK614 hb; replace HB := bh HB hb; (try clear hb); (try clear hb2); (try clear hk); (try clear hi); obtain ⟨hcz25_0, hcz25_1⟩ := zc2 BK607; obtain ⟨hfz25_0, hfz25_1⟩ := zf2 BK607))
  refine bodyPost_ret (results_ct rfl _ _ gb607 25 #[.int .u64 t618, .int .u64 t619] (0, 0) _ rfl (by (with_reducible repeat refine bl ?_); refine blk_put (cs := #[.int .u64 t618, .int .u64 0]) ?_ 1 _ rfl; (with_reducible repeat refine bl ?_); refine blk_put (cs := #[.int .u64 0, .int .u64 0]) ?_ 0 _ rfl; (with_reducible repeat refine bl ?_); exact BK607.out) Try.underlying25 rfl (by kernel_rfl)) rfl ?_
  exact ⟨by first | rfl | (simp [errW_none, errW_some] <;> rfl) | (simp [*, errW_none, errW_some] <;> rfl), bq HB.out⟩
 ·rw [if_neg c4] at H
  have c4b0 : (t613 == 0) = false := beq_eq_false_iff_ne.mpr c4
  have c4b1 : (t613 != 0) = true := bne_iff_ne.mpr c4
  simp only [Option.some.injEq, Prod.mk.injEq] at H
  obtain ⟨rfl, rfl, rfl⟩ := H
  go_enter Try.func29, Try.ntmps29
  go_wp2_with (first | ((with_reducible refine gate_dst (N := 2) rfl ?_); refine box_event ?hg (N := 2) ?hd (cs := #[.int .i64 a0_0, .int .i64 a0_1, .slice A0_2 l0_2.length c0_2]) (t := 31) ?hr ?_; (case hd => rfl); (case hg => rfl); (case hr => first | (go_simp; done) | (go_simp; rfl)); intro gb605 hg w26 hbox hb; have BK605 := Aside0.mk hbox; have GW605 := ge hg HB; have GE605 := ge hg HB; replace HB := bh HB hb; clear hb hbox hg) | ((with_reducible refine gate_dst (N := 3) rfl ?_); refine box_event ?hg (N := 3) ?hd (cs := #[.int .i64 a1_0, .int .i64 a1_1, .slice A1_2 l1_2.length c1_2]) (t := 31) ?hr ?_; (case hd => rfl); (case hg => rfl); (case hr => first | (go_simp; done) | (go_simp; rfl)); intro gb606 hg w27 hbox hb; have BK606 := Aside0.mk hbox; have GW606 := ge hg HB; have GE606 := ge hg HB; have NB605_606 := nl hg BK605; have NB606_605 := ng hg BK605; replace BK605 := bb BK605 hb; replace HB := bh HB hb; clear hb hbox hg) | ((with_reducible refine gate_dst (N := 4) rfl ?_); refine box_event ?hg (N := 4) ?hd (cs := #[.int .u64 0, .int .u64 0]) (t := 25) ?hr ?_; (case hd => rfl); (case hg => rfl); (case hr => first | (go_simp; done) | (go_simp; rfl)); intro gb607 hg w28 hbox hb; have BK607 := Aside0.mk hbox; have GW607 := ge hg HB; have GE607 := ge hg HB; have NB605_607 := nl hg BK605; have NB607_605 := ng hg BK605; have NB606_607 := nl hg BK606; have NB607_606 := ng hg BK606; replace BK605 := bb BK605 hb; replace BK606 := bb BK606 hb; replace HB := bh HB hb; clear hb hbox hg; have hnb29 := NB605_606.out; have hnc29 := NB606_605.out; have hnb30 := NB605_607.out; have hnc30 := NB607_605.out; obtain ⟨hcz31_0, hcz31_1, hcz31_2⟩ := zc3 BK605; obtain ⟨hfz31_0, hfz31_1, hfz31_2⟩ := zf3 BK605; have hnb32 := NB606_607.out; have hnc32 := NB607_606.out; obtain ⟨hcz33_0, hcz33_1, hcz33_2⟩ := zc3 BK606; obtain ⟨hfz33_0, hfz33_1, hfz33_2⟩ := zf3 BK606) | ((with_reducible refine gate_callee (f := 28) rfl ?_); refine goesL_ (some 11) rfl rfl Try.func28 (by kernel_rfl) rfl #[.agg #[.int .i64 a0_0, .int .i64 a0_1, .slice A0_2 l0_2.length c0_2], .agg #[.int .i64 a1_0, .int .i64 a1_1, .slice A1_2 l1_2.length c1_2]] rfl (by (try simp only [List.map_toArray, List.map_cons, List.map_nil]); first | done | rfl | (simp only [List.length_drop, List.length_take]; rfl)) ?_; (with_reducible refine (pack_Mul.calls k a0_0 a0_1 _ _ l0_2 a1_0 a1_1 _ _ l1_2 t608 t609 t610 t613 _ ?side1 ?side2 ?side3 ?side4 A3.out).mono ?_); (case side1 => repeat (first | exact (Kd.C_below HR0_2.out HB.out) | (with_reducible refine Kd.C_alloc ?_ _) | (with_reducible refine Kd.C_drewN ?_ _) | (with_reducible refine Kd.C_drew ?_))); (case side2 => exact HC0_2.out); (case side3 => repeat (first | exact (Kd.C_below HR1_2.out HB.out) | (with_reducible refine Kd.C_alloc ?_ _) | (with_reducible refine Kd.C_drewN ?_ _) | (with_reducible refine Kd.C_drew ?_))); (case side4 => exact HC1_2.out); rintro e w34 ⟨v611, rfl, ho0, hb⟩; refine ⟨_, rfl, ?_⟩; have HO612 := kw ho0 HB; replace BK605 := bb BK605 hb; replace BK606 := bb BK606 hb; replace BK607 := bb BK607 hb; replace HB := bh HB hb; (try clear hb); (try clear hb2); (try clear hk); (try clear hi); (try clear ho0)) | ((with_reducible refine gate_dst (N := 6) rfl ?_); refine box_event ?hg (N := 6) ?hd (cs := #[.int .i64 0, .int .i64 0, .slice none 0 0]) (t := 31) ?hr ?_; (case hd => rfl); (case hg => rfl); (case hr => first | (go_simp; done) | (go_simp; rfl)); intro gb614 hg w35 hbox hb; have BK614 := Aside0.mk hbox; have GW614 := ge hg HB; have GE614 := ge hg HB; have NB605_614 := nl hg BK605; have NB614_605 := ng hg BK605; have NB606_614 := nl hg BK606; have NB614_606 := ng hg BK606; have NB607_614 := nl hg BK607; have NB614_607 := ng hg BK607; replace HO612 := kb HO612 hb; replace BK605 := bb BK605 hb; replace BK606 := bb BK606 hb; replace BK607 := bb BK607 hb; replace HB := bh HB hb; clear hb hbox hg; have hnb36 := NB614_605.out; have hnc36 := NB605_614.out; have hnb37 := NB614_606.out; have hnc37 := NB606_614.out; have hnb38 := NB614_607.out; have hnc38 := NB607_614.out; obtain ⟨hcz39_0, hcz39_1, hcz39_2⟩ := zc3 BK614; obtain ⟨hfz39_0, hfz39_1, hfz39_2⟩ := zf3 BK614; obtain ⟨Ao40, co40, eo40⟩ := Kd.R_slice HO612.out; subst eo40; obtain ⟨hcz41_0, hcz41_1⟩ := zc2 BK607; obtain ⟨hfz41_0, hfz41_1⟩ := zf2 BK607))
  refine bodyPost_ret (results_ct rfl _ _ gb607 25 #[.int .u64 0, .int .u64 0] (0, 0) _ rfl (by (with_reducible repeat refine bl ?_); refine blk_put (cs := #[.int .u64 0, .int .u64 0]) ?_ 1 _ rfl; (with_reducible repeat refine bl ?_); refine blk_put (cs := #[.int .u64 0, .int .u64 0]) ?_ 0 _ rfl; (with_reducible repeat refine bl ?_); refine blk_far ?_ NB607_614.out _; (with_reducible repeat refine bl ?_); refine blk_far ?_ NB607_614.out _; (with_reducible repeat refine bl ?_); refine blk_far ?_ NB607_614.out _; (with_reducible repeat refine bl ?_); exact BK607.out) Try.underlying25 rfl (by kernel_rfl)) rfl ?_
  exact ⟨by first | rfl | (simp [errW_none, errW_some] <;> rfl) | (simp [*, errW_none, errW_some] <;> rfl), bq HB.out⟩

end Go.Proofs.Ytceneggampgboaa.P
