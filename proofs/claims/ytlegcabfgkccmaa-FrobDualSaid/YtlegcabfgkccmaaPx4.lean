/- Written by a program of this session: functions that the law reaches, as Lean functions, and that the code comes to their answers. Conditions: those that each theorem names. -/
import Derived.Test.YtlegcabfgkccmaaPx0
import Derived.Test.YtlegcabfgkccmaaPx3
namespace Go.Proofs.Ytlegcabfgkccmaa.P
open Go.RowKit Go.Proofs.YtlegcabfgkccmaaX Go.Proofs.YtlegcabfgkccmaaW.PrintWords Go.Proofs.YtlegcabfgkccmaaW.PrintLast Go.Proofs.YtlegcabfgkccmaaW.PrintMore
attribute [local go_sem] max2_int min2_int max_two min_two max_three min_three max_four min_four   -- for this text's walks alone
set_option linter.unusedVariables false
set_option linter.unusedSimpArgs false

/-! ### tower_mul: function 38 -/
mutual
def tower_mul.j0 : Nat → Int → Int → Int → Bool → Option (Int)
 | 0, _, _, _, _ => none
 | k + 1, x0, x1, x2, x23 => if x23 = true then (some (Go.bits .and .u64 (Go.bits .and .u64 x1 x2) 1)) else ((tower_halves.f x0 x1).bind fun bt124 => ((tower_halves.f x0 x2).bind fun bt126 => ((tower_mul.f k (wrap64 (x0 - 1)) bt124.1 bt126.1).bind fun t128 => ((tower_mul.f k (wrap64 (x0 - 1)) bt124.2 bt126.2).bind fun t129 => ((tower_mul.f k (wrap64 (x0 - 1)) (Go.bits .xor .u64 bt124.1 bt124.2) (Go.bits .xor .u64 bt126.1 bt126.2)).bind fun t130 => ((tower_mulX.f k (wrap64 (x0 - 1)) t128).bind fun t131 => ((tower_join.f x0 (Go.bits .xor .u64 (Go.bits .xor .u64 (Go.bits .xor .u64 t130 t128) t129) t131) (Go.bits .xor .u64 t129 t128)).bind fun t132 => (some t132))))))))
def tower_mul.f : Nat → Int → Int → Int → Option (Int)
 | 0, _, _, _ => none
 | k + 1, a0, a1, a2 => if a0 = 0 then (tower_mul.j0 k a0 a1 a2 true) else (if a1 = 0 then (tower_mul.j0 k a0 a1 a2 true) else (tower_mul.j0 k a0 a1 a2 (a2 == 0)))
end
theorem tower_mul.mono_l : ∀ k, (∀ y0 y1 y2, LeO (tower_mul.f k y0 y1 y2) (tower_mul.f (k + 1) y0 y1 y2)) ∧ (∀ y0 y1 y2 y3, LeO (tower_mul.j0 k y0 y1 y2 y3) (tower_mul.j0 (k + 1) y0 y1 y2 y3))
 | 0 => ⟨fun _ _ _ r h => by simp [tower_mul.f] at h, fun _ _ _ _ r h => by simp [tower_mul.j0] at h⟩
 | k + 1 => by
  obtain ⟨ih0, ih1⟩ := tower_mul.mono_l k
  refine ⟨?_, ?_⟩
  ·intro y0 y1 y2
   unfold tower_mul.f
   repeat' first
   | (with_reducible exact ih0 _ _ _)
   | (with_reducible exact ih1 _ _ _ _)
   | (with_reducible exact tower_mulX.mono _ _ _)
   | (with_reducible exact LeO.refl _)
   | (with_reducible exact LeO.none _)
   | (with_reducible refine LeO.ite ?_ ?_)
   | (with_reducible refine LeO.bind ?_ (fun _ => ?_))
   | exact ih0 _ _ _
   | exact ih1 _ _ _ _
   | exact tower_mulX.mono _ _ _
   | exact LeO.none _
   | refine LeO.ite ?_ ?_
   | refine LeO.bind ?_ (fun _ => ?_)
  ·intro y0 y1 y2 y3
   unfold tower_mul.j0
   repeat' first
   | (with_reducible exact ih0 _ _ _)
   | (with_reducible exact ih1 _ _ _ _)
   | (with_reducible exact tower_mulX.mono _ _ _)
   | (with_reducible exact LeO.refl _)
   | (with_reducible exact LeO.none _)
   | (with_reducible refine LeO.ite ?_ ?_)
   | (with_reducible refine LeO.bind ?_ (fun _ => ?_))
   | exact ih0 _ _ _
   | exact ih1 _ _ _ _
   | exact tower_mulX.mono _ _ _
   | exact LeO.none _
   | refine LeO.ite ?_ ?_
   | refine LeO.bind ?_ (fun _ => ?_)
theorem tower_mul.mono : ∀ a0 a1 a2 k, LeO (tower_mul.f k a0 a1 a2) (tower_mul.f (k + 1) a0 a1 a2) := by
 intro a0 a1 a2 k
 obtain ⟨ih0, ih1⟩ := tower_mul.mono_l k
 exact ih0 a0 a1 a2
set_option maxHeartbeats 8000000 in
set_option maxRecDepth 100000 in
theorem tower_mul.calls (k : Nat) : ∀ (a0 : Int) (a1 : Int) (a2 : Int) (r : Int) (w : World) (h : tower_mul.f k a0 a1 a2 = some r),
  Calls Try.prog 38 #[.int .i64 a0, .int .u64 a1, .int .u64 a2] w fun e w' => e = .returned (.int .u64 r) ∧ Drawn0 w w' := by
 induction k using Nat.strongRecOn with
 | _ k ih =>
 intro a0 a1 a2 r w h
 cases k with
 | zero => exact absurd h (by simp [tower_mul.f])
 | succ k =>
 simp only [tower_mul.f] at h
 have H : (if a0 = 0 then (tower_mul.j0 k a0 a1 a2 true) else (if a1 = 0 then (tower_mul.j0 k a0 a1 a2 true) else (tower_mul.j0 k a0 a1 a2 (a2 == 0)))) = some r := h
 clear h
 have HC4 := Aside0.mk H
 clear H
 go_enter Try.func38, Try.ntmps38
 go_upto_region 1 with (fail)
 go_cut [23] (fun v23 wc => ∃ (kq : Nat) (x23_3 : Bool), v23 = .bool x23_3 ∧ Aside0 (tower_mul.j0 kq a0 a1 a2 x23_3 = some r) ∧ Aside0 (kq ≤ k) ∧ Drawn0 w wc)
 case first =>
  have H := HC4.out
  clear HC4
  by_cases c5 : a0 = 0
  ·rw [if_pos c5] at H
   have c5b0 : (a0 == 0) = true := beq_iff_eq.mpr c5
   have c5b1 : (a0 != 0) = false := bne_eq_false_iff_eq.mpr c5
   clear c5
   (first | rw [c5b0] | (simp only [i64_w, i32_w]; rw [c5b0]) | skip)
   have H' := Aside0.mk H
   clear H
   go_wp2
   go_meet
   case rel => exact ⟨_, (true), (by first | rfl | (simp; done) | (simp [*]; done)), H', ⟨by first | omega | exact Nat.le_refl _⟩, by repeat (first | exact Drawn0.refl _ | apply Drawn0.step)⟩
  ·rw [if_neg c5] at H
   have c5b0 : (a0 == 0) = false := beq_eq_false_iff_ne.mpr c5
   have c5b1 : (a0 != 0) = true := bne_iff_ne.mpr c5
   (first | rw [c5b0] | (simp only [i64_w, i32_w]; rw [c5b0]) | skip)
   by_cases c6 : a1 = 0
   ·rw [if_pos c6] at H
    have c6b0 : (a1 == 0) = true := beq_iff_eq.mpr c6
    have c6b1 : (a1 != 0) = false := bne_eq_false_iff_eq.mpr c6
    clear c6
    have H' := Aside0.mk H
    clear H
    go_wp2
    go_meet
    case rel => exact ⟨_, (true), (by first | rfl | (simp; done) | (simp [*]; done)), H', ⟨by first | omega | exact Nat.le_refl _⟩, by repeat (first | exact Drawn0.refl _ | apply Drawn0.step)⟩
   ·rw [if_neg c6] at H
    have c6b0 : (a1 == 0) = false := beq_eq_false_iff_ne.mpr c6
    have c6b1 : (a1 != 0) = true := bne_iff_ne.mpr c6
    have H' := Aside0.mk H
    clear H
    go_wp2
    go_meet
    case rel => exact ⟨_, ((a2 == 0)), (by first | rfl | (simp; done) | (simp [*]; done)), H', ⟨by first | omega | exact Nat.le_refl _⟩, by repeat (first | exact Drawn0.refl _ | apply Drawn0.step)⟩
 case rest =>
  clear HC4
  try clear p2
  try clear c3
  try clear c5
  try clear c5b0
  try clear c5b1
  try clear c6
  try clear c6b0
  try clear c6b1
  obtain ⟨kq, x23_3, rfl, HA, HJ3, ⟨mc3, rfl⟩⟩ := hcut
  cases kq with
  | zero => exact absurd HA.out (by simp [tower_mul.j0])
  | succ kj3 =>
   have H := HA.out
   clear HA
   simp only [tower_mul.j0] at H
   by_cases c7 : x23_3 = true
   ·subst c7
    have H1 : (some (Go.bits .and .u64 (Go.bits .and .u64 a1 a2) 1)) = some r := by rw [if_pos rfl] at H; exact H
    clear H
    have H := H1
    clear H1
    obtain rfl := Option.some.inj H
    go_wp2
    go_ret
    exact ⟨by first | rfl | (simp; done) | (simp [*]; done), by repeat (first | exact Drawn0.refl _ | apply Drawn0.step)⟩
   ·replace c7 := Bool.eq_false_iff.mpr c7
    subst c7
    have H1 : ((tower_halves.f a0 a1).bind fun bt124 => ((tower_halves.f a0 a2).bind fun bt126 => ((tower_mul.f kj3 (wrap64 (a0 - 1)) bt124.1 bt126.1).bind fun t128 => ((tower_mul.f kj3 (wrap64 (a0 - 1)) bt124.2 bt126.2).bind fun t129 => ((tower_mul.f kj3 (wrap64 (a0 - 1)) (Go.bits .xor .u64 bt124.1 bt124.2) (Go.bits .xor .u64 bt126.1 bt126.2)).bind fun t130 => ((tower_mulX.f kj3 (wrap64 (a0 - 1)) t128).bind fun t131 => ((tower_join.f a0 (Go.bits .xor .u64 (Go.bits .xor .u64 (Go.bits .xor .u64 t130 t128) t129) t131) (Go.bits .xor .u64 t129 t128)).bind fun t132 => (some t132)))))))) = some r := by rw [if_neg (show ¬ (false = true) by decide)] at H; exact H
    clear H
    have H := H1
    clear H1
    replace H := Option.bind_eq_some_iff.mp H
    obtain ⟨⟨t124, t125⟩, A80, H⟩ := H
    replace H : ((tower_halves.f a0 a2).bind fun bt126 => ((tower_mul.f kj3 (wrap64 (a0 - 1)) t124 bt126.1).bind fun t128 => ((tower_mul.f kj3 (wrap64 (a0 - 1)) t125 bt126.2).bind fun t129 => ((tower_mul.f kj3 (wrap64 (a0 - 1)) (Go.bits .xor .u64 t124 t125) (Go.bits .xor .u64 bt126.1 bt126.2)).bind fun t130 => ((tower_mulX.f kj3 (wrap64 (a0 - 1)) t128).bind fun t131 => ((tower_join.f a0 (Go.bits .xor .u64 (Go.bits .xor .u64 (Go.bits .xor .u64 t130 t128) t129) t131) (Go.bits .xor .u64 t129 t128)).bind fun t132 => (some t132))))))) = some r := H
    have A8 := Aside0.mk A80
    clear A80
    replace H := Option.bind_eq_some_iff.mp H
    obtain ⟨⟨t126, t127⟩, A90, H⟩ := H
    replace H : ((tower_mul.f kj3 (wrap64 (a0 - 1)) t124 t126).bind fun t128 => ((tower_mul.f kj3 (wrap64 (a0 - 1)) t125 t127).bind fun t129 => ((tower_mul.f kj3 (wrap64 (a0 - 1)) (Go.bits .xor .u64 t124 t125) (Go.bits .xor .u64 t126 t127)).bind fun t130 => ((tower_mulX.f kj3 (wrap64 (a0 - 1)) t128).bind fun t131 => ((tower_join.f a0 (Go.bits .xor .u64 (Go.bits .xor .u64 (Go.bits .xor .u64 t130 t128) t129) t131) (Go.bits .xor .u64 t129 t128)).bind fun t132 => (some t132)))))) = some r := H
    have A9 := Aside0.mk A90
    clear A90
    replace H := Option.bind_eq_some_iff.mp H
    obtain ⟨t128, A100, H⟩ := H
    replace H : ((tower_mul.f kj3 (wrap64 (a0 - 1)) t125 t127).bind fun t129 => ((tower_mul.f kj3 (wrap64 (a0 - 1)) (Go.bits .xor .u64 t124 t125) (Go.bits .xor .u64 t126 t127)).bind fun t130 => ((tower_mulX.f kj3 (wrap64 (a0 - 1)) t128).bind fun t131 => ((tower_join.f a0 (Go.bits .xor .u64 (Go.bits .xor .u64 (Go.bits .xor .u64 t130 t128) t129) t131) (Go.bits .xor .u64 t129 t128)).bind fun t132 => (some t132))))) = some r := H
    have A10 := Aside0.mk A100
    clear A100
    replace H := Option.bind_eq_some_iff.mp H
    obtain ⟨t129, A110, H⟩ := H
    replace H : ((tower_mul.f kj3 (wrap64 (a0 - 1)) (Go.bits .xor .u64 t124 t125) (Go.bits .xor .u64 t126 t127)).bind fun t130 => ((tower_mulX.f kj3 (wrap64 (a0 - 1)) t128).bind fun t131 => ((tower_join.f a0 (Go.bits .xor .u64 (Go.bits .xor .u64 (Go.bits .xor .u64 t130 t128) t129) t131) (Go.bits .xor .u64 t129 t128)).bind fun t132 => (some t132)))) = some r := H
    have A11 := Aside0.mk A110
    clear A110
    replace H := Option.bind_eq_some_iff.mp H
    obtain ⟨t130, A120, H⟩ := H
    replace H : ((tower_mulX.f kj3 (wrap64 (a0 - 1)) t128).bind fun t131 => ((tower_join.f a0 (Go.bits .xor .u64 (Go.bits .xor .u64 (Go.bits .xor .u64 t130 t128) t129) t131) (Go.bits .xor .u64 t129 t128)).bind fun t132 => (some t132))) = some r := H
    have A12 := Aside0.mk A120
    clear A120
    replace H := Option.bind_eq_some_iff.mp H
    obtain ⟨t131, A130, H⟩ := H
    replace H : ((tower_join.f a0 (Go.bits .xor .u64 (Go.bits .xor .u64 (Go.bits .xor .u64 t130 t128) t129) t131) (Go.bits .xor .u64 t129 t128)).bind fun t132 => (some t132)) = some r := H
    have A13 := Aside0.mk A130
    clear A130
    replace H := Option.bind_eq_some_iff.mp H
    obtain ⟨t132, A140, H⟩ := H
    replace H : (some t132) = some r := H
    have A14 := Aside0.mk A140
    clear A140
    obtain rfl := Option.some.inj H
    go_wp2_with (first | ((with_reducible refine gate_callee (f := 53) rfl ?_); refine goesL_ (some 31) rfl rfl Try.func53 (by kernel_rfl) rfl #[.int .i64 a0, .int .u64 a1] rfl (by (try simp only [List.map_toArray, List.map_cons, List.map_nil]); first | done | rfl | (simp only [List.length_drop, List.length_take]; rfl)) ?_; (with_reducible refine (tower_halves.calls a0 a1 t124 t125 _ A8.out).mono ?_); rintro e w' ⟨rfl, ⟨nd, rfl⟩⟩; refine ⟨_, rfl, ?_⟩) | ((with_reducible refine gate_callee (f := 53) rfl ?_); refine goesL_ (some 37) rfl rfl Try.func53 (by kernel_rfl) rfl #[.int .i64 a0, .int .u64 a2] rfl (by (try simp only [List.map_toArray, List.map_cons, List.map_nil]); first | done | rfl | (simp only [List.length_drop, List.length_take]; rfl)) ?_; (with_reducible refine (tower_halves.calls a0 a2 t126 t127 _ A9.out).mono ?_); rintro e w' ⟨rfl, ⟨nd, rfl⟩⟩; refine ⟨_, rfl, ?_⟩) | ((with_reducible refine gate_callee (f := 38) rfl ?_); refine goesL_ (some 44) rfl rfl Try.func38 (by kernel_rfl) rfl #[.int .i64 (wrap64 (a0 - 1)), .int .u64 t124, .int .u64 t126] rfl (by (try simp only [List.map_toArray, List.map_cons, List.map_nil]); first | done | rfl | (simp only [List.length_drop, List.length_take]; rfl)) ?_; (with_reducible refine (ih kj3 (by have := HJ3.out; omega) (wrap64 (a0 - 1)) t124 t126 t128 _ A10.out).mono ?_); rintro e w' ⟨rfl, ⟨nd, rfl⟩⟩; refine ⟨_, rfl, ?_⟩) | ((with_reducible refine gate_callee (f := 38) rfl ?_); refine goesL_ (some 49) rfl rfl Try.func38 (by kernel_rfl) rfl #[.int .i64 (wrap64 (a0 - 1)), .int .u64 t125, .int .u64 t127] rfl (by (try simp only [List.map_toArray, List.map_cons, List.map_nil]); first | done | rfl | (simp only [List.length_drop, List.length_take]; rfl)) ?_; (with_reducible refine (ih kj3 (by have := HJ3.out; omega) (wrap64 (a0 - 1)) t125 t127 t129 _ A11.out).mono ?_); rintro e w' ⟨rfl, ⟨nd, rfl⟩⟩; refine ⟨_, rfl, ?_⟩) | ((with_reducible refine gate_callee (f := 38) rfl ?_); refine goesL_ (some 58) rfl rfl Try.func38 (by kernel_rfl) rfl #[.int .i64 (wrap64 (a0 - 1)), .int .u64 (Go.bits .xor .u64 t124 t125), .int .u64 (Go.bits .xor .u64 t126 t127)] rfl (by (try simp only [List.map_toArray, List.map_cons, List.map_nil]); first | done | rfl | (simp only [List.length_drop, List.length_take]; rfl)) ?_; (with_reducible refine (ih kj3 (by have := HJ3.out; omega) (wrap64 (a0 - 1)) (Go.bits .xor .u64 t124 t125) (Go.bits .xor .u64 t126 t127) t130 _ A12.out).mono ?_); rintro e w' ⟨rfl, ⟨nd, rfl⟩⟩; refine ⟨_, rfl, ?_⟩) | ((with_reducible refine gate_callee (f := 39) rfl ?_); refine goesL_ (some 68) rfl rfl Try.func39 (by kernel_rfl) rfl #[.int .i64 (wrap64 (a0 - 1)), .int .u64 t128] rfl (by (try simp only [List.map_toArray, List.map_cons, List.map_nil]); first | done | rfl | (simp only [List.length_drop, List.length_take]; rfl)) ?_; (with_reducible refine (tower_mulX.calls kj3 (wrap64 (a0 - 1)) t128 t131 _ A13.out).mono ?_); rintro e w' ⟨rfl, ⟨nd, rfl⟩⟩; refine ⟨_, rfl, ?_⟩) | ((with_reducible refine gate_callee (f := 54) rfl ?_); refine goesL_ (some 73) rfl rfl Try.func54 (by kernel_rfl) rfl #[.int .i64 a0, .int .u64 (Go.bits .xor .u64 (Go.bits .xor .u64 (Go.bits .xor .u64 t130 t128) t129) t131), .int .u64 (Go.bits .xor .u64 t129 t128)] rfl (by (try simp only [List.map_toArray, List.map_cons, List.map_nil]); first | done | rfl | (simp only [List.length_drop, List.length_take]; rfl)) ?_; (with_reducible refine (tower_join.calls a0 (Go.bits .xor .u64 (Go.bits .xor .u64 (Go.bits .xor .u64 t130 t128) t129) t131) (Go.bits .xor .u64 t129 t128) t132 _ A14.out).mono ?_); rintro e w' ⟨rfl, ⟨nd, rfl⟩⟩; refine ⟨_, rfl, ?_⟩))
    go_ret
    exact ⟨by first | rfl | (simp; done) | (simp [*]; done), by repeat (first | exact Drawn0.refl _ | apply Drawn0.step)⟩

/-! ### tower_Mul: function 13 -/
def tower_Mul.j0 : Nat → Int → Bool → Int → Int → Int → Int → Option (Int × Int)
 | 0, _, _, _, _, _, _ => none
 | k + 1, x0, x10, x134000, x134001, x135000, x135001 => if x10 = true then (some (0, 0)) else (if x0 ≤ 6 then ((tower_mul.f k x0 x134001 x135001).bind fun t138 => (some (0, t138))) else ((tower_mul.f k 6 x134000 x135000).bind fun t139 => ((tower_mul.f k 6 x134001 x135001).bind fun t140 => ((tower_mul.f k 6 (Go.bits .xor .u64 x134000 x134001) (Go.bits .xor .u64 x135000 x135001)).bind fun t141 => ((tower_mulX.f k 6 t139).bind fun t142 => (some (Go.bits .xor .u64 (Go.bits .xor .u64 (Go.bits .xor .u64 t141 t139) t140) t142, Go.bits .xor .u64 t140 t139)))))))
def tower_Mul.f (k : Nat) (a0 : Int) (a1_0 : Int) (a1_1 : Int) (a2_0 : Int) (a2_1 : Int) : Option (Int × Int) := (octet_Of.f k a0 a1_0 a1_1).bind fun t136 => (if t136 = true then ((octet_Of.f k a0 a2_0 a2_1).bind fun t137 => (tower_Mul.j0 k a0 (!t137) a1_0 a1_1 a2_0 a2_1)) else (tower_Mul.j0 k a0 true a1_0 a1_1 a2_0 a2_1))
theorem tower_Mul.mono_l : ∀ k, (∀ y0 y1 y2 y3 y4 y5, LeO (tower_Mul.j0 k y0 y1 y2 y3 y4 y5) (tower_Mul.j0 (k + 1) y0 y1 y2 y3 y4 y5))
 | 0 => fun _ _ _ _ _ _ r h => by simp [tower_Mul.j0] at h
 | k + 1 => by
  have ih0 := tower_Mul.mono_l k
  ·intro y0 y1 y2 y3 y4 y5
   unfold tower_Mul.j0
   repeat' first
   | (with_reducible exact ih0 _ _ _ _ _ _)
   | (with_reducible exact octet_Of.mono _ _ _ _)
   | (with_reducible exact tower_mul.mono _ _ _ _)
   | (with_reducible exact tower_mulX.mono _ _ _)
   | (with_reducible exact LeO.refl _)
   | (with_reducible exact LeO.none _)
   | (with_reducible refine LeO.ite ?_ ?_)
   | (with_reducible refine LeO.bind ?_ (fun _ => ?_))
   | exact ih0 _ _ _ _ _ _
   | exact octet_Of.mono _ _ _ _
   | exact tower_mul.mono _ _ _ _
   | exact tower_mulX.mono _ _ _
   | exact LeO.none _
   | refine LeO.ite ?_ ?_
   | refine LeO.bind ?_ (fun _ => ?_)
theorem tower_Mul.mono : ∀ a0 a1 a2 a3 a4 k, LeO (tower_Mul.f k a0 a1 a2 a3 a4) (tower_Mul.f (k + 1) a0 a1 a2 a3 a4) := by
 intro a0 a1 a2 a3 a4 k
 have ih0 := tower_Mul.mono_l k
 unfold tower_Mul.f
 repeat' first
   | (with_reducible exact ih0 _ _ _ _ _ _)
   | (with_reducible exact octet_Of.mono _ _ _ _)
   | (with_reducible exact tower_mul.mono _ _ _ _)
   | (with_reducible exact tower_mulX.mono _ _ _)
   | (with_reducible exact LeO.refl _)
   | (with_reducible exact LeO.none _)
   | (with_reducible refine LeO.ite ?_ ?_)
   | (with_reducible refine LeO.bind ?_ (fun _ => ?_))
   | exact ih0 _ _ _ _ _ _
   | exact octet_Of.mono _ _ _ _
   | exact tower_mul.mono _ _ _ _
   | exact tower_mulX.mono _ _ _
   | exact LeO.none _
   | refine LeO.ite ?_ ?_
   | refine LeO.bind ?_ (fun _ => ?_)
set_option maxHeartbeats 8000000 in
set_option maxRecDepth 100000 in
theorem tower_Mul.calls (k : Nat) (a0 : Int) (a1_0 : Int) (a1_1 : Int) (a2_0 : Int) (a2_1 : Int) (r1 : Int) (r2 : Int) (w : World) (h : tower_Mul.f k a0 a1_0 a1_1 a2_0 a2_1 = some (r1, r2)) :
  Calls Try.prog 13 #[.int .i64 a0, .agg #[.int .u64 a1_0, .int .u64 a1_1], .agg #[.int .u64 a2_0, .int .u64 a2_1]] w fun e w' => e = .returned (.agg #[.int .u64 r1, .int .u64 r2]) ∧ Below w.heap.size w w' := by
 have hu24 := Try.underlying24
 have HB := Aside0.mk (Below.refl w.heap.size w)
 have H : ((octet_Of.f k a0 a1_0 a1_1).bind fun t136 => (if t136 = true then ((octet_Of.f k a0 a2_0 a2_1).bind fun t137 => (tower_Mul.j0 k a0 (!t137) a1_0 a1_1 a2_0 a2_1)) else (tower_Mul.j0 k a0 true a1_0 a1_1 a2_0 a2_1))) = some (r1, r2) := h
 clear h
 have HC4 := Aside0.mk H
 clear H
 go_enter Try.func13, Try.ntmps13
 go_upto_region 1 with (first | ((with_reducible refine gate_dst (N := 4) rfl ?_); refine box_event ?hg (N := 4) ?hd (cs := #[.int .u64 a1_0, .int .u64 a1_1]) (t := 24) ?hr ?_; (case hd => rfl); (case hg => rfl); (case hr => first | (go_simp; done) | (go_simp; rfl)); intro gb133 hg w5 hbox hb; have BK133 := Aside0.mk hbox; have GW133 := ge hg HB; have GE133 := ge hg HB; replace HB := bh HB hb; clear hb hbox hg) | ((with_reducible refine gate_dst (N := 5) rfl ?_); refine box_event ?hg (N := 5) ?hd (cs := #[.int .u64 a2_0, .int .u64 a2_1]) (t := 24) ?hr ?_; (case hd => rfl); (case hg => rfl); (case hr => first | (go_simp; done) | (go_simp; rfl)); intro gb134 hg w6 hbox hb; have BK134 := Aside0.mk hbox; have GW134 := ge hg HB; have GE134 := ge hg HB; have NB133_134 := nl hg BK133; have NB134_133 := ng hg BK133; replace BK133 := bb BK133 hb; replace HB := bh HB hb; clear hb hbox hg) | ((with_reducible refine gate_dst (N := 6) rfl ?_); refine box_event ?hg (N := 6) ?hd (cs := #[.int .u64 0, .int .u64 0]) (t := 24) ?hr ?_; (case hd => rfl); (case hg => rfl); (case hr => first | (go_simp; done) | (go_simp; rfl)); intro gb135 hg w7 hbox hb; have BK135 := Aside0.mk hbox; have GW135 := ge hg HB; have GE135 := ge hg HB; have NB133_135 := nl hg BK133; have NB135_133 := ng hg BK133; have NB134_135 := nl hg BK134; have NB135_134 := ng hg BK134; replace BK133 := bb BK133 hb; replace BK134 := bb BK134 hb; replace HB := bh HB hb; clear hb hbox hg))
 repeat (go_quiet (first | ((with_reducible refine gate_dst (N := 4) rfl ?_); refine box_event ?hg (N := 4) ?hd (cs := #[.int .u64 a1_0, .int .u64 a1_1]) (t := 24) ?hr ?_; (case hd => rfl); (case hg => rfl); (case hr => first | (go_simp; done) | (go_simp; rfl)); intro gb133 hg w5 hbox hb; have BK133 := Aside0.mk hbox; have GW133 := ge hg HB; have GE133 := ge hg HB; replace HB := bh HB hb; clear hb hbox hg) | ((with_reducible refine gate_dst (N := 5) rfl ?_); refine box_event ?hg (N := 5) ?hd (cs := #[.int .u64 a2_0, .int .u64 a2_1]) (t := 24) ?hr ?_; (case hd => rfl); (case hg => rfl); (case hr => first | (go_simp; done) | (go_simp; rfl)); intro gb134 hg w6 hbox hb; have BK134 := Aside0.mk hbox; have GW134 := ge hg HB; have GE134 := ge hg HB; have NB133_134 := nl hg BK133; have NB134_133 := ng hg BK133; replace BK133 := bb BK133 hb; replace HB := bh HB hb; clear hb hbox hg) | ((with_reducible refine gate_dst (N := 6) rfl ?_); refine box_event ?hg (N := 6) ?hd (cs := #[.int .u64 0, .int .u64 0]) (t := 24) ?hr ?_; (case hd => rfl); (case hg => rfl); (case hr => first | (go_simp; done) | (go_simp; rfl)); intro gb135 hg w7 hbox hb; have BK135 := Aside0.mk hbox; have GW135 := ge hg HB; have GE135 := ge hg HB; have NB133_135 := nl hg BK133; have NB135_133 := ng hg BK133; have NB134_135 := nl hg BK134; have NB135_134 := ng hg BK134; replace BK133 := bb BK133 hb; replace BK134 := bb BK134 hb; replace HB := bh HB hb; clear hb hbox hg)); go_upto_region 1 with (first | ((with_reducible refine gate_dst (N := 4) rfl ?_); refine box_event ?hg (N := 4) ?hd (cs := #[.int .u64 a1_0, .int .u64 a1_1]) (t := 24) ?hr ?_; (case hd => rfl); (case hg => rfl); (case hr => first | (go_simp; done) | (go_simp; rfl)); intro gb133 hg w5 hbox hb; have BK133 := Aside0.mk hbox; have GW133 := ge hg HB; have GE133 := ge hg HB; replace HB := bh HB hb; clear hb hbox hg) | ((with_reducible refine gate_dst (N := 5) rfl ?_); refine box_event ?hg (N := 5) ?hd (cs := #[.int .u64 a2_0, .int .u64 a2_1]) (t := 24) ?hr ?_; (case hd => rfl); (case hg => rfl); (case hr => first | (go_simp; done) | (go_simp; rfl)); intro gb134 hg w6 hbox hb; have BK134 := Aside0.mk hbox; have GW134 := ge hg HB; have GE134 := ge hg HB; have NB133_134 := nl hg BK133; have NB134_133 := ng hg BK133; replace BK133 := bb BK133 hb; replace HB := bh HB hb; clear hb hbox hg) | ((with_reducible refine gate_dst (N := 6) rfl ?_); refine box_event ?hg (N := 6) ?hd (cs := #[.int .u64 0, .int .u64 0]) (t := 24) ?hr ?_; (case hd => rfl); (case hg => rfl); (case hr => first | (go_simp; done) | (go_simp; rfl)); intro gb135 hg w7 hbox hb; have BK135 := Aside0.mk hbox; have GW135 := ge hg HB; have GE135 := ge hg HB; have NB133_135 := nl hg BK133; have NB135_133 := ng hg BK133; have NB134_135 := nl hg BK134; have NB135_134 := ng hg BK134; replace BK133 := bb BK133 hb; replace BK134 := bb BK134 hb; replace HB := bh HB hb; clear hb hbox hg)))
 (try simp only [Act.put, List.setIfInBounds_toArray, List.set_cons_zero, List.set_cons_succ])
 go_cut [10] (fun v10 wc => ∃ (kq : Nat) (x10_3 : Bool), v10 = .bool x10_3 ∧ Aside0 (tower_Mul.j0 kq a0 x10_3 a1_0 a1_1 a2_0 a2_1 = some (r1, r2)) ∧ Aside0 (kq ≤ k) ∧ Aside0 (wc.heap[gb133]? = some (.cells #[.int .u64 a1_0, .int .u64 a1_1] 24 (0, 0))) ∧ Aside0 (wc.heap[gb134]? = some (.cells #[.int .u64 a2_0, .int .u64 a2_1] 24 (0, 0))) ∧ Aside0 (wc.heap[gb135]? = some (.cells #[.int .u64 0, .int .u64 0] 24 (0, 0))) ∧ Aside0 (Below w.heap.size w wc))
 case first =>
  have H := HC4.out
  clear HC4
  replace H := Option.bind_eq_some_iff.mp H
  obtain ⟨t136, A80, H⟩ := H
  replace H : (if t136 = true then ((octet_Of.f k a0 a2_0 a2_1).bind fun t137 => (tower_Mul.j0 k a0 (!t137) a1_0 a1_1 a2_0 a2_1)) else (tower_Mul.j0 k a0 true a1_0 a1_1 a2_0 a2_1)) = some (r1, r2) := H
  have A8 := Aside0.mk A80
  clear A80
  by_cases c9 : t136 = true
  ·subst c9
   have H1 : ((octet_Of.f k a0 a2_0 a2_1).bind fun t137 => (tower_Mul.j0 k a0 (!t137) a1_0 a1_1 a2_0 a2_1)) = some (r1, r2) := by rw [if_pos rfl] at H; exact H
   clear H
   have H := H1
   clear H1
   replace H := Option.bind_eq_some_iff.mp H
   obtain ⟨t137, A100, H⟩ := H
   replace H : (tower_Mul.j0 k a0 (!t137) a1_0 a1_1 a2_0 a2_1) = some (r1, r2) := H
   have A10 := Aside0.mk A100
   clear A100
   have H' := Aside0.mk H
   clear H
   have hnb11 := NB133_134.out
   have hnc11 := NB134_133.out
   have hnb12 := NB133_135.out
   have hnc12 := NB135_133.out
   obtain ⟨hcz13_0, hcz13_1⟩ := zc2 BK133
   obtain ⟨hfz13_0, hfz13_1⟩ := zf2 BK133
   go_wp2_with (first | (go_at_call 26; (with_reducible refine (octet_Of.calls k a0 a1_0 a1_1 true _ A8.out).mono ?_); rintro e w14 ⟨rfl, hb⟩; replace BK133 := bb BK133 hb; replace BK134 := bb BK134 hb; replace BK135 := bb BK135 hb; replace HB := bh HB hb; (try clear hb); (try clear hb2); (try clear hk); (try clear hi); have hnb15 := NB134_135.out; have hnc15 := NB135_134.out; obtain ⟨hcz16_0, hcz16_1⟩ := zc2 BK134; obtain ⟨hfz16_0, hfz16_1⟩ := zf2 BK134) | (go_at_call 26; (with_reducible refine (octet_Of.calls k a0 a2_0 a2_1 t137 _ A10.out).mono ?_); rintro e w17 ⟨rfl, hb⟩; replace BK133 := bb BK133 hb; replace BK134 := bb BK134 hb; replace BK135 := bb BK135 hb; replace HB := bh HB hb; (try clear hb); (try clear hb2); (try clear hk); (try clear hi)))
   repeat (go_quiet (first | (go_at_call 26; (with_reducible refine (octet_Of.calls k a0 a1_0 a1_1 true _ A8.out).mono ?_); rintro e w14 ⟨rfl, hb⟩; replace BK133 := bb BK133 hb; replace BK134 := bb BK134 hb; replace BK135 := bb BK135 hb; replace HB := bh HB hb; (try clear hb); (try clear hb2); (try clear hk); (try clear hi); have hnb15 := NB134_135.out; have hnc15 := NB135_134.out; obtain ⟨hcz16_0, hcz16_1⟩ := zc2 BK134; obtain ⟨hfz16_0, hfz16_1⟩ := zf2 BK134) | (go_at_call 26; (with_reducible refine (octet_Of.calls k a0 a2_0 a2_1 t137 _ A10.out).mono ?_); rintro e w17 ⟨rfl, hb⟩; replace BK133 := bb BK133 hb; replace BK134 := bb BK134 hb; replace BK135 := bb BK135 hb; replace HB := bh HB hb; (try clear hb); (try clear hb2); (try clear hk); (try clear hi))); try go_wp2_with (first | (go_at_call 26; (with_reducible refine (octet_Of.calls k a0 a1_0 a1_1 true _ A8.out).mono ?_); rintro e w14 ⟨rfl, hb⟩; replace BK133 := bb BK133 hb; replace BK134 := bb BK134 hb; replace BK135 := bb BK135 hb; replace HB := bh HB hb; (try clear hb); (try clear hb2); (try clear hk); (try clear hi); have hnb15 := NB134_135.out; have hnc15 := NB135_134.out; obtain ⟨hcz16_0, hcz16_1⟩ := zc2 BK134; obtain ⟨hfz16_0, hfz16_1⟩ := zf2 BK134) | (go_at_call 26; (with_reducible refine (octet_Of.calls k a0 a2_0 a2_1 t137 _ A10.out).mono ?_); rintro e w17 ⟨rfl, hb⟩; replace BK133 := bb BK133 hb; replace BK134 := bb BK134 hb; replace BK135 := bb BK135 hb; replace HB := bh HB hb; (try clear hb); (try clear hb2); (try clear hk); (try clear hi))))
   go_meet
   case rel => exact ⟨_, (!t137), (by first | rfl | (simp; done) | (simp [*]; done)), H', ⟨by first | omega | exact Nat.le_refl _⟩, ⟨bk BK133.out⟩, ⟨bk BK134.out⟩, ⟨bk BK135.out⟩, ⟨bq HB.out⟩⟩
  ·replace c9 := Bool.eq_false_iff.mpr c9
   subst c9
   have H1 : (tower_Mul.j0 k a0 true a1_0 a1_1 a2_0 a2_1) = some (r1, r2) := by rw [if_neg (show ¬ (false = true) by decide)] at H; exact H
   clear H
   have H := H1
   clear H1
   have H' := Aside0.mk H
   clear H
   have hnb18 := NB133_134.out
   have hnc18 := NB134_133.out
   have hnb19 := NB133_135.out
   have hnc19 := NB135_133.out
   obtain ⟨hcz20_0, hcz20_1⟩ := zc2 BK133
   obtain ⟨hfz20_0, hfz20_1⟩ := zf2 BK133
   go_wp2_with (first | (go_at_call 26; (with_reducible refine (octet_Of.calls k a0 a1_0 a1_1 false _ A8.out).mono ?_); rintro e w21 ⟨rfl, hb⟩; replace BK133 := bb BK133 hb; replace BK134 := bb BK134 hb; replace BK135 := bb BK135 hb; replace HB := bh HB hb; (try clear hb); (try clear hb2); (try clear hk); (try clear hi)))
   repeat (go_quiet (first | (go_at_call 26; (with_reducible refine (octet_Of.calls k a0 a1_0 a1_1 false _ A8.out).mono ?_); rintro e w21 ⟨rfl, hb⟩; replace BK133 := bb BK133 hb; replace BK134 := bb BK134 hb; replace BK135 := bb BK135 hb; replace HB := bh HB hb; (try clear hb); (try clear hb2); (try clear hk); (try clear hi))); try go_wp2_with (first | (go_at_call 26; (with_reducible refine (octet_Of.calls k a0 a1_0 a1_1 false _ A8.out).mono ?_); rintro e w21 ⟨rfl, hb⟩; replace BK133 := bb BK133 hb; replace BK134 := bb BK134 hb; replace BK135 := bb BK135 hb; replace HB := bh HB hb; (try clear hb); (try clear hb2); (try clear hk); (try clear hi))))
   go_meet
   case rel => exact ⟨_, (true), (by first | rfl | (simp; done) | (simp [*]; done)), H', ⟨by first | omega | exact Nat.le_refl _⟩, ⟨bk BK133.out⟩, ⟨bk BK134.out⟩, ⟨bk BK135.out⟩, ⟨bq HB.out⟩⟩
 case rest =>
  clear HC4
  try clear c1
  try clear p2
  try clear c9
  try clear c11
  try clear c12
  try clear c13
  try clear c15
  try clear c18
  try clear c19
  try clear hcz13_0
  try clear hcz13_1
  try clear hcz16_0
  try clear hcz16_1
  try clear hcz20_0
  try clear hcz20_1
  try clear hfz13_0
  try clear hfz13_1
  try clear hfz16_0
  try clear hfz16_1
  try clear hfz20_0
  try clear hfz20_1
  obtain ⟨kq, x10_3, rfl, HA, HJ3, BK133, BK134, BK135, HB⟩ := hcut
  cases kq with
  | zero => exact absurd HA.out (by simp [tower_Mul.j0])
  | succ kj3 =>
   have H := HA.out
   clear HA
   simp only [tower_Mul.j0] at H
   by_cases c22 : x10_3 = true
   ·subst c22
    have H1 : (some (0, 0)) = some (r1, r2) := by rw [if_pos rfl] at H; exact H
    clear H
    have H := H1
    clear H1
    simp only [Option.some.injEq, Prod.mk.injEq] at H
    obtain ⟨rfl, rfl⟩ := H
    have hnb23 := NB135_133.out
    have hnc23 := NB133_135.out
    have hnb24 := NB135_134.out
    have hnc24 := NB134_135.out
    obtain ⟨hcz25_0, hcz25_1⟩ := zc2 BK135
    obtain ⟨hfz25_0, hfz25_1⟩ := zf2 BK135
    go_wp2
    repeat (go_quiet (fail); try go_wp2)
    refine bodyPost_ret (results_cell_row rfl _ _ gb135 24 #[.int .u64 0, .int .u64 0] (0, 0) _ rfl (by (with_reducible repeat refine bl ?_); refine blk_put (cs := #[.int .u64 0, .int .u64 0]) ?_ 1 _ rfl; (with_reducible repeat refine bl ?_); refine blk_put (cs := #[.int .u64 0, .int .u64 0]) ?_ 0 _ rfl; (with_reducible repeat refine bl ?_); exact BK135.out) Try.underlying24 rfl (by kernel_rfl)) rfl ?_
    exact ⟨by first | rfl | (simp [errW_none, errW_some] <;> rfl) | (simp [*, errW_none, errW_some] <;> rfl), bq HB.out⟩
   ·replace c22 := Bool.eq_false_iff.mpr c22
    subst c22
    have H1 : (if a0 ≤ 6 then ((tower_mul.f kj3 a0 a1_1 a2_1).bind fun t138 => (some (0, t138))) else ((tower_mul.f kj3 6 a1_0 a2_0).bind fun t139 => ((tower_mul.f kj3 6 a1_1 a2_1).bind fun t140 => ((tower_mul.f kj3 6 (Go.bits .xor .u64 a1_0 a1_1) (Go.bits .xor .u64 a2_0 a2_1)).bind fun t141 => ((tower_mulX.f kj3 6 t139).bind fun t142 => (some (Go.bits .xor .u64 (Go.bits .xor .u64 (Go.bits .xor .u64 t141 t139) t140) t142, Go.bits .xor .u64 t140 t139))))))) = some (r1, r2) := by rw [if_neg (show ¬ (false = true) by decide)] at H; exact H
    clear H
    have H := H1
    clear H1
    by_cases c26 : a0 ≤ 6
    ·rw [if_pos c26] at H
     have c26b0 : decide (a0 ≤ 6) = true := decide_eq_true c26
     clear c26
     replace H := Option.bind_eq_some_iff.mp H
     obtain ⟨t138, A270, H⟩ := H
     replace H : (some (0, t138)) = some (r1, r2) := H
     have A27 := Aside0.mk A270
     clear A270
     simp only [Option.some.injEq, Prod.mk.injEq] at H
     obtain ⟨rfl, rfl⟩ := H
     have hnb28 := NB133_134.out
     have hnc28 := NB134_133.out
     have hnb29 := NB133_135.out
     have hnc29 := NB135_133.out
     obtain ⟨hcz30_0, hcz30_1⟩ := zc2 BK133
     obtain ⟨hfz30_0, hfz30_1⟩ := zf2 BK133
     have hnb31 := NB134_135.out
     have hnc31 := NB135_134.out
     obtain ⟨hcz32_0, hcz32_1⟩ := zc2 BK134
     obtain ⟨hfz32_0, hfz32_1⟩ := zf2 BK134
     go_wp2_with (first | (go_at_call 38; (with_reducible refine (tower_mul.calls kj3 a0 a1_1 a2_1 t138 _ A27.out).mono ?_); rintro e w' ⟨rfl, ⟨nd, rfl⟩⟩; (try first | exact ⟨rfl, _, World.drewN_drewN _ _ _⟩ | exact ⟨rfl, _, Eq.trans (World.drewN_drewN _ _ _) (congrArg (World.drewN _) (Nat.add_assoc _ _ _))⟩); obtain ⟨hcz33_0, hcz33_1⟩ := zc2 BK135; obtain ⟨hfz33_0, hfz33_1⟩ := zf2 BK135))
     repeat (go_quiet (first | (go_at_call 38; (with_reducible refine (tower_mul.calls kj3 a0 a1_1 a2_1 t138 _ A27.out).mono ?_); rintro e w' ⟨rfl, ⟨nd, rfl⟩⟩; (try first | exact ⟨rfl, _, World.drewN_drewN _ _ _⟩ | exact ⟨rfl, _, Eq.trans (World.drewN_drewN _ _ _) (congrArg (World.drewN _) (Nat.add_assoc _ _ _))⟩); obtain ⟨hcz33_0, hcz33_1⟩ := zc2 BK135; obtain ⟨hfz33_0, hfz33_1⟩ := zf2 BK135)); try go_wp2_with (first | (go_at_call 38; (with_reducible refine (tower_mul.calls kj3 a0 a1_1 a2_1 t138 _ A27.out).mono ?_); rintro e w' ⟨rfl, ⟨nd, rfl⟩⟩; (try first | exact ⟨rfl, _, World.drewN_drewN _ _ _⟩ | exact ⟨rfl, _, Eq.trans (World.drewN_drewN _ _ _) (congrArg (World.drewN _) (Nat.add_assoc _ _ _))⟩); obtain ⟨hcz33_0, hcz33_1⟩ := zc2 BK135; obtain ⟨hfz33_0, hfz33_1⟩ := zf2 BK135)))
     refine bodyPost_ret (results_cell_row rfl _ _ gb135 24 #[.int .u64 0, .int .u64 t138] (0, 0) _ rfl (by (with_reducible repeat refine bl ?_); refine blk_put (cs := #[.int .u64 0, .int .u64 0]) ?_ 1 _ rfl; (with_reducible repeat refine bl ?_); refine blk_put (cs := #[.int .u64 0, .int .u64 0]) ?_ 0 _ rfl; (with_reducible repeat refine bl ?_); exact BK135.out) Try.underlying24 rfl (by kernel_rfl)) rfl ?_
     exact ⟨by first | rfl | (simp [errW_none, errW_some] <;> rfl) | (simp [*, errW_none, errW_some] <;> rfl), bq HB.out⟩
    ·rw [if_neg c26] at H
     have c26b0 : decide (a0 ≤ 6) = false := decide_eq_false c26
     clear c26
     replace H := Option.bind_eq_some_iff.mp H
     obtain ⟨t139, A340, H⟩ := H
     replace H : ((tower_mul.f kj3 6 a1_1 a2_1).bind fun t140 => ((tower_mul.f kj3 6 (Go.bits .xor .u64 a1_0 a1_1) (Go.bits .xor .u64 a2_0 a2_1)).bind fun t141 => ((tower_mulX.f kj3 6 t139).bind fun t142 => (some (Go.bits .xor .u64 (Go.bits .xor .u64 (Go.bits .xor .u64 t141 t139) t140) t142, Go.bits .xor .u64 t140 t139))))) = some (r1, r2) := H
     have A34 := Aside0.mk A340
     clear A340
     replace H := Option.bind_eq_some_iff.mp H
     obtain ⟨t140, A350, H⟩ := H
     replace H : ((tower_mul.f kj3 6 (Go.bits .xor .u64 a1_0 a1_1) (Go.bits .xor .u64 a2_0 a2_1)).bind fun t141 => ((tower_mulX.f kj3 6 t139).bind fun t142 => (some (Go.bits .xor .u64 (Go.bits .xor .u64 (Go.bits .xor .u64 t141 t139) t140) t142, Go.bits .xor .u64 t140 t139)))) = some (r1, r2) := H
     have A35 := Aside0.mk A350
     clear A350
     replace H := Option.bind_eq_some_iff.mp H
     obtain ⟨t141, A360, H⟩ := H
     replace H : ((tower_mulX.f kj3 6 t139).bind fun t142 => (some (Go.bits .xor .u64 (Go.bits .xor .u64 (Go.bits .xor .u64 t141 t139) t140) t142, Go.bits .xor .u64 t140 t139))) = some (r1, r2) := H
     have A36 := Aside0.mk A360
     clear A360
     replace H := Option.bind_eq_some_iff.mp H
     obtain ⟨t142, A370, H⟩ := H
     replace H : (some (Go.bits .xor .u64 (Go.bits .xor .u64 (Go.bits .xor .u64 t141 t139) t140) t142, Go.bits .xor .u64 t140 t139)) = some (r1, r2) := H
     have A37 := Aside0.mk A370
     clear A370
     simp only [Option.some.injEq, Prod.mk.injEq] at H
     obtain ⟨rfl, rfl⟩ := H
     have hnb38 := NB133_134.out
     have hnc38 := NB134_133.out
     have hnb39 := NB133_135.out
     have hnc39 := NB135_133.out
     obtain ⟨hcz40_0, hcz40_1⟩ := zc2 BK133
     obtain ⟨hfz40_0, hfz40_1⟩ := zf2 BK133
     have hnb41 := NB134_135.out
     have hnc41 := NB135_134.out
     obtain ⟨hcz42_0, hcz42_1⟩ := zc2 BK134
     obtain ⟨hfz42_0, hfz42_1⟩ := zf2 BK134
     go_wp2_with (first | (go_at_call 38; (with_reducible refine (tower_mul.calls kj3 6 a1_0 a2_0 t139 _ A34.out).mono ?_); rintro e w' ⟨rfl, ⟨nd, rfl⟩⟩; (try first | exact ⟨rfl, _, World.drewN_drewN _ _ _⟩ | exact ⟨rfl, _, Eq.trans (World.drewN_drewN _ _ _) (congrArg (World.drewN _) (Nat.add_assoc _ _ _))⟩)) | (go_at_call 38; (with_reducible refine (tower_mul.calls kj3 6 a1_1 a2_1 t140 _ A35.out).mono ?_); rintro e w' ⟨rfl, ⟨nd, rfl⟩⟩; (try first | exact ⟨rfl, _, World.drewN_drewN _ _ _⟩ | exact ⟨rfl, _, Eq.trans (World.drewN_drewN _ _ _) (congrArg (World.drewN _) (Nat.add_assoc _ _ _))⟩)) | (go_at_call 38; (with_reducible refine (tower_mul.calls kj3 6 (Go.bits .xor .u64 a1_0 a1_1) (Go.bits .xor .u64 a2_0 a2_1) t141 _ A36.out).mono ?_); rintro e w' ⟨rfl, ⟨nd, rfl⟩⟩; (try first | exact ⟨rfl, _, World.drewN_drewN _ _ _⟩ | exact ⟨rfl, _, Eq.trans (World.drewN_drewN _ _ _) (congrArg (World.drewN _) (Nat.add_assoc _ _ _))⟩)) | (go_at_call 39; (with_reducible refine (tower_mulX.calls kj3 6 t139 t142 _ A37.out).mono ?_); rintro e w' ⟨rfl, ⟨nd, rfl⟩⟩; (try first | exact ⟨rfl, _, World.drewN_drewN _ _ _⟩ | exact ⟨rfl, _, Eq.trans (World.drewN_drewN _ _ _) (congrArg (World.drewN _) (Nat.add_assoc _ _ _))⟩); obtain ⟨hcz43_0, hcz43_1⟩ := zc2 BK135; obtain ⟨hfz43_0, hfz43_1⟩ := zf2 BK135))
     repeat (go_quiet (first | (go_at_call 38; (with_reducible refine (tower_mul.calls kj3 6 a1_0 a2_0 t139 _ A34.out).mono ?_); rintro e w' ⟨rfl, ⟨nd, rfl⟩⟩; (try first | exact ⟨rfl, _, World.drewN_drewN _ _ _⟩ | exact ⟨rfl, _, Eq.trans (World.drewN_drewN _ _ _) (congrArg (World.drewN _) (Nat.add_assoc _ _ _))⟩)) | (go_at_call 38; (with_reducible refine (tower_mul.calls kj3 6 a1_1 a2_1 t140 _ A35.out).mono ?_); rintro e w' ⟨rfl, ⟨nd, rfl⟩⟩; (try first | exact ⟨rfl, _, World.drewN_drewN _ _ _⟩ | exact ⟨rfl, _, Eq.trans (World.drewN_drewN _ _ _) (congrArg (World.drewN _) (Nat.add_assoc _ _ _))⟩)) | (go_at_call 38; (with_reducible refine (tower_mul.calls kj3 6 (Go.bits .xor .u64 a1_0 a1_1) (Go.bits .xor .u64 a2_0 a2_1) t141 _ A36.out).mono ?_); rintro e w' ⟨rfl, ⟨nd, rfl⟩⟩; (try first | exact ⟨rfl, _, World.drewN_drewN _ _ _⟩ | exact ⟨rfl, _, Eq.trans (World.drewN_drewN _ _ _) (congrArg (World.drewN _) (Nat.add_assoc _ _ _))⟩)) | (go_at_call 39; (with_reducible refine (tower_mulX.calls kj3 6 t139 t142 _ A37.out).mono ?_); rintro e w' ⟨rfl, ⟨nd, rfl⟩⟩; (try first | exact ⟨rfl, _, World.drewN_drewN _ _ _⟩ | exact ⟨rfl, _, Eq.trans (World.drewN_drewN _ _ _) (congrArg (World.drewN _) (Nat.add_assoc _ _ _))⟩); obtain ⟨hcz43_0, hcz43_1⟩ := zc2 BK135; obtain ⟨hfz43_0, hfz43_1⟩ := zf2 BK135)); try go_wp2_with (first | (go_at_call 38; (with_reducible refine (tower_mul.calls kj3 6 a1_0 a2_0 t139 _ A34.out).mono ?_); rintro e w' ⟨rfl, ⟨nd, rfl⟩⟩; (try first | exact ⟨rfl, _, World.drewN_drewN _ _ _⟩ | exact ⟨rfl, _, Eq.trans (World.drewN_drewN _ _ _) (congrArg (World.drewN _) (Nat.add_assoc _ _ _))⟩)) | (go_at_call 38; (with_reducible refine (tower_mul.calls kj3 6 a1_1 a2_1 t140 _ A35.out).mono ?_); rintro e w' ⟨rfl, ⟨nd, rfl⟩⟩; (try first | exact ⟨rfl, _, World.drewN_drewN _ _ _⟩ | exact ⟨rfl, _, Eq.trans (World.drewN_drewN _ _ _) (congrArg (World.drewN _) (Nat.add_assoc _ _ _))⟩)) | (go_at_call 38; (with_reducible refine (tower_mul.calls kj3 6 (Go.bits .xor .u64 a1_0 a1_1) (Go.bits .xor .u64 a2_0 a2_1) t141 _ A36.out).mono ?_); rintro e w' ⟨rfl, ⟨nd, rfl⟩⟩; (try first | exact ⟨rfl, _, World.drewN_drewN _ _ _⟩ | exact ⟨rfl, _, Eq.trans (World.drewN_drewN _ _ _) (congrArg (World.drewN _) (Nat.add_assoc _ _ _))⟩)) | (go_at_call 39; (with_reducible refine (tower_mulX.calls kj3 6 t139 t142 _ A37.out).mono ?_); rintro e w' ⟨rfl, ⟨nd, rfl⟩⟩; (try first | exact ⟨rfl, _, World.drewN_drewN _ _ _⟩ | exact ⟨rfl, _, Eq.trans (World.drewN_drewN _ _ _) (congrArg (World.drewN _) (Nat.add_assoc _ _ _))⟩); obtain ⟨hcz43_0, hcz43_1⟩ := zc2 BK135; obtain ⟨hfz43_0, hfz43_1⟩ := zf2 BK135)))
     refine bodyPost_ret (results_cell_row rfl _ _ gb135 24 #[.int .u64 (Go.bits .xor .u64 (Go.bits .xor .u64 (Go.bits .xor .u64 t141 t139) t140) t142), .int .u64 (Go.bits .xor .u64 t140 t139)] (0, 0) _ rfl (by (with_reducible repeat refine bl ?_); refine blk_put (cs := #[.int .u64 (Go.bits .xor .u64 (Go.bits .xor .u64 (Go.bits .xor .u64 t141 t139) t140) t142), .int .u64 0]) ?_ 1 _ rfl; (with_reducible repeat refine bl ?_); refine blk_put (cs := #[.int .u64 0, .int .u64 0]) ?_ 0 _ rfl; (with_reducible repeat refine bl ?_); exact BK135.out) Try.underlying24 rfl (by kernel_rfl)) rfl ?_
     exact ⟨by first | rfl | (simp [errW_none, errW_some] <;> rfl) | (simp [*, errW_none, errW_some] <;> rfl), bq HB.out⟩

/-! ### tower_One: function 40 -/
def tower_One.f  : Option (Int × Int) := some (0, 1)
set_option maxHeartbeats 8000000 in
set_option maxRecDepth 100000 in
theorem tower_One.calls  (r1 : Int) (r2 : Int) (w : World) (h : tower_One.f  = some (r1, r2)) :
  Calls Try.prog 40 #[] w fun e w' => e = .returned (.agg #[.int .u64 r1, .int .u64 r2]) ∧ Below w.heap.size w w' := by
 have hu24 := Try.underlying24
 have HB := Aside0.mk (Below.refl w.heap.size w)
 have H : (some (0, 1)) = some (r1, r2) := h
 clear h
 simp only [Option.some.injEq, Prod.mk.injEq] at H
 obtain ⟨rfl, rfl⟩ := H
 go_enter Try.func40, Try.ntmps40
 go_wp2_with (first | ((with_reducible refine gate_dst (N := 0) rfl ?_); refine box_event ?hg (N := 0) ?hd (cs := #[.int .u64 0, .int .u64 0]) (t := 24) ?hr ?_; (case hd => rfl); (case hg => rfl); (case hr => first | (go_simp; done) | (go_simp; rfl)); intro gb143 hg w1 hbox hb; have BK143 := Aside0.mk hbox; have GW143 := ge hg HB; have GE143 := ge hg HB; replace HB := bh HB hb; clear hb hbox hg; obtain ⟨hcz2_0, hcz2_1⟩ := zc2 BK143; obtain ⟨hfz2_0, hfz2_1⟩ := zf2 BK143))
 refine bodyPost_ret (results_cell_row rfl _ _ gb143 24 #[.int .u64 0, .int .u64 1] (0, 0) _ rfl (by (with_reducible repeat refine bl ?_); refine blk_put (cs := #[.int .u64 0, .int .u64 0]) ?_ 1 _ rfl; (with_reducible repeat refine bl ?_); refine blk_put (cs := #[.int .u64 0, .int .u64 0]) ?_ 0 _ rfl; (with_reducible repeat refine bl ?_); exact BK143.out) Try.underlying24 rfl (by kernel_rfl)) rfl ?_
 exact ⟨by first | rfl | (simp [errW_none, errW_some] <;> rfl) | (simp [*, errW_none, errW_some] <;> rfl), bq HB.out⟩

end Go.Proofs.Ytlegcabfgkccmaa.P
