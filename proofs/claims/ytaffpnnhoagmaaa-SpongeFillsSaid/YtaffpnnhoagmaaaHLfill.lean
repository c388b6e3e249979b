/- The law's function SpongeFills walked (layer 10). Conditions: those that each theorem names. Printed by gen_st.py. -/
import Derived.Test.YtaffpnnhoagmaaaHAw11
import Derived.Test.YtaffpnnhoagmaaaPmSpF
set_option linter.unusedVariables false
set_option linter.unusedSimpArgs false
set_option maxRecDepth 100000
namespace Go.Proofs.Ytaffpnnhoagmaaa.P
open Go.RowKit Go.Proofs.Ytaffpnnhoagmaaa.Br Go.Proofs.YtaffpnnhoagmaaaX Go.Proofs.YtaffpnnhoagmaaaW.PrintWords Go.Proofs.YtaffpnnhoagmaaaW.PrintLast Go.Proofs.YtaffpnnhoagmaaaW.PrintMore
theorem toList_ne {a b : ByteArray} (h : a ≠ b) : (a.toList == b.toList) = false := by
  rw [beq_eq_false_iff_ne]
  intro e
  rw [ByteArray.toList_eq, ByteArray.toList_eq] at e
  exact h (str_ext2 e)
set_option maxHeartbeats 8000000 in
set_option maxRecDepth 100000 in
theorem lfill_far1 (a b : ByteArray) (ha : 2000 < a.size) (w : World) :
  Calls Try.prog 4 #[.string a, .string b] w fun e w' => e = .returned (.bool true) ∧ Below w.heap.size w w' := by
 have HB := Aside0.mk (Below.refl w.heap.size w)
 have za1 : decide (2000 < (a.size : Int)) = true := decide_eq_true (by omega)
 have za2 : decide (2000 < a.size) = true := decide_eq_true (by omega)
 clear ha
 go_enter Try.func4, Try.ntmps4
 go_wp2_with (first
  | ((with_reducible refine gate_callee (f := 8) rfl ?_); refine goesL_ (some 19) rfl rfl Try.func8 (by kernel_rfl) rfl #[] rfl (by (try simp only [List.map_toArray, List.map_cons, List.map_nil]); first | done | rfl) ?_; (with_reducible refine (awake_calls _).mono ?_); rintro e w11 ⟨rfl, hb⟩; refine ⟨_, rfl, ?_⟩; replace HB := bh HB hb; (try clear hb))
  | (go_at_call 8; (with_reducible refine (awake_calls _).mono ?_); rintro e w11 ⟨rfl, hb⟩; replace HB := bh HB hb; (try clear hb)))
 go_ret
 exact ⟨by first | rfl | (simp; done) | (simp [*]; done), HB.out⟩
set_option maxHeartbeats 8000000 in
set_option maxRecDepth 100000 in
theorem lfill_far2 (a b : ByteArray) (ha : a.size ≤ 2000) (hb : 2000 < b.size) (w : World) :
  Calls Try.prog 4 #[.string a, .string b] w fun e w' => e = .returned (.bool true) ∧ Below w.heap.size w w' := by
 have HB := Aside0.mk (Below.refl w.heap.size w)
 have za1 : decide (2000 < (a.size : Int)) = false := decide_eq_false (by omega)
 have za2 : decide (2000 < a.size) = false := decide_eq_false (by omega)
 have zb1 : decide (2000 < (b.size : Int)) = true := decide_eq_true (by omega)
 have zb2 : decide (2000 < b.size) = true := decide_eq_true (by omega)
 clear ha hb
 go_enter Try.func4, Try.ntmps4
 go_wp2_with (first
  | ((with_reducible refine gate_callee (f := 8) rfl ?_); refine goesL_ (some 19) rfl rfl Try.func8 (by kernel_rfl) rfl #[] rfl (by (try simp only [List.map_toArray, List.map_cons, List.map_nil]); first | done | rfl) ?_; (with_reducible refine (awake_calls _).mono ?_); rintro e w11 ⟨rfl, hb⟩; refine ⟨_, rfl, ?_⟩; replace HB := bh HB hb; (try clear hb))
  | (go_at_call 8; (with_reducible refine (awake_calls _).mono ?_); rintro e w11 ⟨rfl, hb⟩; replace HB := bh HB hb; (try clear hb)))
 go_ret
 exact ⟨by first | rfl | (simp; done) | (simp [*]; done), HB.out⟩
set_option maxHeartbeats 8000000 in
set_option maxRecDepth 100000 in
theorem lfill_same (a x : ByteArray) (n : Nat) (ha : a.size ≤ 2000) (ex : fillS a = x) (hx : x.size = 64 * n) (hax : a.size ≤ x.size) (hp : x.extract 0 a.size = a)  (w : World) :
  Calls Try.prog 4 #[.string a, .string a] w fun e w' => e = .returned (.bool true) ∧ Below w.heap.size w w' := by
 have HB := Aside0.mk (Below.refl w.heap.size w)
 have za1 : decide (2000 < (a.size : Int)) = false := decide_eq_false (by omega)
 have za2 : decide (2000 < a.size) = false := decide_eq_false (by omega)
 have SA := Aside0.mk ha
 have EX := Aside0.mk ex
 have rx : ((x.size : Int)) % 64 = 0 := by omega
 have rx2 : Int.tmod (x.size : Int) 64 = 0 := by rw [Int.tmod_eq_emod_of_nonneg (by omega)]; omega
 have l1 : decide ((x.size : Int) < (a.size : Int)) = false := decide_eq_false (by omega)
 have l2 : decide (x.size < a.size) = false := decide_eq_false (by omega)
 have l3 : (0 ≤ (a.size : Int)) = True := eq_true (by omega)
 have l4 : ((a.size : Int) ≤ (x.size : Int)) = True := eq_true (by omega)
 have l5 : (a.size ≤ x.size) = True := eq_true (by omega)
 have lp := hp
 clear ha ex hx hax hp
 go_enter Try.func4, Try.ntmps4
 go_wp2_with (first
  | ((with_reducible refine gate_callee (f := 8) rfl ?_); refine goesL_ (some 16) rfl rfl Try.func8 (by kernel_rfl) rfl #[] rfl (by (try simp only [List.map_toArray, List.map_cons, List.map_nil]); first | done | rfl) ?_; (with_reducible refine (awake_calls _).mono ?_); rintro e w11 ⟨rfl, hb⟩; refine ⟨_, rfl, ?_⟩; replace HB := bh HB hb; (try clear hb))
  | (go_at_call 8; (with_reducible refine (awake_calls _).mono ?_); rintro e w11 ⟨rfl, hb⟩; replace HB := bh HB hb; (try clear hb))
  | ((with_reducible refine gate_callee (f := 15) rfl ?_); refine goesL_ (some 21) rfl rfl Try.func15 (by kernel_rfl) rfl #[.string a] rfl (by (try simp only [List.map_toArray, List.map_cons, List.map_nil]); first | done | rfl) ?_; (with_reducible refine (str1_eq EX.out (fill_calls a (Nat.le_trans SA.out (by decide)) _)).mono ?_); rintro e w11 ⟨rfl, hb⟩; refine ⟨_, rfl, ?_⟩; replace HB := bh HB hb; (try clear hb))
  | (go_at_call 15; (with_reducible refine (str1_eq EX.out (fill_calls a (Nat.le_trans SA.out (by decide)) _)).mono ?_); rintro e w11 ⟨rfl, hb⟩; replace HB := bh HB hb; (try clear hb))
  | ((with_reducible refine gate_callee (f := 15) rfl ?_); refine goesL_ (some 23) rfl rfl Try.func15 (by kernel_rfl) rfl #[.string a] rfl (by (try simp only [List.map_toArray, List.map_cons, List.map_nil]); first | done | rfl) ?_; (with_reducible refine (str1_eq EX.out (fill_calls a (Nat.le_trans SA.out (by decide)) _)).mono ?_); rintro e w11 ⟨rfl, hb⟩; refine ⟨_, rfl, ?_⟩; replace HB := bh HB hb; (try clear hb))
  | (go_at_call 15; (with_reducible refine (str1_eq EX.out (fill_calls a (Nat.le_trans SA.out (by decide)) _)).mono ?_); rintro e w11 ⟨rfl, hb⟩; replace HB := bh HB hb; (try clear hb)))
 go_ret
 exact ⟨by first | rfl | (simp; done) | (simp [*]; done), HB.out⟩
set_option maxHeartbeats 8000000 in
set_option maxRecDepth 100000 in
theorem lfill_ge (a b x y : ByteArray) (n m : Nat) (ha : a.size ≤ 2000) (hb0 : b.size ≤ 2000) (ex : fillS a = x) (ey : fillS b = y) (hx : x.size = 64 * n) (hy : y.size = 64 * m) (hax : a.size ≤ x.size) (hp : x.extract 0 a.size = a) (hab : a ≠ b) (hxy : x ≠ y) (hge : y.size ≤ x.size) (w : World) :
  Calls Try.prog 4 #[.string a, .string b] w fun e w' => e = .returned (.bool true) ∧ Below w.heap.size w w' := by
 have HB := Aside0.mk (Below.refl w.heap.size w)
 have za1 : decide (2000 < (a.size : Int)) = false := decide_eq_false (by omega)
 have za2 : decide (2000 < a.size) = false := decide_eq_false (by omega)
 have zb1 : decide (2000 < (b.size : Int)) = false := decide_eq_false (by omega)
 have zb2 : decide (2000 < b.size) = false := decide_eq_false (by omega)
 have SA := Aside0.mk ha
 have SB := Aside0.mk hb0
 have EX := Aside0.mk ex
 have EY := Aside0.mk ey
 have rx : ((x.size : Int)) % 64 = 0 := by omega
 have rx2 : Int.tmod (x.size : Int) 64 = 0 := by rw [Int.tmod_eq_emod_of_nonneg (by omega)]; omega
 have ry : ((y.size : Int)) % 64 = 0 := by omega
 have ry2 : Int.tmod (y.size : Int) 64 = 0 := by rw [Int.tmod_eq_emod_of_nonneg (by omega)]; omega
 have l1 : decide ((x.size : Int) < (a.size : Int)) = false := decide_eq_false (by omega)
 have l2 : decide (x.size < a.size) = false := decide_eq_false (by omega)
 have l3 : (0 ≤ (a.size : Int)) = True := eq_true (by omega)
 have l4 : ((a.size : Int) ≤ (x.size : Int)) = True := eq_true (by omega)
 have l5 : (a.size ≤ x.size) = True := eq_true (by omega)
 have lp := hp
 have g1 : decide ((y.size : Int) ≤ (x.size : Int)) = true := decide_eq_true (by omega)
 have g2 : decide (y.size ≤ x.size) = true := decide_eq_true hge
 have e1 := toList_ne hab
 have e2 := toList_ne hxy
 clear hab hxy
 clear ha hb0 ex ey hx hy hax hp hge
 go_enter Try.func4, Try.ntmps4
 go_wp2_with (first
  | ((with_reducible refine gate_callee (f := 8) rfl ?_); refine goesL_ (some 16) rfl rfl Try.func8 (by kernel_rfl) rfl #[] rfl (by (try simp only [List.map_toArray, List.map_cons, List.map_nil]); first | done | rfl) ?_; (with_reducible refine (awake_calls _).mono ?_); rintro e w11 ⟨rfl, hb⟩; refine ⟨_, rfl, ?_⟩; replace HB := bh HB hb; (try clear hb))
  | (go_at_call 8; (with_reducible refine (awake_calls _).mono ?_); rintro e w11 ⟨rfl, hb⟩; replace HB := bh HB hb; (try clear hb))
  | ((with_reducible refine gate_callee (f := 15) rfl ?_); refine goesL_ (some 21) rfl rfl Try.func15 (by kernel_rfl) rfl #[.string a] rfl (by (try simp only [List.map_toArray, List.map_cons, List.map_nil]); first | done | rfl) ?_; (with_reducible refine (str1_eq EX.out (fill_calls a (Nat.le_trans SA.out (by decide)) _)).mono ?_); rintro e w11 ⟨rfl, hb⟩; refine ⟨_, rfl, ?_⟩; replace HB := bh HB hb; (try clear hb))
  | (go_at_call 15; (with_reducible refine (str1_eq EX.out (fill_calls a (Nat.le_trans SA.out (by decide)) _)).mono ?_); rintro e w11 ⟨rfl, hb⟩; replace HB := bh HB hb; (try clear hb))
  | ((with_reducible refine gate_callee (f := 15) rfl ?_); refine goesL_ (some 23) rfl rfl Try.func15 (by kernel_rfl) rfl #[.string b] rfl (by (try simp only [List.map_toArray, List.map_cons, List.map_nil]); first | done | rfl) ?_; (with_reducible refine (str1_eq EY.out (fill_calls b (Nat.le_trans SB.out (by decide)) _)).mono ?_); rintro e w11 ⟨rfl, hb⟩; refine ⟨_, rfl, ?_⟩; replace HB := bh HB hb; (try clear hb))
  | (go_at_call 15; (with_reducible refine (str1_eq EY.out (fill_calls b (Nat.le_trans SB.out (by decide)) _)).mono ?_); rintro e w11 ⟨rfl, hb⟩; replace HB := bh HB hb; (try clear hb)))
 go_ret
 exact ⟨by first | rfl | (simp; done) | (simp [*]; done), HB.out⟩
set_option maxHeartbeats 8000000 in
set_option maxRecDepth 100000 in
theorem lfill_lt (a b x y : ByteArray) (n m : Nat) (ha : a.size ≤ 2000) (hb0 : b.size ≤ 2000) (ex : fillS a = x) (ey : fillS b = y) (hx : x.size = 64 * n) (hy : y.size = 64 * m) (hax : a.size ≤ x.size) (hp : x.extract 0 a.size = a) (hab : a ≠ b) (hxy : x ≠ y) (d : Nat) (hd : x.size + d = y.size) (hd0 : 0 < d) (hy3 : y.size ≤ 3000) (hsf : y.extract d y.size ≠ x) (w : World) :
  Calls Try.prog 4 #[.string a, .string b] w fun e w' => e = .returned (.bool true) ∧ Below w.heap.size w w' := by
 have HB := Aside0.mk (Below.refl w.heap.size w)
 have za1 : decide (2000 < (a.size : Int)) = false := decide_eq_false (by omega)
 have za2 : decide (2000 < a.size) = false := decide_eq_false (by omega)
 have zb1 : decide (2000 < (b.size : Int)) = false := decide_eq_false (by omega)
 have zb2 : decide (2000 < b.size) = false := decide_eq_false (by omega)
 have SA := Aside0.mk ha
 have SB := Aside0.mk hb0
 have EX := Aside0.mk ex
 have EY := Aside0.mk ey
 have rx : ((x.size : Int)) % 64 = 0 := by omega
 have rx2 : Int.tmod (x.size : Int) 64 = 0 := by rw [Int.tmod_eq_emod_of_nonneg (by omega)]; omega
 have ry : ((y.size : Int)) % 64 = 0 := by omega
 have ry2 : Int.tmod (y.size : Int) 64 = 0 := by rw [Int.tmod_eq_emod_of_nonneg (by omega)]; omega
 have l1 : decide ((x.size : Int) < (a.size : Int)) = false := decide_eq_false (by omega)
 have l2 : decide (x.size < a.size) = false := decide_eq_false (by omega)
 have l3 : (0 ≤ (a.size : Int)) = True := eq_true (by omega)
 have l4 : ((a.size : Int) ≤ (x.size : Int)) = True := eq_true (by omega)
 have l5 : (a.size ≤ x.size) = True := eq_true (by omega)
 have lp := hp
 have g1 : decide ((y.size : Int) ≤ (x.size : Int)) = false := decide_eq_false (by omega)
 have g2 : decide (y.size ≤ x.size) = false := decide_eq_false (by omega)
 have f2 : (y.size : Int) - (x.size : Int) = (d : Int) := by omega
 have f3 : ((d : Int) ≤ (y.size : Int)) = True := eq_true (by omega)
 have f4 : (d ≤ y.size) = True := eq_true (by omega)
 have f1 : wrap64 ((y.size : Int) - (x.size : Int)) = (d : Int) := by unfold wrap64; omega
 have f6 : wrap64 (d : Int) = (d : Int) := by unfold wrap64; omega
 have e3 := toList_ne hsf
 have e1 := toList_ne hab
 have e2 := toList_ne hxy
 clear hab hxy
 clear ha hb0 ex ey hx hy hax hp hd hd0 hy3 hsf
 go_enter Try.func4, Try.ntmps4
 go_wp2_with (first
  | ((with_reducible refine gate_callee (f := 8) rfl ?_); refine goesL_ (some 16) rfl rfl Try.func8 (by kernel_rfl) rfl #[] rfl (by (try simp only [List.map_toArray, List.map_cons, List.map_nil]); first | done | rfl) ?_; (with_reducible refine (awake_calls _).mono ?_); rintro e w11 ⟨rfl, hb⟩; refine ⟨_, rfl, ?_⟩; replace HB := bh HB hb; (try clear hb))
  | (go_at_call 8; (with_reducible refine (awake_calls _).mono ?_); rintro e w11 ⟨rfl, hb⟩; replace HB := bh HB hb; (try clear hb))
  | ((with_reducible refine gate_callee (f := 15) rfl ?_); refine goesL_ (some 21) rfl rfl Try.func15 (by kernel_rfl) rfl #[.string a] rfl (by (try simp only [List.map_toArray, List.map_cons, List.map_nil]); first | done | rfl) ?_; (with_reducible refine (str1_eq EX.out (fill_calls a (Nat.le_trans SA.out (by decide)) _)).mono ?_); rintro e w11 ⟨rfl, hb⟩; refine ⟨_, rfl, ?_⟩; replace HB := bh HB hb; (try clear hb))
  | (go_at_call 15; (with_reducible refine (str1_eq EX.out (fill_calls a (Nat.le_trans SA.out (by decide)) _)).mono ?_); rintro e w11 ⟨rfl, hb⟩; replace HB := bh HB hb; (try clear hb))
  | ((with_reducible refine gate_callee (f := 15) rfl ?_); refine goesL_ (some 23) rfl rfl Try.func15 (by kernel_rfl) rfl #[.string b] rfl (by (try simp only [List.map_toArray, List.map_cons, List.map_nil]); first | done | rfl) ?_; (with_reducible refine (str1_eq EY.out (fill_calls b (Nat.le_trans SB.out (by decide)) _)).mono ?_); rintro e w11 ⟨rfl, hb⟩; refine ⟨_, rfl, ?_⟩; replace HB := bh HB hb; (try clear hb))
  | (go_at_call 15; (with_reducible refine (str1_eq EY.out (fill_calls b (Nat.le_trans SB.out (by decide)) _)).mono ?_); rintro e w11 ⟨rfl, hb⟩; replace HB := bh HB hb; (try clear hb)))
 go_ret
 exact ⟨by first | rfl | (simp; done) | (simp [*]; done), HB.out⟩
end Go.Proofs.Ytaffpnnhoagmaaa.P
