/- The law's function SpongeStreams walked (layer 10). Conditions: those that each theorem names. Printed by gen_st.py. -/
import Derived.Test.YtaffpnnhoagmaaaHAw11
import Derived.Test.YtaffpnnhoagmaaaHStream
import Derived.Test.YtaffpnnhoagmaaaPmSpR
import Derived.Test.YtaffpnnhoagmaaaPx5
import Derived.Test.YtaffpnnhoagmaaaPx9
set_option linter.unusedVariables false
set_option linter.unusedSimpArgs false
set_option maxRecDepth 100000
namespace Go.Proofs.Ytaffpnnhoagmaaa.P
open Go.RowKit Go.Proofs.Ytaffpnnhoagmaaa.Br Go.Proofs.YtaffpnnhoagmaaaX Go.Proofs.YtaffpnnhoagmaaaW.PrintWords Go.Proofs.YtaffpnnhoagmaaaW.PrintLast Go.Proofs.YtaffpnnhoagmaaaW.PrintMore
def str8T : Bool × List (List Nat × List Nat) := (true, [([], []), ([], []), ([], []), ([], []), ([1, 2, 3, 1], [1, 2, 3]), ([0, 4], [0, 4]), ([5, 4], [5]), ([6], [6]), ([6], [6]), ([6], [6]), ([7, 8, 9, 6, 6], [6, 7, 8, 9]), ([6], [6]), ([6], [6]), ([11, 12, 6], [6, 11, 12]), ([10, 13, 6], [6, 10, 13]), ([6, 14], [6, 14]), ([15, 10, 0, 1, 2, 3, 4, 5, 6, 7, 8, 9, 10, 11, 12, 13, 14, 15], [15])])
def str8B : List Nat := [0, 0, 0, 0, 14, 31, 63, 127, 127, 127, 1023, 127, 127, 6271, 16383, 32767, 65535]
theorem str8tab : rtab .any (opsOf Try.f6 8) = str8T := by kernel_rfl
theorem str8bits : waitsOk str8T.2 str8B = true := by kernel_rfl
set_option maxHeartbeats 8000000 in
set_option maxRecDepth 100000 in
theorem lstr_far1 (s : ByteArray) (n less : Int) (hs : 100 < s.size) (w : World) :
  Calls Try.prog 6 #[.string s, .int .i64 n, .int .i64 less] w fun e w' => e = .returned (.bool true) ∧ Below w.heap.size w w' := by
 have HB := Aside0.mk (Below.refl w.heap.size w)
 have zs1 : decide (100 < (s.size : Int)) = true := decide_eq_true (by omega)
 have zs2 : decide (100 < s.size) = true := decide_eq_true (by omega)
 clear hs
 go_enter Try.func6, Try.ntmps6
 go_wp2_with (first
  | ((with_reducible refine gate_callee (f := 8) rfl ?_); refine goesL_ (some 24) rfl rfl Try.func8 (by kernel_rfl) rfl #[] rfl (by (try simp only [List.map_toArray, List.map_cons, List.map_nil]); first | done | rfl) ?_; (with_reducible refine (awake_calls _).mono ?_); rintro e w11 ⟨rfl, hb⟩; refine ⟨_, rfl, ?_⟩; replace HB := bh HB hb; (try clear hb))
  | (go_at_call 8; (with_reducible refine (awake_calls _).mono ?_); rintro e w11 ⟨rfl, hb⟩; replace HB := bh HB hb; (try clear hb)))
 go_ret
 exact ⟨by first | rfl | (simp; done) | (simp [*]; done), HB.out⟩
set_option maxHeartbeats 8000000 in
set_option maxRecDepth 100000 in
theorem lstr_far2 (s : ByteArray) (n less : Int) (hs : s.size ≤ 100) (h1 : 150 < n) (h2 : n ≤ 1048576) (w : World) :
  Calls Try.prog 6 #[.string s, .int .i64 n, .int .i64 less] w fun e w' => e = .returned (.bool true) ∧ Below w.heap.size w w' := by
 have HB := Aside0.mk (Below.refl w.heap.size w)
 have zs1 : decide (100 < (s.size : Int)) = false := decide_eq_false (by omega)
 have zs2 : decide (100 < s.size) = false := decide_eq_false (by omega)
 have d1 : decide (150 < n) = true := decide_eq_true (by omega)
 have d2 : decide (n ≤ 1048576) = true := decide_eq_true (by omega)
 clear hs h1 h2
 go_enter Try.func6, Try.ntmps6
 go_wp2_with (first
  | ((with_reducible refine gate_callee (f := 8) rfl ?_); refine goesL_ (some 24) rfl rfl Try.func8 (by kernel_rfl) rfl #[] rfl (by (try simp only [List.map_toArray, List.map_cons, List.map_nil]); first | done | rfl) ?_; (with_reducible refine (awake_calls _).mono ?_); rintro e w11 ⟨rfl, hb⟩; refine ⟨_, rfl, ?_⟩; replace HB := bh HB hb; (try clear hb))
  | (go_at_call 8; (with_reducible refine (awake_calls _).mono ?_); rintro e w11 ⟨rfl, hb⟩; replace HB := bh HB hb; (try clear hb)))
 go_ret
 exact ⟨by first | rfl | (simp; done) | (simp [*]; done), HB.out⟩
set_option maxHeartbeats 8000000 in
set_option maxRecDepth 100000 in
theorem lstr_neg (s : ByteArray) (n less : Int) (hs : s.size ≤ 100) (h1 : n < 0) (w : World) :
  Calls Try.prog 6 #[.string s, .int .i64 n, .int .i64 less] w fun e w' => e = .returned (.bool true) ∧ Below w.heap.size w w' := by
 have HB := Aside0.mk (Below.refl w.heap.size w)
 have zs1 : decide (100 < (s.size : Int)) = false := decide_eq_false (by omega)
 have zs2 : decide (100 < s.size) = false := decide_eq_false (by omega)
 have d1 : decide (150 < n) = false := decide_eq_false (by omega)
 have d3 : decide (n < 0) = true := decide_eq_true (by omega)
 have H1 := Aside0.mk h1
 clear hs h1
 go_enter Try.func6, Try.ntmps6
 go_wp2_with (first
  | ((with_reducible refine gate_callee (f := 8) rfl ?_); refine goesL_ (some 21) rfl rfl Try.func8 (by kernel_rfl) rfl #[] rfl (by (try simp only [List.map_toArray, List.map_cons, List.map_nil]); first | done | rfl) ?_; (with_reducible refine (awake_calls _).mono ?_); rintro e w11 ⟨rfl, hb⟩; refine ⟨_, rfl, ?_⟩; replace HB := bh HB hb; (try clear hb))
  | (go_at_call 8; (with_reducible refine (awake_calls _).mono ?_); rintro e w11 ⟨rfl, hb⟩; replace HB := bh HB hb; (try clear hb))
  | ((with_reducible refine gate_callee (f := 9) rfl ?_); refine goesL_ (some 25) rfl rfl Try.func9 (by kernel_rfl) rfl #[] rfl (by (try simp only [List.map_toArray, List.map_cons, List.map_nil]); first | done | rfl) ?_; (with_reducible refine (make_tab _).mono ?_); rintro e w11 ⟨g, rfl, ht, hb⟩; refine ⟨_, rfl, ?_⟩; have HT := Aside0.mk ht; replace HB := bh HB hb; clear hb ht)
  | (go_at_call 9; (with_reducible refine (make_tab _).mono ?_); rintro e w11 ⟨g, rfl, ht, hb⟩; have HT := Aside0.mk ht; replace HB := bh HB hb; clear hb ht)
  | ((with_reducible refine gate_callee (f := 23) rfl ?_); refine goesL_ (some 29) rfl rfl Try.func23 (by kernel_rfl) rfl #[.pointer (some ⟨g, 0, none⟩), .string s, .int .i64 n] rfl (by (try simp only [List.map_toArray, List.map_cons, List.map_nil]); first | done | rfl) ?_; (with_reducible refine (stream_neg (g := g) s n H1.out).mono ?_); rintro e w11 ⟨rfl, hb⟩; refine ⟨_, rfl, ?_⟩; replace HT := Aside0.mk (HT.out.below hb); replace HB := bh HB hb; (try clear hb))
  | (go_at_call 23; (with_reducible refine (stream_neg (g := g) s n H1.out).mono ?_); rintro e w11 ⟨rfl, hb⟩; replace HT := Aside0.mk (HT.out.below hb); replace HB := bh HB hb; (try clear hb))
  | ((with_reducible refine gate_callee (f := 23) rfl ?_); refine goesL_ (some 40) rfl rfl Try.func23 (by kernel_rfl) rfl #[.pointer none, .string s, .int .i64 3] rfl (by (try simp only [List.map_toArray, List.map_cons, List.map_nil]); first | done | rfl) ?_; (with_reducible refine (stream_nil s 3).mono ?_); rintro e w11 ⟨rfl, hb⟩; refine ⟨_, rfl, ?_⟩; replace HT := Aside0.mk (HT.out.below hb); replace HB := bh HB hb; (try clear hb))
  | (go_at_call 23; (with_reducible refine (stream_nil s 3).mono ?_); rintro e w11 ⟨rfl, hb⟩; replace HT := Aside0.mk (HT.out.below hb); replace HB := bh HB hb; (try clear hb)))
 go_ret
 exact ⟨by first | rfl | (simp; done) | (simp [*]; done), HB.out⟩
set_option maxHeartbeats 8000000 in
set_option maxRecDepth 100000 in
theorem lstr_big (s : ByteArray) (n less : Int) (hs : s.size ≤ 100) (h1 : 1048576 < n) (w : World) :
  Calls Try.prog 6 #[.string s, .int .i64 n, .int .i64 less] w fun e w' => e = .returned (.bool true) ∧ Below w.heap.size w w' := by
 have HB := Aside0.mk (Below.refl w.heap.size w)
 have zs1 : decide (100 < (s.size : Int)) = false := decide_eq_false (by omega)
 have zs2 : decide (100 < s.size) = false := decide_eq_false (by omega)
 have d1 : decide (150 < n) = true := decide_eq_true (by omega)
 have d2 : decide (n ≤ 1048576) = false := decide_eq_false (by omega)
 have d3 : decide (n < 0) = false := decide_eq_false (by omega)
 have d4 : decide (1048576 < n) = true := decide_eq_true (by omega)
 have H1 := Aside0.mk h1
 clear hs h1
 go_enter Try.func6, Try.ntmps6
 go_wp2_with (first
  | ((with_reducible refine gate_callee (f := 8) rfl ?_); refine goesL_ (some 21) rfl rfl Try.func8 (by kernel_rfl) rfl #[] rfl (by (try simp only [List.map_toArray, List.map_cons, List.map_nil]); first | done | rfl) ?_; (with_reducible refine (awake_calls _).mono ?_); rintro e w11 ⟨rfl, hb⟩; refine ⟨_, rfl, ?_⟩; replace HB := bh HB hb; (try clear hb))
  | (go_at_call 8; (with_reducible refine (awake_calls _).mono ?_); rintro e w11 ⟨rfl, hb⟩; replace HB := bh HB hb; (try clear hb))
  | ((with_reducible refine gate_callee (f := 9) rfl ?_); refine goesL_ (some 25) rfl rfl Try.func9 (by kernel_rfl) rfl #[] rfl (by (try simp only [List.map_toArray, List.map_cons, List.map_nil]); first | done | rfl) ?_; (with_reducible refine (make_tab _).mono ?_); rintro e w11 ⟨g, rfl, ht, hb⟩; refine ⟨_, rfl, ?_⟩; have HT := Aside0.mk ht; replace HB := bh HB hb; clear hb ht)
  | (go_at_call 9; (with_reducible refine (make_tab _).mono ?_); rintro e w11 ⟨g, rfl, ht, hb⟩; have HT := Aside0.mk ht; replace HB := bh HB hb; clear hb ht)
  | ((with_reducible refine gate_callee (f := 23) rfl ?_); refine goesL_ (some 29) rfl rfl Try.func23 (by kernel_rfl) rfl #[.pointer (some ⟨g, 0, none⟩), .string s, .int .i64 n] rfl (by (try simp only [List.map_toArray, List.map_cons, List.map_nil]); first | done | rfl) ?_; (with_reducible refine (stream_far (g := g) s n H1.out).mono ?_); rintro e w11 ⟨rfl, hb⟩; refine ⟨_, rfl, ?_⟩; replace HT := Aside0.mk (HT.out.below hb); replace HB := bh HB hb; (try clear hb))
  | (go_at_call 23; (with_reducible refine (stream_far (g := g) s n H1.out).mono ?_); rintro e w11 ⟨rfl, hb⟩; replace HT := Aside0.mk (HT.out.below hb); replace HB := bh HB hb; (try clear hb))
  | ((with_reducible refine gate_callee (f := 23) rfl ?_); refine goesL_ (some 40) rfl rfl Try.func23 (by kernel_rfl) rfl #[.pointer none, .string s, .int .i64 3] rfl (by (try simp only [List.map_toArray, List.map_cons, List.map_nil]); first | done | rfl) ?_; (with_reducible refine (stream_nil s 3).mono ?_); rintro e w11 ⟨rfl, hb⟩; refine ⟨_, rfl, ?_⟩; replace HT := Aside0.mk (HT.out.below hb); replace HB := bh HB hb; (try clear hb))
  | (go_at_call 23; (with_reducible refine (stream_nil s 3).mono ?_); rintro e w11 ⟨rfl, hb⟩; replace HT := Aside0.mk (HT.out.below hb); replace HB := bh HB hb; (try clear hb)))
 go_ret
 exact ⟨by first | rfl | (simp; done) | (simp [*]; done), HB.out⟩
set_option maxHeartbeats 8000000 in
set_option maxRecDepth 100000 in
theorem lstr_yes {KK : Nat} (hmk : steepleref10_Make.f KK = some (bl, tl)) (s : ByteArray) (n : Nat) (less : Int) (m : Nat) (t : ByteArray) (hs : s.size ≤ 100) (hn : n ≤ 150) (hr : steepleref11_Stream.f KK bl tl s (n : Int) = some t)
  (ht : (streamB s ((n + 31) / 32)).extract 0 n = t) (hz : t.size = n) (hm : wrap64 (wrap64 (wrap64 (Int.tmod less ((n : Int) + 1)) + (n : Int)) + 1) = (m : Int) + 0 ∨ True)
  (e1 : Int.tmod less ((n : Int) + 1) + (n : Int) + 1 ≥ 0) (hl : Int.tmod (Int.tmod less ((n : Int) + 1) + (n : Int) + 1) ((n : Int) + 1) = (m : Int)) (hmn : m ≤ n) (hu : (streamB s ((m + 31) / 32)).extract 0 m = t.extract 0 m) (w : World) :
  Calls Try.prog 6 #[.string s, .int .i64 (n : Int), .int .i64 less] w fun e w' => e = .returned (.bool true) ∧ Below w.heap.size w w' := by
 have HB := Aside0.mk (Below.refl w.heap.size w)
 have zs1 : decide (100 < (s.size : Int)) = false := decide_eq_false (by omega)
 have zs2 : decide (100 < s.size) = false := decide_eq_false (by omega)
 have d1 : decide (150 < (n : Int)) = false := decide_eq_false (by omega)
 have d1n : decide (150 < n) = false := decide_eq_false (by omega)
 have d3 : decide ((n : Int) < 0) = false := decide_eq_false (by omega)
 have d4 : decide (1048576 < (n : Int)) = false := decide_eq_false (by omega)
 have d5 : decide (1048576 < n) = false := decide_eq_false (by omega)
 obtain ⟨x, ex⟩ : ∃ x, x = Int.tmod less ((n : Int) + 1) := ⟨_, rfl⟩
 have hx1 : -(n : Int) ≤ x ∧ x ≤ n := by
  rw [ex]
  have h1 := Int.tmod_lt_of_pos less (show 0 < (n : Int) + 1 by omega)
  have h2 : -((n : Int) + 1) < Int.tmod less ((n : Int) + 1) := by
   have := Int.natAbs_tmod less ((n : Int) + 1)
   have h3 : (Int.tmod less ((n : Int) + 1)).natAbs < n + 1 := by rw [this, show ((n : Int) + 1).natAbs = n + 1 by omega]; exact Nat.mod_lt _ (by omega)
   omega
  omega
 rw [← ex] at hl e1
 have EX := Aside0.mk ex.symm
 have w0 : wrap64 ((n : Int) + 1) = (n : Int) + 1 := by unfold wrap64; omega
 have w1 : wrap64 (x + (n : Int)) = x + (n : Int) := by unfold wrap64; omega
 have w2 : wrap64 (x + (n : Int) + 1) = x + (n : Int) + 1 := by unfold wrap64; omega
 have n0 : (n : Int) + 1 ≠ 0 := by omega
 have n1 : ((n : Int) + 1 == 0) = false := beq_eq_false_iff_ne.mpr n0
 have f1 : (0 ≤ (m : Int)) = True := eq_true (by omega)
 have f2 : ((m : Int) ≤ (t.size : Int)) = True := eq_true (by omega)
 have f3 : (m ≤ t.size) = True := eq_true (by omega)
 have HMK := Aside0.mk hmk
 have SZ := Aside0.mk (show s.size ≤ 1048572 by omega)
 have HN := Aside0.mk (show n ≤ 1048576 by omega)
 have HM := Aside0.mk (show m ≤ 1048576 by omega)
 have HR := Aside0.mk hr
 have HT2 := Aside0.mk ht
 have HU := Aside0.mk hu
 have hl' := hl
 have el := ex.symm
 clear hmk hs hn hr ht hz hm e1 hmn hu hx1 ex
 go_enter Try.func6, Try.ntmps6
 go_wp2_with (first
  | ((with_reducible refine gate_callee (f := 8) rfl ?_); refine goesL_ (some 21) rfl rfl Try.func8 (by kernel_rfl) rfl #[] rfl (by (try simp only [List.map_toArray, List.map_cons, List.map_nil]); first | done | rfl) ?_; (with_reducible refine (awake_calls _).mono ?_); rintro e w11 ⟨rfl, hb⟩; refine ⟨_, rfl, ?_⟩; replace HB := bh HB hb; (try clear hb))
  | (go_at_call 8; (with_reducible refine (awake_calls _).mono ?_); rintro e w11 ⟨rfl, hb⟩; replace HB := bh HB hb; (try clear hb))
  | ((with_reducible refine gate_callee (f := 9) rfl ?_); refine goesL_ (some 25) rfl rfl Try.func9 (by kernel_rfl) rfl #[] rfl (by (try simp only [List.map_toArray, List.map_cons, List.map_nil]); first | done | rfl) ?_; (with_reducible refine (make_tab _).mono ?_); rintro e w11 ⟨g, rfl, ht, hb⟩; refine ⟨_, rfl, ?_⟩; have HT := Aside0.mk ht; replace HB := bh HB hb; clear hb ht)
  | (go_at_call 9; (with_reducible refine (make_tab _).mono ?_); rintro e w11 ⟨g, rfl, ht, hb⟩; have HT := Aside0.mk ht; replace HB := bh HB hb; clear hb ht)
  | ((with_reducible refine gate_callee (f := 23) rfl ?_); refine goesL_ (some 29) rfl rfl Try.func23 (by kernel_rfl) rfl #[.pointer (some ⟨g, 0, none⟩), .string s, .int .i64 (n : Int)] rfl (by (try simp only [List.map_toArray, List.map_cons, List.map_nil]); first | done | rfl) ?_; (with_reducible refine (str1_eq HT2.out (stream_calls HT.out s n HN.out SZ.out)).mono ?_); rintro e w11 ⟨rfl, hb⟩; refine ⟨_, rfl, ?_⟩; replace HT := Aside0.mk (HT.out.below hb); replace HB := bh HB hb; (try clear hb))
  | (go_at_call 23; (with_reducible refine (str1_eq HT2.out (stream_calls HT.out s n HN.out SZ.out)).mono ?_); rintro e w11 ⟨rfl, hb⟩; replace HT := Aside0.mk (HT.out.below hb); replace HB := bh HB hb; (try clear hb)))
 replace HB := Aside0.mk (below_drew1 HB.out)
 replace HT := Aside0.mk (HT.out.below (below_drew1 (Below.refl _ _)))
 refine start_ (n := 17) (S := fun w' => True) (ds := [16]) #[false, false, false, false, false, false, false, false, false, false, false, false, false, false, false, false, false] (by kernel_rfl) rfl rfl (trivial) (fun hHeld => ?_); refine with_tabW str8tab str8bits (fun HT_ HW_ => ?_)
 generalize w11.drew = w4 at HB HT hHeld ⊢
 refine pure_ (i := 0) (N := some 53) (v := ?_) (a' := ?_) #[true, false, false, false, false, false, false, false, false, false, false, false, false, false, false, false, false] rfl rfl (any_of HT_.out (by kernel_rfl)) (fun _ _ _ h => h) (Or.inl ⟨by rfl, ?_⟩) ?_ ?_
 rotate_left
 · intro w'
   go_simp
   with_reducible rfl
 rotate_left
 · simp only [Act.put, List.setIfInBounds_toArray, List.set_cons_zero, List.set_cons_succ, i64_w, i32_w]
   rfl
 refine pure_ (i := 2) (N := some 55) (v := ?_) (a' := ?_) #[true, false, true, false, false, false, false, false, false, false, false, false, false, false, false, false, false] rfl rfl (any_of HT_.out (by kernel_rfl)) (fun _ _ _ h => h) (Or.inl ⟨by rfl, ?_⟩) ?_ ?_
 rotate_left
 · intro w'
   go_simp
   with_reducible rfl
 rotate_left
 · simp only [Act.put, List.setIfInBounds_toArray, List.set_cons_zero, List.set_cons_succ, i64_w, i32_w]
   rfl
 refine pure_ (i := 3) (N := some 56) (v := ?_) (a' := ?_) #[true, false, true, true, false, false, false, false, false, false, false, false, false, false, false, false, false] rfl rfl (any_of HT_.out (by kernel_rfl)) (fun _ _ _ h => h) (Or.inl ⟨by rfl, ?_⟩) ?_ ?_
 rotate_left
 · intro w'
   go_simp
   with_reducible rfl
 rotate_left
 · simp only [Act.put, List.setIfInBounds_toArray, List.set_cons_zero, List.set_cons_succ, i64_w, i32_w]
   rfl
 refine one_ (i := 1) (N := some 54) #[true, true, true, true, false, false, false, false, false, false, false, false, false, false, false, false, false] rfl rfl (one_of HT_.out (by kernel_rfl)) (by decide) (fun K hK => ?_)
 refine goes_ Try.func12 (by kernel_rfl) rfl #[] (by rfl) rfl rfl (by (try simp only [List.map_toArray, List.map_cons, List.map_nil]); first | done | rfl) ?_
 with_reducible refine (steepleref10_Make.calls KK bl tl _ HMK.out).mono ?_
 rintro e w5 ⟨v0, v1, rfl, hr0, hr1, hb⟩
 refine ⟨_, rfl, ?_⟩
 obtain ⟨A0, d0, rfl, hd0, hC0⟩ := Kd.R_reads hr0
 obtain ⟨A1, e1, rfl, hd1, hC1⟩ := Kd.S_reads hr1
 have K0 := Aside0.mk hC0
 have K1 := Aside0.mk hC1
 have D0 := Aside0.mk hd0
 have D1 := Aside0.mk hd1
 replace HT := Aside0.mk (HT.out.below hb)
 replace HB := bh HB hb
 clear hb hr0 hr1 hC0 hC1 hd0 hd1
 refine hK.out _ _ (trivial) (fun hHeld => ?_)
 clear hK K
 refine norm_ (a' := ?_) ?_ ?_
 rotate_left
 · show Act.put _ (some 54) _ = _
   simp only [Act.put, List.setIfInBounds_toArray, List.set_cons_zero, List.set_cons_succ, i64_w, i32_w]
   rfl
 refine one_ (i := 4) (N := some 57) #[true, true, true, true, true, false, false, false, false, false, false, false, false, false, false, false, false] rfl rfl (one_of HT_.out (by kernel_rfl)) (by decide) (fun K hK => ?_)
 refine goes_ Try.func24 (by kernel_rfl) rfl #[.agg #[.slice A0 bl.length d0, .slice A1 tl.length e1], .string s, .int .i64 (n : Int)] (by rfl) rfl rfl (by (try simp only [List.map_toArray, List.map_cons, List.map_nil]); first | done | rfl) ?_
 with_reducible refine (steepleref11_Stream.calls KK _ _ bl _ _ tl s (n : Int) t _ K0.out D0.out K1.out D1.out HR.out).mono ?_
 rintro e w6 ⟨rfl, hb⟩
 refine ⟨_, rfl, ?_⟩
 replace HT := Aside0.mk (HT.out.below hb)
 replace HB := bh HB hb
 clear hb
 refine hK.out _ _ (trivial) (fun hHeld => ?_)
 clear hK K
 refine norm_ (a' := ?_) ?_ ?_
 rotate_left
 · show Act.put _ (some 57) _ = _
   simp only [Act.put, List.setIfInBounds_toArray, List.set_cons_zero, List.set_cons_succ, i64_w, i32_w]
   rfl
 refine pure_ (i := 5) (N := some 58) (v := ?_) (a' := ?_) #[true, true, true, true, true, true, false, false, false, false, false, false, false, false, false, false, false] rfl rfl (any_of HT_.out (by kernel_rfl)) (fun _ _ _ h => h) (Or.inl ⟨by rfl, ?_⟩) ?_ ?_
 rotate_left
 · intro w'
   go_simp
   with_reducible rfl
 rotate_left
 · simp only [Act.put, List.setIfInBounds_toArray, List.set_cons_zero, List.set_cons_succ, i64_w, i32_w]
   rfl
 refine pure_ (i := 6) (N := some 59) (v := ?_) (a' := ?_) #[true, true, true, true, true, true, true, false, false, false, false, false, false, false, false, false, false] rfl rfl (any_of HT_.out (by kernel_rfl)) (fun _ _ _ h => h) (Or.inl ⟨by rfl, ?_⟩) ?_ ?_
 rotate_left
 · intro w'
   go_simp
   with_reducible rfl
 rotate_left
 · simp only [Act.put, List.setIfInBounds_toArray, List.set_cons_zero, List.set_cons_succ, i64_w, i32_w]
   rfl
 refine pure_ (i := 7) (N := some 60) (v := ?_) (a' := ?_) #[true, true, true, true, true, true, true, true, false, false, false, false, false, false, false, false, false] rfl rfl (any_of HT_.out (by kernel_rfl)) (fun _ _ _ h => h) (Or.inl ⟨by rfl, ?_⟩) ?_ ?_
 rotate_left
 · intro w'
   go_simp
   with_reducible rfl
 rotate_left
 · simp only [Act.put, List.setIfInBounds_toArray, List.set_cons_zero, List.set_cons_succ, i64_w, i32_w]
   rfl
 refine pure_ (i := 8) (N := some 61) (v := ?_) (a' := ?_) #[true, true, true, true, true, true, true, true, true, false, false, false, false, false, false, false, false] rfl rfl (any_of HT_.out (by kernel_rfl)) (fun _ _ _ h => h) (Or.inl ⟨by rfl, ?_⟩) ?_ ?_
 rotate_left
 · intro w'
   go_simp
   with_reducible rfl
 rotate_left
 · simp only [Act.put, List.setIfInBounds_toArray, List.set_cons_zero, List.set_cons_succ, i64_w, i32_w]
   rfl
 refine pure_ (i := 9) (N := some 62) (v := ?_) (a' := ?_) #[true, true, true, true, true, true, true, true, true, true, false, false, false, false, false, false, false] rfl rfl (any_of HT_.out (by kernel_rfl)) (fun _ _ _ h => h) (Or.inl ⟨by rfl, ?_⟩) ?_ ?_
 rotate_left
 · intro w'
   go_simp
   with_reducible rfl
 rotate_left
 · simp only [Act.put, List.setIfInBounds_toArray, List.set_cons_zero, List.set_cons_succ, i64_w, i32_w]
   rfl
 refine pure_ (i := 11) (N := some 64) (v := ?_) (a' := ?_) #[true, true, true, true, true, true, true, true, true, true, false, true, false, false, false, false, false] rfl rfl (any_of HT_.out (by kernel_rfl)) (fun _ _ _ h => h) (Or.inl ⟨by rfl, ?_⟩) ?_ ?_
 rotate_left
 · intro w'
   go_simp
   with_reducible rfl
 rotate_left
 · simp only [Act.put, List.setIfInBounds_toArray, List.set_cons_zero, List.set_cons_succ, i64_w, i32_w]
   rfl
 refine pure_ (i := 12) (N := some 65) (v := ?_) (a' := ?_) #[true, true, true, true, true, true, true, true, true, true, false, true, true, false, false, false, false] rfl rfl (any_of HT_.out (by kernel_rfl)) (fun _ _ _ h => h) (Or.inl ⟨by rfl, ?_⟩) ?_ ?_
 rotate_left
 · intro w'
   go_simp
   with_reducible rfl
 rotate_left
 · simp only [Act.put, List.setIfInBounds_toArray, List.set_cons_zero, List.set_cons_succ, i64_w, i32_w]
   rfl
 refine pure_ (i := 13) (N := some 66) (v := ?_) (a' := ?_) #[true, true, true, true, true, true, true, true, true, true, false, true, true, true, false, false, false] rfl rfl (any_of HT_.out (by kernel_rfl)) (fun _ _ _ h => h) (Or.inl ⟨by rfl, ?_⟩) ?_ ?_
 rotate_left
 · intro w'
   go_simp
   with_reducible rfl
 rotate_left
 · simp only [Act.put, List.setIfInBounds_toArray, List.set_cons_zero, List.set_cons_succ, i64_w, i32_w]
   rfl
 refine one_ (i := 10) (N := some 63) #[true, true, true, true, true, true, true, true, true, true, true, true, true, true, false, false, false] rfl rfl (one_of HT_.out (by kernel_rfl)) (by decide) (fun K hK => ?_)
 refine goes_ Try.func23 (by kernel_rfl) rfl #[.pointer (some ⟨g, 0, none⟩), .string s, .int .i64 (m : Int)] (by rfl) rfl rfl (by (try simp only [List.map_toArray, List.map_cons, List.map_nil]); first | done | rfl) ?_
 with_reducible refine (str1_eq HU.out (stream_calls HT.out s m HM.out SZ.out)).mono ?_
 rintro e w7 ⟨rfl, hb⟩
 refine ⟨_, rfl, ?_⟩
 replace HT := Aside0.mk (HT.out.below hb)
 replace HB := bh HB hb
 clear hb
 refine hK.out _ _ (trivial) (fun hHeld => ?_)
 clear hK K
 refine norm_ (a' := ?_) ?_ ?_
 rotate_left
 · show Act.put _ (some 63) _ = _
   simp only [Act.put, List.setIfInBounds_toArray, List.set_cons_zero, List.set_cons_succ, i64_w, i32_w]
   rfl
 refine pure_ (i := 14) (N := some 67) (v := ?_) (a' := ?_) #[true, true, true, true, true, true, true, true, true, true, true, true, true, true, true, false, false] rfl rfl (any_of HT_.out (by kernel_rfl)) (fun _ _ _ h => h) (Or.inl ⟨by rfl, ?_⟩) ?_ ?_
 rotate_left
 · intro w'
   go_simp
   with_reducible rfl
 rotate_left
 · simp only [Act.put, List.setIfInBounds_toArray, List.set_cons_zero, List.set_cons_succ, i64_w, i32_w]
   rfl
 refine pure_ (i := 15) (N := some 68) (v := ?_) (a' := ?_) #[true, true, true, true, true, true, true, true, true, true, true, true, true, true, true, true, false] rfl rfl (any_of HT_.out (by kernel_rfl)) (fun _ _ _ h => h) (Or.inl ⟨by rfl, ?_⟩) ?_ ?_
 rotate_left
 · intro w'
   go_simp
   with_reducible rfl
 rotate_left
 · simp only [Act.put, List.setIfInBounds_toArray, List.set_cons_zero, List.set_cons_succ, i64_w, i32_w]
   rfl
 refine pure_ (i := 16) (N := some 6) (v := ?_) (a' := ?_) #[true, true, true, true, true, true, true, true, true, true, true, true, true, true, true, true, true] rfl rfl (any_of HT_.out (by kernel_rfl)) (fun _ _ _ h => h) (Or.inl ⟨by rfl, ?_⟩) ?_ ?_
 rotate_left
 · intro w'
   go_simp
   with_reducible rfl
 rotate_left
 · simp only [Act.put, List.setIfInBounds_toArray, List.set_cons_zero, List.set_cons_succ, i64_w, i32_w]
   rfl
 refine done_ (done_of HT_.out (by kernel_rfl)) ?_
 clear HT_ HW_
 go_wp2
 go_ret
 exact ⟨by first | rfl | (simp; done) | (simp [*]; done), HB.out⟩
end Go.Proofs.Ytaffpnnhoagmaaa.P
